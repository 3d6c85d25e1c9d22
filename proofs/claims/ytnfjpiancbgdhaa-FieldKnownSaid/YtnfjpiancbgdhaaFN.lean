/- The statement FieldKnown. Conditions: none. -/
import Derived.Test.YtnfjpiancbgdhaaFK
import Derived.Test.YtnfjpiancbgdhaaFA
set_option linter.unusedVariables false
set_option linter.unusedSimpArgs false
namespace Go.Proofs.Ytnfjpiancbgdhaa
open Go.RowKit

set_option maxRecDepth 20000 in

theorem known_tr : Tr Try.prog 6 #[] [] [] (T0 (.bool true)) := by
  refine Tr.of (l := []) Try.func6 rfl (n := 147) rfl Fa.nil (fun w0 hro => ?_)
  refine G.seq ?_
  refine G.region ?_
  refine G.op rfl (G.val rfl rfl (pv_assign rfl) ?_)
  refine G.nil ?_
  refine G.nThen ?_
  refine G.seq ?_
  refine G.region ?_
  refine G.op rfl (G.cN rfl rfl rfl rfl Try.func12 rfl rfl (new_tr) .nil may0 ?_)
  rintro D1 -
  simp only [List.cons_append, List.nil_append, Bool.false_or]
  refine G.op rfl (G.cN rfl rfl rfl rfl Try.func12 rfl rfl (new_tr) .nil may0 ?_)
  rintro D2 -
  simp only [List.cons_append, List.nil_append, Bool.false_or]
  refine G.op rfl (G.val rfl rfl (pv_assign rfl) ?_)
  refine G.op rfl (G.val rfl rfl (pv_assign rfl) ?_)
  refine G.nil ?_
  refine G.nThen ?_
  refine G.seq ?_
  refine G.region ?_
  refine G.op rfl (G.lit1 (vs := [_, _, _]) rfl Try.underlying23 (by kernel_rfl) rfl (by decide) (by decide) rfl rfl ?_)
  intro b16
  refine G.op rfl (G.cN rfl rfl rfl rfl Try.func29 rfl rfl (open_tr (Pu := (· = b16)) _ [129, 0, 5] (by decide)) .nil (may1 (may_all (f := vByte) (p := fun _ => True) (xs := [129, 0, 5]) (b := b16) (by repeat (first | with_reducible exact Sel.here | exact Sel.here | apply Sel.there)) (fun _ _ => trivial) rfl (Nat.le_refl _) (by decide))) ?_)
  rintro ⟨D3, v3⟩ -
  simp only [List.cons_append, List.nil_append, Bool.false_or]
  refine G.op rfl (G.lit1 (vs := [_, _, _]) rfl Try.underlying23 (by kernel_rfl) rfl (by decide) (by decide) rfl rfl ?_)
  intro b18
  refine G.op rfl (G.cN rfl rfl rfl rfl Try.func29 rfl rfl (open_tr (Pu := (· = b18)) _ [3, 1, 2] (by decide)) .nil (may1 (may_all (f := vByte) (p := fun _ => True) (xs := [3, 1, 2]) (b := b18) (by repeat (first | with_reducible exact Sel.here | exact Sel.here | apply Sel.there)) (fun _ _ => trivial) rfl (Nat.le_refl _) (by decide))) ?_)
  rintro ⟨D4, v4⟩ -
  simp only [List.cons_append, List.nil_append, Bool.false_or]
  refine G.op rfl (G.val rfl rfl (pv_assign rfl) ?_)
  refine G.op rfl (G.val rfl rfl (pv_assign rfl) ?_)
  refine G.nil ?_
  refine G.nThen ?_
  refine G.seq ?_
  refine G.region ?_
  refine G.op rfl (G.lit1 (vs := [_, _]) rfl Try.underlying23 (by kernel_rfl) rfl (by decide) (by decide) rfl rfl ?_)
  intro b20
  refine G.op rfl (G.cN rfl rfl rfl rfl Try.func29 rfl rfl (open_tr (Pu := (· = b20)) _ [2, 1] (by decide)) .nil (may1 (may_all (f := vByte) (p := fun _ => True) (xs := [2, 1]) (b := b20) (by repeat (first | with_reducible exact Sel.here | exact Sel.here | apply Sel.there)) (fun _ _ => trivial) rfl (Nat.le_refl _) (by decide))) ?_)
  rintro ⟨D5, v5⟩ -
  simp only [List.cons_append, List.nil_append]
  refine G.ownOpen (v := v5) (by repeat (first | with_reducible exact Sel.here | exact Sel.here | apply Sel.there)) (fun ad5 cap5 hv5 hc5 hm5 => ?_)
  subst hv5
  refine G.op rfl (G.val rfl rfl (pv_assign rfl) ?_)
  refine G.nil ?_
  refine G.nThen ?_
  refine G.seq ?_
  refine G.seq ?_
  refine G.region ?_
  refine G.op rfl (G.val rfl rfl (pv_move rfl) ?_)
  refine G.op rfl (G.val rfl rfl (pv_eqlP0 Try.underlying29 rfl rfl) ?_)
  refine G.op rfl (G.val rfl rfl (pv_move rfl) ?_)
  refine G.want rfl rfl rfl (G.val rfl rfl (pv_move rfl) ?_)
  refine G.want rfl rfl rfl (G.val rfl rfl (pv_eqlP0 Try.underlying29 rfl rfl) ?_)
  refine G.op rfl (G.val rfl rfl (pv_pick rfl rfl) ?_)
  refine G.op rfl (G.val rfl rfl (pv_move rfl) ?_)
  refine G.want rfl rfl rfl (G.val rfl rfl (pv_move rfl) ?_)
  refine G.want rfl rfl rfl (G.val rfl rfl (pv_eqlP0 Try.underlying48 rfl rfl) ?_)
  refine G.op rfl (G.val rfl rfl (pv_pick rfl rfl) ?_)
  refine G.op rfl (G.val rfl rfl (pv_move rfl) ?_)
  refine G.want rfl rfl rfl (G.val rfl rfl (pv_move rfl) ?_)
  refine G.want rfl rfl rfl (G.val rfl rfl (pv_eqlP0 Try.underlying48 rfl rfl) ?_)
  refine G.op rfl (G.val rfl rfl (pv_pick rfl rfl) ?_)
  refine G.op rfl (G.val rfl rfl (pv_move rfl) ?_)
  refine G.want rfl rfl rfl (G.val rfl rfl (pv_move rfl) ?_)
  refine G.want rfl rfl rfl (G.val rfl rfl (pv_eqlP0 Try.underlying48 rfl rfl) ?_)
  refine G.op rfl (G.val rfl rfl (pv_pick rfl rfl) ?_)
  refine G.nil ?_
  refine G.nThen ?_
  refine G.condF rfl (rfl) ?_
  refine G.skip ?_
  refine G.nThen ?_
  refine G.seq ?_
  refine G.region ?_
  refine G.op rfl (G.val rfl rfl (pv_move rfl) ?_)
  refine G.op rfl (G.cN rfl rfl rfl rfl Try.func19 rfl rfl (wtext_tr D1 false (.slice none 0 0) [] [97, 98] (by decide) (by decide)) (.cons (by repeat (first | with_reducible exact Sel.here | exact Sel.here | apply Sel.there)) (.cons (by repeat (first | with_reducible exact Sel.here | exact Sel.here | apply Sel.there)) .nil)) may0 ?_)
  rintro w1 -
  simp only [List.cons_append, List.nil_append, Bool.false_or]
  rw [show decide (sizeM (([97, 98] : List UInt8).length : Int) = 0) = false from by decide]
  refine G.nil ?_
  refine G.nThen ?_
  refine G.seq ?_
  refine G.region ?_
  refine G.op rfl (G.val rfl rfl (pv_move rfl) ?_)
  refine G.op rfl (G.cN rfl rfl rfl rfl Try.func17 rfl rfl (wbytes_tr D1 false w1 _ (bytesM [97, 98]) [] (by decide) (by decide)) (.cons (by repeat (first | with_reducible exact Sel.here | exact Sel.here | apply Sel.there)) (.cons (by repeat (first | with_reducible exact Sel.here | exact Sel.here | apply Sel.there)) .nil)) (may1 (may_own (f := vByte) (p := fun _ => True) (xs := ([] : List UInt8)) (by repeat (first | with_reducible exact Sel.here | exact Sel.here | apply Sel.there)) rfl (fun _ _ => trivial))) ?_)
  rintro w2 -
  simp only [List.cons_append, List.nil_append, Bool.false_or]
  rw [show decide (sizeM (([] : List UInt8).length : Int) = 0) = false from by decide]
  refine G.nil ?_
  refine G.nThen ?_
  refine G.seq ?_
  refine G.region ?_
  refine G.op rfl (G.val rfl rfl (pv_move rfl) ?_)
  refine G.op rfl (G.cN rfl rfl rfl rfl Try.func25 rfl rfl (wout_tr D1 false w2 (bytesM [97, 98] ++ bytesM []) (by decide)) .nil (may2 (Sel.may (by repeat (first | with_reducible exact Sel.here | exact Sel.here | apply Sel.there))) (Sel.may (by repeat (first | with_reducible exact Sel.here | exact Sel.here | apply Sel.there)))) ?_)
  rintro w3 -
  simp only [List.cons_append, List.nil_append, Bool.false_or]
  rw [show outW false (bytesM [97, 98] ++ bytesM []) = [2, 97, 98, 0] from by decide]
  refine G.op rfl (G.val rfl rfl (pv_move rfl) ?_)
  refine G.op rfl (G.val rfl rfl (pv_extract rfl rfl) ?_)
  refine G.op rfl (G.val rfl rfl (pv_extract rfl rfl) ?_)
  refine G.op rfl (G.val rfl rfl (pv_assign rfl) ?_)
  refine G.op rfl (G.val rfl rfl (pv_assign rfl) ?_)
  refine G.nil ?_
  refine G.nThen ?_
  refine G.seq ?_
  refine G.region ?_
  refine G.op rfl (G.val rfl rfl (pv_move rfl) ?_)
  refine G.op rfl (G.cN rfl rfl rfl rfl Try.func15 rfl rfl (wint_any D2 false (.slice none 0 0) [] (-1) (by decide)) (.cons (by repeat (first | with_reducible exact Sel.here | exact Sel.here | apply Sel.there)) (.cons (by repeat (first | with_reducible exact Sel.here | exact Sel.here | apply Sel.there)) .nil)) may0 ?_)
  rintro w4 -
  simp only [List.cons_append, List.nil_append, Bool.false_or]
  rw [show decide (sizeM (-1) = 0) = true from by decide]
  refine G.nil ?_
  refine G.nThen ?_
  refine G.seq ?_
  refine G.region ?_
  refine G.op rfl (G.val rfl rfl (pv_move rfl) ?_)
  refine G.op rfl (G.cN rfl rfl rfl rfl Try.func25 rfl rfl (wout_tr D2 true w4 (putM (-1)) (by decide)) .nil (may2 (Sel.may (by repeat (first | with_reducible exact Sel.here | exact Sel.here | apply Sel.there))) (Sel.may (by repeat (first | with_reducible exact Sel.here | exact Sel.here | apply Sel.there)))) ?_)
  rintro w5 -
  simp only [List.cons_append, List.nil_append, Bool.false_or]
  refine G.op rfl (G.val rfl rfl (pv_move rfl) ?_)
  refine G.op rfl (G.val rfl rfl (pv_extract rfl rfl) ?_)
  refine G.op rfl (G.val rfl rfl (pv_extract rfl rfl) ?_)
  refine G.op rfl (G.val rfl rfl (pv_assign rfl) ?_)
  refine G.op rfl (G.val rfl rfl (pv_assign rfl) ?_)
  refine G.nil ?_
  refine G.nThen ?_
  refine G.seq ?_
  refine G.region ?_
  refine G.op rfl (G.lit1 (vs := [_]) rfl Try.underlying23 (by kernel_rfl) rfl (by decide) (by decide) rfl rfl ?_)
  intro b56
  refine G.op rfl (G.call0 rfl rfl rfl rfl Try.func36 rfl rfl (is_tt (Pu := (· = b56)) _ (b := [127]) (by decide)) (may1 (may_all (f := vByte) (p := fun _ => True) (xs := [127]) (b := b56) (by repeat (first | with_reducible exact Sel.here | exact Sel.here | apply Sel.there)) (fun _ _ => trivial) rfl (Nat.le_refl _) (by decide))) ?_)
  refine G.op rfl (G.val rfl rfl (pv_move rfl) ?_)
  refine G.want rfl rfl rfl (G.lit1 (vs := [_, _, _, _, _]) rfl Try.underlying23 (by kernel_rfl) rfl (by decide) (by decide) rfl rfl ?_)
  intro b59
  refine G.want rfl rfl rfl (G.call0 rfl rfl rfl rfl Try.func36 rfl rfl (is_tt (Pu := (· = b59)) _ (b := [135, 255, 255, 255, 127]) (by decide)) (may1 (may_all (f := vByte) (p := fun _ => True) (xs := [135, 255, 255, 255, 127]) (b := b59) (by repeat (first | with_reducible exact Sel.here | exact Sel.here | apply Sel.there)) (fun _ _ => trivial) rfl (Nat.le_refl _) (by decide))) ?_)
  refine G.op rfl (G.val rfl rfl (pv_pick rfl rfl) ?_)
  refine G.op rfl (G.val rfl rfl (pv_move rfl) ?_)
  refine G.want rfl rfl rfl (G.val rfl rfl (pv_move rfl) ?_)
  refine G.want rfl rfl rfl (G.lit1 (vs := [_, _, _, _]) rfl Try.underlying23 (by kernel_rfl) rfl (by decide) (by decide) rfl rfl ?_)
  intro b64
  refine G.want rfl rfl rfl (G.call0 rfl rfl rfl rfl Try.func11 rfl rfl (same_self _ _ [2, 97, 98, 0]) (may2 (may_own (f := vByte) (p := fun _ => True) (xs := ([2, 97, 98, 0] : List UInt8)) (by repeat (first | with_reducible exact Sel.here | exact Sel.here | apply Sel.there)) rfl (fun _ _ => trivial)) (may_all (f := vByte) (p := fun _ => True) (xs := [2, 97, 98, 0]) (b := b64) (by repeat (first | with_reducible exact Sel.here | exact Sel.here | apply Sel.there)) (fun _ _ => trivial) rfl (Nat.le_refl _) (by decide))) ?_)
  refine G.op rfl (G.val rfl rfl (pv_pick rfl rfl) ?_)
  refine G.op rfl (G.val rfl rfl (pv_move rfl) ?_)
  refine G.want rfl rfl rfl (G.val rfl rfl (pv_move rfl) ?_)
  refine G.want rfl rfl rfl (G.val rfl rfl ((pv_eql rfl rfl).cast (v' := .bool true) (congrArg Value.bool (by rfl))) ?_)
  refine G.op rfl (G.val rfl rfl (pv_pick rfl rfl) ?_)
  refine G.op rfl (G.val rfl rfl (pv_move rfl) ?_)
  refine G.want rfl rfl rfl (G.val rfl rfl (pv_move rfl) ?_)
  refine G.want rfl rfl rfl (G.val rfl rfl ((pv_eql rfl rfl).cast (v' := .bool true) (congrArg Value.bool (by rfl))) ?_)
  refine G.op rfl (G.val rfl rfl (pv_pick rfl rfl) ?_)
  refine G.op rfl (G.val rfl rfl (pv_assign rfl) ?_)
  refine G.nil ?_
  refine G.nThen ?_
  refine G.seq ?_
  refine G.region ?_
  refine G.op rfl (G.val rfl rfl (pv_move rfl) ?_)
  refine G.op rfl (G.cN rfl rfl rfl rfl Try.func30 rfl rfl (int_ok (b := [129, 0, 5]) (a := 0) (low := 0) (high := 200) (n := 128) (nx := 2) (by rfl) D3 v3 0 (by decide) (by decide)) (.cons (by repeat (first | with_reducible exact Sel.here | exact Sel.here | apply Sel.there)) (.cons (by repeat (first | with_reducible exact Sel.here | exact Sel.here | apply Sel.there)) .nil)) may0 ?_)
  rintro ⟨⟩ -
  simp only [List.cons_append, List.nil_append, Bool.false_or]
  refine G.op rfl (G.val rfl rfl ((pv_eql rfl rfl).cast (v' := .bool true) (congrArg Value.bool (by rfl))) ?_)
  refine G.op rfl (G.val rfl rfl (pv_move rfl) ?_)
  refine G.want rfl rfl rfl (G.val rfl rfl (pv_move rfl) ?_)
  refine G.want rfl rfl rfl (G.cN rfl rfl rfl rfl Try.func30 rfl rfl (int_bad (b := [129, 0, 5]) (a := 2) (low := 0) (high := 4) (e := 5) (q := 2) (by rfl) D3 v3 0 (by decide) (by decide)) (.cons (by repeat (first | with_reducible exact Sel.here | exact Sel.here | apply Sel.there)) (.cons (by repeat (first | with_reducible exact Sel.here | exact Sel.here | apply Sel.there)) .nil)) may0 ?_)
  rintro ⟨⟩ -
  simp only [List.cons_append, List.nil_append, Bool.false_or]
  refine G.want rfl rfl rfl (G.val rfl rfl ((pv_eql rfl rfl).cast (v' := .bool true) (congrArg Value.bool (by rfl))) ?_)
  refine G.op rfl (G.val rfl rfl (pv_pick rfl rfl) ?_)
  refine G.op rfl (G.val rfl rfl (pv_move rfl) ?_)
  refine G.want rfl rfl rfl (G.val rfl rfl (pv_move rfl) ?_)
  refine G.want rfl rfl rfl (G.call0 rfl rfl rfl rfl Try.func34 rfl rfl (at_tr D3 v3 true _ _ _) (may1 (Sel.may (by repeat (first | with_reducible exact Sel.here | exact Sel.here | apply Sel.there)))) ?_)
  refine G.want rfl rfl rfl (G.val rfl rfl ((pv_eql rfl rfl).cast (v' := .bool true) (congrArg Value.bool (by rfl))) ?_)
  refine G.op rfl (G.val rfl rfl (pv_pick rfl rfl) ?_)
  refine G.op rfl (G.val rfl rfl (pv_move rfl) ?_)
  refine G.want rfl rfl rfl (G.val rfl rfl (pv_move rfl) ?_)
  refine G.want rfl rfl rfl (G.call0 rfl rfl rfl rfl Try.func31 rfl rfl (fault_tr D3 v3 true _ _ _) (may1 (Sel.may (by repeat (first | with_reducible exact Sel.here | exact Sel.here | apply Sel.there)))) ?_)
  refine G.want rfl rfl rfl (G.val rfl rfl (pv_build (cells := #[.int .i64 5, .int .i64 2]) (fun a ha => ha.pevs rfl) (by kernel_rfl)) ?_)
  refine G.want rfl rfl rfl (G.val rfl rfl ((pv_eqlSt (xs := [.int .i64 5, .int .i64 2]) (ys := [.int .i64 5, .int .i64 2]) (r := true) Try.underlying51 (by kernel_rfl) (by kernel_rfl) rfl rfl (by kernel_rfl)).cast (v' := .bool true) (congrArg Value.bool (by rfl))) ?_)
  refine G.op rfl (G.val rfl rfl (pv_pick rfl rfl) ?_)
  refine G.op rfl (G.val rfl rfl (pv_move rfl) ?_)
  refine G.want rfl rfl rfl (G.val rfl rfl (pv_move rfl) ?_)
  refine G.want rfl rfl rfl (G.call0 rfl rfl rfl rfl Try.func30 rfl rfl (int_off (off_rd D3 v3 true 2 5 2 (.inr (by decide))) rfl 0 9) (may1 (Sel.may (by repeat (first | with_reducible exact Sel.here | exact Sel.here | apply Sel.there)))) ?_)
  refine G.want rfl rfl rfl (G.val rfl rfl ((pv_eql rfl rfl).cast (v' := .bool true) (congrArg Value.bool (by rfl))) ?_)
  refine G.op rfl (G.val rfl rfl (pv_pick rfl rfl) ?_)
  refine G.op rfl (G.val rfl rfl (pv_assign rfl) ?_)
  refine G.nil ?_
  refine G.nThen ?_
  refine G.seq ?_
  refine G.region ?_
  refine G.op rfl (G.val rfl rfl (pv_move rfl) ?_)
  refine G.op rfl (G.cN rfl rfl rfl rfl Try.func33 rfl rfl (bytes_bad (b := [3, 1, 2]) (a := 0) (high := 2) (e := 3) (q := 0) (by rfl) D4 v4 0 (by decide) (by decide)) (.cons (by repeat (first | with_reducible exact Sel.here | exact Sel.here | apply Sel.there)) (.cons (by repeat (first | with_reducible exact Sel.here | exact Sel.here | apply Sel.there)) .nil)) may0 ?_)
  rintro v7 -
  simp only [List.cons_append, List.nil_append, Bool.false_or]
  refine G.ownOpen (v := v7) (by repeat (first | with_reducible exact Sel.here | exact Sel.here | apply Sel.there)) (fun ad7 cap7 hv7 hc7 hm7 => ?_)
  subst hv7
  refine G.op rfl (G.val rfl rfl (pv_lenSl Try.underlying23 rfl) ?_)
  refine G.op rfl (G.val rfl rfl ((pv_eql rfl rfl).cast (v' := .bool true) (congrArg Value.bool (by rfl))) ?_)
  refine G.op rfl (G.val rfl rfl (pv_move rfl) ?_)
  refine G.want rfl rfl rfl (G.val rfl rfl (pv_move rfl) ?_)
  refine G.want rfl rfl rfl (G.call0 rfl rfl rfl rfl Try.func31 rfl rfl (fault_tr D4 v4 true _ _ _) (may1 (Sel.may (by repeat (first | with_reducible exact Sel.here | exact Sel.here | apply Sel.there)))) ?_)
  refine G.want rfl rfl rfl (G.val rfl rfl (pv_build (cells := #[.int .i64 3, .int .i64 0]) (fun a ha => ha.pevs rfl) (by kernel_rfl)) ?_)
  refine G.want rfl rfl rfl (G.val rfl rfl ((pv_eqlSt (xs := [.int .i64 3, .int .i64 0]) (ys := [.int .i64 3, .int .i64 0]) (r := true) Try.underlying51 (by kernel_rfl) (by kernel_rfl) rfl rfl (by kernel_rfl)).cast (v' := .bool true) (congrArg Value.bool (by rfl))) ?_)
  refine G.op rfl (G.val rfl rfl (pv_pick rfl rfl) ?_)
  refine G.op rfl (G.val rfl rfl (pv_move rfl) ?_)
  refine G.want rfl rfl rfl (G.val rfl rfl (pv_move rfl) ?_)
  refine G.want rfl rfl rfl (G.call0 rfl rfl rfl rfl Try.func33 rfl rfl (bytes_off (off_rd D4 v4 true 0 3 0 (.inr (by decide))) rfl 9) (may1 (Sel.may (by repeat (first | with_reducible exact Sel.here | exact Sel.here | apply Sel.there)))) ?_)
  refine G.want rfl rfl rfl (G.val rfl rfl (pv_lenSl Try.underlying23 rfl) ?_)
  refine G.want rfl rfl rfl (G.val rfl rfl ((pv_eql rfl rfl).cast (v' := .bool true) (congrArg Value.bool (by rfl))) ?_)
  refine G.op rfl (G.val rfl rfl (pv_pick rfl rfl) ?_)
  refine G.op rfl (G.val rfl rfl (pv_assign rfl) ?_)
  refine G.nil ?_
  refine G.nThen ?_
  refine G.seq ?_
  refine G.region ?_
  refine G.op rfl (G.lit1 (vs := [_, _, _, _, _]) rfl Try.underlying23 (by kernel_rfl) rfl (by decide) (by decide) rfl rfl ?_)
  intro b115
  refine G.op rfl (G.call0 rfl rfl rfl rfl Try.func37 rfl rfl (fails_tt (Pu := (· = b115)) _ (b := [136, 128, 128, 128, 0]) (by decide) (by decide)) (may1 (may_all (f := vByte) (p := fun _ => True) (xs := [136, 128, 128, 128, 0]) (b := b115) (by repeat (first | with_reducible exact Sel.here | exact Sel.here | apply Sel.there)) (fun _ _ => trivial) rfl (Nat.le_refl _) (by decide))) ?_)
  refine G.op rfl (G.val rfl rfl (pv_move rfl) ?_)
  refine G.want rfl rfl rfl (G.val rfl rfl (pv_move rfl) ?_)
  refine G.want rfl rfl rfl (G.cN rfl rfl rfl rfl Try.func33 rfl rfl (bytes_bad (b := [2, 1]) (a := 0) (high := 9) (e := 4) (q := 2) (by rfl) D5 _ 0 (by decide) (by decide)) (.cons (by repeat (first | with_reducible exact Sel.here | exact Sel.here | apply Sel.there)) (.cons (by repeat (first | with_reducible exact Sel.here | exact Sel.here | apply Sel.there)) .nil)) may0 ?_)
  rintro v8 -
  simp only [List.cons_append, List.nil_append, Bool.false_or]
  refine G.ownOpen (v := v8) (by repeat (first | with_reducible exact Sel.here | exact Sel.here | apply Sel.there)) (fun ad8 cap8 hv8 hc8 hm8 => ?_)
  subst hv8
  refine G.want rfl rfl rfl (G.val rfl rfl (pv_lenSl Try.underlying23 rfl) ?_)
  refine G.want rfl rfl rfl (G.val rfl rfl ((pv_eql rfl rfl).cast (v' := .bool true) (congrArg Value.bool (by rfl))) ?_)
  refine G.op rfl (G.val rfl rfl (pv_pick rfl rfl) ?_)
  refine G.op rfl (G.val rfl rfl (pv_move rfl) ?_)
  refine G.want rfl rfl rfl (G.val rfl rfl (pv_move rfl) ?_)
  refine G.want rfl rfl rfl (G.call0 rfl rfl rfl rfl Try.func31 rfl rfl (fault_tr D5 _ true _ _ _) (may1 (Sel.may (by repeat (first | with_reducible exact Sel.here | exact Sel.here | apply Sel.there)))) ?_)
  refine G.want rfl rfl rfl (G.val rfl rfl (pv_build (cells := #[.int .i64 4, .int .i64 2]) (fun a ha => ha.pevs rfl) (by kernel_rfl)) ?_)
  refine G.want rfl rfl rfl (G.val rfl rfl ((pv_eqlSt (xs := [.int .i64 4, .int .i64 2]) (ys := [.int .i64 4, .int .i64 2]) (r := true) Try.underlying51 (by kernel_rfl) (by kernel_rfl) rfl rfl (by kernel_rfl)).cast (v' := .bool true) (congrArg Value.bool (by rfl))) ?_)
  refine G.op rfl (G.val rfl rfl (pv_pick rfl rfl) ?_)
  refine G.op rfl (G.val rfl rfl (pv_move rfl) ?_)
  refine G.want rfl rfl rfl (G.val rfl rfl (pv_move rfl) ?_)
  refine G.want rfl rfl rfl (G.call0 rfl rfl rfl rfl Try.func38 rfl rfl (left_tr D5 2 cap5 ad5 true 0 4 2 (by decide) (by decide)) (may1 (Sel.may (by repeat (first | with_reducible exact Sel.here | exact Sel.here | apply Sel.there)))) ?_)
  refine G.want rfl rfl rfl (G.val rfl rfl ((pv_eql rfl rfl).cast (v' := .bool true) (congrArg Value.bool (by rfl))) ?_)
  refine G.op rfl (G.val rfl rfl (pv_pick rfl rfl) ?_)
  refine G.op rfl (G.val rfl rfl (pv_assign rfl) ?_)
  refine G.nil ?_
  refine G.nThen ?_
  refine G.seq ?_
  refine G.region ?_
  refine G.op rfl (G.call0 rfl rfl rfl rfl Try.func8 rfl rfl (awake_tr) may0 ?_)
  refine G.op rfl (G.val rfl rfl (pv_move rfl) ?_)
  refine G.want rfl rfl rfl (G.val rfl rfl (pv_move rfl) ?_)
  refine G.op rfl (G.val rfl rfl (pv_pick rfl rfl) ?_)
  refine G.op rfl (G.val rfl rfl (pv_move rfl) ?_)
  refine G.want rfl rfl rfl (G.val rfl rfl (pv_move rfl) ?_)
  refine G.op rfl (G.val rfl rfl (pv_pick rfl rfl) ?_)
  refine G.op rfl (G.val rfl rfl (pv_move rfl) ?_)
  refine G.want rfl rfl rfl (G.val rfl rfl (pv_move rfl) ?_)
  refine G.op rfl (G.val rfl rfl (pv_pick rfl rfl) ?_)
  refine G.op rfl (G.val rfl rfl (pv_move rfl) ?_)
  refine G.want rfl rfl rfl (G.val rfl rfl (pv_move rfl) ?_)
  refine G.op rfl (G.val rfl rfl (pv_pick rfl rfl) ?_)
  refine G.op rfl (G.val rfl rfl (pv_assign rfl) ?_)
  refine G.nil ?_
  refine G.nThen ?_
  refine G.ret ?_
  exact G.done1 rfl rfl .nil ⟨rfl, rfl⟩
end Go.Proofs.Ytnfjpiancbgdhaa
