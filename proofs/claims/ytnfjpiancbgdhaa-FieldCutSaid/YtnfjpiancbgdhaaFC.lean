/- The statement FieldCut. Conditions: none. -/
import Derived.Test.YtnfjpiancbgdhaaFK
import Derived.Test.YtnfjpiancbgdhaaFA
set_option linter.unusedVariables false
set_option linter.unusedSimpArgs false
namespace Go.Proofs.Ytnfjpiancbgdhaa
open Go.RowKit

set_option maxRecDepth 20000 in

theorem cut_tr (x z : Int) (u : Value) (b : List UInt8) {Pu : Nat → Prop} : Tr Try.prog 5 #[.int .i64 x, u, .int .i64 z] [slc rByte Pu u b] [] (T0 (.bool true)) := by
  refine Tr.of (l := [(0, .int .i64 x), (1, u), (2, .int .i64 z)]) Try.func5 rfl (n := 150) rfl (.cons rfl (.cons rfl (.cons rfl .nil))) (fun w0 hro => ?_)
  have hu := ro1 hro
  obtain ⟨au, cu, bu, ou, rfl, -⟩ := Ro.open hu
  have lx := putM_length x
  have lx5 := sizeM_le x
  refine G.seq ?_
  refine G.region ?_
  refine G.op rfl (G.val rfl rfl (pv_assign rfl) ?_)
  refine G.nil ?_
  refine G.nThen ?_
  refine G.seq ?_
  refine G.region ?_
  refine G.op rfl (G.call0 rfl rfl rfl rfl Try.func8 rfl rfl (awake_tr) may0 ?_)
  refine G.op rfl (G.val rfl rfl (pv_assign rfl) ?_)
  refine G.nil ?_
  refine G.nThen ?_
  refine G.seq ?_
  refine G.region ?_
  refine G.op rfl (G.val rfl rfl (pv_move rfl) ?_)
  refine G.op rfl (G.cN rfl rfl rfl rfl Try.func9 rfl rfl (num_tr x) .nil may0 ?_)
  rintro vx -
  simp only [List.cons_append, List.nil_append, Bool.false_or]
  refine G.ownOpen (v := vx) (by repeat (first | with_reducible exact Sel.here | exact Sel.here | apply Sel.there)) (fun ad cap hvx hcx hmx => ?_)
  subst hvx
  refine G.op rfl (G.val rfl rfl (pv_assign rfl) ?_)
  refine G.nil ?_
  refine G.nThen ?_
  refine G.seq ?_
  refine G.region ?_
  refine G.op rfl (G.cN rfl rfl rfl rfl Try.func12 rfl rfl (new_tr) .nil may0 ?_)
  rintro D -
  simp only [List.cons_append, List.nil_append, Bool.false_or]
  refine G.op rfl (G.val rfl rfl (pv_assign rfl) ?_)
  refine G.nil ?_
  refine G.nThen ?_
  refine G.seq ?_
  refine G.seq ?_
  refine G.cut (X := Bool) (fun q => q = false → b.length ≤ 300 ∧ 0 < (putM x).length) (fun q => [(33, .bool q), (7, .bool true), (8, (.slice ad (putM x).length cap)), (9, .pointer (some ⟨D, 0, none⟩)), (0, .int .i64 x), (1, .slice au b.length cu), (2, .int .i64 z)]) (fun q => [blk D 60 [.bool true, .bool false, .slice none 0 0], own 5 1 (.slice none 0 0) ([] : List UInt8).length (([] : List UInt8).map vByte), own 5 1 (.slice ad (putM x).length cap) (putM x).length ((putM x).map vByte)]) ?_ ?_
  · refine G.region ?_
    refine G.op rfl (G.val rfl rfl (pv_move rfl) ?_)
    refine G.op rfl (G.val rfl rfl (pv_lenSl Try.underlying23 rfl) ?_)
    refine G.op rfl (G.val rfl rfl (pv_gtr rfl rfl) ?_)
    refine G.op rfl (G.val rfl rfl (pv_move rfl) ?_)
    refine G.partP (t := 25) rfl (fun h25 => ?_) (fun h25 => ?_)
    · refine G.pass rfl rfl rfl rfl rfl rfl ?_
      refine G.pass rfl rfl rfl rfl rfl rfl ?_
      refine G.pass rfl rfl rfl rfl rfl rfl ?_
      refine G.op rfl (G.val rfl rfl (pv_pick rfl rfl) ?_)
      refine G.op rfl (G.val rfl rfl (pv_move rfl) ?_)
      refine G.pass rfl rfl rfl rfl rfl rfl ?_
      refine G.pass rfl rfl rfl rfl rfl rfl ?_
      refine G.op rfl (G.val rfl rfl (pv_pick rfl rfl) ?_)
      refine G.nil ?_
      first | exact G.meet true (fun h => by cases h) (.cons rfl (.cons rfl (.cons rfl (.cons rfl (.cons rfl (.cons rfl (.cons rfl .nil))))))) (.cons (by repeat (first | with_reducible exact Sel.here | exact Sel.here | apply Sel.there)) (.cons (by repeat (first | with_reducible exact Sel.here | exact Sel.here | apply Sel.there)) (.cons (by repeat (first | with_reducible exact Sel.here | exact Sel.here | apply Sel.there)) .nil))) | exact G.meet false (fun _ => by omega) (.cons rfl (.cons rfl (.cons rfl (.cons rfl (.cons rfl (.cons rfl (.cons rfl .nil))))))) (.cons (by repeat (first | with_reducible exact Sel.here | exact Sel.here | apply Sel.there)) (.cons (by repeat (first | with_reducible exact Sel.here | exact Sel.here | apply Sel.there)) (.cons (by repeat (first | with_reducible exact Sel.here | exact Sel.here | apply Sel.there)) .nil)))
    · refine G.want rfl rfl rfl (G.val rfl rfl (pv_move rfl) ?_)
      refine G.want rfl rfl rfl (G.val rfl rfl (pv_lenSl Try.underlying23 rfl) ?_)
      refine G.want rfl rfl rfl (G.val rfl rfl (pv_eql rfl rfl) ?_)
      refine G.op rfl (G.val rfl rfl (pv_pick rfl rfl) ?_)
      refine G.op rfl (G.val rfl rfl (pv_move rfl) ?_)
      refine G.partP (t := 30) rfl (fun h30 => ?_) (fun h30 => ?_)
      · refine G.pass rfl rfl rfl rfl rfl rfl ?_
        refine G.pass rfl rfl rfl rfl rfl rfl ?_
        refine G.op rfl (G.val rfl rfl (pv_pick rfl rfl) ?_)
        refine G.nil ?_
        first | exact G.meet true (fun h => by cases h) (.cons rfl (.cons rfl (.cons rfl (.cons rfl (.cons rfl (.cons rfl (.cons rfl .nil))))))) (.cons (by repeat (first | with_reducible exact Sel.here | exact Sel.here | apply Sel.there)) (.cons (by repeat (first | with_reducible exact Sel.here | exact Sel.here | apply Sel.there)) (.cons (by repeat (first | with_reducible exact Sel.here | exact Sel.here | apply Sel.there)) .nil))) | exact G.meet false (fun _ => by omega) (.cons rfl (.cons rfl (.cons rfl (.cons rfl (.cons rfl (.cons rfl (.cons rfl .nil))))))) (.cons (by repeat (first | with_reducible exact Sel.here | exact Sel.here | apply Sel.there)) (.cons (by repeat (first | with_reducible exact Sel.here | exact Sel.here | apply Sel.there)) (.cons (by repeat (first | with_reducible exact Sel.here | exact Sel.here | apply Sel.there)) .nil)))
      · refine G.want rfl rfl rfl (G.val rfl rfl (pv_move rfl) ?_)
        refine G.want rfl rfl rfl (G.val rfl rfl (pv_eqlP0 Try.underlying29 rfl rfl) ?_)
        refine G.op rfl (G.val rfl rfl (pv_pick rfl rfl) ?_)
        refine G.nil ?_
        first | exact G.meet true (fun h => by cases h) (.cons rfl (.cons rfl (.cons rfl (.cons rfl (.cons rfl (.cons rfl (.cons rfl .nil))))))) (.cons (by repeat (first | with_reducible exact Sel.here | exact Sel.here | apply Sel.there)) (.cons (by repeat (first | with_reducible exact Sel.here | exact Sel.here | apply Sel.there)) (.cons (by repeat (first | with_reducible exact Sel.here | exact Sel.here | apply Sel.there)) .nil))) | exact G.meet false (fun _ => by omega) (.cons rfl (.cons rfl (.cons rfl (.cons rfl (.cons rfl (.cons rfl (.cons rfl .nil))))))) (.cons (by repeat (first | with_reducible exact Sel.here | exact Sel.here | apply Sel.there)) (.cons (by repeat (first | with_reducible exact Sel.here | exact Sel.here | apply Sel.there)) (.cons (by repeat (first | with_reducible exact Sel.here | exact Sel.here | apply Sel.there)) .nil)))
  · rintro q hq
    show G _ _ _ [(33, .bool q), (7, .bool true), (8, (.slice ad (putM x).length cap)), (9, .pointer (some ⟨D, 0, none⟩)), (0, .int .i64 x), (1, .slice au b.length cu), (2, .int .i64 z)] [blk D 60 [.bool true, .bool false, .slice none 0 0], own 5 1 (.slice none 0 0) ([] : List UInt8).length (([] : List UInt8).map vByte), own 5 1 (.slice ad (putM x).length cap) (putM x).length ((putM x).map vByte)] _
    refine G.cond rfl (fun h33 => ?_) (fun h33 => ?_)
    · refine G.seq ?_
      refine G.region ?_
      refine G.op rfl (G.val rfl rfl (pv_move rfl) ?_)
      refine G.op rfl (G.val rfl rfl (pv_move rfl) ?_)
      refine G.want rfl rfl rfl (G.val rfl rfl (pv_move rfl) ?_)
      refine G.want rfl rfl rfl (G.val rfl rfl (pv_neqP0 Try.underlying29 rfl rfl) ?_)
      refine G.op rfl (G.val rfl rfl (pv_pick rfl rfl) ?_)
      refine G.op rfl (G.val rfl rfl (pv_assign rfl) ?_)
      refine G.nil ?_
      refine G.nThen ?_
      refine G.ret ?_
      refine G.rThen ?_
      exact G.done1 rfl rfl .nil ⟨rfl, rfl⟩
    · obtain ⟨hb, hx0⟩ := hq h33
      have hxs : sizeM x ≠ 0 := by omega
      have hsz : sizeM (b.length : Int) ≠ 0 := by have := sizeM_ok (x := (b.length : Int)) (by omega) (by omega); omega
      have lb : (bytesM b).length = sizeM (b.length : Int) + b.length := by unfold bytesM; rw [List.length_append, putM_length]
      have lb5 := sizeM_le (b.length : Int)
      obtain ⟨kx, hkx⟩ : ∃ k, k = (pickN z (putM x).length) := ⟨_, rfl⟩
      obtain ⟨ky, hky⟩ : ∃ k, k = (pickN z (bytesM b).length) := ⟨_, rfl⟩
      have hkx' : kx < (putM x).length := by rw [hkx]; exact pickN_lt _ hx0
      have hky' : ky < (bytesM b).length := by rw [hky]; exact pickN_lt _ (by omega)
      have lX : ((putM x).take kx).length = kx := by rw [List.length_take]; omega
      have lY : ((bytesM b).take ky).length = ky := by rw [List.length_take]; omega
      refine G.skip ?_
      refine G.nThen ?_
      refine G.seq ?_
      refine G.region ?_
      refine G.op rfl (G.val rfl rfl (pv_move rfl) ?_)
      refine G.op rfl (G.val rfl rfl (pv_move rfl) ?_)
      refine G.op rfl (G.cN rfl rfl rfl rfl Try.func17 rfl rfl (wbytes_tr D false (.slice none 0 0) _ [] b (Pu := Pu) (by simp) (by omega)) (.cons (by repeat (first | with_reducible exact Sel.here | exact Sel.here | apply Sel.there)) (.cons (by repeat (first | with_reducible exact Sel.here | exact Sel.here | apply Sel.there)) .nil)) (may1 (.old hu)) ?_)
      rintro v1 -
      simp only [List.cons_append, List.nil_append, Bool.false_or]
      rw [decide_eq_false hsz]
      refine G.nil ?_
      refine G.nThen ?_
      refine G.seq ?_
      refine G.region ?_
      refine G.op rfl (G.val rfl rfl (pv_move rfl) ?_)
      refine G.op rfl (G.cN rfl rfl rfl rfl Try.func25 rfl rfl (wout_tr D false v1 (bytesM b) (by omega)) .nil (may2 (Sel.may (by repeat (first | with_reducible exact Sel.here | exact Sel.here | apply Sel.there))) (Sel.may (by repeat (first | with_reducible exact Sel.here | exact Sel.here | apply Sel.there)))) ?_)
      rintro vy -
      simp only [List.cons_append, List.nil_append, Bool.false_or]
      rw [show outW false (bytesM b) = bytesM b from rfl]
      refine G.ownOpen (v := vy) (by repeat (first | with_reducible exact Sel.here | exact Sel.here | apply Sel.there)) (fun ad' cap' hvy hcy hmy => ?_)
      subst hvy
      refine G.op rfl (G.val rfl rfl (pv_move rfl) ?_)
      refine G.op rfl (G.val rfl rfl (pv_extract rfl rfl) ?_)
      refine G.op rfl (G.val rfl rfl (pv_extract rfl rfl) ?_)
      refine G.op rfl (G.val rfl rfl (pv_assign rfl) ?_)
      refine G.op rfl (G.val rfl rfl (pv_assign rfl) ?_)
      refine G.nil ?_
      refine G.nThen ?_
      refine G.seq ?_
      refine G.seq ?_
      refine G.region ?_
      refine G.op rfl (G.val rfl rfl (pv_move rfl) ?_)
      refine G.op rfl (G.val rfl rfl ((pv_neq rfl rfl).cast (v' := .bool false) (congrArg Value.bool (by rfl))) ?_)
      refine G.op rfl (G.val rfl rfl (pv_move rfl) ?_)
      refine G.want rfl rfl rfl (G.val rfl rfl (pv_move rfl) ?_)
      refine G.want rfl rfl rfl (G.val rfl rfl (pv_lenSl Try.underlying23 rfl) ?_)
      refine G.want rfl rfl rfl (G.val rfl rfl ((pv_eql rfl rfl).cast (v' := .bool false) (congrArg Value.bool (by exact decide_eq_false (by omega)))) ?_)
      refine G.op rfl (G.val rfl rfl (pv_pick rfl rfl) ?_)
      refine G.nil ?_
      refine G.nThen ?_
      refine G.condF rfl (rfl) ?_
      refine G.skip ?_
      refine G.nThen ?_
      refine G.seq ?_
      refine G.drawn (by kernel_rfl) (k := 14) rfl [] ?_
      refine G.take (i := 0) rfl rfl rfl (by kernel_rfl) (by kernel_rfl) (by kernel_rfl) (fun _ _ _ h => h) rfl (pv_move rfl) Sub.nil ?_
      refine G.take (i := 1) rfl rfl rfl (by kernel_rfl) (by kernel_rfl) (by kernel_rfl) (fun _ _ _ h => h) rfl (pv_move rfl) Sub.nil ?_
      refine G.take (i := 2) rfl rfl rfl (by kernel_rfl) (by kernel_rfl) (by kernel_rfl) (fun _ _ _ h => h) rfl (pv_move rfl) Sub.nil ?_
      refine G.take (i := 3) rfl rfl rfl (by kernel_rfl) (by kernel_rfl) (by kernel_rfl) (fun _ _ _ h => h) rfl (pv_lenSl Try.underlying23 rfl) Sub.nil ?_
      refine G.take (i := 6) rfl rfl rfl (by kernel_rfl) (by kernel_rfl) (by kernel_rfl) (fun _ _ _ h => h) rfl (pv_move rfl) Sub.nil ?_
      refine G.take (i := 7) rfl rfl rfl (by kernel_rfl) (by kernel_rfl) (by kernel_rfl) (fun _ _ _ h => h) rfl (pv_move rfl) Sub.nil ?_
      refine G.take (i := 8) rfl rfl rfl (by kernel_rfl) (by kernel_rfl) (by kernel_rfl) (fun _ _ _ h => h) rfl (pv_move rfl) Sub.nil ?_
      refine G.take (i := 9) rfl rfl rfl (by kernel_rfl) (by kernel_rfl) (by kernel_rfl) (fun _ _ _ h => h) rfl (pv_lenSl Try.underlying23 rfl) Sub.nil ?_
      refine G.one (i := 4) (by kernel_rfl) ?_
      refine G.turnOp rfl rfl (G.call0 rfl rfl rfl rfl Try.func28 rfl rfl (pick_tr z (putM x).length hx0 (by omega)) may0 ?_)
      rw [← hkx]
      refine G.back Sub.nil ?_
      refine G.take (i := 5) rfl rfl rfl (by kernel_rfl) (by kernel_rfl) (by kernel_rfl) (fun _ _ _ h => h) rfl (pv_subH (sz := 1) (k := kx) Try.underlying23 Try.sizeByte rfl rfl rfl (by omega)) Sub.nil ?_
      refine G.one (i := 10) (by kernel_rfl) ?_
      refine G.turnOp rfl rfl (G.call0 rfl rfl rfl rfl Try.func28 rfl rfl (pick_tr z (bytesM b).length (by omega) (by omega)) may0 ?_)
      rw [← hky]
      refine G.back Sub.nil ?_
      refine G.take (i := 11) rfl rfl rfl (by kernel_rfl) (by kernel_rfl) (by kernel_rfl) (fun _ _ _ h => h) rfl (pv_subH (sz := 1) (k := ky) Try.underlying23 Try.sizeByte rfl rfl rfl (by omega)) Sub.nil ?_
      refine G.take (i := 12) rfl rfl rfl (by kernel_rfl) (by kernel_rfl) (by kernel_rfl) (fun _ _ _ h => h) rfl (pv_assign rfl) Sub.nil ?_
      refine G.take (i := 13) rfl rfl rfl (by kernel_rfl) (by kernel_rfl) (by kernel_rfl) (fun _ _ _ h => h) rfl (pv_assign rfl) Sub.nil ?_
      refine G.over (by kernel_rfl) ?_
      refine G.nThen ?_
      refine G.seq ?_
      refine G.region ?_
      refine G.op rfl (G.val rfl rfl (pv_move rfl) ?_)
      refine G.op rfl (G.cN rfl rfl rfl rfl Try.func29 rfl rfl (open_tr _ ((putM x).take kx) (by rw [lX]; omega)) .nil (may1 (may_ownPre (f := vByte) (p := fun _ => True) (xs := (putM x)) (j := kx) (by repeat (first | with_reducible exact Sel.here | exact Sel.here | apply Sel.there)) rfl (fun _ _ => trivial) (by omega))) ?_)
      rintro ⟨D1, v1'⟩ -
      simp only [List.cons_append, List.nil_append, Bool.false_or]
      refine G.op rfl (G.val rfl rfl (pv_move rfl) ?_)
      refine G.op rfl (G.cN rfl rfl rfl rfl Try.func29 rfl rfl (open_tr _ ((bytesM b).take ky) (by rw [lY]; omega)) .nil (may1 (may_ownPre (f := vByte) (p := fun _ => True) (xs := (bytesM b)) (j := ky) (by repeat (first | with_reducible exact Sel.here | exact Sel.here | apply Sel.there)) rfl (fun _ _ => trivial) (by omega))) ?_)
      rintro ⟨D2, v2'⟩ -
      simp only [List.cons_append, List.nil_append, Bool.false_or]
      refine G.op rfl (G.val rfl rfl (pv_move rfl) ?_)
      refine G.op rfl (G.cN rfl rfl rfl rfl Try.func29 rfl rfl (open_tr _ ((bytesM b).take ky) (by rw [lY]; omega)) .nil (may1 (may_ownPre (f := vByte) (p := fun _ => True) (xs := (bytesM b)) (j := ky) (by repeat (first | with_reducible exact Sel.here | exact Sel.here | apply Sel.there)) rfl (fun _ _ => trivial) (by omega))) ?_)
      rintro ⟨D3, v3'⟩ -
      simp only [List.cons_append, List.nil_append, Bool.false_or]
      refine G.op rfl (G.val rfl rfl (pv_assign rfl) ?_)
      refine G.op rfl (G.val rfl rfl (pv_assign rfl) ?_)
      refine G.op rfl (G.val rfl rfl (pv_assign rfl) ?_)
      refine G.nil ?_
      refine G.nThen ?_
      refine G.seq ?_
      refine G.seq ?_
      refine G.region ?_
      refine G.op rfl (G.val rfl rfl (pv_move rfl) ?_)
      refine G.op rfl (G.val rfl rfl (pv_eqlP0 Try.underlying48 rfl rfl) ?_)
      refine G.op rfl (G.val rfl rfl (pv_move rfl) ?_)
      refine G.want rfl rfl rfl (G.val rfl rfl (pv_move rfl) ?_)
      refine G.want rfl rfl rfl (G.val rfl rfl (pv_eqlP0 Try.underlying48 rfl rfl) ?_)
      refine G.op rfl (G.val rfl rfl (pv_pick rfl rfl) ?_)
      refine G.op rfl (G.val rfl rfl (pv_move rfl) ?_)
      refine G.want rfl rfl rfl (G.val rfl rfl (pv_move rfl) ?_)
      refine G.want rfl rfl rfl (G.val rfl rfl (pv_eqlP0 Try.underlying48 rfl rfl) ?_)
      refine G.op rfl (G.val rfl rfl (pv_pick rfl rfl) ?_)
      refine G.nil ?_
      refine G.nThen ?_
      refine G.condF rfl (rfl) ?_
      refine G.skip ?_
      refine G.nThen ?_
      refine G.seq ?_
      refine G.region ?_
      refine G.op rfl (G.val rfl rfl (pv_move rfl) ?_)
      refine G.op rfl (G.cN rfl rfl rfl rfl Try.func30 rfl rfl (int_bad (bnd_cut hxs hkx' 0 2147483647 5) D1 v1' 0 (Nat.zero_le _) (by rw [lX]; omega)) (.cons (by repeat (first | with_reducible exact Sel.here | exact Sel.here | apply Sel.there)) (.cons (by repeat (first | with_reducible exact Sel.here | exact Sel.here | apply Sel.there)) .nil)) may0 ?_)
      rintro ⟨⟩ -
      simp only [List.cons_append, List.nil_append, Bool.false_or]
      refine G.op rfl (G.val rfl rfl ((pv_eql rfl rfl).cast (v' := .bool true) (congrArg Value.bool (by rfl))) ?_)
      refine G.op rfl (G.val rfl rfl (pv_move rfl) ?_)
      refine G.want rfl rfl rfl (G.val rfl rfl (pv_move rfl) ?_)
      refine G.want rfl rfl rfl (G.call0 rfl rfl rfl rfl Try.func31 rfl rfl (fault_tr D1 v1' true _ _ _) (may1 (Sel.may (by repeat (first | with_reducible exact Sel.here | exact Sel.here | apply Sel.there)))) ?_)
      refine G.want rfl rfl rfl (G.val rfl rfl (pv_move rfl) ?_)
      refine G.want rfl rfl rfl (G.val rfl rfl (pv_lenSl Try.underlying23 rfl) ?_)
      refine G.want rfl rfl rfl (G.val rfl rfl (pv_build (cells := #[.int .i64 4, .int .i64 (kx : Int)]) (fun a ha => ha.pevs rfl) (by kernel_rfl)) ?_)
      refine G.want rfl rfl rfl (G.val rfl rfl ((pv_eqlSt (xs := [.int .i64 4, .int .i64 (kx : Int)]) (ys := [.int .i64 4, .int .i64 (kx : Int)]) (r := decide ((4 : Int) = 4) && (decide ((kx : Int) = kx) && true)) Try.underlying51 (by kernel_rfl) (by kernel_rfl) rfl rfl (by kernel_rfl)).cast (v' := .bool true) (congrArg Value.bool (by simp))) ?_)
      refine G.op rfl (G.val rfl rfl (pv_pick rfl rfl) ?_)
      refine G.op rfl (G.val rfl rfl (pv_move rfl) ?_)
      refine G.want rfl rfl rfl (G.val rfl rfl (pv_move rfl) ?_)
      refine G.want rfl rfl rfl (G.call0 rfl rfl rfl rfl Try.func32 rfl rfl (text_off (off_rd D1 v1' true 0 4 (kx : Int) (.inr (by decide))) rfl 9) (may1 (Sel.may (by repeat (first | with_reducible exact Sel.here | exact Sel.here | apply Sel.there)))) ?_)
      refine G.want rfl rfl rfl (G.val rfl rfl ((pv_eqlS (a := []) (b := []) rfl rfl).cast (v' := .bool true) (congrArg Value.bool (by rfl))) ?_)
      refine G.op rfl (G.val rfl rfl (pv_pick rfl rfl) ?_)
      refine G.op rfl (G.val rfl rfl (pv_move rfl) ?_)
      refine G.want rfl rfl rfl (G.val rfl rfl (pv_move rfl) ?_)
      refine G.want rfl rfl rfl (G.call0 rfl rfl rfl rfl Try.func31 rfl rfl (fault_tr D1 v1' true _ _ _) (may1 (Sel.may (by repeat (first | with_reducible exact Sel.here | exact Sel.here | apply Sel.there)))) ?_)
      refine G.want rfl rfl rfl (G.val rfl rfl (pv_move rfl) ?_)
      refine G.want rfl rfl rfl (G.val rfl rfl (pv_lenSl Try.underlying23 rfl) ?_)
      refine G.want rfl rfl rfl (G.val rfl rfl (pv_build (cells := #[.int .i64 4, .int .i64 (kx : Int)]) (fun a ha => ha.pevs rfl) (by kernel_rfl)) ?_)
      refine G.want rfl rfl rfl (G.val rfl rfl ((pv_eqlSt (xs := [.int .i64 4, .int .i64 (kx : Int)]) (ys := [.int .i64 4, .int .i64 (kx : Int)]) (r := decide ((4 : Int) = 4) && (decide ((kx : Int) = kx) && true)) Try.underlying51 (by kernel_rfl) (by kernel_rfl) rfl rfl (by kernel_rfl)).cast (v' := .bool true) (congrArg Value.bool (by simp))) ?_)
      refine G.op rfl (G.val rfl rfl (pv_pick rfl rfl) ?_)
      refine G.op rfl (G.val rfl rfl (pv_assign rfl) ?_)
      refine G.nil ?_
      refine G.nThen ?_
      refine G.seq ?_
      refine G.region ?_
      refine G.op rfl (G.val rfl rfl (pv_move rfl) ?_)
      refine G.op rfl (G.cN rfl rfl rfl rfl Try.func33 rfl rfl (bytes_bad (bytes_cut (high := 300) (by omega) (by omega) hky') D2 v2' 0 (Nat.zero_le _) (by rw [lY]; omega)) (.cons (by repeat (first | with_reducible exact Sel.here | exact Sel.here | apply Sel.there)) (.cons (by repeat (first | with_reducible exact Sel.here | exact Sel.here | apply Sel.there)) .nil)) may0 ?_)
      rintro v4 -
      simp only [List.cons_append, List.nil_append, Bool.false_or]
      refine G.ownOpen (v := v4) (by repeat (first | with_reducible exact Sel.here | exact Sel.here | apply Sel.there)) (fun ad4 cap4 hv4 hc4 hm4 => ?_)
      subst hv4
      refine G.op rfl (G.val rfl rfl (pv_lenSl Try.underlying23 rfl) ?_)
      refine G.op rfl (G.val rfl rfl ((pv_eql rfl rfl).cast (v' := .bool true) (congrArg Value.bool (by rfl))) ?_)
      refine G.op rfl (G.val rfl rfl (pv_move rfl) ?_)
      refine G.want rfl rfl rfl (G.val rfl rfl (pv_move rfl) ?_)
      refine G.want rfl rfl rfl (G.call0 rfl rfl rfl rfl Try.func31 rfl rfl (fault_tr D2 v2' true _ _ _) (may1 (Sel.may (by repeat (first | with_reducible exact Sel.here | exact Sel.here | apply Sel.there)))) ?_)
      refine G.want rfl rfl rfl (G.val rfl rfl (pv_move rfl) ?_)
      refine G.want rfl rfl rfl (G.val rfl rfl (pv_lenSl Try.underlying23 rfl) ?_)
      refine G.want rfl rfl rfl (G.val rfl rfl (pv_build (cells := #[.int .i64 4, .int .i64 (ky : Int)]) (fun a ha => ha.pevs rfl) (by kernel_rfl)) ?_)
      refine G.want rfl rfl rfl (G.val rfl rfl ((pv_eqlSt (xs := [.int .i64 4, .int .i64 (ky : Int)]) (ys := [.int .i64 4, .int .i64 (ky : Int)]) (r := decide ((4 : Int) = 4) && (decide ((ky : Int) = ky) && true)) Try.underlying51 (by kernel_rfl) (by kernel_rfl) rfl rfl (by kernel_rfl)).cast (v' := .bool true) (congrArg Value.bool (by simp))) ?_)
      refine G.op rfl (G.val rfl rfl (pv_pick rfl rfl) ?_)
      refine G.op rfl (G.val rfl rfl (pv_move rfl) ?_)
      refine G.want rfl rfl rfl (G.val rfl rfl (pv_move rfl) ?_)
      refine G.want rfl rfl rfl (G.call0 rfl rfl rfl rfl Try.func34 rfl rfl (at_tr D2 v2' true _ _ _) (may1 (Sel.may (by repeat (first | with_reducible exact Sel.here | exact Sel.here | apply Sel.there)))) ?_)
      refine G.want rfl rfl rfl (G.val rfl rfl ((pv_eql rfl rfl).cast (v' := .bool true) (congrArg Value.bool (by rfl))) ?_)
      refine G.op rfl (G.val rfl rfl (pv_pick rfl rfl) ?_)
      refine G.op rfl (G.val rfl rfl (pv_assign rfl) ?_)
      refine G.nil ?_
      refine G.nThen ?_
      refine G.seq ?_
      refine G.region ?_
      refine G.op rfl (G.val rfl rfl (pv_move rfl) ?_)
      refine G.op rfl (G.val rfl rfl (pv_lenSl Try.underlying23 rfl) ?_)
      refine G.op rfl (G.val rfl rfl (pv_geq rfl rfl) ?_)
      refine G.op rfl (G.val rfl rfl (pv_move rfl) ?_)
      refine G.partP (t := 126) rfl (fun h126 => ?_) (fun h126 => ?_)
      · refine G.pass rfl rfl rfl rfl rfl rfl ?_
        refine G.pass rfl rfl rfl rfl rfl rfl ?_
        refine G.pass rfl rfl rfl rfl rfl rfl ?_
        refine G.pass rfl rfl rfl rfl rfl rfl ?_
        refine G.pass rfl rfl rfl rfl rfl rfl ?_
        refine G.passU rfl rfl rfl rfl rfl ?_
        refine G.passU rfl rfl rfl rfl rfl ?_
        refine G.passU rfl rfl rfl rfl rfl ?_
        refine G.passU rfl rfl rfl rfl rfl ?_
        refine G.passU rfl rfl rfl rfl rfl ?_
        refine G.passU rfl rfl rfl rfl rfl ?_
        refine G.pass rfl rfl rfl rfl rfl rfl ?_
        refine G.op rfl (G.val rfl rfl (pv_pick rfl rfl) ?_)
        refine G.op rfl (G.val rfl rfl (pv_assign rfl) ?_)
        refine G.nil ?_
        refine G.nThen ?_
        refine G.seq ?_
        refine G.region ?_
        refine G.op rfl (G.val rfl rfl (pv_move rfl) ?_)
        refine G.op rfl (G.val rfl rfl (pv_move rfl) ?_)
        refine G.want rfl rfl rfl (G.val rfl rfl (pv_move rfl) ?_)
        refine G.op rfl (G.val rfl rfl (pv_pick rfl rfl) ?_)
        refine G.op rfl (G.val rfl rfl (pv_move rfl) ?_)
        refine G.want rfl rfl rfl (G.val rfl rfl (pv_move rfl) ?_)
        refine G.op rfl (G.val rfl rfl (pv_pick rfl rfl) ?_)
        refine G.op rfl (G.val rfl rfl (pv_move rfl) ?_)
        refine G.want rfl rfl rfl (G.val rfl rfl (pv_move rfl) ?_)
        refine G.op rfl (G.val rfl rfl (pv_pick rfl rfl) ?_)
        refine G.op rfl (G.val rfl rfl (pv_assign rfl) ?_)
        refine G.nil ?_
        refine G.nThen ?_
        refine G.ret ?_
        exact G.done1 rfl rfl .nil ⟨rfl, rfl⟩
      · refine G.want rfl rfl rfl (G.val rfl rfl (pv_move rfl) ?_)
        refine G.want rfl rfl rfl (G.cN rfl rfl rfl rfl Try.func35 rfl rfl (id_bad (b := ((bytesM b).take ky)) (a := 0) (by rw [lY]; omega) D3 v3' 0 (Nat.zero_le _) (by rw [lY]; omega)) (.cons (by repeat (first | with_reducible exact Sel.here | exact Sel.here | apply Sel.there)) (.cons (by repeat (first | with_reducible exact Sel.here | exact Sel.here | apply Sel.there)) .nil)) may0 ?_)
        rintro ⟨⟩ -
        simp only [List.cons_append, List.nil_append, Bool.false_or]
        rw [lY]
        refine G.want rfl rfl rfl (G.val rfl rfl (pv_build (cells := ((List.replicate 16 (0 : UInt8)).map vByte).toArray) (fun a ha => ha.pevs rfl) (by kernel_rfl)) ?_)
        refine G.want rfl rfl rfl (G.val rfl rfl ((pv_eqlAr8 (a := List.replicate 16 0) (b := List.replicate 16 0) Try.underlying37 rfl (by kernel_rfl) Try.underlying5 (by kernel_rfl) rfl rfl rfl rfl).cast (v' := .bool true) (congrArg Value.bool (by rfl))) ?_)
        refine G.want rfl rfl rfl (G.val rfl rfl (pv_move rfl) ?_)
        refine G.want rfl rfl rfl (G.val rfl rfl (pv_move rfl) ?_)
        refine G.want rfl rfl rfl (G.call0 rfl rfl rfl rfl Try.func31 rfl rfl (fault_tr D3 v3' true _ _ _) (may1 (Sel.may (by repeat (first | with_reducible exact Sel.here | exact Sel.here | apply Sel.there)))) ?_)
        refine G.want rfl rfl rfl (G.val rfl rfl (pv_move rfl) ?_)
        refine G.want rfl rfl rfl (G.val rfl rfl (pv_lenSl Try.underlying23 rfl) ?_)
        refine G.want rfl rfl rfl (G.val rfl rfl (pv_build (cells := #[.int .i64 4, .int .i64 (ky : Int)]) (fun a ha => ha.pevs rfl) (by kernel_rfl)) ?_)
        refine G.want rfl rfl rfl (G.val rfl rfl ((pv_eqlSt (xs := [.int .i64 4, .int .i64 (ky : Int)]) (ys := [.int .i64 4, .int .i64 (ky : Int)]) (r := decide ((4 : Int) = 4) && (decide ((ky : Int) = ky) && true)) Try.underlying51 (by kernel_rfl) (by kernel_rfl) rfl rfl (by kernel_rfl)).cast (v' := .bool true) (congrArg Value.bool (by simp))) ?_)
        refine G.want rfl rfl rfl (G.val rfl rfl (pv_pick rfl rfl) ?_)
        refine G.op rfl (G.val rfl rfl (pv_pick rfl rfl) ?_)
        refine G.op rfl (G.val rfl rfl (pv_assign rfl) ?_)
        refine G.nil ?_
        refine G.nThen ?_
        refine G.seq ?_
        refine G.region ?_
        refine G.op rfl (G.val rfl rfl (pv_move rfl) ?_)
        refine G.op rfl (G.val rfl rfl (pv_move rfl) ?_)
        refine G.want rfl rfl rfl (G.val rfl rfl (pv_move rfl) ?_)
        refine G.op rfl (G.val rfl rfl (pv_pick rfl rfl) ?_)
        refine G.op rfl (G.val rfl rfl (pv_move rfl) ?_)
        refine G.want rfl rfl rfl (G.val rfl rfl (pv_move rfl) ?_)
        refine G.op rfl (G.val rfl rfl (pv_pick rfl rfl) ?_)
        refine G.op rfl (G.val rfl rfl (pv_move rfl) ?_)
        refine G.want rfl rfl rfl (G.val rfl rfl (pv_move rfl) ?_)
        refine G.op rfl (G.val rfl rfl (pv_pick rfl rfl) ?_)
        refine G.op rfl (G.val rfl rfl (pv_assign rfl) ?_)
        refine G.nil ?_
        refine G.nThen ?_
        refine G.ret ?_
        exact G.done1 rfl rfl .nil ⟨rfl, rfl⟩
end Go.Proofs.Ytnfjpiancbgdhaa
