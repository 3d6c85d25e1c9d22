/- Contracts of layer 1's writer, more. Conditions: the writer is made, its bytes are not more than a thousand million. -/
import Derived.Test.YtakcffhknnailaaFW
set_option linter.unusedVariables false
set_option linter.unusedSimpArgs false
namespace Go.Proofs.Ytakcffhknnailaa
open Go.RowKit

set_option maxRecDepth 20000 in

theorem wint_bad (D : Nat) (bad : Bool) (v : Value) (bs : List UInt8) (x : Int) (hk : sizeM x = 0) (hb : bs.length ≤ 1000000000) : Tr Try.prog 34 #[.pointer (some ⟨D, 0, none⟩), .int .i64 x] [] [blk D 90 [.bool true, .bool bad, v], own 5 1 v bs.length (bs.map vByte)]
    (TX (fun _ : Value => True) (fun _ => .tuple #[]) (fun v => [blk D 90 [.bool true, .bool true, v], own 5 1 v bs.length (bs.map vByte)])) := by
  refine Tr.of (l := [(0, .pointer (some ⟨D, 0, none⟩)), (1, .int .i64 x)]) Try.func34 rfl (n := 61) rfl (.cons rfl (.cons rfl .nil)) (fun w0 hro => ?_)
  refine G.seq ?_
  refine G.seq ?_
  refine G.region ?_
  refine G.op rfl (G.val rfl rfl (pv_move rfl) ?_)
  refine G.op rfl (G.val rfl rfl (pv_eqlP0 Try.underlying58 rfl rfl) ?_)
  refine G.op rfl (G.val rfl rfl (pv_move rfl) ?_)
  refine G.want rfl rfl rfl (G.val rfl rfl (pv_move rfl) ?_)
  refine G.want rfl rfl rfl (G.val rfl rfl (pv_nilCheck rfl) ?_)
  refine G.want rfl rfl rfl (G.val rfl rfl (pv_fieldAddr (sz := 0) Try.underlying90 rfl (by kernel_rfl) rfl) ?_)
  refine G.want rfl rfl rfl (G.val rfl rfl (pv_load Try.underlying4 rfl rfl (blk_cell (v := .bool true) .here rfl)) ?_)
  refine G.want rfl rfl rfl (G.val rfl rfl (pv_not rfl) ?_)
  refine G.op rfl (G.val rfl rfl (pv_pick rfl rfl) ?_)
  refine G.nil ?_
  refine G.nThen ?_
  refine G.condF rfl (rfl) ?_
  refine G.skip ?_
  refine G.nThen ?_
  refine G.seq ?_
  refine G.region ?_
  refine G.op rfl (G.val rfl rfl (pv_move rfl) ?_)
  refine G.op rfl (G.call0 rfl rfl rfl rfl Try.func61 rfl rfl (by have := size_tr x; rw [hk] at this; exact this) may0 ?_)
  refine G.op rfl (G.val rfl rfl (pv_assign rfl) ?_)
  refine G.nil ?_
  refine G.nThen ?_
  refine G.seq ?_
  refine G.cut (X := Unit) (fun _ => True) (fun _ => [(0, .pointer (some ⟨D, 0, none⟩)), (1, .int .i64 x), (4, .int .i64 0)]) (fun _ => [blk D 90 [.bool true, .bool true, v], own 5 1 v bs.length (bs.map vByte)]) ?_ ?_
  · refine G.region ?_
    refine G.op rfl (G.val rfl rfl (pv_move rfl) ?_)
    refine G.op rfl (G.val rfl rfl (pv_move rfl) ?_)
    refine G.op rfl (G.val rfl rfl (pv_nilCheck rfl) ?_)
    refine G.op rfl (G.val rfl rfl (pv_fieldAddr (sz := 0) Try.underlying90 rfl (by kernel_rfl) rfl) ?_)
    refine G.op rfl (G.val rfl rfl (pv_load Try.underlying4 rfl rfl (blk_cell (v := .bool bad) .here rfl)) ?_)
    refine G.op rfl (G.val rfl rfl (pv_move rfl) ?_)
    refine G.part (t := 23) rfl (fun h23 => ?_) (fun h23 => ?_)
    · obtain rfl : bad = true := (by assumption)
      refine G.pass rfl rfl rfl rfl rfl rfl ?_
      refine G.pass rfl rfl rfl rfl rfl rfl ?_
      refine G.op rfl (G.val rfl rfl (pv_pick rfl rfl) ?_)
      refine G.op rfl (G.val rfl rfl (pv_nilCheck rfl) ?_)
      refine G.op rfl (G.val rfl rfl (pv_fieldAddr (sz := 0) Try.underlying90 rfl (by kernel_rfl) rfl) ?_)
      refine G.op rfl (G.store (by kernel_rfl) rfl rfl rfl (by repeat (first | with_reducible exact Sel.here | exact Sel.here | apply Sel.there)) (by first | (simp; done) | exact Nat.le_of_ble_eq_true rfl) ?_)
      refine G.nil ?_
      exact G.meet (()) (by exact trivial) (.consE rfl (by first | rfl | exact int_eq (by omega) | exact congrArg _ (by omega)) (.consE rfl (by first | rfl | exact int_eq (by omega) | exact congrArg _ (by omega)) (.consE rfl (by first | rfl | exact int_eq (by omega) | exact congrArg _ (by omega)) .nil))) (.cons (by repeat (first | with_reducible exact Sel.here | exact Sel.here | apply Sel.there)) (.cons (by repeat (first | with_reducible exact Sel.here | exact Sel.here | apply Sel.there)) .nil))
    · refine G.want rfl rfl rfl (G.val rfl rfl (pv_move rfl) ?_)
      refine G.want rfl rfl rfl (G.val rfl rfl (pv_eql rfl rfl) ?_)
      refine G.op rfl (G.val rfl rfl (pv_pick rfl rfl) ?_)
      refine G.op rfl (G.val rfl rfl (pv_nilCheck rfl) ?_)
      refine G.op rfl (G.val rfl rfl (pv_fieldAddr (sz := 0) Try.underlying90 rfl (by kernel_rfl) rfl) ?_)
      refine G.op rfl (G.store (by kernel_rfl) rfl rfl rfl (by repeat (first | with_reducible exact Sel.here | exact Sel.here | apply Sel.there)) (by first | (simp; done) | exact Nat.le_of_ble_eq_true rfl) ?_)
      refine G.nil ?_
      exact G.meet (()) (by exact trivial) (.consE rfl (by first | rfl | exact int_eq (by omega) | exact congrArg _ (by omega)) (.consE rfl (by first | rfl | exact int_eq (by omega) | exact congrArg _ (by omega)) (.consE rfl (by first | rfl | exact int_eq (by omega) | exact congrArg _ (by omega)) .nil))) (.cons (by repeat (first | with_reducible exact Sel.here | exact Sel.here | apply Sel.there)) (.cons (by repeat (first | with_reducible exact Sel.here | exact Sel.here | apply Sel.there)) .nil))
  · rintro _ _
    show G _ _ _ [(0, .pointer (some ⟨D, 0, none⟩)), (1, .int .i64 x), (4, .int .i64 0)] [blk D 90 [.bool true, .bool true, v], own 5 1 v bs.length (bs.map vByte)] _
    refine G.seq ?_
    refine G.region ?_
    refine G.op rfl (G.alloc (z := .agg (Array.replicate 5 (.int .u8 0))) (cs := allM x 0) rfl (by kernel_rfl) rfl ?_)
    intro b5
    refine G.nil ?_
    refine G.nThen ?_
    refine G.seq ?_
    refine G.seq ?_
    refine G.region ?_
    refine G.op rfl (G.val rfl rfl (pv_move rfl) ?_)
    refine G.op rfl (G.val rfl rfl (pv_move rfl) ?_)
    refine G.nil ?_
    refine G.nThen ?_
    refine G.block ?_
    refine G.loop (X := Unit) (fun _ => True) (fun _ => [(30, .int .i64 0), (29, .int .i64 0), (0, .pointer (some ⟨D, 0, none⟩)), (4, .int .i64 0), (5, .pointer (some ⟨b5, 0, none⟩))]) (fun _ => [blk b5 92 (allM x 0), blk D 90 [.bool true, .bool true, v], own 5 1 v bs.length (bs.map vByte)]) (fun _ => 0) (x0 := ()) (trivial) (.consE rfl (by first | rfl | exact int_eq (by omega) | exact congrArg _ (by omega)) (.consE rfl (by first | rfl | exact int_eq (by omega) | exact congrArg _ (by omega)) (.consE rfl (by first | rfl | exact int_eq (by omega) | exact congrArg _ (by omega)) (.consE rfl (by first | rfl | exact int_eq (by omega) | exact congrArg _ (by omega)) (.consE rfl (by first | rfl | exact int_eq (by omega) | exact congrArg _ (by omega)) .nil))))) (.cons (by repeat (first | with_reducible exact Sel.here | exact Sel.here | apply Sel.there)) (.cons (by repeat (first | with_reducible exact Sel.here | exact Sel.here | apply Sel.there)) (.cons (by repeat (first | with_reducible exact Sel.here | exact Sel.here | apply Sel.there)) .nil))) (fun _ hJ => ?_)
    show G _ _ _ [(30, .int .i64 0), (29, .int .i64 0), (0, .pointer (some ⟨D, 0, none⟩)), (4, .int .i64 0), (5, .pointer (some ⟨b5, 0, none⟩))] [blk b5 92 (allM x 0), blk D 90 [.bool true, .bool true, v], own 5 1 v bs.length (bs.map vByte)] _
    refine G.seq ?_
    refine G.region ?_
    refine G.op rfl (G.val rfl rfl (pv_lss rfl rfl) ?_)
    refine G.nil ?_
    refine G.nThen ?_
    refine G.seq ?_
    refine G.condF rfl (rfl) ?_
    refine G.exit ?_
    refine G.eThen ?_
    refine G.eThen ?_
    refine G.eBlock ?_
    refine G.nThen ?_
    refine G.seq ?_
    refine G.seq ?_
    refine G.region ?_
    refine G.op rfl (G.val rfl rfl (pv_move rfl) ?_)
    refine G.op rfl (G.val rfl rfl (pv_gtr rfl rfl) ?_)
    refine G.nil ?_
    refine G.nThen ?_
    refine G.condF rfl (rfl) ?_
    refine G.skip ?_
    refine G.nThen ?_
    refine G.drawn (by kernel_rfl) (k := 12) rfl [] ?_
    refine G.take (i := 0) rfl rfl rfl (by kernel_rfl) (by kernel_rfl) (by kernel_rfl) (fun _ _ _ h => h) rfl (pv_move rfl) Sub.nil ?_
    refine G.take (i := 1) rfl rfl rfl (by kernel_rfl) (by kernel_rfl) (by kernel_rfl) (fun _ _ _ h => h) rfl (pv_move rfl) Sub.nil ?_
    refine G.take (i := 2) rfl rfl rfl (by kernel_rfl) (by kernel_rfl) (by kernel_rfl) (fun _ _ _ h => h) rfl (pv_nilCheck rfl) Sub.nil ?_
    refine G.take (i := 3) rfl rfl rfl (by kernel_rfl) (by kernel_rfl) (by kernel_rfl) (fun _ _ _ h => h) rfl (pv_fieldAddr (sz := 0) Try.underlying90 rfl (by kernel_rfl) rfl) Sub.nil ?_
    refine G.take (i := 5) rfl rfl rfl (by kernel_rfl) (by kernel_rfl) (by kernel_rfl) (fun _ _ _ h => h) rfl (pv_move rfl) Sub.nil ?_
    refine G.take (i := 6) rfl rfl rfl (by kernel_rfl) (by kernel_rfl) (by kernel_rfl) (fun _ _ _ h => h) rfl (pv_sub64 rfl rfl (by omega)) Sub.nil ?_
    refine G.take (i := 7) rfl rfl rfl (by kernel_rfl) (by kernel_rfl) (by kernel_rfl) (fun _ _ _ h => h) rfl (pv_subArO (k := 5) (k' := 0) (sz := 1) Try.underlying92 Try.sizeByte rfl rfl (by omega) (by omega)) Sub.nil ?_
    refine G.one (i := 4) (by kernel_rfl) ?_
    refine G.turnOp rfl rfl (G.val rfl rfl (pv_load Try.underlying24 rfl rfl (blk_cell (v := v) (.there .here) rfl)) ?_)
    refine G.back Sub.nil ?_
    refine G.one (i := 8) (by kernel_rfl) ?_
    refine G.turnOp rfl rfl (G.append (k := bs.length) (j := 0) (cs := bs.map vByte) (news := []) (b := b5) (off := subOff 5 5 0 1) rfl Try.underlying24 Try.infoByte' rfl rfl rfl (.there (.there .here)) (fun _ => rfl) (fun h => by cases h) rfl (fun w hw j u hu => by simp at hu) (by simp) (by omega) (by omega) ?_)
    intro v'
    refine G.ownFact .here (fun hv1 _ => ?_)
    refine G.back Sub.nil ?_
    refine G.take (i := 9) rfl rfl rfl (by kernel_rfl) (by kernel_rfl) (by kernel_rfl) (fun _ _ _ h => h) rfl (pv_nilCheck rfl) Sub.nil ?_
    refine G.take (i := 10) rfl rfl rfl (by kernel_rfl) (by kernel_rfl) (by kernel_rfl) (fun _ _ _ h => h) rfl (pv_fieldAddr (sz := 0) Try.underlying90 rfl (by kernel_rfl) rfl) Sub.nil ?_
    refine G.one (i := 11) (by kernel_rfl) ?_
    refine G.turnOp rfl rfl (G.store (o := 2) (by kernel_rfl) rfl rfl hv1 (.there (.there .here)) (by simp) ?_)
    refine G.back Sub.nil ?_
    refine G.over (by kernel_rfl) ?_
    exact G.doneE (m' := [blk D 90 [.bool true, .bool true, v'], own 5 1 v' bs.length (bs.map vByte)]) rfl (.cons .here (.cons (by rw [Nat.add_zero, List.append_nil]; exact .here) .nil)) ⟨v', trivial, rfl, rfl⟩
/-- a number that is written, whatever it is -/
theorem wint_any (D : Nat) (bad : Bool) (v : Value) (bs : List UInt8) (x : Int) (hb : bs.length ≤ 1000000000) : Tr Try.prog 34 #[.pointer (some ⟨D, 0, none⟩), .int .i64 x] [] [blk D 90 [.bool true, .bool bad, v], own 5 1 v bs.length (bs.map vByte)]
    (TX (fun _ : Value => True) (fun _ => .tuple #[]) (fun v => [blk D 90 [.bool true, .bool (bad || decide (sizeM x = 0)), v], own 5 1 v (bs ++ putM x).length ((bs ++ putM x).map vByte)])) := by
  by_cases hk : sizeM x = 0
  · have h := wint_bad D bad v bs x hk hb
    have e : putM x = [] := by unfold putM; rw [hk]; rfl
    rw [e, decide_eq_true hk, Bool.or_true, List.append_nil]
    exact h
  · have h := wint_tr D bad v bs x (sizeM x) rfl (by omega) hb
    rw [decide_eq_false hk, Bool.or_false, List.length_append, putM_length]
    exact h
set_option maxRecDepth 20000 in

theorem wintR_any (D : Nat) (bad : Bool) (v : Value) (bs : List UInt8) (x : Int) (hb : bs.length ≤ 1000000000) : Tr Try.prog 38 #[.pointer (some ⟨D, 0, none⟩), .int .i64 x] [] [blk D 65 [v, .bool bad], own 5 1 v bs.length (bs.map vByte)]
    (TX (fun _ : Value => True) (fun _ => .tuple #[]) (fun v => [blk D 65 [v, .bool (bad || decide (sizeM x = 0))], own 5 1 v (bs ++ putM x).length ((bs ++ putM x).map vByte)])) := by
  have h5 := sizeM_le x
  refine Tr.of (l := [(0, .pointer (some ⟨D, 0, none⟩)), (1, .int .i64 x)]) Try.func38 rfl (n := 20) rfl (.cons rfl (.cons rfl .nil)) (fun w0 hro => ?_)
  refine G.seq ?_
  refine G.cut (X := Unit) (fun _ => True) (fun _ => [(0, .pointer (some ⟨D, 0, none⟩)), (1, .int .i64 x)]) (fun _ => [blk D 65 [v, .bool (bad || decide (sizeM x = 0))], own 5 1 v bs.length (bs.map vByte)]) ?_ ?_
  · refine G.seq ?_
    refine G.region ?_
    refine G.op rfl (G.val rfl rfl (pv_move rfl) ?_)
    refine G.op rfl (G.call0 rfl rfl rfl rfl Try.func62 rfl rfl (sizeR_tr x) may0 ?_)
    refine G.op rfl (G.val rfl rfl (pv_eql rfl rfl) ?_)
    refine G.nil ?_
    refine G.nThen ?_
    refine G.condP rfl (fun h6 => ?_) (fun h6 => ?_)
    · refine G.region ?_
      refine G.op rfl (G.val rfl rfl (pv_move rfl) ?_)
      refine G.op rfl (G.val rfl rfl (pv_nilCheck rfl) ?_)
      refine G.op rfl (G.val rfl rfl (pv_fieldAddr (sz := 0) Try.underlying65 rfl (by kernel_rfl) rfl) ?_)
      refine G.op rfl (G.store (o := 1) (by kernel_rfl) rfl rfl rfl .here (by simp) ?_)
      refine G.nil ?_
      exact G.meet (()) (by exact trivial) (.consE rfl (by first | rfl | exact int_eq (by omega) | exact congrArg _ (by omega)) (.consE rfl (by first | rfl | exact int_eq (by omega) | exact congrArg _ (by omega)) .nil)) (.cons (by first | (rw [decide_eq_true (show sizeM x = 0 by omega), Bool.or_true]; exact .here) | (rw [decide_eq_false (show ¬ sizeM x = 0 by omega), Bool.or_false]; exact .here)) (.cons .here .nil))
    · refine G.skip ?_
      exact G.meet (()) (by exact trivial) (.consE rfl (by first | rfl | exact int_eq (by omega) | exact congrArg _ (by omega)) (.consE rfl (by first | rfl | exact int_eq (by omega) | exact congrArg _ (by omega)) .nil)) (.cons (by first | (rw [decide_eq_true (show sizeM x = 0 by omega), Bool.or_true]; exact .here) | (rw [decide_eq_false (show ¬ sizeM x = 0 by omega), Bool.or_false]; exact .here)) (.cons .here .nil))
  · rintro _ _
    show G _ _ _ [(0, .pointer (some ⟨D, 0, none⟩)), (1, .int .i64 x)] [blk D 65 [v, .bool (bad || decide (sizeM x = 0))], own 5 1 v bs.length (bs.map vByte)] _
    refine G.drawn (by kernel_rfl) (k := 11) rfl [] ?_
    refine G.take (i := 0) rfl rfl rfl (by kernel_rfl) (by kernel_rfl) (by kernel_rfl) (fun _ _ _ h => h) rfl (pv_move rfl) Sub.nil ?_
    refine G.take (i := 1) rfl rfl rfl (by kernel_rfl) (by kernel_rfl) (by kernel_rfl) (fun _ _ _ h => h) rfl (pv_move rfl) Sub.nil ?_
    refine G.take (i := 2) rfl rfl rfl (by kernel_rfl) (by kernel_rfl) (by kernel_rfl) (fun _ _ _ h => h) rfl (pv_nilCheck rfl) Sub.nil ?_
    refine G.take (i := 3) rfl rfl rfl (by kernel_rfl) (by kernel_rfl) (by kernel_rfl) (fun _ _ _ h => h) rfl (pv_fieldAddr (sz := 0) Try.underlying65 rfl (by kernel_rfl) rfl) Sub.nil ?_
    refine G.take (i := 5) rfl rfl rfl (by kernel_rfl) (by kernel_rfl) (by kernel_rfl) (fun _ _ _ h => h) rfl (pv_move rfl) Sub.nil ?_
    refine G.two (i := 4) (j := 6) (by kernel_rfl) ?_ ?_
    · refine G.turnOp rfl rfl (G.val rfl rfl (pv_load Try.underlying24 rfl rfl (blk_cell (v := v) (by repeat (first | with_reducible exact Sel.here | exact Sel.here | apply Sel.there)) rfl)) ?_)
      refine G.back Sub.nil ?_
      refine G.one (i := 6) (by kernel_rfl) ?_
      refine G.turnOp rfl rfl (G.c1 rfl rfl rfl rfl Try.func63 rfl rfl (put_tr x) Sub.nil may0 ?_)
      rintro u -
      refine G.back Sub.nil ?_
      refine G.one (i := 7) (by kernel_rfl) ?_
      refine G.turnOp rfl rfl (G.appendO (k := bs.length) (j := sizeM x) (cs := bs.map vByte) rfl Try.underlying24 Try.infoByte' rfl rfl rfl (.there (.there .here)) .here (vByte_one _) (by omega) (by omega) ?_)
      intro v'
      refine G.ownFact .here (fun hv1 _ => ?_)
      refine G.back Sub.nil ?_
      refine G.take (i := 8) rfl rfl rfl (by kernel_rfl) (by kernel_rfl) (by kernel_rfl) (fun _ _ _ h => h) rfl (pv_nilCheck rfl) Sub.nil ?_
      refine G.take (i := 9) rfl rfl rfl (by kernel_rfl) (by kernel_rfl) (by kernel_rfl) (fun _ _ _ h => h) rfl (pv_fieldAddr (sz := 0) Try.underlying65 rfl (by kernel_rfl) rfl) Sub.nil ?_
      refine G.one (i := 10) (by kernel_rfl) ?_
      refine G.turnOp rfl rfl (G.store (o := 0) (by kernel_rfl) rfl rfl hv1 (by repeat (first | with_reducible exact Sel.here | exact Sel.here | apply Sel.there)) (by simp) ?_)
      refine G.back Sub.nil ?_
      refine G.over (by kernel_rfl) ?_
      exact G.doneE (m' := [blk D 65 [v', .bool (bad || decide (sizeM x = 0))], own 5 1 v' (bs ++ putM x).length ((bs ++ putM x).map vByte)]) rfl (.cons .here (.cons (by rw [List.length_append, putM_length, List.map_append]; repeat (first | with_reducible exact Sel.here | apply Sel.there)) .nil)) ⟨v', trivial, rfl, rfl⟩
    · refine G.turnOp rfl rfl (G.c1 rfl rfl rfl rfl Try.func63 rfl rfl (put_tr x) Sub.nil may0 ?_)
      rintro u -
      refine G.back Sub.nil ?_
      refine G.one (i := 4) (by kernel_rfl) ?_
      refine G.turnOp rfl rfl (G.val rfl rfl (pv_load Try.underlying24 rfl rfl (blk_cell (v := v) (by repeat (first | with_reducible exact Sel.here | exact Sel.here | apply Sel.there)) rfl)) ?_)
      refine G.back Sub.nil ?_
      refine G.one (i := 7) (by kernel_rfl) ?_
      refine G.turnOp rfl rfl (G.appendO (k := bs.length) (j := sizeM x) (cs := bs.map vByte) rfl Try.underlying24 Try.infoByte' rfl rfl rfl (.there (.there .here)) .here (vByte_one _) (by omega) (by omega) ?_)
      intro v'
      refine G.ownFact .here (fun hv1 _ => ?_)
      refine G.back Sub.nil ?_
      refine G.take (i := 8) rfl rfl rfl (by kernel_rfl) (by kernel_rfl) (by kernel_rfl) (fun _ _ _ h => h) rfl (pv_nilCheck rfl) Sub.nil ?_
      refine G.take (i := 9) rfl rfl rfl (by kernel_rfl) (by kernel_rfl) (by kernel_rfl) (fun _ _ _ h => h) rfl (pv_fieldAddr (sz := 0) Try.underlying65 rfl (by kernel_rfl) rfl) Sub.nil ?_
      refine G.one (i := 10) (by kernel_rfl) ?_
      refine G.turnOp rfl rfl (G.store (o := 0) (by kernel_rfl) rfl rfl hv1 (by repeat (first | with_reducible exact Sel.here | exact Sel.here | apply Sel.there)) (by simp) ?_)
      refine G.back Sub.nil ?_
      refine G.over (by kernel_rfl) ?_
      exact G.doneE (m' := [blk D 65 [v', .bool (bad || decide (sizeM x = 0))], own 5 1 v' (bs ++ putM x).length ((bs ++ putM x).map vByte)]) rfl (.cons .here (.cons (by rw [List.length_append, putM_length, List.map_append]; repeat (first | with_reducible exact Sel.here | apply Sel.there)) .nil)) ⟨v', trivial, rfl, rfl⟩
end Go.Proofs.Ytakcffhknnailaa
