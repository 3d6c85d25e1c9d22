/- The statement FieldOrder. Conditions: none. -/
import Derived.Test.YtnfjpiancbgdhaaFA
set_option linter.unusedVariables false
set_option linter.unusedSimpArgs false
namespace Go.Proofs.Ytnfjpiancbgdhaa
open Go.RowKit

set_option maxRecDepth 20000 in

theorem order_tr (x y : Int) : Tr Try.prog 3 #[.int .i64 x, .int .i64 y] [] [] (T0 (.bool true)) := by
  refine Tr.of (l := [(0, .int .i64 x), (1, .int .i64 y)]) Try.func3 rfl (n := 95) rfl (.cons rfl (.cons rfl .nil)) (fun w0 hro => ?_)
  have lx := putM_length x
  have ly := putM_length y
  have lx5 := sizeM_le x
  have ly5 := sizeM_le y
  have ex := putM_empty (x := x)
  have ey := putM_empty (x := y)
  refine G.seq ?_
  refine G.region ?_
  refine G.op rfl (G.val rfl rfl (pv_assign rfl) ?_)
  refine G.nil ?_
  refine G.nThen ?_
  refine G.seq ?_
  refine G.region ?_
  refine G.op rfl (G.call0 rfl rfl rfl rfl Try.func8 rfl rfl (awake_tr) may0 ?_)
  refine G.op rfl (G.val rfl rfl (pv_assign rfl) ?_)
  refine G.nil ?_
  refine G.nThen ?_
  refine G.seq ?_
  refine G.region ?_
  refine G.op rfl (G.val rfl rfl (pv_move rfl) ?_)
  refine G.op rfl (G.cN rfl rfl rfl rfl Try.func9 rfl rfl (num_tr x) .nil may0 ?_)
  rintro vx -
  simp only [List.cons_append, List.nil_append]
  refine G.ownOpen .here (fun ad cap hvx _ _ => ?_)
  subst hvx
  refine G.op rfl (G.val rfl rfl (pv_move rfl) ?_)
  refine G.op rfl (G.cN rfl rfl rfl rfl Try.func9 rfl rfl (num_tr y) .nil may0 ?_)
  rintro vy -
  simp only [List.cons_append, List.nil_append]
  refine G.ownOpen .here (fun ad' cap' hvy _ _ => ?_)
  subst hvy
  refine G.op rfl (G.val rfl rfl (pv_assign rfl) ?_)
  refine G.op rfl (G.val rfl rfl (pv_assign rfl) ?_)
  refine G.nil ?_
  refine G.nThen ?_
  refine G.seq ?_
  refine G.seq ?_
  refine G.cut (X := Unit) (fun _ => True) (fun _ => [(36, .bool false), (5, .bool true), (6, (.slice ad (putM x).length cap)), (7, (.slice ad' (putM y).length cap')), (0, .int .i64 x), (1, .int .i64 y)]) (fun _ => [own 5 1 (.slice ad (putM x).length cap) (putM x).length ((putM x).map vByte), own 5 1 (.slice ad' (putM y).length cap') (putM y).length ((putM y).map vByte)]) ?_ ?_
  · refine G.region ?_
    refine G.op rfl (G.val rfl rfl (pv_move rfl) ?_)
    refine G.op rfl (G.val rfl rfl (pv_lenSl Try.underlying23 rfl) ?_)
    refine G.op rfl (G.val rfl rfl (pv_move rfl) ?_)
    refine G.op rfl (G.call0 rfl rfl rfl rfl Try.func10 rfl rfl (size_tr x) may0 ?_)
    refine G.op rfl (G.val rfl rfl ((pv_neq rfl rfl).cast (v' := .bool false) (congrArg Value.bool (by rw [lx]; simp))) ?_)
    refine G.op rfl (G.val rfl rfl (pv_move rfl) ?_)
    refine G.want rfl rfl rfl (G.val rfl rfl (pv_move rfl) ?_)
    refine G.want rfl rfl rfl (G.val rfl rfl (pv_lenSl Try.underlying23 rfl) ?_)
    refine G.want rfl rfl rfl (G.val rfl rfl (pv_move rfl) ?_)
    refine G.want rfl rfl rfl (G.call0 rfl rfl rfl rfl Try.func10 rfl rfl (size_tr y) may0 ?_)
    refine G.want rfl rfl rfl (G.val rfl rfl ((pv_neq rfl rfl).cast (v' := .bool false) (congrArg Value.bool (by rw [ly]; simp))) ?_)
    refine G.op rfl (G.val rfl rfl (pv_pick rfl rfl) ?_)
    refine G.op rfl (G.val rfl rfl (pv_move rfl) ?_)
    refine G.want rfl rfl rfl (G.val rfl rfl (pv_move rfl) ?_)
    refine G.want rfl rfl rfl (G.val rfl rfl (pv_lenSl Try.underlying23 rfl) ?_)
    refine G.want rfl rfl rfl (G.val rfl rfl (pv_eql rfl rfl) ?_)
    refine G.want rfl rfl rfl (G.val rfl rfl (pv_move rfl) ?_)
    refine G.want rfl rfl rfl (G.val rfl rfl (pv_lss rfl rfl) ?_)
    refine G.want rfl rfl rfl (G.val rfl rfl (pv_move rfl) ?_)
    refine G.partP (t := 31) rfl (fun h31 => ?_) (fun h31 => ?_)
    · refine G.pass rfl rfl rfl rfl rfl rfl ?_
      refine G.pass rfl rfl rfl rfl rfl rfl ?_
      refine G.want rfl rfl rfl (G.val rfl rfl (pv_pick rfl rfl) ?_)
      refine G.want rfl rfl rfl (G.val rfl rfl ((pv_neqB Try.underlying4 rfl rfl).cast (v' := .bool false) (congrArg Value.bool (by first | (rw [decide_eq_true (show ((putM x).length : Int) = 0 by omega)]; rfl) | (by_cases hq : (putM x).length = 0 <;> simp [*] <;> omega)))) ?_)
      refine G.op rfl (G.val rfl rfl (pv_pick rfl rfl) ?_)
      refine G.nil ?_
      exact G.meet (()) (by exact trivial) (.consE rfl (by first | rfl | exact int_eq (by omega) | exact congrArg _ (by omega)) (.consE rfl (by first | rfl | exact int_eq (by omega) | exact congrArg _ (by omega)) (.consE rfl (by first | rfl | exact int_eq (by omega) | exact congrArg _ (by omega)) (.consE rfl (by first | rfl | exact int_eq (by omega) | exact congrArg _ (by omega)) (.consE rfl (by first | rfl | exact int_eq (by omega) | exact congrArg _ (by omega)) (.consE rfl (by first | rfl | exact int_eq (by omega) | exact congrArg _ (by omega)) .nil)))))) (.cons (by repeat (first | with_reducible exact Sel.here | exact Sel.here | apply Sel.there)) (.cons (by repeat (first | with_reducible exact Sel.here | exact Sel.here | apply Sel.there)) .nil))
    · refine G.want rfl rfl rfl (G.val rfl rfl (pv_move rfl) ?_)
      refine G.want rfl rfl rfl (G.val rfl rfl (pv_gtr rfl rfl) ?_)
      refine G.want rfl rfl rfl (G.val rfl rfl (pv_pick rfl rfl) ?_)
      refine G.want rfl rfl rfl (G.val rfl rfl ((pv_neqB Try.underlying4 rfl rfl).cast (v' := .bool false) (congrArg Value.bool (by first | (rw [decide_eq_true (show ((putM x).length : Int) = 0 by omega)]; rfl) | (by_cases hq : (putM x).length = 0 <;> simp [*] <;> omega)))) ?_)
      refine G.op rfl (G.val rfl rfl (pv_pick rfl rfl) ?_)
      refine G.nil ?_
      exact G.meet (()) (by exact trivial) (.consE rfl (by first | rfl | exact int_eq (by omega) | exact congrArg _ (by omega)) (.consE rfl (by first | rfl | exact int_eq (by omega) | exact congrArg _ (by omega)) (.consE rfl (by first | rfl | exact int_eq (by omega) | exact congrArg _ (by omega)) (.consE rfl (by first | rfl | exact int_eq (by omega) | exact congrArg _ (by omega)) (.consE rfl (by first | rfl | exact int_eq (by omega) | exact congrArg _ (by omega)) (.consE rfl (by first | rfl | exact int_eq (by omega) | exact congrArg _ (by omega)) .nil)))))) (.cons (by repeat (first | with_reducible exact Sel.here | exact Sel.here | apply Sel.there)) (.cons (by repeat (first | with_reducible exact Sel.here | exact Sel.here | apply Sel.there)) .nil))
  · rintro _ _
    show G _ _ _ [(36, .bool false), (5, .bool true), (6, (.slice ad (putM x).length cap)), (7, (.slice ad' (putM y).length cap')), (0, .int .i64 x), (1, .int .i64 y)] [own 5 1 (.slice ad (putM x).length cap) (putM x).length ((putM x).map vByte), own 5 1 (.slice ad' (putM y).length cap') (putM y).length ((putM y).map vByte)] _
    refine G.condF rfl (rfl) ?_
    refine G.skip ?_
    refine G.nThen ?_
    refine G.seq ?_
    refine G.seq ?_
    refine G.cut (X := Bool) (fun q => (q = true → (putM x).length = 0 ∨ (putM y).length = 0 ∨ y ≤ x) ∧ (q = false → 0 < (putM x).length ∧ 0 < (putM y).length ∧ x < y)) (fun q => [(49, .bool q), (5, .bool true), (6, (.slice ad (putM x).length cap)), (7, (.slice ad' (putM y).length cap')), (0, .int .i64 x), (1, .int .i64 y)]) (fun q => [own 5 1 (.slice ad (putM x).length cap) (putM x).length ((putM x).map vByte), own 5 1 (.slice ad' (putM y).length cap') (putM y).length ((putM y).map vByte)]) ?_ ?_
    · refine G.region ?_
      refine G.op rfl (G.val rfl rfl (pv_move rfl) ?_)
      refine G.op rfl (G.val rfl rfl (pv_lenSl Try.underlying23 rfl) ?_)
      refine G.op rfl (G.val rfl rfl (pv_eql rfl rfl) ?_)
      refine G.op rfl (G.val rfl rfl (pv_move rfl) ?_)
      refine G.partP (t := 40) rfl (fun h40 => ?_) (fun h40 => ?_)
      · refine G.pass rfl rfl rfl rfl rfl rfl ?_
        refine G.pass rfl rfl rfl rfl rfl rfl ?_
        refine G.pass rfl rfl rfl rfl rfl rfl ?_
        refine G.op rfl (G.val rfl rfl (pv_pick rfl rfl) ?_)
        refine G.op rfl (G.val rfl rfl (pv_move rfl) ?_)
        refine G.pass rfl rfl rfl rfl rfl rfl ?_
        refine G.pass rfl rfl rfl rfl rfl rfl ?_
        refine G.pass rfl rfl rfl rfl rfl rfl ?_
        refine G.op rfl (G.val rfl rfl (pv_pick rfl rfl) ?_)
        refine G.nil ?_
        first | exact G.meet true (by exact ⟨(fun _ => by omega), (fun h => by cases h)⟩) (by first | exact .cons rfl (.cons rfl (.cons rfl (.cons rfl (.cons rfl (.cons rfl .nil))))) | done) (.cons (by repeat (first | with_reducible exact Sel.here | exact Sel.here | apply Sel.there)) (.cons (by repeat (first | with_reducible exact Sel.here | exact Sel.here | apply Sel.there)) .nil)) | exact G.meet (decide (y ≤ x)) (by exact ⟨(fun h => .inr (.inr (of_decide_eq_true h))), (fun h => by have := of_decide_eq_false h; omega)⟩) (.cons rfl (.cons rfl (.cons rfl (.cons rfl (.cons rfl (.cons rfl .nil)))))) (.cons (by repeat (first | with_reducible exact Sel.here | exact Sel.here | apply Sel.there)) (.cons (by repeat (first | with_reducible exact Sel.here | exact Sel.here | apply Sel.there)) .nil))
      · refine G.want rfl rfl rfl (G.val rfl rfl (pv_move rfl) ?_)
        refine G.want rfl rfl rfl (G.val rfl rfl (pv_lenSl Try.underlying23 rfl) ?_)
        refine G.want rfl rfl rfl (G.val rfl rfl (pv_eql rfl rfl) ?_)
        refine G.op rfl (G.val rfl rfl (pv_pick rfl rfl) ?_)
        refine G.op rfl (G.val rfl rfl (pv_move rfl) ?_)
        refine G.partP (t := 45) rfl (fun h45 => ?_) (fun h45 => ?_)
        · refine G.pass rfl rfl rfl rfl rfl rfl ?_
          refine G.pass rfl rfl rfl rfl rfl rfl ?_
          refine G.pass rfl rfl rfl rfl rfl rfl ?_
          refine G.op rfl (G.val rfl rfl (pv_pick rfl rfl) ?_)
          refine G.nil ?_
          first | exact G.meet true (by exact ⟨(fun _ => by omega), (fun h => by cases h)⟩) (by first | exact .cons rfl (.cons rfl (.cons rfl (.cons rfl (.cons rfl (.cons rfl .nil))))) | done) (.cons (by repeat (first | with_reducible exact Sel.here | exact Sel.here | apply Sel.there)) (.cons (by repeat (first | with_reducible exact Sel.here | exact Sel.here | apply Sel.there)) .nil)) | exact G.meet (decide (y ≤ x)) (by exact ⟨(fun h => .inr (.inr (of_decide_eq_true h))), (fun h => by have := of_decide_eq_false h; omega)⟩) (.cons rfl (.cons rfl (.cons rfl (.cons rfl (.cons rfl (.cons rfl .nil)))))) (.cons (by repeat (first | with_reducible exact Sel.here | exact Sel.here | apply Sel.there)) (.cons (by repeat (first | with_reducible exact Sel.here | exact Sel.here | apply Sel.there)) .nil))
        · refine G.want rfl rfl rfl (G.val rfl rfl (pv_move rfl) ?_)
          refine G.want rfl rfl rfl (G.val rfl rfl (pv_move rfl) ?_)
          refine G.want rfl rfl rfl (G.val rfl rfl (pv_geq rfl rfl) ?_)
          refine G.op rfl (G.val rfl rfl (pv_pick rfl rfl) ?_)
          refine G.nil ?_
          first | exact G.meet true (by exact ⟨(fun _ => by omega), (fun h => by cases h)⟩) (by first | exact .cons rfl (.cons rfl (.cons rfl (.cons rfl (.cons rfl (.cons rfl .nil))))) | done) (.cons (by repeat (first | with_reducible exact Sel.here | exact Sel.here | apply Sel.there)) (.cons (by repeat (first | with_reducible exact Sel.here | exact Sel.here | apply Sel.there)) .nil)) | exact G.meet (decide (y ≤ x)) (by exact ⟨(fun h => .inr (.inr (of_decide_eq_true h))), (fun h => by have := of_decide_eq_false h; omega)⟩) (.cons rfl (.cons rfl (.cons rfl (.cons rfl (.cons rfl (.cons rfl .nil)))))) (.cons (by repeat (first | with_reducible exact Sel.here | exact Sel.here | apply Sel.there)) (.cons (by repeat (first | with_reducible exact Sel.here | exact Sel.here | apply Sel.there)) .nil))
    · rintro q ⟨hq1, hq2⟩
      show G _ _ _ [(49, .bool q), (5, .bool true), (6, (.slice ad (putM x).length cap)), (7, (.slice ad' (putM y).length cap')), (0, .int .i64 x), (1, .int .i64 y)] [own 5 1 (.slice ad (putM x).length cap) (putM x).length ((putM x).map vByte), own 5 1 (.slice ad' (putM y).length cap') (putM y).length ((putM y).map vByte)] _
      refine G.cond rfl (fun h49 => ?_) (fun h49 => ?_)
      · have hq := hq1 h49
        refine G.seq ?_
        refine G.region ?_
        refine G.op rfl (G.val rfl rfl (pv_move rfl) ?_)
        refine G.op rfl (G.val rfl rfl (pv_move rfl) ?_)
        refine G.want rfl rfl rfl (G.val rfl rfl (pv_move rfl) ?_)
        refine G.want rfl rfl rfl (G.val rfl rfl (pv_move rfl) ?_)
        refine G.want rfl rfl rfl (G.val rfl rfl (pv_neq rfl rfl) ?_)
        refine G.want rfl rfl rfl (G.val rfl rfl (pv_move rfl) ?_)
        refine G.partP (t := 55) rfl (fun h55 => ?_) (fun h55 => ?_)
        · refine G.pass rfl rfl rfl rfl rfl rfl ?_
          refine G.pass rfl rfl rfl rfl rfl rfl ?_
          refine G.pass rfl rfl rfl rfl rfl rfl ?_
          refine G.want rfl rfl rfl (G.val rfl rfl (pv_pick rfl rfl) ?_)
          refine G.op rfl (G.val rfl rfl (pv_pick rfl rfl) ?_)
          refine G.op rfl (G.val rfl rfl (pv_assign rfl) ?_)
          refine G.nil ?_
          refine G.nThen ?_
          refine G.ret ?_
          refine G.rThen ?_
          first | exact G.done1 rfl rfl .nil ⟨rfl, rfl⟩ | exact G.done1 rfl rfl .nil ⟨congrArg Value.bool (by rw [decide_eq_false (putM_prefix (x := x) (y := y) (by omega) (by omega) hxy)]; rfl), rfl⟩ | (obtain rfl : x = y := (by omega); exact G.done1 rfl rfl .nil ⟨congrArg Value.bool (by simp), rfl⟩)
        · refine G.want rfl rfl rfl (G.val rfl rfl (pv_move rfl) ?_)
          refine G.want rfl rfl rfl (G.val rfl rfl (pv_move rfl) ?_)
          refine G.want rfl rfl rfl (G.call0 rfl rfl rfl rfl Try.func11 rfl rfl (same_tr _ _ (putM x) (putM y)) (may2 (may_own (f := vByte) (p := fun _ => True) (xs := (putM x)) (by repeat (first | with_reducible exact Sel.here | exact Sel.here | apply Sel.there)) rfl (fun _ _ => trivial)) (may_own (f := vByte) (p := fun _ => True) (xs := (putM y)) (by repeat (first | with_reducible exact Sel.here | exact Sel.here | apply Sel.there)) rfl (fun _ _ => trivial))) ?_)
          refine G.want rfl rfl rfl (G.val rfl rfl (pv_pick rfl rfl) ?_)
          refine G.op rfl (G.val rfl rfl (pv_pick rfl rfl) ?_)
          refine G.op rfl (G.val rfl rfl (pv_assign rfl) ?_)
          refine G.nil ?_
          refine G.nThen ?_
          refine G.ret ?_
          refine G.rThen ?_
          first | exact G.done1 rfl rfl .nil ⟨rfl, rfl⟩ | exact G.done1 rfl rfl .nil ⟨congrArg Value.bool (by rw [decide_eq_false (putM_prefix (x := x) (y := y) (by omega) (by omega) hxy)]; rfl), rfl⟩ | (obtain rfl : x = y := (by omega); exact G.done1 rfl rfl .nil ⟨congrArg Value.bool (by simp), rfl⟩)
      · obtain ⟨hx0, hy0, hxy⟩ := hq2 h49
        have hsm := sizeM_mono (x := x) (y := y) (by omega) (by omega) hxy
        refine G.skip ?_
        refine G.nThen ?_
        refine G.seq ?_
        refine G.seq ?_
        refine G.region ?_
        refine G.op rfl (G.val rfl rfl (pv_move rfl) ?_)
        refine G.op rfl (G.val rfl rfl (pv_lenSl Try.underlying23 rfl) ?_)
        refine G.op rfl (G.val rfl rfl (pv_move rfl) ?_)
        refine G.op rfl (G.val rfl rfl (pv_lenSl Try.underlying23 rfl) ?_)
        refine G.op rfl (G.val rfl rfl ((pv_gtr rfl rfl).cast (v' := .bool false) (congrArg Value.bool (by exact decide_eq_false (by omega)))) ?_)
        refine G.op rfl (G.val rfl rfl (pv_move rfl) ?_)
        refine G.want rfl rfl rfl (G.val rfl rfl (pv_move rfl) ?_)
        refine G.want rfl rfl rfl (G.val rfl rfl (pv_lenSl Try.underlying23 rfl) ?_)
        refine G.want rfl rfl rfl (G.val rfl rfl (pv_move rfl) ?_)
        refine G.want rfl rfl rfl (G.val rfl rfl (pv_lenSl Try.underlying23 rfl) ?_)
        refine G.want rfl rfl rfl (G.val rfl rfl (pv_eql rfl rfl) ?_)
        refine G.want rfl rfl rfl (G.val rfl rfl (pv_move rfl) ?_)
        refine G.partP (t := 72) rfl (fun h72 => ?_) (fun h72 => ?_)
        · refine G.want rfl rfl rfl (G.val rfl rfl (pv_move rfl) ?_)
          refine G.want rfl rfl rfl (G.val rfl rfl (pv_toStr (xs := putM x) Try.underlying23 Try.underlying5 Try.underlying9 rfl (own_isSl (f := vByte) (p := fun _ => True) (xs := putM x) (by repeat (first | with_reducible exact Sel.here | exact Sel.here | apply Sel.there)) rfl (fun _ _ => trivial))) ?_)
          refine G.want rfl rfl rfl (G.val rfl rfl (pv_move rfl) ?_)
          refine G.want rfl rfl rfl (G.val rfl rfl (pv_toStr (xs := putM y) Try.underlying23 Try.underlying5 Try.underlying9 rfl (own_isSl (f := vByte) (p := fun _ => True) (xs := putM y) (by repeat (first | with_reducible exact Sel.here | exact Sel.here | apply Sel.there)) rfl (fun _ _ => trivial))) ?_)
          refine G.want rfl rfl rfl (G.val rfl rfl ((pv_geqS rfl rfl).cast (v' := .bool false) (congrArg Value.bool (by rw [putM_less (x := x) (y := y) (by omega) (by omega) hxy]; rfl))) ?_)
          refine G.want rfl rfl rfl (G.val rfl rfl (pv_pick rfl rfl) ?_)
          refine G.op rfl (G.val rfl rfl (pv_pick rfl rfl) ?_)
          refine G.op rfl (G.val rfl rfl (pv_move rfl) ?_)
          refine G.want rfl rfl rfl (G.val rfl rfl (pv_move rfl) ?_)
          refine G.want rfl rfl rfl (G.val rfl rfl (pv_lenSl Try.underlying23 rfl) ?_)
          refine G.want rfl rfl rfl (G.val rfl rfl ((pv_gtr rfl rfl).cast (v' := .bool false) (congrArg Value.bool (by exact decide_eq_false (by omega)))) ?_)
          refine G.op rfl (G.val rfl rfl (pv_pick rfl rfl) ?_)
          refine G.nil ?_
          refine G.nThen ?_
          refine G.condF rfl (rfl) ?_
          refine G.skip ?_
          refine G.nThen ?_
          refine G.seq ?_
          refine G.region ?_
          refine G.op rfl (G.val rfl rfl (pv_move rfl) ?_)
          refine G.op rfl (G.val rfl rfl (pv_move rfl) ?_)
          refine G.want rfl rfl rfl (G.val rfl rfl (pv_move rfl) ?_)
          refine G.want rfl rfl rfl (G.val rfl rfl (pv_move rfl) ?_)
          refine G.want rfl rfl rfl (G.val rfl rfl (pv_move rfl) ?_)
          refine G.want rfl rfl rfl (G.val rfl rfl (pv_lenSl Try.underlying23 rfl) ?_)
          refine G.want rfl rfl rfl (G.val rfl rfl (pv_subH (sz := 1) (k := (putM x).length) Try.underlying23 Try.sizeByte rfl rfl rfl (by omega)) ?_)
          refine G.want rfl rfl rfl (G.call0 rfl rfl rfl rfl Try.func11 rfl rfl (same_tr _ _ (putM x) ((putM y).take (putM x).length)) (may2 (may_own (f := vByte) (p := fun _ => True) (xs := (putM x)) (by repeat (first | with_reducible exact Sel.here | exact Sel.here | apply Sel.there)) rfl (fun _ _ => trivial)) (may_ownPre (f := vByte) (p := fun _ => True) (xs := (putM y)) (by repeat (first | with_reducible exact Sel.here | exact Sel.here | apply Sel.there)) rfl (fun _ _ => trivial) (by omega))) ?_)
          refine G.want rfl rfl rfl (G.val rfl rfl (pv_not rfl) ?_)
          refine G.op rfl (G.val rfl rfl (pv_pick rfl rfl) ?_)
          refine G.op rfl (G.val rfl rfl (pv_assign rfl) ?_)
          refine G.nil ?_
          refine G.nThen ?_
          refine G.ret ?_
          first | exact G.done1 rfl rfl .nil ⟨rfl, rfl⟩ | exact G.done1 rfl rfl .nil ⟨congrArg Value.bool (by rw [decide_eq_false (putM_prefix (x := x) (y := y) (by omega) (by omega) hxy)]; rfl), rfl⟩ | (obtain rfl : x = y := (by omega); exact G.done1 rfl rfl .nil ⟨congrArg Value.bool (by simp), rfl⟩)
        · refine G.pass rfl rfl rfl rfl rfl rfl ?_
          refine G.pass rfl rfl rfl rfl rfl rfl ?_
          refine G.pass rfl rfl rfl rfl rfl rfl ?_
          refine G.pass rfl rfl rfl rfl rfl rfl ?_
          refine G.pass rfl rfl rfl rfl rfl rfl ?_
          refine G.want rfl rfl rfl (G.val rfl rfl (pv_pick rfl rfl) ?_)
          refine G.op rfl (G.val rfl rfl (pv_pick rfl rfl) ?_)
          refine G.op rfl (G.val rfl rfl (pv_move rfl) ?_)
          refine G.want rfl rfl rfl (G.val rfl rfl (pv_move rfl) ?_)
          refine G.want rfl rfl rfl (G.val rfl rfl (pv_lenSl Try.underlying23 rfl) ?_)
          refine G.want rfl rfl rfl (G.val rfl rfl ((pv_gtr rfl rfl).cast (v' := .bool false) (congrArg Value.bool (by exact decide_eq_false (by omega)))) ?_)
          refine G.op rfl (G.val rfl rfl (pv_pick rfl rfl) ?_)
          refine G.nil ?_
          refine G.nThen ?_
          refine G.condF rfl (rfl) ?_
          refine G.skip ?_
          refine G.nThen ?_
          refine G.seq ?_
          refine G.region ?_
          refine G.op rfl (G.val rfl rfl (pv_move rfl) ?_)
          refine G.op rfl (G.val rfl rfl (pv_move rfl) ?_)
          refine G.want rfl rfl rfl (G.val rfl rfl (pv_move rfl) ?_)
          refine G.want rfl rfl rfl (G.val rfl rfl (pv_move rfl) ?_)
          refine G.want rfl rfl rfl (G.val rfl rfl (pv_move rfl) ?_)
          refine G.want rfl rfl rfl (G.val rfl rfl (pv_lenSl Try.underlying23 rfl) ?_)
          refine G.want rfl rfl rfl (G.val rfl rfl (pv_subH (sz := 1) (k := (putM x).length) Try.underlying23 Try.sizeByte rfl rfl rfl (by omega)) ?_)
          refine G.want rfl rfl rfl (G.call0 rfl rfl rfl rfl Try.func11 rfl rfl (same_tr _ _ (putM x) ((putM y).take (putM x).length)) (may2 (may_own (f := vByte) (p := fun _ => True) (xs := (putM x)) (by repeat (first | with_reducible exact Sel.here | exact Sel.here | apply Sel.there)) rfl (fun _ _ => trivial)) (may_ownPre (f := vByte) (p := fun _ => True) (xs := (putM y)) (by repeat (first | with_reducible exact Sel.here | exact Sel.here | apply Sel.there)) rfl (fun _ _ => trivial) (by omega))) ?_)
          refine G.want rfl rfl rfl (G.val rfl rfl (pv_not rfl) ?_)
          refine G.op rfl (G.val rfl rfl (pv_pick rfl rfl) ?_)
          refine G.op rfl (G.val rfl rfl (pv_assign rfl) ?_)
          refine G.nil ?_
          refine G.nThen ?_
          refine G.ret ?_
          first | exact G.done1 rfl rfl .nil ⟨rfl, rfl⟩ | exact G.done1 rfl rfl .nil ⟨congrArg Value.bool (by rw [decide_eq_false (putM_prefix (x := x) (y := y) (by omega) (by omega) hxy)]; rfl), rfl⟩ | (obtain rfl : x = y := (by omega); exact G.done1 rfl rfl .nil ⟨congrArg Value.bool (by simp), rfl⟩)
end Go.Proofs.Ytnfjpiancbgdhaa
