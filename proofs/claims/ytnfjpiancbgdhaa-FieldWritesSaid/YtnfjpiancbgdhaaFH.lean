/- Contracts of the statements' helpers of layer 1. Conditions: none. -/
import Derived.Test.YtnfjpiancbgdhaaFV
import Derived.Test.YtnfjpiancbgdhaaFL
set_option linter.unusedVariables false
set_option linter.unusedSimpArgs false
namespace Go.Proofs.Ytnfjpiancbgdhaa
open Go.RowKit

theorem outE_bad {x : Int} (h : outE (decide (sizeM x = 0)) ≠ 0) : putM x = [] := by
  refine putM_nil ?_
  by_cases h0 : sizeM x = 0
  · exact h0
  · rw [decide_eq_false h0] at h
    exact absurd rfl h
theorem outW_put (x : Int) : outW (decide (sizeM x = 0)) (putM x) = putM x := by
  unfold outW
  split
  · rename_i h
    rw [putM_nil (of_decide_eq_true h)]
  · rfl
set_option maxRecDepth 20000 in

theorem num_tr (x : Int) : Tr Try.prog 9 #[.int .i64 x] [] [] (TX (fun _ : Value => True) (fun v => v) (fun v => [own 5 1 v (putM x).length ((putM x).map vByte)])) := by
  refine Tr.of (l := [(0, .int .i64 x)]) Try.func9 rfl (n := 20) rfl (.cons rfl .nil) (fun w0 hro => ?_)
  have hl := putM_length x
  have hl5 := sizeM_le x
  refine G.seq ?_
  refine G.region ?_
  refine G.op rfl (G.val rfl rfl (pv_assign rfl) ?_)
  refine G.nil ?_
  refine G.nThen ?_
  refine G.seq ?_
  refine G.region ?_
  refine G.op rfl (G.cN rfl rfl rfl rfl Try.func12 rfl rfl (new_tr) .nil may0 ?_)
  rintro D -
  simp only [List.cons_append, List.nil_append, Bool.false_or]
  refine G.op rfl (G.val rfl rfl (pv_assign rfl) ?_)
  refine G.nil ?_
  refine G.nThen ?_
  refine G.seq ?_
  refine G.seq ?_
  refine G.region ?_
  refine G.op rfl (G.val rfl rfl (pv_move rfl) ?_)
  refine G.op rfl (G.val rfl rfl (pv_eqlP0 Try.underlying29 rfl rfl) ?_)
  refine G.nil ?_
  refine G.nThen ?_
  refine G.condF rfl (rfl) ?_
  refine G.skip ?_
  refine G.nThen ?_
  refine G.seq ?_
  refine G.region ?_
  refine G.op rfl (G.val rfl rfl (pv_move rfl) ?_)
  refine G.op rfl (G.val rfl rfl (pv_move rfl) ?_)
  refine G.op rfl (G.cN rfl rfl rfl rfl Try.func15 rfl rfl (wint_any D false (.slice none 0 0) [] x (by simp)) (.cons (by repeat (first | with_reducible exact Sel.here | exact Sel.here | apply Sel.there)) (.cons (by repeat (first | with_reducible exact Sel.here | exact Sel.here | apply Sel.there)) .nil)) may0 ?_)
  rintro v1 -
  simp only [List.cons_append, List.nil_append, Bool.false_or]
  refine G.nil ?_
  refine G.nThen ?_
  refine G.seq ?_
  refine G.region ?_
  refine G.op rfl (G.val rfl rfl (pv_move rfl) ?_)
  refine G.op rfl (G.cN rfl rfl rfl rfl Try.func25 rfl rfl (wout_tr D (decide (sizeM x = 0)) v1 (putM x) (by omega)) .nil (may2 (.own (by simp)) (.own (by simp))) ?_)
  rintro v2 -
  simp only [List.cons_append, List.nil_append, Bool.false_or]
  rw [outW_put]
  refine G.op rfl (G.val rfl rfl (pv_move rfl) ?_)
  refine G.op rfl (G.val rfl rfl (pv_extract rfl rfl) ?_)
  refine G.op rfl (G.val rfl rfl (pv_extract rfl rfl) ?_)
  refine G.op rfl (G.val rfl rfl (pv_assign rfl) ?_)
  refine G.op rfl (G.val rfl rfl (pv_assign rfl) ?_)
  refine G.nil ?_
  refine G.nThen ?_
  refine G.seq ?_
  refine G.seq ?_
  refine G.region ?_
  refine G.op rfl (G.val rfl rfl (pv_move rfl) ?_)
  refine G.op rfl (G.val rfl rfl (pv_neq rfl rfl) ?_)
  refine G.nil ?_
  refine G.nThen ?_
  refine G.condP rfl (fun h18 => ?_) (fun h18 => ?_)
  · refine G.seq ?_
    refine G.region ?_
    refine G.op rfl (G.val rfl rfl (pv_assign rfl) ?_)
    refine G.nil ?_
    refine G.nThen ?_
    refine G.ret ?_
    refine G.rThen ?_
    first | exact G.done1 (m' := [own 5 1 v2 (putM x).length ((putM x).map vByte)]) rfl rfl (.cons (by repeat (first | with_reducible exact Sel.here | exact Sel.here | apply Sel.there)) .nil) ⟨v2, trivial, rfl, rfl⟩ | (rw [outE_bad h18]; refine G.ownNil 5 1 ?_; exact G.done1 (m' := [own 5 1 (.slice none 0 0) ([] : List UInt8).length (([] : List UInt8).map vByte)]) rfl rfl (.cons (by repeat (first | with_reducible exact Sel.here | exact Sel.here | apply Sel.there)) .nil) ⟨_, trivial, rfl, rfl⟩)
  · refine G.skip ?_
    refine G.nThen ?_
    refine G.seq ?_
    refine G.region ?_
    refine G.op rfl (G.val rfl rfl (pv_move rfl) ?_)
    refine G.op rfl (G.val rfl rfl (pv_assign rfl) ?_)
    refine G.nil ?_
    refine G.nThen ?_
    refine G.ret ?_
    first | exact G.done1 (m' := [own 5 1 v2 (putM x).length ((putM x).map vByte)]) rfl rfl (.cons (by repeat (first | with_reducible exact Sel.here | exact Sel.here | apply Sel.there)) .nil) ⟨v2, trivial, rfl, rfl⟩ | (rw [outE_bad h18]; refine G.ownNil 5 1 ?_; exact G.done1 (m' := [own 5 1 (.slice none 0 0) ([] : List UInt8).length (([] : List UInt8).map vByte)]) rfl rfl (.cons (by repeat (first | with_reducible exact Sel.here | exact Sel.here | apply Sel.there)) .nil) ⟨_, trivial, rfl, rfl⟩)
set_option maxRecDepth 20000 in

theorem is_tr (x : Int) (u : Value) (b : List UInt8) {Pu : Nat → Prop} : Tr Try.prog 36 #[.int .i64 x, u] [slc rByte Pu u b] [] (T0 (.bool (decide (putM x = b)))) := by
  refine Tr.of (l := [(0, .int .i64 x), (1, u)]) Try.func36 rfl (n := 9) rfl (.cons rfl (.cons rfl .nil)) (fun w0 hro => ?_)
  have hu := ro1 hro
  refine G.seq ?_
  refine G.region ?_
  refine G.op rfl (G.val rfl rfl (pv_assign rfl) ?_)
  refine G.nil ?_
  refine G.nThen ?_
  refine G.seq ?_
  refine G.region ?_
  refine G.op rfl (G.val rfl rfl (pv_move rfl) ?_)
  refine G.op rfl (G.cN rfl rfl rfl rfl Try.func9 rfl rfl (num_tr x) .nil may0 ?_)
  rintro v1 -
  simp only [List.cons_append, List.nil_append, Bool.false_or]
  refine G.op rfl (G.val rfl rfl (pv_move rfl) ?_)
  refine G.op rfl (G.call0 rfl rfl rfl rfl Try.func11 rfl rfl (same_tr v1 u (putM x) b) (may2 (may_own (f := vByte) (p := fun _ => True) (by repeat (first | with_reducible exact Sel.here | exact Sel.here | apply Sel.there)) rfl (fun _ _ => trivial)) (.old hu)) ?_)
  refine G.op rfl (G.val rfl rfl (pv_assign rfl) ?_)
  refine G.nil ?_
  refine G.nThen ?_
  refine G.ret ?_
  exact G.done1 rfl rfl .nil ⟨rfl, rfl⟩
theorem is_tt {x : Int} (u : Value) {b : List UInt8} {Pu : Nat → Prop} (h : putM x = b) : Tr Try.prog 36 #[.int .i64 x, u] [slc rByte Pu u b] [] (T0 (.bool true)) := by
  have := is_tr x u b (Pu := Pu)
  rwa [decide_eq_true h] at this
/-- is the first number of bytes this fault? -/
def failsM (b : List UInt8) (e at_ : Int) : Bool := decide ((numN (bndM b 0 0 2147483647 5) : Int) = 0) && (decide ((errN (bndM b 0 0 2147483647 5) : Int) = e) && (decide (posN 0 (bndM b 0 0 2147483647 5) = at_) && true))
set_option maxRecDepth 20000 in

theorem fails_tr (u : Value) (b : List UInt8) (e at_ : Int) (hb : b.length ≤ 1000000000) {Pu : Nat → Prop} : Tr Try.prog 37 #[u, .int .i64 e, .int .i64 at_] [slc rByte Pu u b] [] (T0 (.bool (failsM b e at_))) := by
  refine Tr.of (l := [(0, u), (1, .int .i64 e), (2, .int .i64 at_)]) Try.func37 rfl (n := 25) rfl (.cons rfl (.cons rfl (.cons rfl .nil))) (fun w0 hro => ?_)
  have hu := ro1 hro
  refine G.seq ?_
  refine G.region ?_
  refine G.op rfl (G.val rfl rfl (pv_assign rfl) ?_)
  refine G.nil ?_
  refine G.nThen ?_
  refine G.seq ?_
  refine G.region ?_
  refine G.op rfl (G.val rfl rfl (pv_move rfl) ?_)
  refine G.op rfl (G.cN rfl rfl rfl rfl Try.func29 rfl rfl (open_tr u b hb) .nil (may1 (.old hu)) ?_)
  rintro ⟨D, v⟩ -
  simp only [List.cons_append, List.nil_append, Bool.false_or]
  refine G.op rfl (G.val rfl rfl (pv_assign rfl) ?_)
  refine G.nil ?_
  refine G.nThen ?_
  refine G.seq ?_
  refine G.region ?_
  refine G.op rfl (G.val rfl rfl (pv_move rfl) ?_)
  refine G.op rfl (G.val rfl rfl (pv_neqP0 Try.underlying48 rfl rfl) ?_)
  refine G.op rfl (G.val rfl rfl (pv_move rfl) ?_)
  refine G.want rfl rfl rfl (G.val rfl rfl (pv_move rfl) ?_)
  refine G.want rfl rfl rfl (G.cN rfl rfl rfl rfl Try.func30 rfl rfl (int_tr D 0 v b 0 0 2147483647 (Nat.zero_le _) hb) (.cons (by repeat (first | with_reducible exact Sel.here | exact Sel.here | apply Sel.there)) (.cons (by repeat (first | with_reducible exact Sel.here | exact Sel.here | apply Sel.there)) .nil)) may0 ?_)
  rintro ⟨⟩ -
  simp only [List.cons_append, List.nil_append, Bool.false_or]
  refine G.want rfl rfl rfl (G.val rfl rfl (pv_eql rfl rfl) ?_)
  refine G.op rfl (G.val rfl rfl (pv_pick rfl rfl) ?_)
  refine G.op rfl (G.val rfl rfl (pv_move rfl) ?_)
  refine G.partP (t := 17) rfl (fun h17 => ?_) (fun h17 => ?_)
  · refine G.want rfl rfl rfl (G.val rfl rfl (pv_move rfl) ?_)
    refine G.want rfl rfl rfl (G.call0 rfl rfl rfl rfl Try.func31 rfl rfl (fault_tr D v true _ _ _) (may1 (.own (List.mem_cons_self ..))) ?_)
    refine G.want rfl rfl rfl (G.val rfl rfl (pv_move rfl) ?_)
    refine G.want rfl rfl rfl (G.val rfl rfl (pv_move rfl) ?_)
    refine G.want rfl rfl rfl (G.val rfl rfl (pv_build (cells := #[.int .i64 e, .int .i64 at_]) (fun a ha => ha.pevs rfl) (by kernel_rfl)) ?_)
    refine G.want rfl rfl rfl (G.val rfl rfl (pv_eqlSt (xs := [.int .i64 (errN (bndM b 0 0 2147483647 5) : Int), .int .i64 (posN 0 (bndM b 0 0 2147483647 5))]) (ys := [.int .i64 e, .int .i64 at_]) (r := decide ((errN (bndM b 0 0 2147483647 5) : Int) = e) && (decide (posN 0 (bndM b 0 0 2147483647 5) = at_) && true)) Try.underlying51 (by kernel_rfl) (by kernel_rfl) rfl rfl (by kernel_rfl)) ?_)
    refine G.op rfl (G.val rfl rfl (pv_pick rfl rfl) ?_)
    refine G.op rfl (G.val rfl rfl (pv_assign rfl) ?_)
    refine G.nil ?_
    refine G.nThen ?_
    refine G.ret ?_
    exact G.done1 rfl rfl .nil ⟨by unfold failsM; first | (rw [decide_eq_true h17]; rfl) | (rw [decide_eq_false h17]; rfl), rfl⟩
  · refine G.pass rfl rfl rfl rfl rfl rfl ?_
    refine G.pass rfl rfl rfl rfl rfl rfl ?_
    refine G.pass rfl rfl rfl rfl rfl rfl ?_
    refine G.pass rfl rfl rfl rfl rfl rfl ?_
    refine G.pass rfl rfl rfl rfl rfl rfl ?_
    refine G.pass rfl rfl rfl rfl rfl rfl ?_
    refine G.op rfl (G.val rfl rfl (pv_pick rfl rfl) ?_)
    refine G.op rfl (G.val rfl rfl (pv_assign rfl) ?_)
    refine G.nil ?_
    refine G.nThen ?_
    refine G.ret ?_
    exact G.done1 rfl rfl .nil ⟨by unfold failsM; first | (rw [decide_eq_true h17]; rfl) | (rw [decide_eq_false h17]; rfl), rfl⟩
end Go.Proofs.Ytnfjpiancbgdhaa
