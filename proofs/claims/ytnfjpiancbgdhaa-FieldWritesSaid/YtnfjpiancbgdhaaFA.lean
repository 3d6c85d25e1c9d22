/- The statements' awake. Conditions: none. -/
import Derived.Test.YtnfjpiancbgdhaaFH
set_option linter.unusedVariables false
set_option linter.unusedSimpArgs false
namespace Go.Proofs.Ytnfjpiancbgdhaa
open Go.RowKit

theorem fails_tt (u : Value) {b : List UInt8} {e at_ : Int} (hb : b.length ≤ 1000000000) {Pu : Nat → Prop} (h : failsM b e at_ = true) : Tr Try.prog 37 #[u, .int .i64 e, .int .i64 at_] [slc rByte Pu u b] [] (T0 (.bool true)) := by
  have := fails_tr u b e at_ hb (Pu := Pu)
  rwa [h] at this
set_option maxRecDepth 20000 in

theorem awake_tr : Tr Try.prog 8 #[] [] [] (T0 (.bool true)) := by
  refine Tr.of (l := []) Try.func8 rfl (n := 19) rfl Fa.nil (fun w0 hro => ?_)
  refine G.seq ?_
  refine G.region ?_
  refine G.op rfl (G.val rfl rfl (pv_assign rfl) ?_)
  refine G.nil ?_
  refine G.nThen ?_
  refine G.seq ?_
  refine G.region ?_
  refine G.op rfl (G.lit1 (vs := [_]) rfl Try.underlying23 (by kernel_rfl) rfl (by decide) (by decide) rfl rfl ?_)
  intro b1
  refine G.op rfl (G.call0 rfl rfl rfl rfl Try.func36 rfl rfl (is_tt (Pu := (· = b1)) _ (b := [0]) (by decide)) (may1 (may_all (f := vByte) (p := fun _ => True) (xs := [0]) (b := b1) (by repeat (first | with_reducible exact Sel.here | exact Sel.here | apply Sel.there)) (fun _ _ => trivial) rfl (Nat.le_refl _) (by decide))) ?_)
  refine G.op rfl (G.val rfl rfl (pv_move rfl) ?_)
  refine G.want rfl rfl rfl (G.lit1 (vs := [_, _]) rfl Try.underlying23 (by kernel_rfl) rfl (by decide) (by decide) rfl rfl ?_)
  intro b4
  refine G.want rfl rfl rfl (G.call0 rfl rfl rfl rfl Try.func36 rfl rfl (is_tt (Pu := (· = b4)) _ (b := [129, 0]) (by decide)) (may1 (may_all (f := vByte) (p := fun _ => True) (xs := [129, 0]) (b := b4) (by repeat (first | with_reducible exact Sel.here | exact Sel.here | apply Sel.there)) (fun _ _ => trivial) rfl (Nat.le_refl _) (by decide))) ?_)
  refine G.op rfl (G.val rfl rfl (pv_pick rfl rfl) ?_)
  refine G.op rfl (G.val rfl rfl (pv_move rfl) ?_)
  refine G.want rfl rfl rfl (G.lit1 (vs := [_, _]) rfl Try.underlying23 (by kernel_rfl) rfl (by decide) (by decide) rfl rfl ?_)
  intro b8
  refine G.want rfl rfl rfl (G.call0 rfl rfl rfl rfl Try.func37 rfl rfl (fails_tt (Pu := (· = b8)) _ (b := [128, 1]) (by decide) (by decide)) (may1 (may_all (f := vByte) (p := fun _ => True) (xs := [128, 1]) (b := b8) (by repeat (first | with_reducible exact Sel.here | exact Sel.here | apply Sel.there)) (fun _ _ => trivial) rfl (Nat.le_refl _) (by decide))) ?_)
  refine G.op rfl (G.val rfl rfl (pv_pick rfl rfl) ?_)
  refine G.op rfl (G.val rfl rfl (pv_move rfl) ?_)
  refine G.want rfl rfl rfl (G.lit1 (vs := [_]) rfl Try.underlying23 (by kernel_rfl) rfl (by decide) (by decide) rfl rfl ?_)
  intro b12
  refine G.want rfl rfl rfl (G.call0 rfl rfl rfl rfl Try.func37 rfl rfl (fails_tt (Pu := (· = b12)) _ (b := [129]) (by decide) (by decide)) (may1 (may_all (f := vByte) (p := fun _ => True) (xs := [129]) (b := b12) (by repeat (first | with_reducible exact Sel.here | exact Sel.here | apply Sel.there)) (fun _ _ => trivial) rfl (Nat.le_refl _) (by decide))) ?_)
  refine G.op rfl (G.val rfl rfl (pv_pick rfl rfl) ?_)
  refine G.op rfl (G.val rfl rfl (pv_move rfl) ?_)
  refine G.want rfl rfl rfl (G.call0 rfl rfl rfl rfl Try.func10 rfl rfl (size_tr 128) may0 ?_)
  refine G.want rfl rfl rfl (G.val rfl rfl ((pv_eql rfl rfl).cast (v' := .bool true) rfl) ?_)
  refine G.op rfl (G.val rfl rfl (pv_pick rfl rfl) ?_)
  refine G.op rfl (G.val rfl rfl (pv_assign rfl) ?_)
  refine G.nil ?_
  refine G.nThen ?_
  refine G.ret ?_
  exact G.done1 rfl rfl .nil ⟨rfl, rfl⟩
end Go.Proofs.Ytnfjpiancbgdhaa
