/- Layer 8's statements: awake. Conditions: none. -/
import Derived.Test.YtchgaedidfefoaaTM
set_option linter.unusedVariables false
set_option linter.unusedSimpArgs false
namespace Go.Proofs.Ytchgaedidfefoaa
open Go.RowKit

set_option maxRecDepth 20000 in
set_option maxHeartbeats 4000000 in

theorem awake_tr : Tr Try.prog 10 #[] [] [] (T0 (.bool true)) := by
  refine Tr.of (l := []) Try.func10 rfl (n := 25) rfl Fa.nil (fun w0 hro => ?_)
  refine G.seq ?_
  refine G.region ?_
  refine G.op rfl (G.val rfl rfl (pv_assign rfl) ?_)
  refine G.nil ?_
  refine G.nThen ?_
  refine G.seq ?_
  refine G.region ?_
  refine G.op rfl (G.cS rfl rfl rfl rfl Try.func35 rfl rfl (by repeat (first | exact Sub.nil | (apply Sub.cons; (repeat (first | with_reducible exact Sel.here | exact Sel.here | apply Sel.there))))) may0 (sample_tr) (by repeat (first | exact Ap.nil | apply Ap.cons)) ?_)
  intro x4 hJ
  obtain ⟨g4, b4⟩ := x4
  try dsimp only at hJ
  try dsimp only
  refine G.op rfl (G.cS rfl rfl rfl rfl Try.func32 rfl rfl (by repeat (first | exact Sub.nil | (apply Sub.cons; (repeat (first | with_reducible exact Sel.here | exact Sel.here | apply Sel.there))))) (may1 (may_treeC (c := samB b4) (by repeat (first | with_reducible exact Sel.here | exact Sel.here | apply Sel.there)) (by repeat (first | with_reducible exact Sel.here | exact Sel.here | apply Sel.there)) sam_ok (fun w h => sam_dat h))) (drop_tr _ (sampleT b4) [97] (by decide)) (by repeat (first | exact Ap.nil | apply Ap.cons)) ?_)
  intro x5 hJ
  obtain ⟨dv, ds⟩ := x5
  try dsimp only at hJ
  try dsimp only
  rw [sampleT_ens, drop_sample] at hJ ⊢
  have hd : ens ds = [eC] := hJ
  refine G.op rfl (G.val rfl rfl (pv_move rfl) ?_)
  refine G.op rfl (G.val rfl rfl (pv_extract rfl rfl) ?_)
  refine G.op rfl (G.val rfl rfl (pv_extract rfl rfl) ?_)
  refine G.op rfl (G.val rfl rfl (pv_assign rfl) ?_)
  refine G.op rfl (G.val rfl rfl (pv_assign rfl) ?_)
  refine G.nil ?_
  refine G.nThen ?_
  refine G.seq ?_
  refine G.region ?_
  refine G.op rfl (G.cS rfl rfl rfl rfl Try.func35 rfl rfl (by repeat (first | exact Sub.nil | (apply Sub.cons; (repeat (first | with_reducible exact Sel.here | exact Sel.here | apply Sel.there))))) may0 (sample_tr) (by repeat (first | exact Ap.nil | apply Ap.cons)) ?_)
  intro x8 hJ
  obtain ⟨g8, b8⟩ := x8
  try dsimp only at hJ
  try dsimp only
  refine G.op rfl (G.cR rfl rfl rfl rfl Try.func36 rfl rfl (may1 (may_treeC (c := samB b8) (by repeat (first | with_reducible exact Sel.here | exact Sel.here | apply Sel.there)) (by repeat (first | with_reducible exact Sel.here | exact Sel.here | apply Sel.there)) sam_ok (fun w h => sam_dat h))) (lfails_yes _ (sampleT b8) 0 0 chk_sample) ?_)
  refine G.op rfl (G.val rfl rfl (pv_move rfl) ?_)
  refine G.want rfl rfl rfl (G.cS rfl rfl rfl rfl Try.func35 rfl rfl (by repeat (first | exact Sub.nil | (apply Sub.cons; (repeat (first | with_reducible exact Sel.here | exact Sel.here | apply Sel.there))))) may0 (sample_tr) (by repeat (first | exact Ap.nil | apply Ap.cons)) ?_)
  intro x11 hJ
  obtain ⟨g11, b11⟩ := x11
  try dsimp only at hJ
  try dsimp only
  refine G.want rfl rfl rfl (G.val rfl rfl (pv_subL (sz := 5) (k := 1) Try.underlying22 (by kernel_rfl) rfl rfl rfl (by omega)) ?_)
  refine G.want rfl rfl rfl (G.cR rfl rfl rfl rfl Try.func36 rfl rfl (may1 (may_treeCS (c := samB b11) (i := 1) (j := 3) (by repeat (first | with_reducible exact Sel.here | exact Sel.here | apply Sel.there)) (by repeat (first | with_reducible exact Sel.here | exact Sel.here | apply Sel.there)) sam_ok (fun w h => sam_dat h) (by decide) (by show 3 ≤ 3; omega))) (lfails_yes _ (((sampleT b11).take 3).drop 1) 6 0 (by rw [ens_sub]; exact chk_tail)) ?_)
  refine G.op rfl (G.val rfl rfl (pv_pick rfl rfl) ?_)
  refine G.op rfl (G.val rfl rfl (pv_move rfl) ?_)
  refine G.want rfl rfl rfl (G.val rfl rfl (pv_move rfl) ?_)
  refine G.want rfl rfl rfl (G.val rfl rfl (pv_eql rfl rfl) ?_)
  refine G.op rfl (G.val rfl rfl (pv_pick rfl rfl) ?_)
  refine G.op rfl (G.val rfl rfl (pv_move rfl) ?_)
  refine G.want rfl rfl rfl (G.val rfl rfl (pv_move rfl) ?_)
  refine G.want rfl rfl rfl (G.cS rfl rfl rfl rfl Try.func35 rfl rfl (by repeat (first | exact Sub.nil | (apply Sub.cons; (repeat (first | with_reducible exact Sel.here | exact Sel.here | apply Sel.there))))) may0 (sample_tr) (by repeat (first | exact Ap.nil | apply Ap.cons)) ?_)
  intro x21 hJ
  obtain ⟨g21, b21⟩ := x21
  try dsimp only at hJ
  try dsimp only
  refine G.want rfl rfl rfl (G.val rfl rfl (pv_subL (sz := 5) (k := 2) Try.underlying22 (by kernel_rfl) rfl rfl rfl (by omega)) ?_)
  refine G.want rfl rfl rfl (G.cR rfl rfl rfl rfl Try.func16 rfl rfl (may2 (may_tree (by repeat (first | with_reducible exact Sel.here | exact Sel.here | apply Sel.there)) (by repeat (first | with_reducible exact Sel.here | exact Sel.here | apply Sel.there)) (ok_ens (ys := ((sampleT 0).take 3).drop 2) (by rw [ens_sub, hd]; rfl) (fun x hx => sam_ok x (List.mem_of_mem_drop hx)))) (may_treeCS (c := samB b21) (i := 2) (j := 3) (by repeat (first | with_reducible exact Sel.here | exact Sel.here | apply Sel.there)) (by repeat (first | with_reducible exact Sel.here | exact Sel.here | apply Sel.there)) sam_ok (fun w h => sam_dat h) (by decide) (by show 3 ≤ 3; omega))) (tree_yes _ _ ds (((sampleT b21).take 3).drop 2) (by rw [ens_sub, hd]; rfl)) ?_)
  refine G.op rfl (G.val rfl rfl (pv_pick rfl rfl) ?_)
  refine G.op rfl (G.val rfl rfl (pv_assign rfl) ?_)
  refine G.nil ?_
  refine G.nThen ?_
  refine G.ret ?_
  exact G.done0G rfl (Rv.tmp rfl Rv.nil) (by first | rfl | exact int_eq (by omega) | (simp; done))
end Go.Proofs.Ytchgaedidfefoaa
