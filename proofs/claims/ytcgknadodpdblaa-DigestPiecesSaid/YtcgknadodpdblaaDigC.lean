/- Contracts of layer 3: the 64 constants; a state behind 64 bytes more. Conditions: the slice lies in memory. -/
import Derived.Test.YtcgknadodpdblaaDigB
set_option linter.unusedVariables false
set_option linter.unusedSimpArgs false
namespace Go.Proofs.Ytcgknadodpdblaa
open Go.RowKit

theorem info64 : (Try.prog.info? 70).map (·.size) = some 64 := by kernel_rfl

set_option maxHeartbeats 2000000 in
set_option maxRecDepth 20000 in
theorem kD_any (w : World) : Calls Try.prog 40 #[] w fun e w' => e = .returned (.agg (kM.map (Value.int .u32)).toArray) ∧ Below w.heap.size w w' := by
  go_enter Try.func40, Try.ntmps40
  go_wp2_with (first | (refine wpList_build rfl 70 _ rfl (by kernel_rfl) ?_) | (refine wpList_store_row rfl 70 _ _ rfl w.heap.size (kM.map (Value.int .u32)).toArray rfl (by kernel_rfl) 70 _ (heap_alloc_new _ _) (by rw [info64]; rfl) rfl (by kernel_rfl) ?_))
  (try simp only [Exit.inBlock, Exit.then])
  refine bodyPost_ret (v := .agg (kM.map (Value.int .u32)).toArray) ?_ rfl ⟨rfl, below_setRow ((Below.refl _ _).alloc (Nat.le_refl _) _) (Nat.le_refl _) _⟩
  exact results_cell_row rfl _ _ w.heap.size 70 _ (0, 0) _ rfl (setRow_heap _ _ _ _ _ (0, 0) (heap_alloc_new _ _)) Try.underlying70 rfl (by rw [info64]; rfl)

set_option maxHeartbeats 2000000 in
set_option maxRecDepth 20000 in
theorem kR_any (w : World) : Calls Try.prog 37 #[] w fun e w' => e = .returned (.agg (kM.map (Value.int .u32)).toArray) ∧ Below w.heap.size w w' := by
  go_enter Try.func37, Try.ntmps37
  go_wp2_with (first | (refine wpList_build rfl 70 _ rfl (by kernel_rfl) ?_) | (refine wpList_store_row rfl 70 _ _ rfl w.heap.size (kM.map (Value.int .u32)).toArray rfl (by kernel_rfl) 70 _ (heap_alloc_new _ _) (by rw [info64]; rfl) rfl (by kernel_rfl) ?_))
  (try simp only [Exit.inBlock, Exit.then])
  refine bodyPost_ret (v := .agg (kM.map (Value.int .u32)).toArray) ?_ rfl ⟨rfl, below_setRow ((Below.refl _ _).alloc (Nat.le_refl _) _) (Nat.le_refl _) _⟩
  exact results_cell_row rfl _ _ w.heap.size 70 _ (0, 0) _ rfl (setRow_heap _ _ _ _ _ (0, 0) (heap_alloc_new _ _)) Try.underlying70 rfl (by rw [info64]; rfl)

end Go.Proofs.Ytcgknadodpdblaa
