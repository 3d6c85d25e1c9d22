/- Contracts of layer 3: a running digest that is none, or was not made. Conditions: none. -/
import Derived.Test.YtcgknadodpdblaaDigL
import Derived.Laws.StructEq
set_option linter.unusedVariables false
set_option linter.unusedSimpArgs false
namespace Go.Proofs.Ytcgknadodpdblaa
open Go.RowKit

/-- a digest that is none, or was not made -/
def NoDig (w : World) (v : Value) : Prop := v = .pointer none ∨ ∃ D, v = .pointer (some ⟨D, 0, none⟩) ∧ w.rowIs D 44 74 zeroDigF
theorem NoDig.of {w w' : World} {v : Value} (h : NoDig w v) (hb : Below w.heap.size w w') : NoDig w' v := by
  rcases h with h | ⟨D, h1, h2⟩
  · exact .inl h
  · exact .inr ⟨D, h1, h2.of_block (hb.block D h2.lt)⟩
theorem writeN_any (v u : Value) (w : World) (h : NoDig w v) : Calls Try.prog 18 #[v, u] w fun e w' => e = .returned (.tuple #[]) ∧ w = w' := by
  rcases h with rfl | ⟨D, rfl, hr⟩
  · go_enter Try.func18, Try.ntmps18
    go_wp2_with fail
    first | go_end0 | refine bodyPost_ret (results_none rfl _ _ _) rfl ?_
    exact ⟨rfl, rfl⟩
  · have c0 : w.cell? ⟨D, 0, none⟩ = some (.bool false) := hr.cell (show 0 < 74 by omega)
    clear hr
    go_enter Try.func18, Try.ntmps18
    go_wp2_with fail
    first | go_end0 | refine bodyPost_ret (results_none rfl _ _ _) rfl ?_
    exact ⟨rfl, rfl⟩
theorem lenN_any (v : Value) (w : World) (h : NoDig w v) : Calls Try.prog 21 #[v] w fun e w' => e = .returned (.int .i64 0) ∧ w = w' := by
  rcases h with rfl | ⟨D, rfl, hr⟩
  · go_enter Try.func21, Try.ntmps21
    go_wp2_with fail
    go_ret
    exact ⟨rfl, rfl⟩
  · have c73 : w.cell? ⟨D, 73, none⟩ = some (.int .i64 0) := hr.cell (show 73 < 74 by omega)
    clear hr
    go_enter Try.func21, Try.ntmps21
    go_wp2_with fail
    go_ret
    exact ⟨rfl, rfl⟩
def zeros32 : List UInt8 := List.replicate 32 0
theorem zeros32_arr : (zeros32.flatMap encByte).toArray = #[.int .u8 0, .int .u8 0, .int .u8 0, .int .u8 0, .int .u8 0, .int .u8 0, .int .u8 0, .int .u8 0, .int .u8 0, .int .u8 0, .int .u8 0, .int .u8 0, .int .u8 0, .int .u8 0, .int .u8 0, .int .u8 0, .int .u8 0, .int .u8 0, .int .u8 0, .int .u8 0, .int .u8 0, .int .u8 0, .int .u8 0, .int .u8 0, .int .u8 0, .int .u8 0, .int .u8 0, .int .u8 0, .int .u8 0, .int .u8 0, .int .u8 0, .int .u8 0] := rfl
set_option maxHeartbeats 1000000 in
set_option maxRecDepth 20000 in
theorem sumN_any (v : Value) (w : World) (h : NoDig w v) : Calls Try.prog 20 #[v] w fun e w' => e = .returned (aggB zeros32) ∧ Below w.heap.size w w' := by
  have h25 : (Try.prog.info? 25).map (·.size) = some 32 := by kernel_rfl
  rcases h with rfl | ⟨D, rfl, hr⟩
  · go_enter Try.func20, Try.ntmps20
    go_upto_region 2 with fail
    generalize hW1 : World.alloc (World.alloc w _) _ = W1
    have hb1 : Below w.heap.size w W1 := by subst hW1; exact ((Below.refl _ _).alloc (Nat.le_refl _) _).alloc (by simp) _
    have g0 : W1.heap[w.heap.size]? = some (.cells (zeros32.flatMap encByte).toArray 25 (0, 0)) := by subst hW1; exact heap_alloc2_old _ _ _
    have g1 : W1.heap[w.heap.size + 1]? = some (.cells (zeros32.flatMap encByte).toArray 25 (0, 0)) := by subst hW1; exact heap_alloc2_new _ _ _
    clear hW1
    obtain ⟨ob, hob⟩ : ∃ ob, ob = (zeros32.flatMap encByte).toArray := ⟨_, rfl⟩
    rw [← hob] at g0 g1
    have hoa := bytesArr zeros32
    rw [← hob, show zeros32.length = 32 from rfl] at hoa
    have HOB := Lib.hid hob; have HOA := Lib.hid hoa; have HB := Lib.hid hb1
    clear hob hoa hb1
    go_wp2_with (first | (refine wpList_load_row rfl 25 _ rfl (w.heap.size + 1) rfl 25 _ (0, 0) _ g1 Try.underlying25 rfl (by rw [h25, HOA.out.1]) ?_) | (refine wpList_store_row rfl 25 _ _ rfl w.heap.size ob rfl rfl 25 ob g0 (by rw [h25, HOA.out.1]) rfl HOA.out.2 ?_) | fail)
    refine bodyPost_ret (v := .agg ob) ?_ rfl ⟨by rw [HOB.out]; rfl, below_setRow HB.out (Nat.le_refl _) ob⟩
    exact results_cell_row rfl _ _ w.heap.size 25 _ (0, 0) _ rfl (setRow_heap _ w.heap.size ob ob 25 (0, 0) g0) Try.underlying25 rfl (by rw [h25, HOA.out.1])
  · have c0 : w.cell? ⟨D, 0, none⟩ = some (.bool false) := hr.cell (show 0 < 74 by omega)
    have HLT := Lib.hid hr.lt
    clear hr
    go_enter Try.func20, Try.ntmps20
    go_upto_region 2 with fail
    generalize hW1 : World.alloc (World.alloc w _) _ = W1
    have hb1 : Below w.heap.size w W1 := by subst hW1; exact ((Below.refl _ _).alloc (Nat.le_refl _) _).alloc (by simp) _
    have g0 : W1.heap[w.heap.size]? = some (.cells (zeros32.flatMap encByte).toArray 25 (0, 0)) := by subst hW1; exact heap_alloc2_old _ _ _
    have g1 : W1.heap[w.heap.size + 1]? = some (.cells (zeros32.flatMap encByte).toArray 25 (0, 0)) := by subst hW1; exact heap_alloc2_new _ _ _
    clear hW1
    have c0' := (hb1.cell (p := ⟨D, 0, none⟩) (by exact HLT.out)).trans c0
    obtain ⟨ob, hob⟩ : ∃ ob, ob = (zeros32.flatMap encByte).toArray := ⟨_, rfl⟩
    rw [← hob] at g0 g1
    have hoa := bytesArr zeros32
    rw [← hob, show zeros32.length = 32 from rfl] at hoa
    have HOB := Lib.hid hob; have HOA := Lib.hid hoa; have HB := Lib.hid hb1
    clear hob hoa hb1 c0
    go_wp2_with (first | (refine wpList_load_row rfl 25 _ rfl (w.heap.size + 1) rfl 25 _ (0, 0) _ g1 Try.underlying25 rfl (by rw [h25, HOA.out.1]) ?_) | (refine wpList_store_row rfl 25 _ _ rfl w.heap.size ob rfl rfl 25 ob g0 (by rw [h25, HOA.out.1]) rfl HOA.out.2 ?_) | fail)
    refine bodyPost_ret (v := .agg ob) ?_ rfl ⟨by rw [HOB.out]; rfl, below_setRow HB.out (Nat.le_refl _) ob⟩
    exact results_cell_row rfl _ _ w.heap.size 25 _ (0, 0) _ rfl (setRow_heap _ w.heap.size ob ob 25 (0, 0) g0) Try.underlying25 rfl (by rw [h25, HOA.out.1])
end Go.Proofs.Ytcgknadodpdblaa
