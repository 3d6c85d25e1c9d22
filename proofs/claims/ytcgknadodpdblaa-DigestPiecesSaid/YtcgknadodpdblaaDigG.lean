/- Contracts of layer 3: New, Len and the state at first. Conditions: none. -/
import Derived.Test.YtcgknadodpdblaaDigF
set_option linter.unusedVariables false
set_option linter.unusedSimpArgs false
namespace Go.Proofs.Ytcgknadodpdblaa
open Go.RowKit

theorem first_any (w : World) : Calls Try.prog 30 #[] w fun e w' => e = .returned (agg8 firstM) ∧ Below w.heap.size w w' := by
  go_enter Try.func30, Try.ntmps30
  go_wp2_with fail
  refine bodyPost_ret (v := agg8 firstM) ?_ rfl ⟨rfl, ?_⟩
  · simp [results, Try.results30, go_sem, agg8, gI, firstM]
  · exact (Below.refl _ _).alloc (Nat.le_refl _) _

def NewDig (w : World) (e : Ending) (w' : World) : Prop := ∃ D, e = .returned (.pointer (some ⟨D, 0, none⟩)) ∧ w.heap.size ≤ D ∧ DigOf w' D [] ∧ Below w.heap.size w w'
def newCells : Array Value := rowArr 74 (digF firstM (List.replicate 64 0) 0)
theorem new_built (w : World) : (Instr.build 44 #[(0, .bool true), (1, agg8 firstM)]).run Try.prog w = .ok (.agg newCells) w :=
  run_build w _ _ _ (by kernel_rfl)
theorem newCells_row (w : World) : (w.alloc (.cells newCells 44)).rowIs w.heap.size 44 74 (digF firstM (List.replicate 64 0) 0) :=
  World.rowIs_alloc w newCells _ _ fun i hi => by
    have : i < 74 := by simpa [newCells, rowArr] using hi
    simp [newCells, rowArr, this]
theorem waits_new : Waits (List.replicate 64 0) [] := ⟨by simp, fun i hi => by simp at hi⟩
set_option maxRecDepth 20000 in
theorem new_any (w : World) : Calls Try.prog 17 #[] w (NewDig w) := by
  go_enter Try.func17, Try.ntmps17
  go_wp2_with fail
  refine (first_any w).mono ?_
  rintro e w1 ⟨rfl, hb1⟩
  have HB1 := Lib.hid hb1; clear hb1
  obtain ⟨cs, hc⟩ : ∃ cs, cs = newCells := ⟨_, rfl⟩
  have HC := Lib.hid hc
  clear hc
  go_wp2_with (first | (refine wpList_build_at cs rfl 44 _ rfl (by rw [HC.out]; kernel_rfl) ?_) | fail)
  go_ret
  rw [HC.out]
  exact ⟨_, rfl, HB1.out.size, ⟨_, waits_new, newCells_row w1⟩, HB1.out.alloc HB1.out.size _⟩

theorem len_any (w : World) (D : Nat) (m : List UInt8) (hd : DigOf w D m) (hs : m.length ≤ 1000000000) :
    Calls Try.prog 21 #[.pointer (some ⟨D, 0, none⟩)] w fun e w' => e = .returned (.int .i64 m.length) ∧ w = w' := by
  have c73 : w.cell? ⟨D, 73, none⟩ = some (.int .i64 m.length) := by
    obtain ⟨wait, _, hr⟩ := hd
    exact hr.cell (show 73 < 74 by omega)
  clear hd
  go_enter Try.func21, Try.ntmps21
  go_wp2_with fail
  go_ret
  exact ⟨rfl, rfl⟩
end Go.Proofs.Ytcgknadodpdblaa
