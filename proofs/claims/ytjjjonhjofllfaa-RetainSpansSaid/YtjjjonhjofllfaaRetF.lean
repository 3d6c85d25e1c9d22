/- Contract of layer 22's closure that counts the later spans. Conditions: the set lies in memory as stated. -/
import Derived.Test.YtjjjonhjofllfaaProg
import Derived.Test.YtjjjonhjofllfaaRetN
set_option linter.unusedVariables false
set_option linter.unusedSimpArgs false
namespace Go.Proofs.Ytjjjonhjofllfaa
open Go.RowKit Go.Maps

theorem lawInt : Keyed Try.prog 3 := int_keyed Try.underlying3

set_option maxHeartbeats 1000000 in
theorem later_any (bx mb n : Nat) (xs : List Int) (at_ : Int) (w : World) (hc : w.cell? ⟨bx, 0, none⟩ = some (.map (some mb))) (hx : xs.length ≤ 1000) (hset : SetIs Try.prog 3 w mb n xs) :
    Calls Try.prog 31 #[.int .i64 at_, .pointer (some ⟨bx, 0, none⟩)] w fun e w' => e = .returned (.int .i64 (dcount (fun x => decide (at_ < x)) xs)) ∧ Below w.heap.size w w' := by
  obtain ⟨D, hown, hhas⟩ := hset
  have HH := Lib.hid hhas; clear hhas
  go_enter Try.func31, Try.ntmps31
  go_wp2_with (at_range; refine wpList_range_own _ rfl _ 46 rfl 3 48 lawInt Try.underlying46 (unitElem (H := Unit)) mb n D rfl hown ?_; intro w0 hrg0 hg0 hs0)
  go_frame
  go_loopw [4] (fun c wr => ∃ (left : Lit → Bool) (cnt : Nat), wr.ranges Try.prog 3 (unitElem (H := Unit)) mb w.heap.size n D left cnt ∧ c = .int .i64 (dcount (fun x => decide (at_ < x) && !left (.int .i64 x)) xs) ∧ Below w.heap.size w wr)
    (fun _ wr => wr.rangeLeft mb w.heap.size)
  case atStart => exact ⟨_, _, hrg0, by rw [later_start HH.out]; rfl, (Below.refl _ _).grown hg0 (Nat.le_refl _) (fun _ h => by cases h)⟩
  case round =>
    obtain ⟨left, cnt, hrg, rfl, hb⟩ := hrel
    go_wp2_with (at_next; refine wpList_next_ranges _ rfl _ rfl 3 lawInt (unitElem (H := Unit)) (Value.int .i64) (fun _ : Unit => Value.agg #[]) (fun key kl hkey => by obtain ⟨x, rfl, _⟩ := Maps.keyOf_int_inv Try.underlying3 hkey; exact ⟨x, rfl⟩) (fun v y hv => ⟨(), (unitElem_inv hv).1⟩) mb w.heap.size n _ _ _ rfl hrg ?_ ?_)
    · intro _ hl0
      go_wp2
      go_ret
      exact ⟨ret_int (by rw [later_end hl0]), hb⟩
    · intro x c kl y w1 cnt1 hkey hlx hy hat hrg1 hlt hg1 hs1 hen
      have hb1 : Below w.heap.size w w1 := hb.grown hg1 (hb.size) (fun j hj => by cases hj; exact Nat.le_refl _)
      obtain ⟨x', ex, rfl, _⟩ := Maps.keyOf_int_inv Try.underlying3 hkey
      cases ex
      have HST := Lib.hid (later_step (at_ := at_) HH.out hlx hat)
      have hdc := dcount_le (fun x => decide (at_ < x) && !left (Lit.int IntKind.i64 x)) xs
      clear hat hlx hkey hy
      go_wp2_with fail
      all_goals
        go_roundw
        case rel => exact ⟨_, cnt1, hrg1, by rw [HST.out]; first | rw [if_pos (by assumption)]; rfl | rw [if_neg (by omega)]; rfl, hb1⟩
        case measure => rw [hrg1.left_eq, hrg.left_eq]; exact hlt
end Go.Proofs.Ytjjjonhjofllfaa
