/- Contracts of the reference of layer 22: how many later spans there are, which snapshots stay. Conditions: the slices lie in memory as stated; snapshots and policies that may be. -/
import Derived.Test.YtjjjonhjofllfaaRetB
set_option linter.unusedVariables false
set_option linter.unusedSimpArgs false
namespace Go.Proofs.Ytjjjonhjofllfaa
open Go.RowKit

set_option maxHeartbeats 1000000 in
theorem spansR_any (B : Nat) (v : Value) (l : List Snap) (span at_ : Int) (w : World) (hB : B ≤ w.heap.size) (hv : SlPair B w v l) (hl : l.length ≤ 1000) (hs : soundM l = true) (h1 : 1 ≤ span) :
    Calls Try.prog 32 #[v, .int .i64 span, .int .i64 at_] w fun e w' => e = .returned (.int .i64 (laterM l span at_)) ∧ w = w' := by
  obtain ⟨a, b, off, cap, rfl, hcap, hm, -, ha, hc⟩ := hv
  have H := Lib.hid hc; clear hc
  have HA := Lib.hid ha; clear ha
  have HB := Lib.hid (soundM_bounds hs); clear hs
  have HX := Lib.hid (spansOf_get l span)
  unfold maxLen at hm
  have hxl := spansOf_length l span
  have HXL := Lib.hid hxl; clear hxl
  go_enter Try.func32, Try.ntmps32
  go_wp2_with fail
  go_loop [7, 8] (fun n i => ∃ k : Nat, k ≤ l.length ∧ i = .int .i64 k ∧ n = .int .i64 (dcount (fun x => decide (at_ < x)) ((spansOf l span).take k))) (fun _ i => l.length - (intOf i).toNat)
  case atStart => exact ⟨0, Nat.zero_le _, rfl, rfl⟩
  case round =>
    obtain ⟨k, hk, rfl, rfl⟩ := hrel
    have hdc := dcount_le (fun x => decide (at_ < x)) ((spansOf l span).take k)
    have hdl : ((spansOf l span).take k).length ≤ k := List.length_take_le _ _
    by_cases hlt : k < l.length
    · have e := (HA.out (by omega)).1
      have hbB := (HA.out (by omega)).2
      subst e
      have c2 := (H.out k hlt).2.1
      have ht := (HB.out k hlt).2.2.1
      have ht2 := (HB.out k hlt).2.2.2
      obtain ⟨hq1, hq2⟩ := div_bounds l[k].2 span ht h1
      have hq3 : l[k].2 / span ≤ 2147483647 := by omega
      go_wp2_with fail
      obtain ⟨x, hx⟩ : ∃ x, x = l[k].2 / span := ⟨_, rfl⟩
      rw [← hx]
      have HXX := Lib.hid hx; clear hx
      go_loop [10, 11] (fun f i => ∃ m : Nat, m ≤ k ∧ i = .int .i64 m ∧ f = .bool (!hasB ((spansOf l span).take m) x)) (fun _ i => k - (intOf i).toNat)
      case atStart => exact ⟨0, Nat.zero_le _, rfl, by simp [hasB]⟩
      case round =>
        obtain ⟨m, hm', rfl, rfl⟩ := hrel
        by_cases hmk : m < k
        · have cm := (H.out m (by omega)).2.1
          have ht' := (HB.out m (by omega)).2.2.1
          have ht2' := (HB.out m (by omega)).2.2.2
          obtain ⟨hr1, hr2⟩ := div_bounds l[m].2 span ht' h1
          have hr3 : l[m].2 / span ≤ 2147483647 := by omega
          have HCT := Lib.hid (show hasB ((spansOf l span).take (m + 1)) x = (hasB ((spansOf l span).take m) x || l[m].2 / span == x) from by
            rw [hasB_take_succ _ _ _ (by rw [HXL.out]; omega), HX.out m (by omega)])
          cases hf : hasB ((spansOf l span).take m) x
          all_goals
            have HF := Lib.hid hf
            clear hf
            go_wp2
            go_round
            case rel => exact ⟨m + 1, by omega, by go_num, by rw [HCT.out, HF.out]; simp [bne]⟩
            case measure => simp [intOf]; omega
        · obtain rfl : m = k := by omega
          have HSN := Lib.hid (show dcount (fun x => decide (at_ < x)) ((spansOf l span).take (m + 1)) = dcount (fun x => decide (at_ < x)) ((spansOf l span).take m) + if decide (at_ < x) && !hasB ((spansOf l span).take m) x then 1 else 0 from by
            rw [take_snoc _ _ (by rw [HXL.out]; omega), dcount_snoc', HX.out m (by omega), ← HXX.out])
          cases hf : hasB ((spansOf l span).take m) x
          all_goals
            have HF := Lib.hid hf
            clear hf
            by_cases hax : at_ < x
            all_goals
              go_wp2
              go_round
              case rel => exact ⟨m + 1, by omega, by go_num, by rw [HSN.out, HF.out]; simp [hax]⟩
              case measure => simp [intOf]; omega
    · go_wp2
      go_ret
      exact ⟨ret_int (by rw [List.take_of_length_le (by rw [HXL.out]; omega)]; rfl), rfl⟩
end Go.Proofs.Ytjjjonhjofllfaa
