/- Contracts of the reference of layer 22: which snapshots may be. Conditions: the slices lie in memory as stated. -/
import Derived.Test.YtjjjonhjofllfaaRetA
set_option linter.unusedVariables false
set_option linter.unusedSimpArgs false
namespace Go.Proofs.Ytjjjonhjofllfaa
open Go.RowKit

theorem nthLast_ge (l : List Snap) (last : Int) (h : soundFrom last l = true) : last ≤ nthLast last l := by
  induction l generalizing last with
  | nil => exact Int.le_refl _
  | cons s l ih =>
    simp [soundFrom, withinB] at h
    have := ih s.1 h.2
    simp only [nthLast]; omega
theorem nthLast_pos (l : List Snap) (k : Nat) (h0 : 0 < k) (hk : k - 1 < l.length) : nthLast 0 (l.take k) = l[k-1].1 := by
  have := nthLast_take_succ l (k - 1) hk
  rw [show k - 1 + 1 = k from by omega] at this
  exact this

theorem soundR_no {l : List Snap} {k : Nat} (hlt : k < l.length) (hs : soundFrom 0 (l.take k) = true)
    (h : withinB l[k].2 0 2147483647 = false ∨ withinB l[k].1 1 2147483647 = false ∨ (0 < k ∧ l[k].1 ≤ l[k-1].1)) : soundM l = false := by
  refine soundFrom_take l (k + 1) ?_
  have hge := nthLast_ge _ _ hs
  rw [soundFrom_take_succ l k hlt, hs]
  rcases h with h | h | ⟨h, h'⟩
  · simp [h]
  · simp [withinB] at h ⊢; omega
  · have := nthLast_pos l k h (by omega)
    simp [withinB]; omega
theorem soundR_yes {l : List Snap} {k : Nat} (hlt : k < l.length) (hs : soundFrom 0 (l.take k) = true)
    (h2 : withinB l[k].2 0 2147483647 = true) (h1 : withinB l[k].1 1 2147483647 = true) (h : k ≤ 0 ∨ (0 < k ∧ l[k-1].1 < l[k].1)) : soundFrom 0 (l.take (k + 1)) = true := by
  rw [soundFrom_take_succ l k hlt, hs, h2]
  simp [withinB] at h1 ⊢
  rcases h with h | ⟨h, h'⟩
  · obtain rfl : k = 0 := by omega
    simp [nthLast]; omega
  · have := nthLast_pos l k h (by omega)
    omega

theorem withinR_b {n lo hi : Int} {x : Bool} (w : World) (h : withinB n lo hi = x) :
    Calls Try.prog 27 #[.int .i64 n, .int .i64 lo, .int .i64 hi] w fun e w' => e = .returned (.bool x) ∧ w' = w := by
  subst h
  exact (withinR_any n lo hi w).mono fun _ _ ⟨a, b⟩ => ⟨a, b.symm⟩

set_option maxHeartbeats 1000000 in
theorem soundR_any (B : Nat) (v : Value) (l : List Snap) (w : World) (hB : B ≤ w.heap.size) (hv : SlPair B w v l) :
    Calls Try.prog 21 #[v] w fun e w' => e = .returned (.bool (soundM l)) ∧ Below w.heap.size w w' := by
  obtain ⟨a, b, off, cap, rfl, hcap, hm, -, ha, hc⟩ := hv
  have H := Lib.hid hc; clear hc
  have HA := Lib.hid ha; clear ha
  unfold maxLen at hm
  go_enter Try.func21, Try.ntmps21
  go_wp2_with fail
  go_loopw [3] (fun i wr => ∃ k : Nat, k ≤ l.length ∧ i = .int .i64 k ∧ soundFrom 0 (l.take k) = true ∧ Below w.heap.size w wr) (fun i _ => l.length - (intOf i).toNat)
  case atStart => exact ⟨0, Nat.zero_le _, rfl, rfl, Below.refl _ _⟩
  case round =>
    obtain ⟨k, hk, rfl, hs, hb⟩ := hrel
    have hge := nthLast_ge _ _ hs
    have HS := Lib.hid hs; clear hs
    by_cases hlt : k < l.length
    · have e := (HA.out (by omega)).1
      have hbB := (HA.out (by omega)).2
      subst e
      have c1 := (hb.cell (by exact Nat.lt_of_lt_of_le hbB hB)).trans (H.out k hlt).1.1
      have c2 := (hb.cell (by exact Nat.lt_of_lt_of_le hbB hB)).trans (H.out k hlt).2.1
      have HN := Lib.hid (soundFrom_take_succ l k hlt)
      have HB := Lib.hid hb
      have HC3 : Hid (∀ h : 0 < k, wr.cell? ⟨b, off + (k - 1) * 2, none⟩ = some (.int .i64 l[k-1].1)) := fun h => (hb.cell (by exact Nat.lt_of_lt_of_le hbB hB)).trans (H.out (k - 1) (by omega)).1.1
      clear hb
      cases h3 : withinB l[k].2 0 2147483647 <;> cases h4 : withinB l[k].1 1 2147483647
      all_goals
        have H3 := Lib.hid h3
        have H4 := Lib.hid h4
        clear h3 h4
      case' true.true =>
        have HC4 : Hid (1 ≤ l[k].1 ∧ l[k].1 ≤ 2147483647) := by have := H4.out; simp [withinB] at this; exact this
        by_cases hk0 : k ≤ 0
        have hd0 : decide (0 < k) = false := by simp; omega
        have HK0 := Lib.hid hk0
        clear hk0
        rotate_left
        have hk1 : 0 < k := by omega
        clear hk0
        have c3 := HC3.out hk1
        have hpr : ((k : Int) - 1).toNat = k - 1 := by omega
        have HNP := Lib.hid (nthLast_pos l k hk1 (by omega))
        by_cases hle : l[k].1 ≤ l[k-1].1
      all_goals
        go_wp2_with fail
        go_quiet ((first | (go_at_call 27; with_reducible exact Calls.quiet_of_same (withinR_b _ H4.out)) | (go_at_call 27; with_reducible exact Calls.quiet_of_same (withinR_b _ H3.out))))
        go_wp2
      case roundEnd | roundEnd =>
        go_roundw
        case rel => exact ⟨k + 1, by omega, by go_num, soundR_yes hlt HS.out H3.out H4.out (by first | exact .inl HK0.out | exact .inr ⟨hk1, by omega⟩), Below.drewN HB.out _⟩
        case measure => simp [intOf]; omega
      all_goals
        go_ret
        refine ⟨ret_bool (soundR_no hlt HS.out ?_).symm, Below.drewN HB.out _⟩
        first | exact .inl H3.out | exact .inr (.inl H4.out) | exact .inr (.inr ⟨hk1, hle⟩)
    · go_wp2
      go_ret
      exact ⟨ret_bool (by rw [soundM_eq l k (by omega), HS.out]), hb⟩
end Go.Proofs.Ytjjjonhjofllfaa
