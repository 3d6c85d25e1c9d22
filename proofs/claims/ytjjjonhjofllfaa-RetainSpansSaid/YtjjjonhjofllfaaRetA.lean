/- Contracts of layer 22's small functions and of the reference's: which policies and which snapshots may be. Conditions: the slices lie in memory as stated. -/
import Derived.Test.YtjjjonhjofllfaaProg
import Derived.Test.YtjjjonhjofllfaaRetM
set_option linter.unusedVariables false
set_option linter.unusedSimpArgs false
namespace Go.Proofs.Ytjjjonhjofllfaa
open Go.RowKit

set_option maxHeartbeats 400000 in
theorem within_any (n lo hi : Int) (w : World) :
    Calls Try.prog 24 #[.int .i64 n, .int .i64 lo, .int .i64 hi] w fun e w' => e = .returned (.bool (withinB n lo hi)) ∧ w = w' := by
  have H := Lib.hid (show withinB n lo hi = (decide (lo ≤ n) && decide (n ≤ hi)) from rfl)
  go_enter Try.func24, Try.ntmps24
  by_cases h : lo ≤ n
  · go_wp2
    go_ret
    exact ⟨by rw [H.out]; simp [h], rfl⟩
  · go_wp2
    go_ret
    exact ⟨by rw [H.out]; simp; omega, rfl⟩

set_option maxHeartbeats 400000 in
theorem withinR_any (n lo hi : Int) (w : World) :
    Calls Try.prog 27 #[.int .i64 n, .int .i64 lo, .int .i64 hi] w fun e w' => e = .returned (.bool (withinB n lo hi)) ∧ w = w' := by
  have H := Lib.hid (show withinB n lo hi = (decide (lo ≤ n) && decide (n ≤ hi)) from rfl)
  go_enter Try.func27, Try.ntmps27
  by_cases h : lo ≤ n
  · go_wp2
    go_ret
    exact ⟨by rw [H.out]; simp [h], rfl⟩
  · go_wp2
    go_ret
    exact ⟨by rw [H.out]; simp; omega, rfl⟩

set_option maxHeartbeats 400000 in
theorem check_any (last span spans : Int) (w : World) :
    Calls Try.prog 12 #[.agg #[.int .i64 last, .int .i64 span, .int .i64 spans]] w fun e w' => e = .returned (.int .i64 (checkM last span spans)) ∧ Below w.heap.size w w' := by
  have H := Lib.hid (show checkM last span spans = if withinB last 0 64 && withinB spans 0 64 && withinB span 0 2147483647 then 0 else 5 from rfl)
  cases h1 : withinB last 0 64 <;> cases h2 : withinB spans 0 64 <;> cases h3 : withinB span 0 2147483647
  all_goals
    have H1 := Lib.hid h1; have H2 := Lib.hid h2; have H3 := Lib.hid h3
    clear h1 h2 h3
    go_enter Try.func12, Try.ntmps12
    go_wp2_with (go_at_call 24; refine (within_any _ _ _ _).mono ?_; rintro e w' ⟨rfl, rfl⟩; simp only [H1.out, H2.out, H3.out])
    go_ret
    exact ⟨ret_int (by rw [H.out, H1.out, H2.out, H3.out]; rfl), (Below.refl _ _).alloc (Nat.le_refl _) _⟩

set_option maxHeartbeats 400000 in
theorem checkR_any (last span spans : Int) (w : World) :
    Calls Try.prog 20 #[.agg #[.int .i64 last, .int .i64 span, .int .i64 spans]] w fun e w' => e = .returned (.int .i64 (checkM last span spans)) ∧ Below w.heap.size w w' := by
  have H := Lib.hid (show checkM last span spans = if withinB last 0 64 && withinB spans 0 64 && withinB span 0 2147483647 then 0 else 5 from rfl)
  cases h1 : withinB last 0 64 <;> cases h2 : withinB spans 0 64 <;> cases h3 : withinB span 0 2147483647
  all_goals
    have H1 := Lib.hid h1; have H2 := Lib.hid h2; have H3 := Lib.hid h3
    clear h1 h2 h3
    go_enter Try.func20, Try.ntmps20
    go_wp2_with (go_at_call 27; refine (withinR_any _ _ _ _).mono ?_; rintro e w' ⟨rfl, rfl⟩; simp only [H1.out, H2.out, H3.out])
    go_ret
    exact ⟨ret_int (by rw [H.out, H1.out, H2.out, H3.out]; rfl), (Below.refl _ _).alloc (Nat.le_refl _) _⟩

set_option maxHeartbeats 1000000 in
theorem sound_any (B : Nat) (v : Value) (l : List Snap) (w : World) (hB : B ≤ w.heap.size) (hv : SlPair B w v l) :
    Calls Try.prog 11 #[v] w fun e w' => e = .returned (.bool (soundM l)) ∧ Below w.heap.size w w' := by
  obtain ⟨a, b, off, cap, rfl, hcap, hm, -, ha, hc⟩ := hv
  have H := Lib.hid hc; clear hc
  have HA := Lib.hid ha; clear ha
  unfold maxLen at hm
  go_enter Try.func11, Try.ntmps11
  go_wp2_with fail
  go_loopw [3, 8] (fun last i wr => ∃ k : Nat, k ≤ l.length ∧ i = .int .i64 k ∧ last = .int .i64 (nthLast 0 (l.take k)) ∧ soundFrom 0 (l.take k) = true ∧ Below w.heap.size w wr) (fun _ i _ => l.length - (intOf i).toNat)
  case atStart => exact ⟨0, Nat.zero_le _, rfl, rfl, rfl, Below.refl _ _⟩
  case round =>
    obtain ⟨k, hk, rfl, rfl, hs, hb⟩ := hrel
    have HS := Lib.hid hs; clear hs
    by_cases hlt : k < l.length
    · have e := (HA.out (by omega)).1
      have hbB := (HA.out (by omega)).2
      subst e
      have c1 := (hb.cell (by exact Nat.lt_of_lt_of_le hbB hB)).trans (H.out k hlt).1.1
      have c2 := (hb.cell (by exact Nat.lt_of_lt_of_le hbB hB)).trans (H.out k hlt).2.1
      have hsz := hb.size
      have HN := Lib.hid (soundFrom_take_succ l k hlt)
      have HL := Lib.hid (nthLast_take_succ l k hlt)
      have HB := Lib.hid hb; clear hb
      cases h3 : withinB l[k].2 0 2147483647
      all_goals
        have H3 := Lib.hid h3
        clear h3
        go_wp2_with (go_at_call 24; refine (within_any _ _ _ _).mono ?_; rintro e w' ⟨rfl, rfl⟩; simp only [H3.out])
      case roundEnd =>
        go_roundw
        case rel =>
          refine ⟨k + 1, by omega, by go_num, by rw [HL.out], ?_, HB.out.alloc hsz _⟩
          rw [HN.out, HS.out, H3.out]; simp; omega
        case measure => simp [intOf]; omega
      all_goals
        go_ret
        refine ⟨ret_bool ?_, HB.out.alloc hsz _⟩
        rw [soundFrom_take l (k + 1)]
        rw [HN.out, HS.out, H3.out]
        simp
        try omega
    · go_wp2
      go_ret
      exact ⟨ret_bool (by rw [soundM_eq l k (by omega), HS.out]), hb⟩
end Go.Proofs.Ytjjjonhjofllfaa
