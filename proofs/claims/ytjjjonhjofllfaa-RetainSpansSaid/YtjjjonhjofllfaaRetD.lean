/- Contract of the reference of layer 22: does the i-th snapshot stay. Conditions: the slices lie in memory as stated; snapshots and policies that may be. -/
import Derived.Test.YtjjjonhjofllfaaRetC
set_option linter.unusedVariables false
set_option linter.unusedSimpArgs false
namespace Go.Proofs.Ytjjjonhjofllfaa
open Go.RowKit

theorem spansR_b {B : Nat} {v : Value} {l : List Snap} {span at_ : Int} {w : World} (hB : B ≤ w.heap.size) (hv : SlPair B w v l) (hl : l.length ≤ 1000) (hs : soundM l = true) (h1 : 1 ≤ span) :
    Calls Try.prog 32 #[v, .int .i64 span, .int .i64 at_] w fun e w' => e = .returned (.int .i64 (laterM l span at_)) ∧ w' = w :=
  (spansR_any B v l span at_ w hB hv hl hs h1).mono fun _ _ ⟨a, b⟩ => ⟨a, b.symm⟩

set_option maxHeartbeats 1000000 in
theorem staysR_any (B : Nat) (v : Value) (l : List Snap) (last span spans : Int) (i : Nat) (w : World) (hB : B ≤ w.heap.size) (hv : SlPair B w v l) (hl : l.length ≤ 1000) (hs : soundM l = true) (h1 : 0 ≤ span)
    (hi : i < l.length) : Calls Try.prog 30 #[v, .agg #[.int .i64 last, .int .i64 span, .int .i64 spans], .int .i64 i] w fun e w' => e = .returned (.bool (staysM l last span spans i)) ∧ Below w.heap.size w w' := by
  have HV := Lib.hid hv
  have HS := Lib.hid hs
  obtain ⟨a, b, off, cap, rfl, hcap, hm, -, ha, hc⟩ := hv
  have hbB := (ha (by omega)).2
  obtain rfl := (ha (by omega)).1
  have hcell : ∀ k (h : k < l.length), w.cell? ⟨b, off + k * 2 + 1, none⟩ = some (.int .i64 l[k].2) := fun k h => (hc k h).2.1
  have H := Lib.hid hcell; clear hc hcell ha
  have HB := Lib.hid (soundM_bounds hs); clear hs
  unfold maxLen at hm
  have HD := Lib.hid (show staysM l last span spans i = _ from rfl)
  by_cases t1 : (l.length : Int) - 1 - i = 0
  · have t1' : ((l.length : Int) - 1 - (i : Int) == 0) = true := by simpa using t1
    have T1 := Lib.hid t1; clear t1
    go_enter Try.func30, Try.ntmps30
    go_wp2
    go_ret
    exact ⟨ret_bool (by unfold staysM; simp [T1.out]), (Below.refl _ _).alloc (Nat.le_refl _) _⟩
  · have t1' : ((l.length : Int) - 1 - (i : Int) == 0) = false := by simpa using t1
    have T1 := Lib.hid t1; clear t1
    by_cases t2 : (l.length : Int) - 1 - i < last
    · have T2 := Lib.hid t2
      go_enter Try.func30, Try.ntmps30
      go_wp2
      go_ret
      exact ⟨ret_bool (by unfold staysM; simp [T2.out]), (Below.refl _ _).alloc (Nat.le_refl _) _⟩
    · have T2 := Lib.hid t2
      by_cases t3 : span = 0
      · have t3' : (span == 0) = true := by simpa using t3
        have T3 := Lib.hid t3; clear t3
        go_enter Try.func30, Try.ntmps30
        go_wp2
        go_ret
        exact ⟨ret_bool (by unfold staysM; simp [T1.out, T2.out, T3.out]), (Below.refl _ _).alloc (Nat.le_refl _) _⟩
      · have t3' : (span == 0) = false := by simpa using t3
        have hsp : 1 ≤ span := by omega
        have T3 := Lib.hid t3; clear t3
        have hlt : b < w.heap.size := Nat.lt_of_lt_of_le hbB hB
        have c1 := H.out i hi
        have ht := (HB.out i hi).2.2.1
        have ht2 := (HB.out i hi).2.2.2
        obtain ⟨hq1, hq2⟩ := div_bounds l[i].2 span ht hsp
        have hq3 : l[i].2 / span ≤ 2147483647 := by omega
        go_enter Try.func30, Try.ntmps30
        go_wp2_with fail
        go_quiet (fail)
        go_wp2_with fail
        have HL := Lib.hid (lastOf_eq l span i hi)
        have HX := Lib.hid (spansOf_get l span)
        have HXL := Lib.hid (spansOf_length l span)
        go_loopw [9] (fun k wr => ∃ m n : Nat, i + 1 + m ≤ l.length ∧ k = .int .i64 ((i : Int) + 1 + m) ∧ hasB (((spansOf l span).drop (i + 1)).take m) (l[i].2 / span) = false ∧
            wr = (w.alloc (.cells #[.int .i64 last, .int .i64 span, .int .i64 spans] 24)).drewN n) (fun k _ => l.length - (intOf k).toNat)
        case atStart => exact ⟨0, _, by omega, by simp, by simp [hasB], rfl⟩
        case round =>
          obtain ⟨m, n, hm1, rfl, hno, rfl⟩ := hrel
          have HN := Lib.hid hno; clear hno
          by_cases hlt1 : i + 1 + m < l.length
          · have cm : w.cell? ⟨b, off + (i + 1 + m) * 2 + 1, none⟩ = some (.int .i64 l[i + 1 + m].2) := H.out (i + 1 + m) hlt1
            have ht' := (HB.out (i + 1 + m) hlt1).2.2.1
            have ht2' := (HB.out (i + 1 + m) hlt1).2.2.2
            obtain ⟨hr1, hr2⟩ := div_bounds l[i + 1 + m].2 span ht' hsp
            have hr3 : l[i + 1 + m].2 / span ≤ 2147483647 := by omega
            have hix : ((i : Int) + 1 + (m : Int)).toNat = i + 1 + m := by omega
            have HS1 := Lib.hid (show hasB (((spansOf l span).drop (i + 1)).take (m + 1)) (l[i].2 / span) = (hasB (((spansOf l span).drop (i + 1)).take m) (l[i].2 / span) || l[i + 1 + m].2 / span == l[i].2 / span) from by
              rw [hasB_take_succ _ _ _ (by rw [List.length_drop, HXL.out]; omega), List.getElem_drop, HX.out _ hlt1])
            cases hq : (l[i + 1 + m].2 / span == l[i].2 / span)
            · go_wp2_with fail
              go_quiet (fail)
              go_wp2
              go_roundw
              case rel => exact ⟨m + 1, _, by omega, by go_num, by rw [HS1.out, HN.out, hq]; rfl, rfl⟩
              case measure => simp [intOf]; omega
            · go_wp2_with fail
              go_quiet (fail)
              go_wp2
              go_ret
              refine ⟨ret_bool ?_, Below.drewN (Below.drewN ((Below.refl _ _).alloc (Nat.le_refl _) _) _) _⟩
              have hh : hasB ((spansOf l span).drop (i + 1)) (l[i].2 / span) = true :=
                hasB_true m (by rw [List.length_drop, HXL.out]; omega) (by rw [List.getElem_drop, HX.out _ hlt1]; simpa using hq)
              unfold staysM
              rw [HL.out, hh]
              simp [T1.out, T2.out]
          · have hm2 : m = l.length - (i + 1) := by omega
            have HNN := Lib.hid (show hasB ((spansOf l span).drop (i + 1)) (l[i].2 / span) = false from by
              have := HN.out
              rwa [List.take_of_length_le (by rw [List.length_drop, HXL.out]; omega)] at this)
            have HM := Lib.hid hm2; clear hm2
            have HCALL := Lib.hid (show ∀ W, Below w.heap.size w W → _ from fun W hW => spansR_b (w := W) (at_ := l[i].2 / span) (Nat.le_trans hB hW.size) (SlPair.below HV.out (hW.mono hB) (Nat.le_refl _)) hl HS.out hsp)
            go_wp2_with fail
            go_quiet ((go_at_call 32; refine quiet_sum (HCALL.out _ ?_); exact Below.drewN ((Below.refl _ _).alloc (Nat.le_refl _) _) _))
            go_wp2
            go_ret
            refine ⟨ret_bool ?_, Below.drewN (Below.drewN ((Below.refl _ _).alloc (Nat.le_refl _) _) _) _⟩
            unfold staysM
            rw [HL.out, HNN.out]
            have t2' := T2.out
            simp [T1.out, T3.out, hi]
            intro hh; omega
end Go.Proofs.Ytjjjonhjofllfaa
