/- Contract of layer 22's ends: which snapshots are the last of their spans, of the latest so many spans. Conditions: the slice lies in memory as stated; snapshots and policies that may be. -/
import Derived.Test.YtjjjonhjofllfaaRetF
import Derived.StillTailTactics
import Derived.Deep.RegionWith
set_option linter.unusedVariables false
set_option linter.unusedSimpArgs false
namespace Go.Proofs.Ytjjjonhjofllfaa
open Go.RowKit Go.Maps

theorem zeroUnit (w : World) : (zeroValue 48).run Try.prog w = .ok (.agg #[]) w := by kernel_rfl

def EndsPost (l : List Snap) (span spans : Int) (w : World) (e : Ending) (w' : World) : Prop := ∃ b n, e = .returned (.map (some b)) ∧ b < w'.heap.size ∧ w.heap.size ≤ b ∧ SetIs Try.prog 3 w' b n (outsM l span spans) ∧ Below w.heap.size w w'

set_option maxHeartbeats 1000000 in
theorem ends_zero (v : Value) (l : List Snap) (last spans : Int) (w : World) :
    Calls Try.prog 28 #[v, .agg #[.int .i64 last, .int .i64 0, .int .i64 spans]] w (EndsPost l 0 spans w) := by
  have hmm := @run_makeMap Try.prog
  go_enter Try.func28, Try.ntmps28
  go_wp2
  go_ret
  refine ⟨w.heap.size + 1, 0, rfl, by simp, by omega, ?_, ?_⟩
  · have h := SetIs.none Try.prog 3 (w.alloc (.cells #[.int .i64 last, .int .i64 0, .int .i64 spans] 24))
    simp only [World.size_alloc] at h
    exact h.grown (World.grownBy_alloc _ _ none) (by simp) (Nat.le_refl _)
  · exact (((Below.refl _ _).alloc (Nat.le_refl _) _).alloc (by simp) _).alloc (by simp; omega) _

set_option maxHeartbeats 2000000 in
theorem ends_any (B : Nat) (v : Value) (l : List Snap) (last span spans : Int) (w : World) (hB : B ≤ w.heap.size) (hv : SlPair B w v l) (hl : l.length ≤ 1000) (hs : soundM l = true) (h1 : 1 ≤ span) :
    Calls Try.prog 28 #[v, .agg #[.int .i64 last, .int .i64 span, .int .i64 spans]] w (EndsPost l span spans w) := by
  have HV := Lib.hid hv
  have HS := Lib.hid hs
  obtain ⟨a, b, off, cap, rfl, hcap, hm, -, ha, hc⟩ := hv
  have H := Lib.hid hc; clear hc
  have HA := Lib.hid ha; clear ha
  have HB := Lib.hid (soundM_bounds hs); clear hs
  unfold maxLen at hm
  have h0 : (span == 0) = false := by simp; omega
  have hn0 : ¬ span = 0 := by omega
  have hmm := @run_makeMap Try.prog
  go_enter Try.func28, Try.ntmps28
  have hst := EndsAt.start Try.prog 3 24 46 w last span spans
  go_wp2_with fail
  go_loopw [24] (fun i wr => ∃ k : Nat, k ≤ l.length ∧ i = .int .i64 k ∧ EndsAt Try.prog 3 w wr w.heap.size last span spans k [] [] ((spansOf l span).take k)) (fun i _ => l.length - (intOf i).toNat)
  case atStart => exact ⟨0, Nat.zero_le _, rfl, hst⟩
  case round =>
    obtain ⟨k, hk, rfl, hE⟩ := hrel
    by_cases hlt : k < l.length
    · have e := (HA.out (by omega)).1
      have hbB := (HA.out (by omega)).2
      subst e
      have q1 := (hE.below.cell (by exact Nat.lt_of_lt_of_le hbB hB)).trans (H.out k hlt).1.1
      have q2 := (hE.below.cell (by exact Nat.lt_of_lt_of_le hbB hB)).trans (H.out k hlt).2.1
      have HE := Lib.hid hE; clear hE
      have ht := (HB.out k hlt).2.2.1
      have ht2 := (HB.out k hlt).2.2.2
      obtain ⟨hq1, hq2⟩ := div_bounds l[k].2 span ht h1
      have hq3 : l[k].2 / span ≤ 2147483647 := by omega
      go_wp2_with fail
      obtain ⟨W2, hW2⟩ : ∃ W2, W2 = wr.alloc (.cells #[.int .i64 l[k].1, .int .i64 l[k].2] 37) := ⟨_, rfl⟩
      rw [← hW2]
      have f1 : W2.cell? ⟨wr.heap.size, 1, none⟩ = some (.int .i64 l[k].2) := by rw [hW2]; go_simp
      have hE2 := HE.out.alloc (.cells #[.int .i64 l[k].1, .int .i64 l[k].2] 37)
      rw [← hW2] at hE2
      clear hW2 q1 q2
      have p1 := hE2.c1
      have pb := hE2.box
      have HE2 := Lib.hid hE2; clear hE2
      refine wp_region_still_tail 7 (by kernel_rfl) (by kernel_rfl) ?_
      simp only [List.take_succ_cons, List.take_zero, List.drop_succ_cons, List.drop_zero]
      change wpStill _ _ (World.drew _) _ _ _
      have hwr := wrap_tdiv ht h1 (show l[k].2 ≤ 9223372036854775807 by omega)
      repeat still_step
      refine wpStill_nil ?_
      obtain ⟨D, hown, hhas⟩ := HE2.out.drew.sps
      have HH := Lib.hid hhas; clear hhas
      have hwf : (Lit.int .i64 (l[k].2 / span)).wf = true := WalkArith.wf_i64 (by omega)
      have HC := Lib.hid (fun y => hasB_take_cons (xs := spansOf l span) (m := k) (by rw [spansOf_length]; exact hlt) (spansOf_get l span k hlt) y)
      go_wp2_with (at_mapUpdate; refine wpList_mapUpdate_own _ rfl _ _ _ 46 rfl 3 48 lawInt Try.underlying46 (unitElem (H := Unit)) (w.heap.size + 1 + 1 + 1) k D rfl hown (by unfold maxLen; omega) _ _ _ rfl rfl (keyOf_int_mk Try.underlying3 hwf) _ [] unitElem_mk ?_; intro w3 hown3 hg3)
      have hE3 := HE2.out.drew.putSps hown HH.out hown3 hg3 HC.out
      clear hown3 hg3 hown
      go_wp2
      go_roundw
      case rel => exact ⟨k + 1, by omega, by go_num, hE3⟩
      case measure => simp [intOf]; omega
    · obtain rfl : k = l.length := by omega
      have hE' : EndsAt Try.prog 3 w wr w.heap.size last span spans (l.length + 2 * (l.length - l.length)) (outsAt l span spans l.length) ((spansOf l span).drop l.length) (spansOf l span) := by
        have e1 : outsAt l span spans l.length = [] := by unfold outsAt; rw [Nat.sub_self]; rfl
        have e2 : (spansOf l span).drop l.length = [] := List.drop_of_length_le (by rw [spansOf_length]; omega)
        have e3 : (spansOf l span).take l.length = spansOf l span := List.take_of_length_le (by rw [spansOf_length]; omega)
        rw [e1, e2, ← e3]
        exact hE.mono (by omega)
      clear hE
      go_wp2_with fail
      go_loopw [11] (fun i wr => ∃ j : Nat, j ≤ l.length ∧ i = .int .i64 ((j : Int) - 1) ∧ EndsAt Try.prog 3 w wr w.heap.size last span spans (l.length + 2 * (l.length - j)) (outsAt l span spans j) ((spansOf l span).drop j) (spansOf l span)) (fun i _ => (intOf i + 1).toNat)
      case atStart => exact ⟨l.length, Nat.le_refl _, rfl, hE'⟩
      case round =>
        obtain ⟨j, hj, rfl, hE⟩ := hrel
        by_cases hj0 : 1 ≤ j
        · obtain ⟨m, rfl⟩ : ∃ m, j = m + 1 := ⟨j - 1, by omega⟩
          have em : (((m + 1 : Nat) : Int) - 1) = (m : Int) := by omega
          rw [em]
          clear em
          have e := (HA.out (by omega)).1
          have hbB := (HA.out (by omega)).2
          subst e
          have q2 := (hE.below.cell (by exact Nat.lt_of_lt_of_le hbB hB)).trans (H.out m hj).2.1
          have p1 := hE.c1
          have HE := Lib.hid hE; clear hE
          have ht := (HB.out m hj).2.2.1
          have ht2 := (HB.out m hj).2.2.2
          obtain ⟨hq1, hq2⟩ := div_bounds l[m].2 span ht h1
          have hq3 : l[m].2 / span ≤ 2147483647 := by omega
          go_wp2_with fail
          go_quiet (fail)
          have hE2 := HE.out.drewN nq
          obtain ⟨W2, hW2⟩ : ∃ W2, W2 = wr.drewN nq := ⟨_, rfl⟩
          rw [← hW2] at hE2 ⊢
          clear hW2 q2 p1
          have HE2 := Lib.hid hE2
          obtain ⟨D, hown, hhas⟩ := hE2.seen
          have HH := Lib.hid hhas; clear hhas hE2
          have hwf : (Lit.int .i64 (l[m].2 / span)).wf = true := WalkArith.wf_i64 (by omega)
          have HX := Lib.hid (spansOf_get l span m hj)
          have hxl : m < (spansOf l span).length := by rw [spansOf_length]; exact hj
          have HK := Lib.hid (outsAt_step l span spans m hj)
          have hlo := lastOf_eq l span m hj
          cases hsee : hasB ((spansOf l span).drop (m + 1)) (l[m].2 / span)
          · rw [hsee] at hlo
            have HLO := Lib.hid hlo; have HSEE := Lib.hid hsee; clear hlo hsee
            go_wp2_with (first
              | (at_lookup; refine wpList_lookup_own_unit _ rfl _ _ 46 rfl 3 48 lawInt Try.underlying46 (zeroUnit _) (w.heap.size + 1 + 1) _ D rfl hown _ _ rfl (keyOf_int_mk Try.underlying3 hwf) ?_; rw [HH.out, HSEE.out])
              | (at_mapUpdate; refine wpList_mapUpdate_own _ rfl _ _ _ 46 rfl 3 48 lawInt Try.underlying46 (unitElem (H := Unit)) (w.heap.size + 1 + 1) _ D rfl (hown.alloc _) (by unfold maxLen; omega) _ _ _ rfl rfl (keyOf_int_mk Try.underlying3 hwf) _ [] unitElem_mk ?_; intro w4 hown4 hg4; go_frame))
            have hE4 := (HE2.out.alloc _).putSeen (hown.alloc _) HH.out hown4 hg4 (hasB_drop_cons hxl HX.out)
            clear hown4 hg4 hown
            have p2 := hE4.c2
            have HE4 := Lib.hid hE4; clear hE4
            have HCALL := Lib.hid (later_any _ _ _ (spansOf l span) (l[m].2 / span) w4.drew HE4.out.drew.box (by rw [spansOf_length]; omega) HE4.out.drew.sps)
            have hwn : (Lit.int .i64 l[m].1).wf = true := WalkArith.wf_i64 (by have := HB.out m hj; omega)
            have hkb : keepB l span spans m = decide (((dcount (fun x => decide (l[m].2 / span < x)) (spansOf l span) : Nat) : Int) < spans) := by
              unfold keepB; rw [HLO.out, getD_snap (show m < l.length from hj)]; rfl
            have HKB := Lib.hid hkb; clear hkb
            by_cases hls : ((dcount (fun x => decide (l[m].2 / span < x)) (spansOf l span) : Nat) : Int) < spans
            · have hK := HK.out
              rw [show keepB l span spans m = true from by rw [HKB.out]; simp [hls], if_pos rfl] at hK
              have HKK := Lib.hid hK; clear hK
              go_region_with (go_at_call 31; refine HCALL.out.mono ?_; rintro e w5 ⟨rfl, hb5⟩; have p2' := (HE4.out.drew.later hb5).c2)
              all_goals
                have hE5 := HE4.out.drew.later hb5
                have q1 := (hE5.below.cell (by exact Nat.lt_of_lt_of_le hbB hB)).trans (H.out m hj).1.1
                have HE5 := Lib.hid hE5
                obtain ⟨D2, hown2, hhas2⟩ := hE5.outs
                have HH2 := Lib.hid hhas2; clear hhas2 hE5 hb5
                go_wp2_with (at_mapUpdate; refine wpList_mapUpdate_own _ rfl _ _ _ 46 rfl 3 48 lawInt Try.underlying46 (unitElem (H := Unit)) (w.heap.size + 1) _ D2 rfl hown2 (by unfold maxLen; omega) _ _ _ rfl rfl (keyOf_int_mk Try.underlying3 hwn) _ [] unitElem_mk ?_; intro w6 hown6 hg6; go_frame)
                have hE6 := (HE5.out.putOuts hown2 HH2.out hown6 hg6).mono (show _ ≤ l.length + 2 * (l.length - m) by omega)
                clear hown6 hg6 hown2
                have HE6 := Lib.hid hE6; clear hE6
                go_wp2
                go_roundw
                case rel => exact ⟨m, by omega, by go_num, by rw [HKK.out]; exact HE6.out⟩
                case measure => simp [intOf]
            · have hK := HK.out
              rw [show keepB l span spans m = false from by rw [HKB.out]; simp; omega, if_neg (by simp)] at hK
              have HKK := Lib.hid hK; clear hK
              go_region_with (go_at_call 31; refine HCALL.out.mono ?_; rintro e w5 ⟨rfl, hb5⟩; have p2' := (HE4.out.drew.later hb5).c2)
              all_goals
                have HE6 := Lib.hid ((HE4.out.drew.later hb5).mono (show _ ≤ l.length + 2 * (l.length - m) by omega))
                clear hb5
                go_wp2
                go_roundw
                case rel => exact ⟨m, by omega, by go_num, by rw [HKK.out]; exact HE6.out⟩
                case measure => simp [intOf]
          · rw [hsee] at hlo
            have HLO := Lib.hid hlo; have HSEE := Lib.hid hsee; clear hlo hsee
            go_wp2_with (at_lookup; refine wpList_lookup_own_unit _ rfl _ _ 46 rfl 3 48 lawInt Try.underlying46 (zeroUnit _) (w.heap.size + 1 + 1) _ D rfl hown _ _ rfl (keyOf_int_mk Try.underlying3 hwf) ?_; rw [HH.out, HSEE.out])
            have hK := HK.out
            rw [show keepB l span spans m = false from by unfold keepB; rw [HLO.out]; rfl] at hK
            have HE5 := Lib.hid ((((HE2.out.alloc (.cells #[] 48)).seenAs (hasB_drop_seen hxl HX.out HSEE.out))).mono (show _ ≤ l.length + 2 * (l.length - m) by omega))
            clear hown
            go_roundw
            case rel => exact ⟨m, by omega, by go_num, by rw [hK]; exact HE5.out⟩
            case measure => simp [intOf]
        · obtain rfl : j = 0 := by omega
          go_wp2
          go_ret
          have hro := hE.room
          refine ⟨w.heap.size + 1, l.length + 2 * (l.length - 0), rfl, by omega, by omega, ?_, hE.below⟩
          have h2 := hE.outs
          rw [show outsM l span spans = outsAt l span spans 0 from by unfold outsM outsAt; rw [if_neg (by omega)]; rfl]
          exact h2
end Go.Proofs.Ytjjjonhjofllfaa
