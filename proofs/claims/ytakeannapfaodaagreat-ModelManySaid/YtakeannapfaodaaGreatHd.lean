/- Merged of RetB, RetC, RetD, RetE, RetJ, RetZ, XL, YA, YB, YC, YD, YE, RetY, YF, YG, XF, XG, XN, YH, YI, YJ, XM, YK, YL, YM, YN, TreeOpn, ModOpn, YO. Conditions: none. -/
import Derived.Test.YtakeannapfaodaaGreatHc
import Derived.ChangeMaps5
namespace Go.Proofs.YtakeannapfaodaaGreat
open Go.RowKit
set_option linter.unusedVariables false
set_option linter.unusedSimpArgs false
set_option maxRecDepth 100000
theorem nthLast_ge (l : List Snap) (last : Int) (h : soundFrom last l = true) : last ≤ nthLast last l := by
 induction l generalizing last with
 | nil => exact Int.le_refl _
 | cons s l ih =>
  simp [soundFrom, withinB] at h
  have := ih s.1 h.2
  simp only [nthLast]; omega
theorem nthLast_pos (l : List Snap) (k : Nat) (h0 : 0 < k) (hk : k - 1 < l.length) : nthLast 0 (l.take k) = l[k-1].1 := by
 have := nthLast_take_succ l (k - 1) hk
 rw [show k - 1 + 1 = k from by omega] at this
 exact this
theorem soundR_no {l : List Snap} {k : Nat} (hlt : k < l.length) (hs : soundFrom 0 (l.take k) = true)
 (h : withinB l[k].2 0 2147483647 = false ∨ withinB l[k].1 1 2147483647 = false ∨ (0 < k ∧ l[k].1 ≤ l[k-1].1)) : soundM l = false := by
 refine soundFrom_take l (k + 1) ?_
 have hge := nthLast_ge _ _ hs
 rw [soundFrom_take_succ l k hlt, hs]
 rcases h with h | h | ⟨h, h'⟩
 ·simp [h]
 ·simp [withinB] at h ⊢; omega
 have := nthLast_pos l k h (by omega)
 simp [withinB]; omega
theorem soundR_yes {l : List Snap} {k : Nat} (hlt : k < l.length) (hs : soundFrom 0 (l.take k) = true)
 (h2 : withinB l[k].2 0 2147483647 = true) (h1 : withinB l[k].1 1 2147483647 = true) (h : k ≤ 0 ∨ (0 < k ∧ l[k-1].1 < l[k].1)) : soundFrom 0 (l.take (k + 1)) = true := by
 rw [soundFrom_take_succ l k hlt, hs, h2]
 simp [withinB] at h1 ⊢
 rcases h with h | ⟨h, h'⟩
 ·obtain rfl : k = 0 := by omega
  simp [nthLast]; omega
 have := nthLast_pos l k h (by omega)
 omega
theorem withinR_b {n lo hi : Int} {x : Bool} (w : World) (h : withinB n lo hi = x) :
 Calls Tryz.prog 100 #[.int .i64 n, .int .i64 lo, .int .i64 hi] w fun e w' => e = .returned (.bool x) ∧ w' = w := by
 subst h
 exact (withinR_any n lo hi w).mono fun _ _ ⟨a, b⟩ => ⟨a, b.symm⟩
set_option maxHeartbeats 1000000 in
theorem soundR_any (B : Nat) (v : Value) (l : List Snap) (w : World) (hB : B ≤ w.heap.size) (hv : SlPair B w v l) :
 Calls Tryz.prog 82 #[v] w fun e w' => e = .returned (.bool (soundM l)) ∧ Below w.heap.size w w' := by
 obtain ⟨a, b, off, cap, rfl, hcap, hm, -, ha, hc⟩ := hv
 have H := Lib.hid hc; clear hc
 have HA := Lib.hid ha; clear ha
 unfold maxLen at hm
 go_enter Tryz.func82, Tryz.ntmps82
 go_wp2_with fail
 go_loopw [3] (fun i wr => ∃ k : Nat, k ≤ l.length ∧ i = .int .i64 k ∧ soundFrom 0 (l.take k) = true ∧ Below w.heap.size w wr) (fun i _ => l.length - (intOf i).toNat)
 case atStart => exact ⟨0, Nat.zero_le _, rfl, rfl, Below.refl _ _⟩
 case round =>
  obtain ⟨k, hk, rfl, hs, hb⟩ := hrel
  have hge := nthLast_ge _ _ hs
  have HS := Lib.hid hs; clear hs
  by_cases hlt : k < l.length
  ·have e := (HA.out (by omega)).1
   have hbB := (HA.out (by omega)).2
   subst e
   have c1 := (hb.cell Y21).trans (H.out k hlt).1.1
   have c2 := (hb.cell Y21).trans (H.out k hlt).2.1
   have HN := Lib.hid (soundFrom_take_succ l k hlt)
   have HB := Lib.hid hb
   have HC3 : Hid (∀ h : 0 < k, wr.cell? ⟨b, off + (k - 1) * 2, none⟩ = some (.int .i64 l[k-1].1)) := fun h => (hb.cell Y21).trans (H.out (k - 1) (by omega)).1.1
   clear hb
   cases h3 : withinB l[k].2 0 2147483647 <;> cases h4 : withinB l[k].1 1 2147483647
   all_goals
    have H3 := Lib.hid h3
    have H4 := Lib.hid h4
    clear h3 h4
   case' true.true =>
    have HC4 : Hid (1 ≤ l[k].1 ∧ l[k].1 ≤ 2147483647) := by have := H4.out; simp [withinB] at this; exact this
    by_cases hk0 : k ≤ 0
    have hd0 : decide (0 < k) = false := by simp; omega
    have HK0 := Lib.hid hk0
    clear hk0
    rotate_left
    have hk1 : 0 < k := by omega
    clear hk0
    have c3 := HC3.out hk1
    have hpr : ((k : Int) - 1).toNat = k - 1 := by omega
    have HNP := Lib.hid (nthLast_pos l k hk1 (by omega))
    by_cases hle : l[k].1 ≤ l[k-1].1
   all_goals
    go_wp2_with fail
    go_quiet ((first | (go_at_call 100; with_reducible exact Calls.quiet_of_same (withinR_b _ H4.out)) | (go_at_call 100; with_reducible exact Calls.quiet_of_same (withinR_b _ H3.out))))
    go_wp2
   case roundEnd | roundEnd =>
    go_roundw
    case rel => exact ⟨k + 1, by omega, by go_num, soundR_yes hlt HS.out H3.out H4.out (by first | exact .inl HK0.out | exact .inr ⟨hk1, by omega⟩), Below.drewN HB.out _⟩
    case measure => simp [intOf]; omega
   all_goals
    go_ret
    refine ⟨ret_bool (soundR_no hlt HS.out ?_).symm, Below.drewN HB.out _⟩
    first | exact .inl H3.out | exact .inr (.inl H4.out) | exact .inr (.inr ⟨hk1, hle⟩)
  go_wp2
  go_ret
  exact ⟨ret_bool (by rw [soundM_eq l k (by omega), HS.out]), hb⟩
set_option maxHeartbeats 1000000 in
theorem spansR_any (B : Nat) (v : Value) (l : List Snap) (span at_ : Int) (w : World) (hB : B ≤ w.heap.size) (hv : SlPair B w v l) (hl : l.length ≤ 1000) (hs : soundM l = true) (h1 : 1 ≤ span) :
 Calls Tryz.prog 101 #[v, .int .i64 span, .int .i64 at_] w fun e w' => e = .returned (.int .i64 (laterM l span at_)) ∧ w = w' := by
 obtain ⟨a, b, off, cap, rfl, hcap, hm, -, ha, hc⟩ := hv
 have H := Lib.hid hc; clear hc
 have HA := Lib.hid ha; clear ha
 have HB := Lib.hid (soundM_bounds hs); clear hs
 have HX := Lib.hid (spansOf_get l span)
 unfold maxLen at hm
 have hxl := spansOf_length l span
 have HXL := Lib.hid hxl; clear hxl
 go_enter Tryz.func101, Tryz.ntmps101
 go_wp2_with fail
 go_loop [7, 8] (fun n i => ∃ k : Nat, k ≤ l.length ∧ i = .int .i64 k ∧ n = .int .i64 (dcount (fun x => decide (at_ < x)) ((spansOf l span).take k))) (fun _ i => l.length - (intOf i).toNat)
 case atStart => exact ⟨0, Nat.zero_le _, rfl, rfl⟩
 case round =>
  obtain ⟨k, hk, rfl, rfl⟩ := hrel
  have hdc := dcount_le (fun x => decide (at_ < x)) ((spansOf l span).take k)
  have hdl : ((spansOf l span).take k).length ≤ k := List.length_take_le _ _
  by_cases hlt : k < l.length
  ·have e := (HA.out (by omega)).1
   have hbB := (HA.out (by omega)).2
   subst e
   have c2 := (H.out k hlt).2.1
   have ht := (HB.out k hlt).2.2.1
   have ht2 := (HB.out k hlt).2.2.2
   obtain ⟨hq1, hq2⟩ := div_bounds l[k].2 span ht h1
   have hq3 : l[k].2 / span ≤ 2147483647 := by omega
   go_wp2_with fail
   obtain ⟨x, hx⟩ : ∃ x, x = l[k].2 / span := ⟨_, rfl⟩
   rw [← hx]
   have HXX := Lib.hid hx; clear hx
   go_loop [10, 11] (fun f i => ∃ m : Nat, m ≤ k ∧ i = .int .i64 m ∧ f = .bool (!hasB ((spansOf l span).take m) x)) (fun _ i => k - (intOf i).toNat)
   case atStart => exact ⟨0, Nat.zero_le _, rfl, by simp [hasB]⟩
   case round =>
    obtain ⟨m, hm', rfl, rfl⟩ := hrel
    by_cases hmk : m < k
    ·have cm := (H.out m (by omega)).2.1
     have ht' := (HB.out m (by omega)).2.2.1
     have ht2' := (HB.out m (by omega)).2.2.2
     obtain ⟨hr1, hr2⟩ := div_bounds l[m].2 span ht' h1
     have hr3 : l[m].2 / span ≤ 2147483647 := by omega
     have HCT := Lib.hid (show hasB ((spansOf l span).take (m + 1)) x = (hasB ((spansOf l span).take m) x || l[m].2 / span == x) from by
      rw [hasB_take_succ _ _ _ (by rw [HXL.out]; omega), HX.out m (by omega)])
     cases hf : hasB ((spansOf l span).take m) x
     all_goals
      have HF := Lib.hid hf
      clear hf
      go_wp2
      go_round
      case rel => exact ⟨m + 1, by omega, by go_num, by rw [HCT.out, HF.out]; simp [bne]⟩
      case measure => simp [intOf]; omega
    obtain rfl : m = k := by omega
    have HSN := Lib.hid (show dcount (fun x => decide (at_ < x)) ((spansOf l span).take (m + 1)) = dcount (fun x => decide (at_ < x)) ((spansOf l span).take m) + if decide (at_ < x) && !hasB ((spansOf l span).take m) x then 1 else 0 from by
     rw [take_snoc _ _ (by rw [HXL.out]; omega), dcount_snoc', HX.out m (by omega), ← HXX.out])
    cases hf : hasB ((spansOf l span).take m) x
    all_goals
     have HF := Lib.hid hf
     clear hf
     by_cases hax : at_ < x
     all_goals
      go_wp2
      go_round
      case rel => exact ⟨m + 1, by omega, by go_num, by rw [HSN.out, HF.out]; simp [hax]⟩
      case measure => simp [intOf]; omega
  go_wp2
  go_ret
  exact ⟨ret_int (by rw [List.take_of_length_le (by rw [HXL.out]; omega)]; rfl), rfl⟩
theorem spansR_b {B : Nat} {v : Value} {l : List Snap} {span at_ : Int} {w : World} (hB : B ≤ w.heap.size) (hv : SlPair B w v l) (hl : l.length ≤ 1000) (hs : soundM l = true) (h1 : 1 ≤ span) :
 Calls Tryz.prog 101 #[v, .int .i64 span, .int .i64 at_] w fun e w' => e = .returned (.int .i64 (laterM l span at_)) ∧ w' = w :=
 (spansR_any B v l span at_ w hB hv hl hs h1).mono fun _ _ ⟨a, b⟩ => ⟨a, b.symm⟩
set_option maxHeartbeats 1000000 in
theorem staysR_any (B : Nat) (v : Value) (l : List Snap) (last span spans : Int) (i : Nat) (w : World) (hB : B ≤ w.heap.size) (hv : SlPair B w v l) (hl : l.length ≤ 1000) (hs : soundM l = true) (h1 : 0 ≤ span)
 (hi : i < l.length) : Calls Tryz.prog 83 #[v, .agg #[.int .i64 last, .int .i64 span, .int .i64 spans], .int .i64 i] w fun e w' => e = .returned (.bool (staysM l last span spans i)) ∧ Below w.heap.size w w' := by
 have HV := Lib.hid hv
 have HS := Lib.hid hs
 obtain ⟨a, b, off, cap, rfl, hcap, hm, -, ha, hc⟩ := hv
 have hbB := (ha (by omega)).2
 obtain rfl := (ha (by omega)).1
 have hcell : ∀ k (h : k < l.length), w.cell? ⟨b, off + k * 2 + 1, none⟩ = some (.int .i64 l[k].2) := fun k h => (hc k h).2.1
 have H := Lib.hid hcell; clear hc hcell ha
 have HB := Lib.hid (soundM_bounds hs); clear hs
 unfold maxLen at hm
 have HD := Lib.hid (show staysM l last span spans i = _ from rfl)
 by_cases t1 : (l.length : Int) - 1 - i = 0
 ·have t1' : ((l.length : Int) - 1 - (i : Int) == 0) = true := by simpa using t1
  have T1 := Lib.hid t1; clear t1
  go_enter Tryz.func83, Tryz.ntmps83
  go_wp2
  go_ret
  exact ⟨ret_bool (by unfold staysM; simp [T1.out]), (Below.refl _ _).alloc (Nat.le_refl _) _⟩
 have t1' : ((l.length : Int) - 1 - (i : Int) == 0) = false := by simpa using t1
 have T1 := Lib.hid t1; clear t1
 by_cases t2 : (l.length : Int) - 1 - i < last
 ·have T2 := Lib.hid t2
  go_enter Tryz.func83, Tryz.ntmps83
  go_wp2
  go_ret
  exact ⟨ret_bool (by unfold staysM; simp [T2.out]), (Below.refl _ _).alloc (Nat.le_refl _) _⟩
 have T2 := Lib.hid t2
 by_cases t3 : span = 0
 ·have t3' : (span == 0) = true := by simpa using t3
  have T3 := Lib.hid t3; clear t3
  go_enter Tryz.func83, Tryz.ntmps83
  go_wp2
  go_ret
  exact ⟨ret_bool (by unfold staysM; simp [T1.out, T2.out, T3.out]), (Below.refl _ _).alloc (Nat.le_refl _) _⟩
 have t3' : (span == 0) = false := by simpa using t3
 have hsp : 1 ≤ span := by omega
 have T3 := Lib.hid t3; clear t3
 have hlt : b < w.heap.size := Nat.lt_of_lt_of_le hbB hB
 have c1 := H.out i hi
 have ht := (HB.out i hi).2.2.1
 have ht2 := (HB.out i hi).2.2.2
 obtain ⟨hq1, hq2⟩ := div_bounds l[i].2 span ht hsp
 have hq3 : l[i].2 / span ≤ 2147483647 := by omega
 go_enter Tryz.func83, Tryz.ntmps83
 go_wp2_with fail
 go_quiet (fail)
 go_wp2_with fail
 have HL := Lib.hid (lastIn_eq l span i hi)
 have HX := Lib.hid (spansOf_get l span)
 have HXL := Lib.hid (spansOf_length l span)
 go_loopw [9] (fun k wr => ∃ m n : Nat, i + 1 + m ≤ l.length ∧ k = .int .i64 ((i : Int) + 1 + m) ∧ hasB (((spansOf l span).drop (i + 1)).take m) (l[i].2 / span) = false ∧
  wr = (w.alloc (.cells #[.int .i64 last, .int .i64 span, .int .i64 spans] 34)).drewN n) (fun k _ => l.length - (intOf k).toNat)
 case atStart => exact ⟨0, _, by omega, by simp, by simp [hasB], rfl⟩
 case round =>
  obtain ⟨m, n, hm1, rfl, hno, rfl⟩ := hrel
  have HN := Lib.hid hno; clear hno
  by_cases hlt1 : i + 1 + m < l.length
  ·have cm : w.cell? ⟨b, off + (i + 1 + m) * 2 + 1, none⟩ = some (.int .i64 l[i + 1 + m].2) := H.out (i + 1 + m) hlt1
   have ht' := (HB.out (i + 1 + m) hlt1).2.2.1
   have ht2' := (HB.out (i + 1 + m) hlt1).2.2.2
   obtain ⟨hr1, hr2⟩ := div_bounds l[i + 1 + m].2 span ht' hsp
   have hr3 : l[i + 1 + m].2 / span ≤ 2147483647 := by omega
   have hix : ((i : Int) + 1 + (m : Int)).toNat = i + 1 + m := by omega
   have HS1 := Lib.hid (show hasB (((spansOf l span).drop (i + 1)).take (m + 1)) (l[i].2 / span) = (hasB (((spansOf l span).drop (i + 1)).take m) (l[i].2 / span) || l[i + 1 + m].2 / span == l[i].2 / span) from by
    rw [hasB_take_succ _ _ _ (by rw [List.length_drop, HXL.out]; omega), List.getElem_drop, HX.out _ hlt1])
   cases hq : (l[i + 1 + m].2 / span == l[i].2 / span)
   ·go_wp2_with fail
    go_quiet (fail)
    go_wp2
    go_roundw
    case rel => exact ⟨m + 1, _, by omega, by go_num, by rw [HS1.out, HN.out, hq]; rfl, rfl⟩
    case measure => simp [intOf]; omega
   go_wp2_with fail
   go_quiet (fail)
   go_wp2
   go_ret
   refine ⟨ret_bool ?_, Below.drewN (Below.drewN ((Below.refl _ _).alloc (Nat.le_refl _) _) _) _⟩
   have hh : hasB ((spansOf l span).drop (i + 1)) (l[i].2 / span) = true :=
    hasB_true m (by rw [List.length_drop, HXL.out]; omega) (by rw [List.getElem_drop, HX.out _ hlt1]; simpa using hq)
   unfold staysM
   rw [HL.out, hh]
   simp [T1.out, T2.out]
  have hm2 : m = l.length - (i + 1) := by omega
  have HNN := Lib.hid (show hasB ((spansOf l span).drop (i + 1)) (l[i].2 / span) = false from by
   have := HN.out
   rwa [List.take_of_length_le (by rw [List.length_drop, HXL.out]; omega)] at this)
  have HM := Lib.hid hm2; clear hm2
  have HCALL := Lib.hid (show ∀ W, Below w.heap.size w W → _ from fun W hW => spansR_b (w := W) (at_ := l[i].2 / span) (Nat.le_trans hB hW.size) (SlPair.below HV.out (hW.mono hB) (Nat.le_refl _)) hl HS.out hsp)
  go_wp2_with fail
  go_quiet ((go_at_call 101; refine quiet_sum (HCALL.out _ ?_); exact Below.drewN ((Below.refl _ _).alloc (Nat.le_refl _) _) _))
  go_wp2
  go_ret
  refine ⟨ret_bool ?_, Below.drewN (Below.drewN ((Below.refl _ _).alloc (Nat.le_refl _) _) _) _⟩
  unfold staysM
  rw [HL.out, HNN.out]
  have t2' := T2.out
  simp [T1.out, T3.out, hi]
  intro hh; omega
theorem Tryz.infoInt : (Tryz.prog.info? 3).map (fun i => (i.zero, i.size, i.bytes)) = some (some (.int .i64 0), 1, 8) := by kernel_rfl
theorem toldTo_le (l : List Snap) (last span spans : Int) (stay : Bool) (k : Nat) : (toldTo l last span spans stay k).length ≤ k := by
 unfold toldTo
 rw [List.length_map]
 exact Nat.le_trans (List.length_filter_le _ _) (by simp)
theorem toldTo_mem {l : List Snap} {last span spans : Int} {stay : Bool} {k : Nat} (hk : k ≤ l.length) (h : ∀ s ∈ l, I64 s.1) : ∀ x ∈ toldTo l last span spans stay k, I64 x := by
 intro x hx
 simp only [toldTo, List.mem_map, List.mem_filter, List.mem_range] at hx
 obtain ⟨i, ⟨hi, _⟩, rfl⟩ := hx
 have hlt : i < l.length := by omega
 simp only [List.getD_eq_getElem?_getD, List.getElem?_eq_getElem hlt, Option.getD_some]
 exact h _ (List.getElem_mem hlt)
theorem SlPair.i64 {B : Nat} {w : World} {v : Value} {l : List Snap} (h : SlPair B w v l) : ∀ s ∈ l, I64 s.1 := by
 obtain ⟨a, b, off, cap, _, _, _, _, _, hc⟩ := h
 intro s hs
 obtain ⟨i, hi, rfl⟩ := List.getElem_of_mem hs
 exact (hc i hi).1.2
end Go.Proofs.YtakeannapfaodaaGreat
set_option linter.unusedVariables false
set_option linter.unusedSimpArgs false
set_option maxRecDepth 100000
namespace Go.Proofs.YtakeannapfaodaaGreat
open Go.RowKit Go.Maps
theorem ends_all (B : Nat) (v : Value) (l : List Snap) (last span spans : Int) (w : World) (hB : B ≤ w.heap.size) (hv : SlPair B w v l) (hl : l.length ≤ 1000) (hs : soundM l = true) (h1 : 0 ≤ span) :
 Calls Tryz.prog 79 #[v, .agg #[.int .i64 last, .int .i64 span, .int .i64 spans]] w (EndsPost l span spans w) := by
 by_cases h0 : span = 0
 ·subst h0; exact ends_zero v l last spans w
 exact ends_any B v l last span spans w hB hv hl hs (by omega)
theorem polM_five {last span spans : Int} (h : ¬ polM last span spans = 0) : polM last span spans = 5 := by
 unfold polM at h ⊢
 split
 ·rename_i hh; rw [if_pos hh] at h; exact absurd rfl h
 rfl
structure ToldAt (w0 w : World) (B : Nat) (v : Value) (last span spans : Int) : Prop where
 below : Below B w0 w
 room : B + 2 ≤ w.heap.size
 c0 : w.cell? ⟨B, 0, none⟩ = some v
 c1 : w.cell? ⟨B + 1, 0, none⟩ = some (.int .i64 last)
 c2 : w.cell? ⟨B + 1, 1, none⟩ = some (.int .i64 span)
 c3 : w.cell? ⟨B + 1, 2, none⟩ = some (.int .i64 spans)
theorem ToldAt.later {w0 w w' : World} {B : Nat} {v : Value} {last span spans : Int} (h : ToldAt w0 w B v last span spans) (hb : Below (B + 2) w w') : ToldAt w0 w' B v last span spans :=
 ⟨h.below.trans (hb.mono (by omega)), Nat.le_trans h.room hb.size, (hb.cell (by show B < B + 2; omega)).trans h.c0, (hb.cell (by show B + 1 < B + 2; omega)).trans h.c1, (hb.cell (by show B + 1 < B + 2; omega)).trans h.c2, (hb.cell (by show B + 1 < B + 2; omega)).trans h.c3⟩
theorem ToldAt.start (w : World) (v : Value) (last span spans : Int) (t1 t2 : TypeId) : ToldAt w ((w.alloc (.cells #[v] t1)).alloc (.cells #[.int .i64 last, .int .i64 span, .int .i64 spans] t2)) w.heap.size v last span spans where
 below := ((Below.refl _ _).alloc (Nat.le_refl _) _).alloc (by simp) _
 room := by simp
 c0 := by go_simp
 c1 := by go_simp
 c2 := by go_simp
 c3 := by go_simp
end Go.Proofs.YtakeannapfaodaaGreat
set_option linter.unusedVariables false
set_option linter.unusedSimpArgs false
set_option maxRecDepth 100000
namespace Go.Proofs.YtakeannapfaodaaGreat
open Go.RowKit Go.Maps
theorem ownsRow_base_t {W : World} {base base' : Nat} {e : TypeId} {size : Nat} {v : Value} {k : Nat} {xs : List Value} (h : W.ownsRow base e size v k xs) (hb : base' ≤ base) : W.ownsRow base' e size v k xs := by
 refine ⟨h.1, ?_⟩
 rcases h.2 with hn | ⟨g, cap, cur, hv, hbg, rest⟩
 ·exact .inl hn
 exact .inr ⟨g, cap, cur, hv, Nat.le_trans hb hbg, rest⟩
def ToldQ (l : List Snap) (last span spans : Int) (stay : Bool) (w : World) (e : Ending) (w' : World) : Prop :=
 ∃ x, e = .returned (.tuple #[x, .int .i64 (toldE l last span spans)]) ∧ w'.ownsRow w.heap.size 3 1 x (toldM l last span spans stay).length ((toldM l last span spans stay).flatMap encInt) ∧ Below w.heap.size w w'
set_option maxHeartbeats 1000000 in
theorem told_own (B : Nat) (v : Value) (l : List Snap) (last span spans : Int) (stay : Bool) (w : World) (hB : B ≤ w.heap.size) (hv : SlPair B w v l) (hl : l.length ≤ 1000) :
 Calls Tryz.prog 63 #[v, .agg #[.int .i64 last, .int .i64 span, .int .i64 spans], .bool stay] w (ToldQ l last span spans stay w) := by
 have HV := Lib.hid hv
 have HI := Lib.hid (SlPair.i64 hv)
 obtain ⟨i0, hi, hj0, hj1, hj2⟩ := info_parts Tryz.infoInt
 obtain ⟨a, b, off, cap, rfl, hcap, hm, -, ha, hc⟩ := hv
 have H := Lib.hid hc; clear hc
 have HA := Lib.hid ha; clear ha
 unfold maxLen at hm
 have hT := ToldAt.start w (.slice a l.length cap) last span spans 90 34
 obtain ⟨W1, hW1⟩ : ∃ W1, W1 = (w.alloc (.cells #[.slice a l.length cap] 90)).alloc (.cells #[.int .i64 last, .int .i64 span, .int .i64 spans] 34) := ⟨_, rfl⟩
 rw [← hW1] at hT
 have g0 := hT.c0
 have g1 := hT.c1
 have g2 := hT.c2
 have g3 := hT.c3
 go_enter Tryz.func63, Tryz.ntmps63
 go_wp2_with fail
 rw [← hW1]
 clear hW1
 refine (check_any _ _ _ _).mono ?_
 rintro e w1 ⟨rfl, hb1⟩
 have hT1 := hT.later (hb1.mono hT.room)
 clear hT g0 g1 g2 g3 hb1
 have g0 := hT1.c0
 have HT1 := Lib.hid hT1; clear hT1
 by_cases hck : polM last span spans = 0
 ·have hck' : (polM last span spans != 0) = false := by simpa using hck
  have HCK := Lib.hid hck; clear hck
  go_wp2_with fail
  refine (sound_any B _ l _ (Nat.le_trans hB HT1.out.below.size) (SlPair.below HV.out (HT1.out.below.mono hB) (Nat.le_refl _))).mono ?_
  rintro e w2 ⟨rfl, hb2⟩
  have hT2 := HT1.out.later (hb2.mono HT1.out.room)
  clear hb2 g0
  have g0 := hT2.c0
  have g1 := hT2.c1
  have g2 := hT2.c2
  have g3 := hT2.c3
  have HT2 := Lib.hid hT2; clear hT2
  cases hso : soundM l
  ·have HSO := Lib.hid hso; clear hso
   go_wp2
   go_ret2
   refine ⟨.slice none 0 0, ret2 rfl (int_eq ?_), ?_, HT2.out.below⟩
   ·simp [toldE, HCK.out, HSO.out]
   have : toldM l last span spans stay = [] := by simp [toldM, HSO.out]
   rw [this]; exact World.ownsRow_nil _ _ _ _
  have HSO := Lib.hid hso; clear hso
  go_wp2_with fail
  refine (ends_all B _ l last span spans _ (Nat.le_trans hB HT2.out.below.size) (SlPair.below HV.out (HT2.out.below.mono hB) (Nat.le_refl _)) hl HSO.out (polM_bounds HCK.out).2.1.1).mono ?_
  rintro e w3 ⟨mb, n, rfl, hmb, _, hset, hb3⟩
  have hT3 := HT2.out.later (hb3.mono HT2.out.room)
  clear hb3 g0 g1 g2 g3
  have hT4 := hT3.later (((Below.refl _ w3).alloc (Nat.le_refl _) (.cells #[.map (some mb)] 120)).mono hT3.room)
  have hs4 : SetIs Tryz.prog 3 (w3.alloc (.cells #[.map (some mb)] 120)) mb n (outsM l span spans) := hset.grown (World.grownBy_alloc _ _ none) (by simp) (Nat.le_refl _)
  have g0 := hT3.c0
  have g4 : (w3.alloc (.cells #[.map (some mb)] 120)).cell? ⟨w3.heap.size, 0, none⟩ = some (.map (some mb)) := by go_simp
  have g0' := hT4.c0
  have HT3 := Lib.hid hT3; have HT4 := Lib.hid hT4; have HS4 := Lib.hid hs4; have HG4 := Lib.hid g4
  clear hT3 hT4 hs4 hset g4
  go_wp2_with fail
  clear g0' g0
  obtain ⟨W4, hW4⟩ : ∃ W4, W4 = w3.alloc (.cells #[.map (some mb)] 120) := ⟨_, rfl⟩
  have hz4 : w3.heap.size < W4.heap.size := by rw [hW4]; simp
  rw [← hW4] at HT4 HS4 HG4
  go_loopw [11, 28] (fun o i wr => ∃ k : Nat, k ≤ l.length ∧ i = .int .i64 k ∧ wr.ownsRow W4.heap.size 3 1 o (toldTo l last span spans stay k).length ((toldTo l last span spans stay k).flatMap encInt) ∧ Below W4.heap.size W4 wr) (fun _ i _ => l.length - (intOf i).toNat)
  case atStart => exact ⟨0, Nat.zero_le _, rfl, World.ownsRow_nil _ _ _ _, by rw [← hW4]; exact Below.refl _ _⟩
  case round =>
   clear hW4
   obtain ⟨k, hk, rfl, hown, hb⟩ := hrel
   by_cases hlt : k < l.length
   ·have e := (HA.out (by omega)).1
    have hbB := (HA.out (by omega)).2
    subst e
    have hzr := hb.size
    have hTr := HT4.out.later (hb.mono (by have := HT3.out.room; omega))
    have q1 := (hTr.below.cell Y21).trans (H.out k hlt).1.1
    have q2 := (hTr.below.cell Y21).trans (H.out k hlt).2.1
    have HB := Lib.hid hb
    have HTR := Lib.hid hTr
    have HO := Lib.hid hown
    clear hown hb hTr
    go_wp2_with fail
    obtain ⟨W5, hW5⟩ : ∃ W5, W5 = wr.alloc (.cells #[.int .i64 l[k].1, .int .i64 l[k].2] 92) := ⟨_, rfl⟩
    have p0 : W5.cell? ⟨wr.heap.size, 0, none⟩ = some (.int .i64 l[k].1) := by rw [hW5]; go_simp
    have hb5 : Below wr.heap.size wr W5 := by rw [hW5]; exact (Below.refl _ _).alloc (Nat.le_refl _) _
    have hz5 : W5.heap.size = wr.heap.size + 1 := by rw [hW5]; simp
    rw [← hW5]
    clear hW5 q1 q2
    have hT5 := HTR.out.later (hb5.mono HTR.out.room)
    have hb45 := HB.out.trans (hb5.mono hzr)
    refine (stays_any B _ l last (outsM l span spans) k W5 w3.heap.size w.heap.size (w.heap.size + 1) mb n (Nat.le_trans hB hT5.below.size) (SlPair.below HV.out (hT5.below.mono hB) (Nat.le_refl _)) hl hlt (polM_bounds HCK.out).1 ((hb45.cell (by show w3.heap.size < _; omega)).trans HG4.out) hT5.c0 hT5.c1 (HS4.out.below hb45 (by omega))).mono ?_
    rintro e w6 ⟨rfl, hb6⟩
    rw [staysP_eq HSO.out last span spans k hlt]
    have p0 := (hb6.cell (p := ⟨wr.heap.size, 0, none⟩) (by show wr.heap.size < _; omega)).trans p0
    have hb46 := hb45.trans (hb6.mono (by omega))
    have hown := owns_below (owns_below HO.out hb5) hb6
    have hz6 := hb6.size
    have HB46 := Lib.hid hb46
    clear hb5 hb45 hb46 hb6 hT5
    have HT := Lib.hid (toldTo_succ l last span spans stay k hlt)
    have hln := toldTo_le l last span spans stay k
    cases hst : (staysM l last span spans k == stay)
    ·have HST := Lib.hid hst
     go_wp2_with fail
     go_roundw
     case rel => exact ⟨k + 1, by omega, by go_num, by rw [HT.out, HST.out]; simpa using hown, HB46.out⟩
     case measure => simp [intOf]; omega
    have HST := Lib.hid hst
    go_wp2_with (at_builtin; refine wpList_append_own _ rfl (.tmp 38) (.tmp 41) 53 rfl W4.heap.size 3 i0 (.int .i64 0) 1 8 Tryz.underlying53 hi hj0 hj1 hj2 rfl (by decide) _ _ _ rfl (hown.alloc _) ⟨w6.heap.size, 0, none⟩ 1 1 [.int .i64 l[k].1] rfl rfl (cell_one_new _ _ _) (oneCell_int _ _) (by unfold maxLen; omega) (by omega) (by simp; omega) ?_)
    intro v' w7 hown' hgrow _
    have hb7 := below_append HB46.out hown hgrow (Nat.le_refl _) (by omega)
    clear hown hgrow
    go_wp2
    go_roundw
    case rel => exact ⟨k + 1, by omega, by go_num, by rw [HT.out, HST.out]; simpa [encInt] using hown', hb7⟩
    case measure => simp [intOf]; omega
   go_wp2
   go_ret2
   have hk' : k = l.length := by omega
   subst hk'
   refine ⟨_, ret2 rfl (int_eq ?_), ?_, HT4.out.below.trans (hb.mono (by have := HT3.out.room; omega))⟩
   ·simp [toldE, HCK.out, HSO.out]
   have : toldM l last span spans stay = toldTo l last span spans stay l.length := by simp [toldM, HCK.out, HSO.out]
   rw [this]
   exact ownsRow_base_t hown (by have h1 := HT4.out.below.size; omega)
 have hck' : (polM last span spans != 0) = true := by simpa using hck
 have HCK := Lib.hid hck; clear hck
 go_wp2
 go_ret2
 refine ⟨.slice none 0 0, ret2 rfl (int_eq ?_), ?_, HT1.out.below⟩
 ·rw [polM_five HCK.out]; unfold toldE; rw [if_neg HCK.out]
 have : toldM l last span spans stay = [] := by simp [toldM, HCK.out]
 rw [this]; exact World.ownsRow_nil _ _ _ _
set_option maxHeartbeats 1000000 in
theorem go_own (B : Nat) (v : Value) (l : List Snap) (last span spans : Int) (w : World) (hB : B ≤ w.heap.size) (hv : SlPair B w v l) (hl : l.length ≤ 1000) :
 Calls Tryz.prog 48 #[v, .agg #[.int .i64 last, .int .i64 span, .int .i64 spans]] w (ToldQ l last span spans false w) := by
 go_enter Tryz.func48, Tryz.ntmps48
 go_wp2_with fail
 refine (told_own B v l last span spans false _ (Nat.le_trans hB (by simp)) (SlPair.below hv (((Below.refl _ _).alloc (Nat.le_refl _) _).mono hB) (Nat.le_refl _)) hl).mono ?_
 rintro e w1 ⟨x, rfl, hx, hb⟩
 go_wp2
 go_ret2
 exact ⟨x, rfl, ownsRow_base_t hx (by simp), ((Below.refl _ _).alloc (Nat.le_refl _) _).trans (hb.mono (by simp))⟩
end Go.Proofs.YtakeannapfaodaaGreat
namespace Go.Proofs.YtakeannapfaodaaGreat
open Go.RowKit
set_option linter.unusedVariables false
set_option linter.unusedSimpArgs false
def prC (x : Int × Int) : List Value := [.int .i64 x.1, .int .i64 x.2]
theorem prC_len (x : Int × Int) : (prC x).length = 2 := rfl
theorem prC_one (x : Int × Int) : ∀ u ∈ prC x, u.oneCell' = true := fun u hu => by
 simp only [prC, List.mem_cons, List.not_mem_nil, or_false] at hu
 rcases hu with rfl | rfl <;> rfl
def snS (ss : List ST) : List (Int × Int) := ss.map fun s => (s.n, s.t)
def snM (l : List Sp) : List (Int × Int) := l.map fun s => (s.n, s.t)
theorem snM_sps (ss : List ST) : snM (sps ss) = snS ss := by simp [snM, sps, snS, ST.pl]
theorem snS_take {ss : List ST} {i : Nat} (h : i < ss.length) : snS (ss.take (i + 1)) = snS (ss.take i) ++ [(ss[i].n, ss[i].t)] := by
 unfold snS
 rw [List.take_succ_eq_append_getElem h, List.map_append]
 rfl
theorem snS_len (ss : List ST) : (snS ss).length = ss.length := List.length_map ..
theorem pr_app (e : TypeId) (v : Value) (ls : List (Int × Int)) (x : Int × Int) : own e 2 v (ls.length + 1) (ls.flatMap prC ++ prC x) = own e 2 v (ls ++ [x]).length ((ls ++ [x]).flatMap prC) := by
 rw [List.length_append, List.flatMap_append]
 congr 2
theorem Tryz.infoSp : (Tryz.prog.info? 92).map (fun i => (i.zero.map (·.cells.size), i.size, i.bytes)) = some (some 2, 2, 16) := by kernel_rfl
theorem flat_int (l : List Int) : l.flatMap encInt = l.map vInt := by
 induction l with
 | nil => rfl
 | cons a l ih => rw [List.flatMap_cons, List.map_cons, ih]; rfl
theorem go_tr (v : Value) (l : List (Int × Int)) (last span spans : Int) (hl : l.length ≤ 1000) (hx : ∀ x ∈ l, I64 x.1 ∧ I64 x.2) : Tr Tryz.prog 48 #[v, .agg #[.int .i64 last, .int .i64 span, .int .i64 spans]] [own 92 2 v l.length (l.flatMap prC)] []
 (TX (fun _ : Value => True) (fun x => .tuple #[x, .int .i64 (toldE l last span spans)]) (fun x => [own 3 1 x (toldM l last span spans false).length ((toldM l last span spans false).map vInt)])) := fun w hro hp => by
 have h1 : w.ownsRow 0 92 2 v l.length (l.flatMap encPair) := (ro1 hro).1
 refine (go_own w.heap.size v l last span spans w (Nat.le_refl _) (SlPair.of_owns h1 rfl hx) hl).mono ?_
 rintro e w' ⟨x, he, hrow, hb⟩
 rw [flat_int] at hrow
 exact ⟨_, _, he, ⟨x, trivial, rfl, rfl⟩, hp_new hrow hb⟩
def cutZ (g : List Int) (zs : List ST) : List ST := g.foldl (fun l n => dropN n l) zs
def cutL (g : List Int) (l : List Sp) : List Sp := g.foldl (fun l n => cutS n l) l
theorem cutZ_take {g : List Int} {zs : List ST} {i : Nat} (h : i < g.length) : cutZ (g.take (i + 1)) zs = dropN g[i] (cutZ (g.take i) zs) := by
 unfold cutZ
 rw [List.take_succ_eq_append_getElem h, List.foldl_append]
 rfl
theorem cutZ_pl (g : List Int) : ∀ zs : List ST, sps (cutZ g zs) = cutL g (sps zs) := by
 induction g with
 | nil => exact fun zs => rfl
 | cons n g ih => exact fun zs => (ih (dropN n zs)).trans (congrArg (cutL g) (cut_sps n zs))
theorem cutZ_filter (g : List Int) : ∀ zs : List ST, cutZ g zs = zs.filter fun s => ! g.contains s.n := by
 induction g with
 | nil => exact fun zs => (List.filter_eq_self.2 fun s _ => rfl).symm
 | cons n g ih =>
  intro zs
  show cutZ g (dropN n zs) = _
  rw [ih, dropN, List.filter_filter]
  refine List.filter_congr fun s _ => ?_
  unfold keepN
  rw [List.contains_cons]
  by_cases h : s.n = n
  ·simp [h]
  simp [h, beq_eq_false_iff_ne.2 h]
theorem cutL_filter (g : List Int) : ∀ l : List Sp, cutL g l = l.filter fun s => ! g.contains s.n := by
 induction g with
 | nil => exact fun l => (List.filter_eq_self.2 fun s _ => rfl).symm
 | cons n g ih =>
  intro l
  show cutL g (cutS n l) = _
  rw [ih, cutS, List.filter_filter]
  refine List.filter_congr fun s _ => ?_
  rw [List.contains_cons]
  by_cases h : s.n = n
  ·simp [h]
  simp [h, beq_eq_false_iff_ne.2 h]
theorem cutZ_mem {g : List Int} {zs : List ST} {s : ST} (h : s ∈ cutZ g zs) : s ∈ zs := by
 rw [cutZ_filter] at h
 exact (List.mem_filter.1 h).1
def plCut : PM → Int → List Int → PM
 | [], _, _ => []
 | (k, z) :: pm, c, g => if k = c then (k, (z.1, cutL g z.2)) :: pm else (k, z) :: plCut pm c g
def stCut : MS → Int → Cl → MS
 | [], _, _ => []
 | (k, y) :: st, c, z => if k = c then (c, z) :: st else (k, y) :: stCut st c z
theorem stCut_none {st : MS} {c : Int} {z : Cl} (h : stGet st c = none) : stCut st c z = st := by
 induction st with
 | nil => rfl
 | cons p st ih =>
  obtain ⟨k, y⟩ := p
  rw [stGet] at h
  by_cases h1 : k = c
  ·rw [if_pos h1] at h
   cases h
  rw [if_neg h1] at h
  rw [stCut, if_neg h1, ih h]
theorem stCut_some {st : MS} {c : Int} {z y : Cl} (h : stGet st c = some y) : stCut st c z = stSet st c z := by
 induction st with
 | nil => cases h
 | cons p st ih =>
  obtain ⟨k, x⟩ := p
  rw [stGet] at h
  by_cases h1 : k = c
  ·rw [stCut, stSet, if_pos h1, if_pos h1]
  rw [if_neg h1] at h
  rw [stCut, stSet, if_neg h1, if_neg h1, ih h]
theorem ptrs_cut {st : MS} {c : Int} {z : Cl} (h : ∀ y, stGet st c = some y → y.b = z.b) : ptrs (stCut st c z) = ptrs st := by
 cases hs : stGet st c with
 | none => rw [stCut_none hs]
 | some y =>
  rw [stCut_some hs, ptrs_set st c z h]
  exact mset_same (by rw [ptrs_get, hs]; show some _ = some _; rw [← h y hs])
theorem pl_cut {st : MS} {c : Int} {z z' : Cl} {g : List Int} (h : IsCl st c z) (hg : z'.g = z.g) (hs : z'.ss = cutZ g z.ss) : plM (stCut st c z') = plCut (plM st) c g := by
 rcases h with h | ⟨h, -⟩
 ·induction st with
  | nil => cases h
  | cons p st ih =>
   obtain ⟨k, x⟩ := p
   rw [stGet] at h
   by_cases h1 : k = c
   ·rw [if_pos h1] at h
    injection h with h
    subst h
    rw [stCut, if_pos h1]
    show (c, z'.pl) :: plM st = (if k = c then (k, (x.g, cutL g (sps x.ss))) :: plM st else _)
    rw [if_pos h1, Cl.pl, hg, hs, cutZ_pl, h1]
   rw [if_neg h1] at h
   rw [stCut, if_neg h1]
   show (k, x.pl) :: plM (stCut st c z') = (if k = c then _ else (k, x.pl) :: plCut (plM st) c g)
   rw [if_neg h1, ih h]
 rw [stCut_none h]
 induction st with
 | nil => rfl
 | cons p st ih =>
  obtain ⟨k, x⟩ := p
  rw [stGet] at h
  by_cases h1 : k = c
  ·rw [if_pos h1] at h
   cases h
  rw [if_neg h1] at h
  show (k, x.pl) :: plM st = (if k = c then _ else (k, x.pl) :: plCut (plM st) c g)
  rw [if_neg h1, ← ih h]
section
variable {n : Nat} {w0 : World} {S : Nat → Prop} {l : Fr} {m : List Ck} {K : Act → World → Prop}
theorem G.cliEnd {st : MS} {c : Int} {z z' : Cl} {r r' : List Ck} (hz : IsCl st c z) (h1 : Sel m (cliC z') r) (h2 : Sel r (clis (stDel st c)) r') (h : G n w0 S l (clis (stCut st c z') :: r') K) : G n w0 S l m K := by
 rcases hz with hz | ⟨hz, _⟩
 ·rw [stCut_some hz] at h
  exact G.cliIn (z := z') h1 h2 h
 rw [stCut_none hz] at h
 rw [del_none hz] at h2
 exact G.mem (fun w hw => (((hw.sel h1).perm (List.Perm.cons _ h2.perm)).tail)) h
end
def expM (pm : PM) (c last span spans : Int) : (List Int × Int) × PM :=
 if toldE (snM (plGet pm c).2) last span spans = 0 then ((toldM (snM (plGet pm c).2) last span spans false, 0), plCut pm c (toldM (snM (plGet pm c).2) last span spans false)) else (([], toldE (snM (plGet pm c).2) last span spans), pm)
theorem expM_bad {pm : PM} {c last span spans e : Int} {q : List (Int × Int)} (hq : snM (plGet pm c).2 = q) (he : toldE q last span spans = e) (h : ¬ e = 0) : expM pm c last span spans = (([], e), pm) := by
 subst hq he
 exact if_neg h
theorem expM_good {pm : PM} {c last span spans : Int} {q : List (Int × Int)} (hq : snM (plGet pm c).2 = q) (h : toldE q last span spans = 0) : expM pm c last span spans = ((toldM q last span spans false, 0), plCut pm c (toldM q last span spans false)) := by
 subst hq
 exact if_pos h
set_option maxRecDepth 20000 in
set_option maxHeartbeats 4000000 in
theorem mexpire_tr (Dm bm : Nat) (st : MS) (c last span spans : Int) (hok : okM (plM st)) (hc : I64 c) : Tr Tryz.prog 21 #[.pointer (some ⟨Dm, 0, none⟩), .int .i64 c, .agg #[.int .i64 last, .int .i64 span, .int .i64 spans]] [] [blk Dm 43 [.map (some bm)], mpc vInt I64 bm (ptrs st), clis st]
 (TX (fun z : Value × MS => plM z.2 = (expM (plM st) c last span spans).2) (fun z => .tuple #[z.1, .int .i64 (expM (plM st) c last span spans).1.2]) (fun z => [own 3 1 z.1 (expM (plM st) c last span spans).1.1.length ((expM (plM st) c last span spans).1.1.map vInt), blk Dm 43 [.map (some bm)], mpc vInt I64 bm (ptrs z.2), clis z.2])) := by
 refine Tr.of (l := [(0, .pointer (some ⟨Dm, 0, none⟩)), (1, .int .i64 c), (2, .agg #[.int .i64 last, .int .i64 span, .int .i64 spans])]) Tryz.func21 rfl (n := 62) rfl (.cons rfl (.cons rfl (.cons rfl .nil))) (fun w0 hro => ?_)
 refine go [9,10] ?_
 refine G.op rfl (G.box rfl rfl (cs := [_, _, _]) rfl ?_)
 intro b5
 refine go [1,1,7,8,9,9,10,0] ?_
 refine G.op rfl (G.cS rfl rfl rfl rfl Tryz.func35 rfl rfl subT may0 (none_tr _ _) apT ?_)
 intro x17 hJ
 try dsimp only at hJ
 try dsimp only
 refine go [7,8,60,0,13,8,9,10,0,0] ?_
 refine G.op rfl (G.cS rfl rfl rfl rfl Tryz.func37 rfl rfl subT may0 (of_tr _ _ _ _ (by assumption)) apT ?_)
 intro x20 hJ
 obtain ⟨zb, zv, zg, zs⟩ := x20
 try dsimp only at hJ
 try dsimp only
 have hz : IsCl st c ⟨zb, zv, zg, zs⟩ := hJ
 have hpl : plGet (plM st) c = (zg, sps zs) := hz.pl
 have hokc := hok.get c
 rw [hpl] at hokc
 obtain ⟨⟨hg1, hg2⟩, hsl, hss⟩ := hokc
 have hsl : zs.length ≤ 64 := by rw [← sps_length]; exact hsl
 refine G.cliOpen selT ?_
 refine G.treesOne selT (fun hone => ?_)
 refine G.ownNews (v := zv) selT (fun za zc zk hzv hkz hmz hadz hnilz hnewz => ?_)
 subst hzv
 have hq : snM (plGet (plM st) c).2 = snS zs := by rw [hpl, snM_sps]
 have hI : ∀ x ∈ snS zs, I64 x.1 ∧ I64 x.2 := fun x hx => by obtain ⟨s, hs, rfl⟩ := List.mem_map.1 hx; obtain ⟨a1, a2, a3, -⟩ := hss s.pl (List.mem_map_of_mem hs); exact ⟨⟨by have := a1.1; show -9223372036854775808 ≤ s.n; replace this : 1 ≤ s.n := this; omega, by have := a1.2; show s.n ≤ 9223372036854775807; replace this : s.n ≤ zg := this; omega⟩, ⟨by have := a3.1; show -9223372036854775808 ≤ s.t; replace this : 0 ≤ s.t := this; omega, by have := a3.2; show s.t ≤ 9223372036854775807; replace this : s.t ≤ 2147483647 := this; omega⟩⟩
 refine go [1,7,8,9,10,1,7,8,9,9,10,0,2,8,2,3,0,2,3,0,2,4,2,5,0,7,8,15] ?_
 refine G.ownNil 92 2 ?_
 refine G.loopK (X := Nat × Value) (ts := [5, 6, 7, 8, 25, 26]) (fun st => st.1 ≤ zs.length) (fun st => [(27, .int .i64 (st.1 : Int)), (9, st.2)]) (fun st => [own 92 2 st.2 (snS (zs.take st.1)).length ((snS (zs.take st.1)).flatMap prC)]) (fun st => zs.length - st.1) (x0 := (0, .slice none 0 0)) (.cons rfl (.cons rfl (.cons rfl (.cons rfl (.cons rfl (.cons rfl .nil)))))) subT (.cons (.cons .nil)) apT Y9 (.consE rfl veqT (.consE rfl veqT .nil)) (fun st hJ => ?_)
 obtain ⟨i, vo⟩ := st
 try dsimp only at hJ
 try dsimp only
 have hki := hJ
 have hol := snS_len (zs.take i)
 have hol2 : (zs.take i).length ≤ i := List.length_take_le _ _
 refine go [9,10,2,9,7,8,9] ?_
 refine G.condP rfl (fun h28 => ?_) (fun h28 => ?_)
 ·have hlt : i < zs.length := by omega
  have hsv := hone _ (List.getElem_mem hlt)
  refine go [13,8,9,15,9,10] ?_
  refine G.op rfl (G.val rfl rfl (pv_ixSl (sz := 4) (k := i) Tryz.underlying73 kr rfl rfl hadz rfl (by omega)) ?_)
  refine G.op rfl (G.val rfl rfl (pv_loadN (cs := snC zs[i]) Tryz.underlying79 rfl kr rfl (fun w hw => news_row snC_len (hnewz selT w hw) hlt)) ?_)
  refine go [60,6] ?_
  intro b11
  refine G.op rfl (G.storeN (vs := snC zs[i]) kr rfl rfl (List.all_eq_true.2 (snC_one hsv)) selT (by exact Nat.le_of_ble_eq_true rfl) ?_)
  rw [putN_whole _ _ (by rfl)]
  rw [show blk b11 79 (snC zs[i]) = blk b11 79 [.int .i64 zs[i].n, .int .i64 zs[i].c, .int .i64 zs[i].t, zs[i].v] from rfl]
  refine go [7,8,10,0,2,3,0,2,4,2,3,2,2,4,2,50,0] ?_
  refine G.op rfl (G.buildSlice (z := .agg #[.int .i64 0, .int .i64 0]) (sz := 2) (cs := prC (zs[i].n, zs[i].t)) rfl Tryz.underlying90 kr (by decide) (by decide) rfl kr ?_)
  intro b37
  refine G.op rfl (G.append (k := (snS (zs.take i)).length) (j := 1) (cs := (snS (zs.take i)).flatMap prC) (news := prC (zs[i].n, zs[i].t)) (b := b37) (off := 0) rfl Tryz.underlying90 Tryz.infoSp rfl rfl rfl selT (fun _ => rfl) (fun h => by cases h) rfl (blk_news (k := 2) selT rfl) (prC_one _) (by omega) (by omega) ?_)
  intro vn
  rw [pr_app, ← snS_take hlt]
  refine go [1,7,16,8,10,2,6,0,7] ?_
  exact G.next ((i + 1, vn)) Y6 (by (try dsimp only); omega) (.consE rfl veqT (.consE rfl veqT (.cons rfl (.cons rfl (.cons rfl (.cons rfl (.cons rfl (.cons rfl .nil)))))))) subT
 obtain rfl : i = zs.length := by omega
 rw [List.take_length]
 refine go [18,14,14,19,8,9,10,0,2,50,3] ?_
 refine G.op rfl (G.cS rfl rfl rfl rfl Tryz.func48 rfl rfl subT (may1 Y1) (go_tr vo (snS zs) last span spans (by rw [snS_len]; omega) hI) apT ?_)
 intro x43 hJ
 try dsimp only at hJ
 try dsimp only
 obtain ⟨te, hte⟩ : ∃ te, toldE (snS zs) last span spans = te := ⟨_, rfl⟩
 obtain ⟨ge, hge⟩ : ∃ ge, toldM (snS zs) last span spans false = ge := ⟨_, rfl⟩
 rw [hte, hge]
 refine G.ownNews (v := x43) selT (fun ga gc gk hgv hkg hmg hadg hnilg hnewg => ?_)
 subst hgv
 refine go [0,2,7,2,7,1,1,7,8,9,9,10,0,2,14,7,8] ?_
 refine G.condP rfl (fun h47 => ?_) (fun h47 => ?_)
 ·have hbad := expM_bad hq hte (by assumption)
  refine go [9,10,0,1,1,7,8,11,12] ?_
  rw [hbad]
  refine G.ownNil 3 1 ?_
  refine G.cliMk (zb := zb) (zv := .slice za zs.length zc) (zg := zg) (zs := zs) subT ?_
  refine G.cliBack hz selT selT ?_
  exact G.doneX2 ((.slice none 0 0, st)) Y7 rfl rfl rfl rfl subT
 obtain rfl : te = 0 := Decidable.of_not_not (by assumption)
 have hgood := expM_good hq hte
 rw [hge] at hgood
 refine go [13,8,9,9,10,0,2,5,0,7,8,15] ?_
 refine G.loopK (X := Nat × Value) (ts := [6, 7, 8, 12, 49, 50]) (fun st => st.1 ≤ ge.length) (fun st => [(51, .int .i64 (st.1 : Int))]) (fun st => [blk zb 77 [st.2, .int .i64 zg], own 79 4 st.2 (cutZ (ge.take st.1) zs).length ((cutZ (ge.take st.1) zs).flatMap snC)]) (fun st => ge.length - st.1) (x0 := (0, (.slice za zs.length zc))) (.cons rfl (.cons rfl (.cons rfl (.cons rfl (.cons rfl (.cons rfl .nil)))))) subT (.cons .nil) apT Y9 (.consE rfl veqT .nil) (fun st hJ => ?_)
 obtain ⟨i, vz⟩ := st
 try dsimp only at hJ
 try dsimp only
 have hki := hJ
 refine go [9,10,2,9,7,8,9] ?_
 refine G.condP rfl (fun h52 => ?_) (fun h52 => ?_)
 ·have hlt : i < ge.length := by omega
  refine go [13,8,9,15,9,10] ?_
  refine G.op rfl (G.val rfl rfl (pv_ixSl (sz := 1) (k := i) Tryz.underlying53 kr rfl rfl hadg rfl (by omega)) ?_)
  refine G.op rfl (G.val rfl rfl (pv_load (v := .int .i64 ge[i]) Tryz.underlying3 rfl rfl (fun w hw => hnewg selT w hw (i * 1) _ (by rw [Nat.mul_one, List.getElem?_map, List.getElem?_eq_getElem hlt]; rfl))) ?_)
  refine go [1,7,8,10,0,2,8,2,3,0,0] ?_
  refine G.op rfl (G.cS rfl rfl rfl rfl Tryz.func46 rfl rfl subT may0 (sdrop_tr zb vz zg (cutZ (ge.take i) zs) ge[i] (fun s hs => hone s (cutZ_mem hs))) apT ?_)
  intro x59 hJ
  try dsimp only at hJ
  try dsimp only
  rw [← cutZ_take hlt]
  refine go [7,16,8,10,2,6,0,7] ?_
  exact G.next ((i + 1, x59)) Y6 (by (try dsimp only); omega) (.consE rfl veqT (.cons rfl (.cons rfl (.cons rfl (.cons rfl (.cons rfl (.cons rfl .nil))))))) subT
 obtain rfl : i = ge.length := by omega
 rw [List.take_length]
 refine go [18,14,14,19,8,9,10,0,1,1,7,8,11] ?_
 rw [hgood]
 refine G.treesDrop (p := fun s => ! ge.contains s.n) selT ?_
 rw [← cutZ_filter]
 refine G.cliMk (zb := zb) (zv := vz) (zg := zg) (zs := cutZ ge zs) subT ?_
 refine G.cliEnd (st := st) (c := c) (z' := ⟨zb, vz, zg, cutZ ge zs⟩) hz selT selT ?_
 rw [show ptrs st = ptrs (stCut st c ⟨zb, vz, zg, cutZ ge zs⟩) from (ptrs_cut (z := ⟨zb, vz, zg, cutZ ge zs⟩) hz.b).symm]
 exact G.doneX2 ((.slice ga ge.length gc, stCut st c ⟨zb, vz, zg, cutZ ge zs⟩)) (by first | exact trivial | ((try dsimp only) <;> exact pl_cut (z' := ⟨zb, vz, zg, cutZ ge zs⟩) (g := ge) hz rfl rfl)) rfl rfl rfl rfl subT
abbrev RS := Int × ST
def rsC (x : RS) : List Value := [.int .i64 x.1, .int .i64 x.2.n, .int .i64 x.2.c, .int .i64 x.2.t, x.2.v]
theorem rsC_len (x : RS) : (rsC x).length = 5 := rfl
theorem rsC_one {x : RS} (h : x.2.v.oneCell' = true) : ∀ u ∈ rsC x, u.oneCell' = true := fun u hu => by
 simp only [rsC, List.mem_cons, List.not_mem_nil, or_false] at hu
 rcases hu with rfl | rfl | rfl | rfl | rfl
 ·rfl
 ·rfl
 ·rfl
 ·rfl
 exact h
def rRS : Rdr RS where
 sz := 5
 R := fun Ps w b o x => Ps b ∧ w.rangeAt b o (rsC x)
 loc := fun h ⟨h1, h2⟩ => ⟨h1, rangeAt_loc (h _ h1) h2⟩
 mono := fun h ⟨h1, h2⟩ => ⟨h _ h1, h2⟩
def rTp : Rdr (Int × Int) where
 sz := 2
 R := fun Ps w b o x => Ps b ∧ w.rangeAt b o (prC x)
 loc := fun h ⟨h1, h2⟩ => ⟨h1, rangeAt_loc (h _ h1) h2⟩
 mono := fun h ⟨h1, h2⟩ => ⟨h _ h1, h2⟩
section
variable {n : Nat} {w0 : World} {S : Nat → Prop} {l : Fr} {m : List Ck} {K : Act → World → Prop}
theorem Ro.rsRng {Ps : Nat → Prop} {b o : Nat} {x : RS} (h : Ro w0 S (elc rRS Ps b o x)) : Ro w0 S (rng b o [.int .i64 x.1, .int .i64 x.2.n, .int .i64 x.2.c, .int .i64 x.2.t, x.2.v]) := ⟨h.1.2, fun k hk => h.2 k Y30⟩
theorem Ro.tpRng {Ps : Nat → Prop} {b o : Nat} {x : Int × Int} (h : Ro w0 S (elc rTp Ps b o x)) : Ro w0 S (rng b o [.int .i64 x.1, .int .i64 x.2]) := ⟨h.1.2, fun k hk => h.2 k Y30⟩
theorem may_rs {e : TypeId} {v : Value} {xs : List RS} {r : List Ck} (h : Sel m (own e 5 v xs.length (xs.flatMap rsC)) r) : May w0 S m (slc rRS (fun b => v.ownBlock = some b) v xs) :=
 .view h.mem (fun w hw => rows_sl9 rsC_len rfl hw (fun b hb => hb) fun b o x hx hP hr => ⟨hP, hr⟩) fun b hb => hb
theorem may_tp {e : TypeId} {v : Value} {xs : List (Int × Int)} {r : List Ck} (h : Sel m (own e 2 v xs.length (xs.flatMap prC)) r) : May w0 S m (slc rTp (fun b => v.ownBlock = some b) v xs) :=
 .view h.mem (fun w hw => rows_sl9 prC_len rfl hw (fun b hb => hb) fun b o x hx hP hr => ⟨hP, hr⟩) fun b hb => hb
end
theorem Tryz.infoRS : (Tryz.prog.info? 82).map (fun i => (i.zero.map (·.cells.size), i.size, i.bytes)) = some (some 5, 5, 56) := by kernel_rfl
theorem Tryz.infoTp : (Tryz.prog.info? 95).map (fun i => (i.zero.map (·.cells.size), i.size, i.bytes)) = some (some 2, 2, 16) := by kernel_rfl
theorem rs_app (e : TypeId) (v : Value) (ls : List RS) (x : RS) : own e 5 v (ls.length + 1) (ls.flatMap rsC ++ rsC x) = own e 5 v (ls ++ [x]).length ((ls ++ [x]).flatMap rsC) := by
 rw [List.length_append, List.flatMap_append]
 congr 2
def topG : List (Int × Int) → Int → Int
 | [], _ => 0
 | (k, g) :: l, c => if k = c then g else topG l c
theorem topG_at {l : List (Int × Int)} {c : Int} {i : Nat} (hi : i < l.length) (h : ∀ q (hq : q < l.length), q < i → ¬ l[q].1 = c) (he : l[i].1 = c) : topG l c = l[i].2 := by
 induction l generalizing i with
 | nil => exact absurd hi (by simp)
 | cons p l ih =>
  obtain ⟨k, g⟩ := p
  cases i with
  | zero => exact if_pos he
  | succ i =>
   have h0 : ¬ k = c := h 0 (by simp) (by omega)
   rw [topG, if_neg h0]
   have hi' : i < l.length := Nat.lt_of_succ_lt_succ hi
   exact ih (i := i) hi' (fun q hq hqi => (h (q + 1) (Nat.succ_lt_succ hq) (by omega) : ¬ l[q].1 = c)) (by exact he)
theorem topG_no {l : List (Int × Int)} {c : Int} (h : ∀ q (hq : q < l.length), ¬ l[q].1 = c) : topG l c = 0 := by
 induction l with
 | nil => rfl
 | cons p l ih =>
  obtain ⟨k, g⟩ := p
  have h0 : ¬ k = c := h 0 (by simp)
  rw [topG, if_neg h0]
  exact ih fun q hq => (h (q + 1) (Nat.succ_lt_succ hq) : ¬ l[q].1 = c)
def ofR (c : Int) (l : List RS) : List RS := l.filter fun x => decide (x.1 = c)
def cutR (c n : Int) (l : List RS) : List RS := l.filter fun x => decide (¬ x.1 = c ∨ ¬ x.2.n = n)
theorem ofR_yes {c : Int} {l : List RS} {i : Nat} (h : i < l.length) (k : l[i].1 = c) : ofR c (l.take (i + 1)) = ofR c (l.take i) ++ [l[i]] := by
 unfold ofR
 rw [List.take_succ_eq_append_getElem h, List.filter_append]
 simp [k]
theorem ofR_no {c : Int} {l : List RS} {i : Nat} (h : i < l.length) (k : ¬ l[i].1 = c) : ofR c (l.take (i + 1)) = ofR c (l.take i) := by
 unfold ofR
 rw [List.take_succ_eq_append_getElem h, List.filter_append]
 simp [k]
theorem cutR_yes {c n : Int} {l : List RS} {i : Nat} (h : i < l.length) (k : ¬ l[i].1 = c ∨ ¬ l[i].2.n = n) : cutR c n (l.take (i + 1)) = cutR c n (l.take i) ++ [l[i]] := by
 unfold cutR
 rw [List.take_succ_eq_append_getElem h, List.filter_append, List.filter_cons, if_pos (decide_eq_true k)]
 rfl
theorem cutR_no {c n : Int} {l : List RS} {i : Nat} (h : i < l.length) (k : ¬ (¬ l[i].1 = c ∨ ¬ l[i].2.n = n)) : cutR c n (l.take (i + 1)) = cutR c n (l.take i) := by
 unfold cutR
 rw [List.take_succ_eq_append_getElem h, List.filter_append, List.filter_cons, if_neg (fun e => k (of_decide_eq_true e))]
 exact List.append_nil _
theorem ofR_le (c : Int) (l : List RS) : (ofR c l).length ≤ l.length := List.length_filter_le ..
theorem cutR_le (c n : Int) (l : List RS) : (cutR c n l).length ≤ l.length := List.length_filter_le ..
set_option maxRecDepth 20000 in
set_option maxHeartbeats 4000000 in
theorem rgreat_tr {Pt : Nat → Prop} (Dr : Nat) (vL vT : Value) (ts : List (Int × Int)) (c : Int) : Tr Tryz.prog 30 #[.pointer (some ⟨Dr, 0, none⟩), .int .i64 c] [blk Dr 29 [vL, vT], slc rTp Pt vT ts] [] (T0 (.int .i64 (topG ts c))) := by
 refine Tr.of (l := [(0, .pointer (some ⟨Dr, 0, none⟩)), (1, .int .i64 c)]) Tryz.func30 rfl (n := 33) rfl (.cons rfl (.cons rfl .nil)) (fun w0 hro => ?_)
 obtain ⟨hbr, hv0⟩ := ro2 hro
 have hu := hv0
 have hu' := hu
 obtain ⟨au, cu, bu, fu, rfl, hcapu, hmaxu, hnilu, hadu, helu⟩ := Ro.open hu
 refine go [9,10,1,7,8,9,9,10,1,7,8,15] ?_
 refine G.loopK (X := Nat) (ts := [0, 1]) (fun i => i ≤ ts.length ∧ (∀ q (hq : q < ts.length), q < i → ¬ ts[q].1 = c)) (fun i => [(5, .int .i64 (i : Int))]) (fun i => []) (fun i => ts.length - i) (x0 := 0) (.cons rfl (.cons rfl .nil)) subT (.cons .nil) apT Y13 (.consE rfl veqT .nil) (fun i hJ => ?_)
 try dsimp only at hJ
 try dsimp only
 obtain ⟨hki, hJ⟩ := hJ
 have hJ0 := hJ
 refine go [9,9,10,0,0,2,8,2,3,1,2,4,2,5,2,9,7,8] ?_
 refine G.condP rfl (fun h12 => ?_) (fun h12 => ?_)
 ·have hlt : i < ts.length := by omega
  have hR := Ro.tpRng (helu i hlt)
  refine go [13,8,9,15,9,10,0,2,8,2,3,1,2,4,0] ?_
  refine G.op rfl (G.val rfl rfl (pv_ixSl (sz := 2) (k := i) Tryz.underlying27 kr rfl rfl hadu rfl (by omega)) ?_)
  refine go [2,3,0,2,4,0,2,13,7,8] ?_
  refine G.condP rfl (fun h24 => ?_) (fun h24 => ?_)
  ·have hg : ts[i].1 = c := by assumption
   refine go [9,10,0,2,8,2,3,1,2,4,0] ?_
   refine G.op rfl (G.val rfl rfl (pv_ixSl (sz := 2) (k := i) Tryz.underlying27 kr rfl rfl hadu rfl (by omega)) ?_)
   refine go [2,3,1,2,4,1,7,8,11,17,12,12,17,12] ?_
   exact G.done0G rfl (Rv.tmp rfl Rv.nil) (by rw [topG_at hlt hJ0 hg]; rfl)
  have hng : ¬ ts[i].1 = c := by assumption
  refine go [13,16,8,10,0,2,6,1,7] ?_
  exact G.next (i + 1) Y15 (by (try dsimp only); omega) (.consE rfl veqT (.cons rfl (.cons rfl .nil))) subT
 refine go [18,14,14,19,8,9,10,1,7,8,11] ?_
 exact G.done0G rfl (Rv.tmp rfl Rv.nil) (by rw [topG_no (fun q hq => hJ q hq (by omega))]; rfl)
set_option maxRecDepth 20000 in
set_option maxHeartbeats 4000000 in
theorem rof_tr {Ps : Nat → Prop} (Dr : Nat) (vL vT : Value) (L : List RS) (c : Int) (hone : ∀ x ∈ L, x.2.v.oneCell' = true) (hl : L.length ≤ 1000000) : Tr Tryz.prog 40 #[.pointer (some ⟨Dr, 0, none⟩), .int .i64 c] [blk Dr 29 [vL, vT], slc rRS Ps vL L] []
 (TX (fun _ : Value => True) (fun x => x) (fun x => [own 82 5 x (ofR c L).length ((ofR c L).flatMap rsC)])) := by
 refine Tr.of (l := [(0, .pointer (some ⟨Dr, 0, none⟩)), (1, .int .i64 c)]) Tryz.func40 rfl (n := 37) rfl (.cons rfl (.cons rfl .nil)) (fun w0 hro => ?_)
 obtain ⟨hbr, hv0⟩ := ro2 hro
 have hx := hv0
 have hx' := hx
 obtain ⟨ax, cx, bx, fx, rfl, hcapx, hmaxx, hnilx, hadx, helx⟩ := Ro.open hx
 refine go [9,10,1,7,8,9,10,1,7,8,9,9,10,1,7,8,15] ?_
 refine G.ownNil 82 5 ?_
 refine G.loopK (X := Nat × Value) (ts := [0, 1, 4]) (fun st => st.1 ≤ L.length) (fun st => [(6, .int .i64 (st.1 : Int)), (5, st.2)]) (fun st => [own 82 5 st.2 (ofR c (L.take st.1)).length ((ofR c (L.take st.1)).flatMap rsC)]) (fun st => L.length - st.1) (x0 := (0, .slice none 0 0)) (.cons rfl (.cons rfl (.cons rfl .nil))) subT (.cons (.cons .nil)) apT Y9 (.consE rfl veqT (.consE rfl veqT .nil)) (fun st hJ => ?_)
 obtain ⟨i, vo⟩ := st
 try dsimp only at hJ
 try dsimp only
 have hki := hJ
 have hol := ofR_le c (L.take i)
 have hol2 : (L.take i).length ≤ i := List.length_take_le _ _
 refine go [9,9,10,0,0,2,8,2,3,0,2,4,2,5,2,9,7,8] ?_
 refine G.condP rfl (fun h13 => ?_) (fun h13 => ?_)
 ·have hlt : i < L.length := by omega
  have hR := Ro.rsRng (helx i hlt)
  have hsv := hone _ (List.getElem_mem hlt)
  refine go [13,8,9,15,9,10,0,2,8,2,3,0,2,4,0] ?_
  refine G.op rfl (G.val rfl rfl (pv_ixSl (sz := 5) (k := i) Tryz.underlying26 kr rfl rfl hadx rfl (by omega)) ?_)
  refine go [2,3,0,2,4,0,2,13,7,8] ?_
  refine G.condP rfl (fun h25 => ?_) (fun h25 => ?_)
  ·have hg : L[i].1 = c := by assumption
   refine go [10,0,0,2,8,2,3,0,2,4,0] ?_
   refine G.op rfl (G.val rfl rfl (pv_ixSl (sz := 5) (k := i) Tryz.underlying26 kr rfl rfl hadx rfl (by omega)) ?_)
   refine G.op rfl (G.val rfl rfl (pv_loadN (cs := rsC L[i]) Tryz.underlying82 rfl kr rfl (fun w hw => hR.at hw)) ?_)
   refine G.op rfl (G.buildSlice (z := .agg #[.int .i64 0, .int .i64 0, .int .i64 0, .int .i64 0, .slice none 0 0]) (sz := 5) (cs := rsC L[i]) rfl Tryz.underlying26 kr (by decide) (by decide) rfl kr ?_)
   intro b34
   refine G.op rfl (G.append (k := (ofR c (L.take i)).length) (j := 1) (cs := (ofR c (L.take i)).flatMap rsC) (news := rsC L[i]) (b := b34) (off := 0) rfl Tryz.underlying26 Tryz.infoRS rfl rfl rfl selT (fun _ => rfl) (fun h => by cases h) rfl (blk_news (k := 5) selT rfl) (rsC_one hsv) (by omega) (by omega) ?_)
   intro vn
   rw [rs_app, ← ofR_yes hlt hg]
   refine go [1,7,16,8,10,0,2,6,1,7] ?_
   exact G.next ((i + 1, vn)) Y6 (by (try dsimp only); omega) (.consE rfl veqT (.consE rfl veqT (.cons rfl (.cons rfl (.cons rfl .nil))))) subT
  have hng : ¬ L[i].1 = c := by assumption
  rw [← ofR_no hlt hng]
  refine go [13,16,8,10,0,2,6,1,7] ?_
  exact G.next ((i + 1, vo)) Y6 (by (try dsimp only); omega) (.consE rfl veqT (.consE rfl veqT (.cons rfl (.cons rfl (.cons rfl .nil))))) subT
 obtain rfl : i = L.length := by omega
 rw [List.take_length]
 refine go [18,14,14,19,8,9,10,0,1,7,8,11] ?_
 exact G.doneX1 (vo) trT rfl rfl rfl subT
set_option maxRecDepth 20000 in
set_option maxHeartbeats 4000000 in
theorem rwithout_tr (Dr : Nat) (vL vT : Value) (L : List RS) (c n : Int) (hone : ∀ x ∈ L, x.2.v.oneCell' = true) (hl : L.length ≤ 1000000) : Tr Tryz.prog 47 #[.pointer (some ⟨Dr, 0, none⟩), .int .i64 c, .int .i64 n] [] [blk Dr 29 [vL, vT], own 82 5 vL L.length (L.flatMap rsC)]
 (TX (fun _ : Value => True) (fun _ => .tuple #[]) (fun x => [blk Dr 29 [x, vT], own 82 5 x (cutR c n L).length ((cutR c n L).flatMap rsC)])) := by
 refine Tr.of (l := [(0, .pointer (some ⟨Dr, 0, none⟩)), (1, .int .i64 c), (2, .int .i64 n)]) Tryz.func47 rfl (n := 53) rfl (.cons rfl (.cons rfl (.cons rfl .nil))) (fun w0 hro => ?_)
 refine go [9,10] ?_
 refine G.ownNews (v := vL) selT (fun za zc zk hzv hkz hmz hadz hnilz hnewz => ?_)
 subst hzv
 refine go [1,7,8,9,9,10,1,7,8,15] ?_
 refine G.ownNil 82 5 ?_
 refine G.loopK (X := Nat × Value) (ts := [0, 1, 2]) (fun st => st.1 ≤ L.length) (fun st => [(7, .int .i64 (st.1 : Int)), (6, st.2)]) (fun st => [own 82 5 st.2 (cutR c n (L.take st.1)).length ((cutR c n (L.take st.1)).flatMap rsC)]) (fun st => L.length - st.1) (x0 := (0, .slice none 0 0)) (.cons rfl (.cons rfl (.cons rfl .nil))) subT (.cons (.cons .nil)) apT Y9 (.consE rfl veqT (.consE rfl veqT .nil)) (fun st hJ => ?_)
 obtain ⟨i, vo⟩ := st
 try dsimp only at hJ
 try dsimp only
 have hki := hJ
 have hol := cutR_le c n (L.take i)
 have hol2 : (L.take i).length ≤ i := List.length_take_le _ _
 refine go [9,9,10,0,0,2,8,2,3,0,2,4,2,5,2,9,7,8] ?_
 refine G.condP rfl (fun h14 => ?_) (fun h14 => ?_)
 ·have hlt : i < L.length := by omega
  have hsv := hone _ (List.getElem_mem hlt)
  refine go [13,8,9,15,9] ?_
  refine G.cutK (X := Unit) (ts := [0, 1, 2, 6, 7]) (p := []) (fun _ => True) (fun _ => [(38, .bool (decide (¬ L[i].1 = c ∨ ¬ L[i].2.n = n)))]) (fun _ => []) (.cons rfl (.cons rfl (.cons rfl (.cons rfl (.cons rfl .nil))))) subT (.cons .nil) apT ?_ ?_
  ·refine go [10,0,2,8,2,3,0,2,4,0] ?_
   refine G.op rfl (G.val rfl rfl (pv_ixSl (sz := 5) (k := i) Tryz.underlying26 kr rfl rfl hadz rfl (by omega)) ?_)
   refine go [2,3,0] ?_
   refine G.op rfl (G.val rfl rfl (pv_load (v := .int .i64 L[i].1) Tryz.underlying3 rfl rfl (fun w hw => news_row rsC_len (hnewz selT w hw) hlt 0 _ rfl)) ?_)
   refine go [0,2,14,0] ?_
   refine G.partP (t := 27) rfl (fun h27 => ?_) (fun h27 => ?_)
   ·refine go [4,4,4,4,4,4,4,4,4,4,2,2,7] ?_
    exact G.meet (()) trT (.consE rfl (by first | exact dec_t (.inl (by assumption)) | exact dec_e ⟨fun h => .inr h, fun h => h.resolve_left (by assumption)⟩) (.cons rfl (.cons rfl (.cons rfl (.cons rfl (.cons rfl .nil)))))) subT
   refine go [3,0,3,8,3,3,0,3,4,3,0] ?_
   refine G.want rfl rfl rfl (G.val rfl rfl (pv_ixSl (sz := 5) (k := i) Tryz.underlying26 kr rfl rfl hadz rfl (by omega)) ?_)
   refine go [3,3,1] ?_
   refine G.want rfl rfl rfl (G.val rfl rfl (pv_load (v := .int .i64 L[i].2.n) Tryz.underlying3 rfl rfl (fun w hw => news_row rsC_len (hnewz selT w hw) hlt 1 _ rfl)) ?_)
   refine go [3,0,3,14,2,2,7] ?_
   exact G.meet (()) trT (.consE rfl (by first | exact dec_t (.inl (by assumption)) | exact dec_e ⟨fun h => .inr h, fun h => h.resolve_left (by assumption)⟩) (.cons rfl (.cons rfl (.cons rfl (.cons rfl (.cons rfl .nil)))))) subT
  intro _ hJ
  try dsimp only at hJ
  try dsimp only
  refine G.condP rfl (fun h38 => ?_) (fun h38 => ?_)
  ·have hg : ¬ L[i].1 = c ∨ ¬ L[i].2.n = n := by assumption
   refine go [10,0,0,2,8,2,3,0,2,4,0] ?_
   refine G.op rfl (G.val rfl rfl (pv_ixSl (sz := 5) (k := i) Tryz.underlying26 kr rfl rfl hadz rfl (by omega)) ?_)
   refine G.op rfl (G.val rfl rfl (pv_loadN (cs := rsC L[i]) Tryz.underlying82 rfl kr rfl (fun w hw => news_row rsC_len (hnewz selT w hw) hlt)) ?_)
   refine G.op rfl (G.buildSlice (z := .agg #[.int .i64 0, .int .i64 0, .int .i64 0, .int .i64 0, .slice none 0 0]) (sz := 5) (cs := rsC L[i]) rfl Tryz.underlying26 kr (by decide) (by decide) rfl kr ?_)
   intro b47
   refine G.op rfl (G.append (k := (cutR c n (L.take i)).length) (j := 1) (cs := (cutR c n (L.take i)).flatMap rsC) (news := rsC L[i]) (b := b47) (off := 0) rfl Tryz.underlying26 Tryz.infoRS rfl rfl rfl selT (fun _ => rfl) (fun h => by cases h) rfl (blk_news (k := 5) selT rfl) (rsC_one hsv) (by omega) (by omega) ?_)
   intro vn
   rw [rs_app, ← cutR_yes hlt hg]
   refine go [1,7,16,8,10,0,2,6,1,7] ?_
   exact G.next ((i + 1, vn)) Y6 (by (try dsimp only); omega) (.consE rfl veqT (.consE rfl veqT (.cons rfl (.cons rfl (.cons rfl .nil))))) subT
  have hng : ¬ (¬ L[i].1 = c ∨ ¬ L[i].2.n = n) := by assumption
  rw [← cutR_no hlt hng]
  refine go [13,16,8,10,0,2,6,1,7] ?_
  exact G.next ((i + 1, vo)) Y6 (by (try dsimp only); omega) (.consE rfl veqT (.consE rfl veqT (.cons rfl (.cons rfl (.cons rfl .nil))))) subT
 obtain rfl : i = L.length := by omega
 rw [List.take_length]
 refine G.ownFact (v := vo) selT (fun hvo _ => ?_)
 refine go [18,14,14,19,8,10,0,0,2,8,2,3,0,21,7] ?_
 exact G.doneXE (vo) trT rfl rfl subT
theorem Tryz.infoI9 : (Tryz.prog.info? 3).map (fun i => (i.zero.map (·.cells.size), i.size, i.bytes)) = some (some 1, 1, 8) := by kernel_rfl
def keyT (ts : List (Int × Int)) : List Int := ts.map fun t => t.1
theorem keyT_len (ts : List (Int × Int)) : (keyT ts).length = ts.length := List.length_map ..
theorem keyT_take {ts : List (Int × Int)} {i : Nat} (h : i < ts.length) : keyT (ts.take (i + 1)) = keyT (ts.take i) ++ [ts[i].1] := by
 unfold keyT
 rw [List.take_succ_eq_append_getElem h, List.map_append]
 rfl
theorem key_app (e : TypeId) (v : Value) (ls : List Int) (x : Int) : own e 1 v (ls.length + 1) (ls.map vInt ++ [.int .i64 x]) = own e 1 v (ls ++ [x]).length ((ls ++ [x]).map vInt) := by
 rw [List.length_append, List.map_append]
 rfl
set_option maxRecDepth 20000 in
set_option maxHeartbeats 4000000 in
theorem rclients_tr {Pt : Nat → Prop} (Dr : Nat) (vL vT : Value) (ts : List (Int × Int)) (hl : ts.length ≤ 1000000) : Tr Tryz.prog 32 #[.pointer (some ⟨Dr, 0, none⟩)] [blk Dr 29 [vL, vT], slc rTp Pt vT ts] []
 (TX (fun _ : Value => True) (fun x => x) (fun x => [own 3 1 x (keyT ts).length ((keyT ts).map vInt)])) := by
 refine Tr.of (l := [(0, .pointer (some ⟨Dr, 0, none⟩))]) Tryz.func32 rfl (n := 26) rfl (.cons rfl .nil) (fun w0 hro => ?_)
 obtain ⟨hbr, hv0⟩ := ro2 hro
 have hu := hv0
 have hu' := hu
 obtain ⟨au, cu, bu, fu, rfl, hcapu, hmaxu, hnilu, hadu, helu⟩ := Ro.open hu
 refine go [9,10,1,7,8,9,10,1,7,8,9,9,10,1,7,8,15] ?_
 refine G.ownNil 3 1 ?_
 refine G.loopK (X := Nat × Value) (ts := [0, 2]) (fun st => st.1 ≤ ts.length) (fun st => [(4, .int .i64 (st.1 : Int)), (3, st.2)]) (fun st => [own 3 1 st.2 (keyT (ts.take st.1)).length ((keyT (ts.take st.1)).map vInt)]) (fun st => ts.length - st.1) (x0 := (0, .slice none 0 0)) (.cons rfl (.cons rfl .nil)) subT (.cons (.cons .nil)) apT Y9 (.consE rfl veqT (.consE rfl veqT .nil)) (fun st hJ => ?_)
 obtain ⟨i, vo⟩ := st
 try dsimp only at hJ
 try dsimp only
 have hki := hJ
 have hol := keyT_len (ts.take i)
 have hol2 : (ts.take i).length ≤ i := List.length_take_le _ _
 refine go [9,9,10,0,0,2,8,2,3,1,2,4,2,5,2,9,7,8] ?_
 refine G.condP rfl (fun h11 => ?_) (fun h11 => ?_)
 ·have hlt : i < ts.length := by omega
  have hR := Ro.tpRng (helu i hlt)
  refine go [13,8,9,15,10,0,0,2,8,2,3,1,2,4,0] ?_
  refine G.op rfl (G.val rfl rfl (pv_ixSl (sz := 2) (k := i) Tryz.underlying27 kr rfl rfl hadu rfl (by omega)) ?_)
  refine go [2,3,0,2,4] ?_
  refine G.op rfl (G.lit1 (vs := [.int .i64 ts[i].1]) rfl Tryz.underlying53 kr rfl (by decide) (by decide) rfl rfl ?_)
  intro b23
  refine G.op rfl (G.append (k := (keyT (ts.take i)).length) (j := 1) (cs := (keyT (ts.take i)).map vInt) (news := [.int .i64 ts[i].1]) (b := b23) (off := 0) rfl Tryz.underlying53 Tryz.infoI9 rfl rfl rfl selT (fun _ => rfl) (fun h => by cases h) rfl (blk_news (k := 1) selT rfl) (fun u hu => by obtain rfl : u = _ := (by simpa using hu); rfl) (by omega) (by omega) ?_)
  intro vn
  rw [key_app, ← keyT_take hlt]
  refine go [1,7,16,8,10,0,2,6,1,7] ?_
  exact G.next ((i + 1, vn)) Y6 (by (try dsimp only); omega) (.consE rfl veqT (.consE rfl veqT (.cons rfl (.cons rfl .nil)))) subT
 obtain rfl : i = ts.length := by omega
 rw [List.take_length]
 refine go [18,14,14,19,8,9,10,0,1,7,8,11] ?_
 exact G.doneX1 (vo) trT rfl rfl rfl subT
set_option maxRecDepth 20000 in
set_option maxHeartbeats 4000000 in
theorem rwithin_tr (n k : Int) : Tr Tryz.prog 58 #[.int .i64 n, .int .i64 k] [] [] (T0 (.bool (decide (k ≤ n ∧ n ≤ 2147483647)))) := by
 refine Tr.of (l := [(0, .int .i64 n), (1, .int .i64 k)]) Tryz.func58 rfl (n := 12) rfl (.cons rfl (.cons rfl .nil)) (fun w0 hro => ?_)
 refine go [9,10,1,7,8,9,10,0,0,2,12,0] ?_
 refine G.partP (t := 8) rfl (fun h8 => ?_) (fun h8 => ?_)
 ·refine go [3,0,3,11,2,2,1,7,8,11] ?_
  exact G.done0G rfl (Rv.tmp rfl Rv.nil) Y12
 refine go [4,4,2,2,1,7,8,11] ?_
 exact G.done0G rfl (Rv.tmp rfl Rv.nil) Y12
set_option maxRecDepth 20000 in
set_option maxHeartbeats 4000000 in
theorem rsound_tr {Ps : Nat → Prop} (c n k t : Int) (v : Value) (xs : List ET) : Tr Tryz.prog 39 #[.int .i64 c, .int .i64 n, .int .i64 k, .int .i64 t, v] [slc rEV Ps v xs] [] (T0 (.int .i64 (fitE c n k t (ens xs)))) := by
 refine Tr.of (l := [(0, .int .i64 c), (1, .int .i64 n), (2, .int .i64 k), (3, .int .i64 t), (4, v)]) Tryz.func39 rfl (n := 38) rfl (.cons rfl (.cons rfl (.cons rfl (.cons rfl (.cons rfl .nil))))) (fun w0 hro => ?_)
 have hv := ro1 hro
 refine go [9,10,1,7,8,9,9] ?_
 refine G.cutK (X := Unit) (ts := [4, 10]) (p := []) (fun _ => True) (fun _ => [(30, .bool (decide (¬ (1 ≤ c ∧ c ≤ 2147483647) ∨ ¬ (1 ≤ n ∧ n ≤ 2147483647) ∨ ¬ (1 ≤ k ∧ k ≤ 2147483647) ∨ ¬ (0 ≤ t ∧ t ≤ 2147483647))))]) (fun _ => []) (.cons rfl (.cons rfl .nil)) subT (.cons .nil) apT ?_ ?_
 ·refine go [10,0] ?_
  refine G.op rfl (G.cR rfl rfl rfl rfl Tryz.func58 rfl rfl may0 (rwithin_tr _ _) ?_)
  refine go [2,15,0] ?_
  refine G.partP (t := 16) rfl (fun h16 => ?_) (fun h16 => ?_)
  ·refine go [4,4,4,2,2,0,4,4,4,2,2,0,4,4,4,2,2,7] ?_
   exact G.meet (()) trT (.consE rfl Y5 (.cons rfl (.cons rfl .nil))) subT
  refine go [3,0] ?_
  refine G.want rfl rfl rfl (G.cR rfl rfl rfl rfl Tryz.func58 rfl rfl may0 (rwithin_tr _ _) ?_)
  refine go [3,15,2,2,0] ?_
  refine G.partP (t := 21) rfl (fun h21 => ?_) (fun h21 => ?_)
  ·refine go [4,4,4,2,2,0,4,4,4,2,2,7] ?_
   exact G.meet (()) trT (.consE rfl Y5 (.cons rfl (.cons rfl .nil))) subT
  refine go [3,0] ?_
  refine G.want rfl rfl rfl (G.cR rfl rfl rfl rfl Tryz.func58 rfl rfl may0 (rwithin_tr _ _) ?_)
  refine go [3,15,2,2,0] ?_
  refine G.partP (t := 26) rfl (fun h26 => ?_) (fun h26 => ?_)
  ·refine go [4,4,4,2,2,7] ?_
   exact G.meet (()) trT (.consE rfl Y5 (.cons rfl (.cons rfl .nil))) subT
  refine go [3,0] ?_
  refine G.want rfl rfl rfl (G.cR rfl rfl rfl rfl Tryz.func58 rfl rfl may0 (rwithin_tr _ _) ?_)
  refine go [3,15,2,2,7] ?_
  exact G.meet (()) trT (.consE rfl Y5 (.cons rfl (.cons rfl .nil))) subT
 intro _ hJ
 try dsimp only at hJ
 try dsimp only
 refine G.condP rfl (fun h30 => ?_) (fun h30 => ?_)
 ·have he : fitE c n k t (ens xs) = 5 := if_pos (by assumption)
  refine go [9,10,1,7,8,11,12] ?_
  exact G.done0G rfl (Rv.tmp rfl Rv.nil) (by rw [he]; rfl)
 have he : fitE c n k t (ens xs) = (if (checkT (ens xs)).1 = 0 then 0 else 2) := if_neg (by assumption)
 refine go [13,8,9,10,0] ?_
 refine G.op rfl (G.cR rfl rfl rfl rfl Tryz.func59 rfl rfl (may1 (.old hv)) (tcheckR_tr _ _) ?_)
 refine go [0,2,7,2,7,1,1,7,8,9,9,10,0,2,14,7,8] ?_
 refine G.condP rfl (fun h37 => ?_) (fun h37 => ?_)
 ·refine go [9,10,1,7,8,11,12] ?_
  exact G.done0G rfl (Rv.tmp rfl Rv.nil) (by rw [he, if_neg (by assumption)]; rfl)
 refine go [13,8,9,10,1,7,8,11] ?_
 exact G.done0G rfl (Rv.tmp rfl Rv.nil) (by rw [he, if_pos (Decidable.of_not_not (by assumption))]; rfl)
theorem evC_oneR {x : ET} (h : x.2.oneCell' = true) : ∀ u ∈ evC x, u.oneCell' = true := fun u hu => by
 simp only [evC, List.mem_cons, List.not_mem_nil, or_false] at hu
 rcases hu with rfl | rfl | rfl | rfl | rfl
 ·rfl
 ·rfl
 ·rfl
 ·exact h
 rfl
theorem en_take {xs : List ET} {i : Nat} (h : i < xs.length) : (ens xs).take (i + 1) = (ens xs).take i ++ [xs[i].1] := by
 rw [List.take_succ_eq_append_getElem (by rw [ens_length]; exact h), ens_get h]
set_option maxRecDepth 20000 in
set_option maxHeartbeats 4000000 in
theorem rcopy_tr {Ps : Nat → Prop} (v : Value) (xs : List ET) (hn : xs.length ≤ 1000) : Tr Tryz.prog 41 #[v] [slc rEV Ps v xs] [] (TX (fun z : Value × List ET => ens z.2 = ens xs) (fun z => z.1) (fun z => [ownT 69 z.1 z.2, datC 5 z.2])) := by
 refine Tr.of (l := [(0, v)]) Tryz.func41 rfl (n := 26) rfl (.cons rfl .nil) (fun w0 hro => ?_)
 have hv := ro1 hro
 have hv' := hv
 obtain ⟨av, cv, bv, fv, rfl, hcapv, hmaxv, hnilv, hadv, helv⟩ := Ro.openT hv
 refine go [9,10,1,7,8,9,10,1,7,8,9,9,10,1,7,8,15] ?_
 refine G.datNil 5 ?_
 refine G.ownNil 69 5 ?_
 refine G.loopK (X := Nat × Value × (List ET)) (ts := [0, 2]) (fun st => st.1 ≤ xs.length ∧ (ens st.2.2 = (ens xs).take st.1)) (fun st => [(4, .int .i64 (st.1 : Int)), (3, st.2.1)]) (fun st => [ownT 69 st.2.1 st.2.2, datC 5 st.2.2]) (fun st => xs.length - st.1) (x0 := (0, .slice none 0 0, [])) (.cons rfl (.cons rfl .nil)) subT (.cons (.cons .nil)) apT (by first | exact trivial | ((try dsimp only) <;> exact ⟨Nat.zero_le _, (by rw [List.take_zero]; rfl)⟩)) (.consE rfl veqT (.consE rfl veqT .nil)) (fun st hJ => ?_)
 obtain ⟨i, vo, ys⟩ := st
 try dsimp only at hJ
 try dsimp only
 obtain ⟨hki, hJ⟩ := hJ
 have hey := hJ
 have hyl : ys.length ≤ i := by rw [← ens_length, hey]; exact List.length_take_le _ _
 refine go [9,9,10,0,0,2,5,2,9,7,8] ?_
 refine G.condP rfl (fun h9 => ?_) (fun h9 => ?_)
 ·have hlt : i < xs.length := by omega
  have hEv := helv i hlt
  have hRv := Ro.evRng hEv
  have hDv := Ro.evDat hEv
  obtain ⟨hk1v, hk2v, hlpv, hldv, hltv⟩ := Ro.evOk hEv
  have hCv := Ro.one1 hDv
  refine go [13,8,9,15,9,10,0,0] ?_
  refine G.op rfl (G.val rfl rfl (pv_ixSl (sz := 5) (k := i) Tryz.underlying32 kr rfl rfl Y18 (by omega) (by omega)) ?_)
  refine go [2,50,1] ?_
  refine G.op rfl (G.alloc (z := .agg #[.string ⟨#[]⟩, .int .i64 0, .int .i64 0, .slice none 0 0, .string ⟨#[]⟩]) (cs := [.string ⟨#[]⟩, .int .i64 0, .int .i64 0, .slice none 0 0, .string ⟨#[]⟩]) rfl kr rfl ?_)
  intro b5
  refine go [20,7,8,9,10,60,4] ?_
  intro b16
  refine G.blkOwnB (b := b16) (xs := []) selT (by decide) ?_
  refine go [2,3,3,2,4] ?_
  refine G.op rfl (G.appendB (xs := []) (ys := xs[i].1.data) (Ps := Ps) rfl Tryz.underlying67 Tryz.infoByte rfl rfl selT (ro_sl hDv) (by simp; omega) (by simp; omega) ?_)
  intro x19
  rw [List.nil_append xs[i].1.data]
  refine G.ownBFact (v := x19) selT (fun hx19 => ?_)
  refine go [2,3,3,21,7,8,10,0,2,50,1] ?_
  refine G.op rfl (G.buildSlice (z := .agg #[.string ⟨#[]⟩, .int .i64 0, .int .i64 0, .slice none 0 0, .string ⟨#[]⟩]) (sz := 5) (cs := evC (xs[i].1, x19)) rfl Tryz.underlying32 kr (by decide) (by decide) rfl kr ?_)
  intro b23
  rw [show ownT 69 vo ys = own 69 5 vo ys.length (flatT ys) from rfl]
  refine G.op rfl (G.append (k := ys.length) (j := 1) (cs := flatT ys) (news := evC (xs[i].1, x19)) (b := b23) (off := 0) rfl Tryz.underlying32 Tryz.infoEn' rfl rfl rfl selT (fun _ => rfl) (fun h => by cases h) rfl (blk_news (k := 5) selT rfl) (evC_oneR hx19) (by omega) (by omega) ?_)
  intro v'
  rw [show flatT ys ++ evC (xs[i].1, x19) = flatT (ys ++ [(xs[i].1, x19)]) from by rw [flatT_app, flatT_one], show ys.length + 1 = (ys ++ [(xs[i].1, x19)]).length from by rw [List.length_append]; rfl]
  refine G.datSnoc (ys := ys) (x := (xs[i].1, x19)) selT selT ?_
  refine go [1,7,16,8,10,0,2,6,1,7] ?_
  exact G.next ((i + 1, (v', ys ++ [(xs[i].1, x19)]))) (by first | exact trivial | ((try dsimp only) <;> exact ⟨by omega, (by show ens (ys ++ [_]) = _; rw [en_take hlt, ← hey]; unfold ens; rw [List.map_append]; rfl)⟩)) (by (try dsimp only); omega) (.consE rfl veqT (.consE rfl veqT (.cons rfl (.cons rfl .nil)))) subT
 obtain rfl : i = xs.length := by omega
 rw [List.take_of_length_le (by rw [ens_length]; exact Nat.le_refl _)] at hey
 refine go [18,14,14,19,8,9,10,0,1,7,8,11] ?_
 exact G.doneX1 ((vo, ys)) (by first | exact trivial | ((try dsimp only) <;> exact hey)) rfl rfl rfl subT
def stepT (c n : Int) (q : Int × List (Int × Int)) (t : Int × Int) : Int × List (Int × Int) :=
 if ¬ t.1 = c then ((if ¬ q.1 = 1 ∧ c ≤ t.1 then (1, q.2 ++ [(c, n)]) else q).1, (if ¬ q.1 = 1 ∧ c ≤ t.1 then (1, q.2 ++ [(c, n)]) else q).2 ++ [t]) else (if ¬ q.1 = 1 ∧ c ≤ t.1 then (1, q.2 ++ [(c, n)]) else q)
def putT (c n : Int) (ts : List (Int × Int)) : List (Int × Int) :=
 if ¬ (ts.foldl (stepT c n) (0, [])).1 = 1 then (ts.foldl (stepT c n) (0, [])).2 ++ [(c, n)] else (ts.foldl (stepT c n) (0, [])).2
theorem fold_take {c n : Int} {ts : List (Int × Int)} {i : Nat} (h : i < ts.length) : (ts.take (i + 1)).foldl (stepT c n) (0, []) = stepT c n ((ts.take i).foldl (stepT c n) (0, [])) ts[i] := by
 rw [List.take_succ_eq_append_getElem h, List.foldl_append]
 rfl
theorem step_yes {c n : Int} {q r : Int × List (Int × Int)} {t : Int × Int} (h : r = if ¬ q.1 = 1 ∧ c ≤ t.1 then (1, q.2 ++ [(c, n)]) else q) (k : ¬ t.1 = c) : stepT c n q t = (r.1, r.2 ++ [t]) := by
 subst h
 exact if_pos k
theorem step_no {c n : Int} {q r : Int × List (Int × Int)} {t : Int × Int} (h : r = if ¬ q.1 = 1 ∧ c ≤ t.1 then (1, q.2 ++ [(c, n)]) else q) (k : ¬ ¬ t.1 = c) : stepT c n q t = r := by
 subst h
 exact if_neg k
theorem tp_app (e : TypeId) (v : Value) (ls : List (Int × Int)) (x : Int × Int) : own e 2 v (ls.length + 1) (ls.flatMap prC ++ prC x) = own e 2 v (ls ++ [x]).length ((ls ++ [x]).flatMap prC) := by
 rw [List.length_append, List.flatMap_append]
 congr 2
set_option maxRecDepth 20000 in
set_option maxHeartbeats 4000000 in
theorem rtop_tr (Dr : Nat) (vL vT : Value) (ts : List (Int × Int)) (c n : Int) (hl : ts.length ≤ 1000000) : Tr Tryz.prog 42 #[.pointer (some ⟨Dr, 0, none⟩), .int .i64 c, .int .i64 n] [] [blk Dr 29 [vL, vT], own 95 2 vT ts.length (ts.flatMap prC)]
 (TX (fun _ : Value => True) (fun _ => .tuple #[]) (fun x => [blk Dr 29 [vL, x], own 95 2 x (putT c n ts).length ((putT c n ts).flatMap prC)])) := by
 refine Tr.of (l := [(0, .pointer (some ⟨Dr, 0, none⟩)), (1, .int .i64 c), (2, .int .i64 n)]) Tryz.func42 rfl (n := 70) rfl (.cons rfl (.cons rfl (.cons rfl .nil))) (fun w0 hro => ?_)
 refine go [9,10] ?_
 refine G.ownNews (v := vT) selT (fun za zc zk hzv hkz hmz hadz hnilz hnewz => ?_)
 subst hzv
 refine go [1,7,8,9,10] ?_
 refine G.op rfl (G.val rfl rfl ((pv_assign rfl).cast (v' := .bool (decide ((0 : Int) = 1))) rfl) ?_)
 refine go [7,8,9,9,10,1,7,8,15] ?_
 refine G.ownNil 95 2 ?_
 refine G.loopK (X := Nat × Value × Int × (List (Int × Int))) (ts := [0, 1, 2]) (fun st => st.1 ≤ ts.length ∧ ((st.2.2.1, st.2.2.2) = (ts.take st.1).foldl (stepT c n) (0, []) ∧ st.2.2.2.length ≤ 2 * st.1)) (fun st => [(8, .int .i64 (st.1 : Int)), (6, st.2.1), (7, .bool (decide (st.2.2.1 = 1)))]) (fun st => [own 95 2 st.2.1 st.2.2.2.length (st.2.2.2.flatMap prC)]) (fun st => ts.length - st.1) (x0 := (0, .slice none 0 0, 0, [])) (.cons rfl (.cons rfl (.cons rfl .nil))) subT (.cons (.cons (.cons .nil))) apT (by first | exact trivial | ((try dsimp only) <;> exact ⟨Nat.zero_le _, ⟨rfl, Nat.le_refl _⟩⟩)) (.consE rfl veqT (.consE rfl veqT (.consE rfl veqT .nil))) (fun st hJ => ?_)
 obtain ⟨i, vo, lb, out⟩ := st
 try dsimp only at hJ
 try dsimp only
 obtain ⟨hki, hJ⟩ := hJ
 obtain ⟨hq, hol⟩ := hJ
 refine go [9,9,10,0,0,2,8,2,3,1,2,4,2,5,2,9,7,8] ?_
 refine G.condP rfl (fun h15 => ?_) (fun h15 => ?_)
 ·have hlt : i < ts.length := by omega
  refine go [13,8,9,15,9] ?_
  refine G.cutK (X := Value × Int × (List (Int × Int))) (ts := [0, 1, 2, 8]) (p := [own 95 2 vo _ _]) (fun st => (st.2.1, st.2.2) = (if ¬ lb = 1 ∧ c ≤ ts[i].1 then (1, out ++ [(c, n)]) else (lb, out)) ∧ st.2.2.length ≤ 2 * i + 1) (fun st => [(6, st.1), (7, .bool (decide (st.2.1 = 1)))]) (fun st => [own 95 2 st.1 st.2.2.length (st.2.2.flatMap prC)]) (.cons rfl (.cons rfl (.cons rfl (.cons rfl .nil)))) subT (.cons (.cons .nil)) apT ?_ ?_
  ·refine G.seq ?_
   refine G.cutK (X := Unit) (ts := [0, 1, 2, 6, 7, 8]) (p := []) (fun _ => True) (fun _ => [(31, .bool (decide (¬ lb = 1 ∧ c ≤ ts[i].1)))]) (fun _ => []) (.cons rfl (.cons rfl (.cons rfl (.cons rfl (.cons rfl (.cons rfl .nil)))))) subT (.cons .nil) apT ?_ ?_
   ·refine go [10,0,2,15,0] ?_
    refine G.partP (t := 20) rfl (fun h20 => ?_) (fun h20 => ?_)
    ·refine go [3,0,3,8,3,3,1,3,4,3,0] ?_
     refine G.want rfl rfl rfl (G.val rfl rfl (pv_ixSl (sz := 2) (k := i) Tryz.underlying27 kr rfl rfl hadz rfl (by omega)) ?_)
     refine go [3,3,0] ?_
     refine G.want rfl rfl rfl (G.val rfl rfl (pv_load (v := .int .i64 ts[i].1) Tryz.underlying3 rfl rfl (fun w hw => news_row prC_len (hnewz selT w hw) hlt 0 _ rfl)) ?_)
     refine go [3,0,3,12,2,2,7] ?_
     exact G.meet (()) trT (.consE rfl Y12 (.cons rfl (.cons rfl (.cons rfl (.cons rfl (.cons rfl (.cons rfl .nil))))))) subT
    refine go [4,4,4,4,4,4,4,4,4,4,2,2,7] ?_
    exact G.meet (()) trT (.consE rfl Y12 (.cons rfl (.cons rfl (.cons rfl (.cons rfl (.cons rfl (.cons rfl .nil))))))) subT
   intro _ hJ
   try dsimp only at hJ
   try dsimp only
   refine G.condP rfl (fun h31 => ?_) (fun h31 => ?_)
   ·refine go [9,10,0,0,0,2,50,0] ?_
    refine G.op rfl (G.buildSlice (z := .agg #[.int .i64 0, .int .i64 0]) (sz := 2) (cs := prC (c, n)) rfl Tryz.underlying27 kr (by decide) (by decide) rfl kr ?_)
    intro b36
    refine G.op rfl (G.append (k := out.length) (j := 1) (cs := out.flatMap prC) (news := prC (c, n)) (b := b36) (off := 0) rfl Tryz.underlying27 Tryz.infoTp rfl rfl rfl selT (fun _ => rfl) (fun h => by cases h) rfl (blk_news (k := 2) selT rfl) (prC_one _) (by omega) (by omega) ?_)
    intro vm
    rw [tp_app]
    refine go [1,7,8,10] ?_
    refine G.op rfl (G.val rfl rfl ((pv_assign rfl).cast (v' := .bool (decide ((1 : Int) = 1))) rfl) ?_)
    refine G.nil ?_
    exact G.meet ((vm, 1, out ++ [(c, n)])) (by first | exact trivial | ((try dsimp only) <;> exact ⟨(if_pos (by assumption)).symm, by rw [List.length_append]; simp only [List.length_singleton]; omega⟩)) (.consE rfl veqT (.consE rfl veqT (.cons rfl (.cons rfl (.cons rfl (.cons rfl .nil)))))) subT
   refine G.skip ?_
   exact G.meet ((vo, lb, out)) (by first | exact trivial | ((try dsimp only) <;> exact ⟨(if_neg (by assumption)).symm, by omega⟩)) (.consE rfl veqT (.consE rfl veqT (.cons rfl (.cons rfl (.cons rfl (.cons rfl .nil)))))) subT
  intro st hJ
  obtain ⟨vo2, lb2, o2⟩ := st
  try dsimp only at hJ
  try dsimp only
  obtain ⟨h2q, h2l⟩ := hJ
  refine go [9,10,0,2,8,2,3,1,2,4,0] ?_
  refine G.op rfl (G.val rfl rfl (pv_ixSl (sz := 2) (k := i) Tryz.underlying27 kr rfl rfl hadz rfl (by omega)) ?_)
  refine go [2,3,0] ?_
  refine G.op rfl (G.val rfl rfl (pv_load (v := .int .i64 ts[i].1) Tryz.underlying3 rfl rfl (fun w hw => news_row prC_len (hnewz selT w hw) hlt 0 _ rfl)) ?_)
  refine go [0,2,14,7,8] ?_
  refine G.condP rfl (fun h47 => ?_) (fun h47 => ?_)
  ·refine go [10,0,0,2,8,2,3,1,2,4,0] ?_
   refine G.op rfl (G.val rfl rfl (pv_ixSl (sz := 2) (k := i) Tryz.underlying27 kr rfl rfl hadz rfl (by omega)) ?_)
   refine G.op rfl (G.val rfl rfl (pv_loadN (cs := prC ts[i]) Tryz.underlying95 rfl kr rfl (fun w hw => news_row prC_len (hnewz selT w hw) hlt)) ?_)
   refine G.op rfl (G.buildSlice (z := .agg #[.int .i64 0, .int .i64 0]) (sz := 2) (cs := prC ts[i]) rfl Tryz.underlying27 kr (by decide) (by decide) rfl kr ?_)
   intro b56
   refine G.op rfl (G.append (k := o2.length) (j := 1) (cs := o2.flatMap prC) (news := prC ts[i]) (b := b56) (off := 0) rfl Tryz.underlying27 Tryz.infoTp rfl rfl rfl selT (fun _ => rfl) (fun h => by cases h) rfl (blk_news (k := 2) selT rfl) (prC_one _) (by omega) (by omega) ?_)
   intro vn
   rw [tp_app]
   refine go [1,7,16,8,10,0,2,6,1,7] ?_
   exact G.next ((i + 1, (vn, lb2, o2 ++ [ts[i]]))) (by first | exact trivial | ((try dsimp only) <;> exact ⟨by omega, ⟨by rw [fold_take hlt, ← hq, step_yes h2q (by assumption)], by rw [List.length_append]; simp only [List.length_singleton]; omega⟩⟩)) (by (try dsimp only); omega) (.consE rfl veqT (.consE rfl veqT (.consE rfl veqT (.cons rfl (.cons rfl (.cons rfl .nil)))))) subT
  refine go [13,16,8,10,0,2,6,1,7] ?_
  exact G.next ((i + 1, (vo2, lb2, o2))) (by first | exact trivial | ((try dsimp only) <;> exact ⟨by omega, ⟨by rw [fold_take hlt, ← hq, step_no h2q (by assumption)], by omega⟩⟩)) (by (try dsimp only); omega) (.consE rfl veqT (.consE rfl veqT (.consE rfl veqT (.cons rfl (.cons rfl (.cons rfl .nil)))))) subT
 obtain rfl : i = ts.length := by omega
 rw [List.take_length] at hq
 refine go [18,14,14,19,8,9] ?_
 refine G.cutK (X := Value × (List (Int × Int))) (ts := [0]) (p := [own 95 2 vo _ _]) (fun st => st.2 = putT c n ts) (fun st => [(6, st.1)]) (fun st => [own 95 2 st.1 st.2.length (st.2.flatMap prC)]) (.cons rfl .nil) subT (.cons .nil) apT ?_ ?_
 ·refine go [9,10,0,2,15,7,8] ?_
  refine G.condP rfl (fun h59 => ?_) (fun h59 => ?_)
  ·refine go [10,0,0,0,2,50,0] ?_
   refine G.op rfl (G.buildSlice (z := .agg #[.int .i64 0, .int .i64 0]) (sz := 2) (cs := prC (c, n)) rfl Tryz.underlying27 kr (by decide) (by decide) rfl kr ?_)
   intro b64
   refine G.op rfl (G.append (k := out.length) (j := 1) (cs := out.flatMap prC) (news := prC (c, n)) (b := b64) (off := 0) rfl Tryz.underlying27 Tryz.infoTp rfl rfl rfl selT (fun _ => rfl) (fun h => by cases h) rfl (blk_news (k := 2) selT rfl) (prC_one _) (by omega) (by omega) ?_)
   intro vm
   rw [tp_app]
   refine go [1,7] ?_
   exact G.meet ((vm, out ++ [(c, n)])) (by first | exact trivial | ((try dsimp only) <;> exact (by unfold putT; rw [← hq]; exact (if_pos (by assumption)).symm))) (.consE rfl veqT (.cons rfl .nil)) subT
  refine G.skip ?_
  exact G.meet ((vo, out)) (by first | exact trivial | ((try dsimp only) <;> exact (by unfold putT; rw [← hq]; exact (if_neg (by assumption)).symm))) (.consE rfl veqT (.cons rfl .nil)) subT
 intro st hJ
 obtain ⟨vo3, o3⟩ := st
 try dsimp only at hJ
 try dsimp only
 subst hJ
 refine G.ownFact (v := vo3) selT (fun hvo3 _ => ?_)
 refine go [10,0,0,2,8,2,3,1,21,7] ?_
 exact G.doneXE (vo3) trT rfl rfl subT
abbrev RP := List (Int × Sp) × List (Int × Int)
def plR (L : List RS) : List (Int × Sp) := L.map fun x => (x.1, x.2.pl)
def ofP (c : Int) (l : List (Int × Sp)) : List (Int × Sp) := l.filter fun x => decide (x.1 = c)
theorem plR_len (L : List RS) : (plR L).length = L.length := List.length_map ..
theorem plR_of (c : Int) (L : List RS) : plR (ofR c L) = ofP c (plR L) := by
 unfold plR ofR ofP
 rw [List.filter_map]
 rfl
def takeR (R : RP) (c n k t : Int) (es : List En) : Int × RP :=
 if fitE c n k t es ≠ 0 then (fitE c n k t es, R) else if n ≤ topG R.2 c then (7, R) else if 64 ≤ ((ofP c R.1).length : Int) then (8, R) else (0, (R.1 ++ [(c, ⟨n, k, t, es⟩)], putT c n R.2))
theorem takeR_fit {R : RP} {c n k t : Int} {es : List En} (h : ¬ fitE c n k t es = 0) : takeR R c n k t es = (fitE c n k t es, R) := if_pos h
theorem takeR_there {R : RP} {c n k t : Int} {es : List En} (h : fitE c n k t es = 0) (h1 : n ≤ topG R.2 c) : takeR R c n k t es = (7, R) := (if_neg (not_not_intro h)).trans (if_pos h1)
theorem takeR_full {R : RP} {c n k t : Int} {es : List En} (h : fitE c n k t es = 0) (h1 : ¬ n ≤ topG R.2 c) (h2 : 64 ≤ ((ofP c R.1).length : Int)) : takeR R c n k t es = (8, R) := (if_neg (not_not_intro h)).trans ((if_neg h1).trans (if_pos h2))
theorem takeR_new {R : RP} {c n k t : Int} {es : List En} (h : fitE c n k t es = 0) (h1 : ¬ n ≤ topG R.2 c) (h2 : ¬ 64 ≤ ((ofP c R.1).length : Int)) : takeR R c n k t es = (0, (R.1 ++ [(c, ⟨n, k, t, es⟩)], putT c n R.2)) := (if_neg (not_not_intro h)).trans ((if_neg h1).trans (if_neg h2))
structure RZ where
 a : Value
 L : List RS
 b : Value
 ts : List (Int × Int)
def RZ.pl (z : RZ) : RP := (plR z.L, z.ts)
def stR (L : List RS) : List ST := L.map fun x => x.2
theorem stR_app (L : List RS) (x : RS) : stR L ++ [x.2] = stR (L ++ [x]) := by
 unfold stR
 rw [List.map_append]
 rfl
theorem stR_one {L : List RS} (h : ∀ s ∈ stR L, s.v.oneCell' = true) : ∀ x ∈ L, x.2.v.oneCell' = true := fun x hx => h _ (List.mem_map_of_mem hx)
def lsR (L : List RS) : List Ls := L.map fun x => (x.2.n, x.2.t, x.2.c)
theorem lsR_len (L : List RS) : (lsR L).length = L.length := List.length_map ..
theorem lsR_take {L : List RS} {i : Nat} (h : i < L.length) : lsR (L.take (i + 1)) = lsR (L.take i) ++ [(L[i].2.n, L[i].2.t, L[i].2.c)] := by
 unfold lsR
 rw [List.take_succ_eq_append_getElem h, List.map_append]
 rfl
def lsP (l : List (Int × Sp)) : List Ls := lsM (l.map fun x => x.2)
theorem lsP_eq (c : Int) (L : List RS) : lsR (ofR c L) = lsP (ofP c (plR L)) := by
 rw [← plR_of]
 unfold lsP lsM plR lsR
 rw [List.map_map, List.map_map]
 rfl
set_option maxRecDepth 20000 in
set_option maxHeartbeats 4000000 in
theorem rtake_tr {Ps : Nat → Prop} (Dr : Nat) (vL vT : Value) (L : List RS) (ts : List (Int × Int)) (c n k t : Int) (v : Value) (xs : List ET) (hl : L.length ≤ 100000) (htl : ts.length ≤ 100000) : Tr Tryz.prog 14 #[.pointer (some ⟨Dr, 0, none⟩), .int .i64 c, .int .i64 n, .int .i64 k, .int .i64 t, v] [slc rEV Ps v xs] [blk Dr 29 [vL, vT], own 82 5 vL L.length (L.flatMap rsC), own 95 2 vT ts.length (ts.flatMap prC), trees (stR L)]
 (TX (fun z : RZ => z.pl = (takeR (plR L, ts) c n k t (ens xs)).2) (fun _ => .int .i64 (takeR (plR L, ts) c n k t (ens xs)).1) (fun z => [blk Dr 29 [z.a, z.b], own 82 5 z.a z.L.length (z.L.flatMap rsC), own 95 2 z.b z.ts.length (z.ts.flatMap prC), trees (stR z.L)])) := by
 refine Tr.of (l := [(0, .pointer (some ⟨Dr, 0, none⟩)), (1, .int .i64 c), (2, .int .i64 n), (3, .int .i64 k), (4, .int .i64 t), (5, v)]) Tryz.func14 rfl (n := 56) rfl (.cons rfl (.cons rfl (.cons rfl (.cons rfl (.cons rfl (.cons rfl .nil)))))) (fun w0 hro => ?_)
 have hv := ro1 hro
 have hel' := ens_length xs
 refine go [9,10,1,7,8,9,10,0,0,0,0,0] ?_
 refine G.treesOne selT (fun hone0 => ?_)
 have hone := stR_one hone0
 refine G.op rfl (G.cR rfl rfl rfl rfl Tryz.func39 rfl rfl (may1 (.old hv)) (rsound_tr _ _ _ _ _ _) ?_)
 refine go [1,7,8,9,15,9,10,0,2,14,1,7,8] ?_
 refine G.condP rfl (fun h20 => ?_) (fun h20 => ?_)
 ·refine go [9,10,0,1,7,8,11,17,12] ?_
  rw [takeR_fit (by assumption)]
  exact G.doneX1 (⟨vL, L, vT, ts⟩) Y7 rfl rfl rfl subT
 have hf0 : fitE c n k t (ens xs) = 0 := Decidable.of_not_not (by assumption)
 obtain ⟨f1, f2, f3, f4, f5, f6⟩ := fitE_zero hf0
 refine go [9,10,0,0,0] ?_
 refine G.op rfl (G.cR rfl rfl rfl rfl Tryz.func30 rfl rfl (may2 (Sel.may selT) (may_tp selT)) (rgreat_tr (Pt := fun b => vT.ownBlock = some b) Dr vL vT ts c) ?_)
 refine go [2,11,1,7,8] ?_
 refine G.condP rfl (fun h24 => ?_) (fun h24 => ?_)
 ·refine go [9,10,1,7,8,11,17,12] ?_
  rw [takeR_there hf0 (by assumption)]
  exact G.doneX1 (⟨vL, L, vT, ts⟩) Y7 rfl rfl rfl subT
 refine go [9,10,0,0] ?_
 refine G.op rfl (G.cS rfl rfl rfl rfl Tryz.func40 rfl rfl subT (may2 (Sel.may selT) (may_rs selT)) (rof_tr (Ps := fun b => vL.ownBlock = some b) Dr vL vT L c hone (by omega)) apT ?_)
 intro x33 hJ
 try dsimp only at hJ
 try dsimp only
 refine G.ownOpen (v := x33) selT (fun oa oc hov _ _ => ?_)
 subst hov
 have hof : (ofR c L).length = (ofP c (plR L)).length := by rw [← plR_of, plR_len]
 refine go [2,5,2,12,1,7,8] ?_
 refine G.condP rfl (fun h30 => ?_) (fun h30 => ?_)
 ·refine go [9,10,1,7,8,11,17,12] ?_
  rw [takeR_full hf0 (by assumption) (by rw [← hof]; assumption)]
  exact G.doneX1 (⟨vL, L, vT, ts⟩) Y7 rfl rfl rfl subT
 refine go [13,16,8,9] ?_
 refine G.drawT (nn := 17) (p := [blk Dr 29 _, own 82 5 vL _ _]) (rem := 131071) [0, 0, 2, 4, 8, 0, 0, 0, 0, 0, 512, 1504, 2048, 5136, 16383, 32767, 49151] [0, 0, 2, 4, 8, 0, 0, 0, 0, 0, 512, 1504, 2048, 4112, 1, 16384, 40960] kr ⟨rfl, by kernel_rfl, by kernel_rfl⟩ subT kr (fun hT8 => ?_)
 refine go [22,0,131070,0,22,1,131068,0,22,2,131064,8,22,3,131056,3,0,22,5,131024,0,22,6,130960,0,22,7,130832,0,22,8,130576,0,22,9,130064,0] ?_
 refine G.twoT hT8 (i := 4) (j := 10) (rem' := 130048) (rem'' := 129040) kr kr kr ?_ ?_
 ·refine go [25,4,26,24,10,129024] ?_
  refine G.turnOp rfl rfl (G.cS rfl rfl rfl rfl Tryz.func41 rfl rfl subT (may1 (.old hv)) (rcopy_tr _ _ (by omega)) apT ?_)
  intro x46 hJ
  obtain ⟨v', l'⟩ := x46
  try dsimp only at hJ
  try dsimp only
  have hel : ens l' = ens xs := hJ
  refine G.ownFact (v := v') selT (fun hv'1 _ => ?_)
  refine go [26] ?_
  refine G.takeT hT8 (i := 11) (rem' := 126976) rfl rfl rfl kr (fun _ _ _ h => h) rfl (pv_buildSt (z := [.int .i64 0, .int .i64 0, .int .i64 0, .int .i64 0, .slice none 0 0]) (pl := [(0, 1), (1, 1), (2, 1), (3, 1), (4, 1)]) Tryz.underlying82 kr kr rfl flT) subT ?_
  refine go [24,12,122880] ?_
  refine G.turnOp rfl rfl (G.buildSlice (z := .agg #[.int .i64 0, .int .i64 0, .int .i64 0, .int .i64 0, .slice none 0 0]) (sz := 5) (cs := rsC (c, ⟨n, k, t, v', l'⟩)) rfl Tryz.underlying26 kr (by decide) (by decide) rfl kr ?_)
  intro b48
  refine go [26,24,13,114688] ?_
  refine G.turnOp rfl rfl (G.append (k := L.length) (j := 1) (cs := L.flatMap rsC) (news := rsC (c, ⟨n, k, t, v', l'⟩)) (b := b48) (off := 0) rfl Tryz.underlying26 Tryz.infoRS rfl rfl rfl selT (fun _ => rfl) (fun h => by cases h) rfl (blk_news (k := 5) selT rfl) (rsC_one hv'1) (by omega) (by omega) ?_)
  intro vn
  rw [rs_app]
  refine G.ownFact (v := vn) selT (fun hvn _ => ?_)
  refine go [26,22,14,98304,8,22,15,65536,3,0,24,16,0,30,26,27,8,9,10,0,0,0] ?_
  refine G.op rfl (G.cS rfl rfl rfl rfl Tryz.func42 rfl rfl subT may0 (rtop_tr Dr vn vT ts c n (by omega)) apT ?_)
  intro x55 hJ
  try dsimp only at hJ
  try dsimp only
  refine go [7,8,9,10,1,7,8,11] ?_
  rw [takeR_new hf0 (by assumption) (by rw [← hof]; assumption)]
  refine G.treesSnoc (ss := stR L) (s := ⟨n, k, t, v', l'⟩) selT selT selT ?_
  rw [show stR L ++ [(⟨n, k, t, v', l'⟩ : ST)] = stR (L ++ [(c, ⟨n, k, t, v', l'⟩)]) from stR_app L (c, ⟨n, k, t, v', l'⟩)]
  exact G.doneX1 (⟨vn, L ++ [(c, ⟨n, k, t, v', l'⟩)], x55, putT c n ts⟩) Y24 rfl rfl rfl subT
 refine G.turnOp rfl rfl (G.cS rfl rfl rfl rfl Tryz.func41 rfl rfl subT (may1 (.old hv)) (rcopy_tr _ _ (by omega)) apT ?_)
 intro x46 hJ
 obtain ⟨v', l'⟩ := x46
 try dsimp only at hJ
 try dsimp only
 have hel : ens l' = ens xs := hJ
 refine G.ownFact (v := v') selT (fun hv'1 _ => ?_)
 refine go [26] ?_
 refine G.takeT hT8 (i := 11) (rem' := 126992) rfl rfl rfl kr (fun _ _ _ h => h) rfl (pv_buildSt (z := [.int .i64 0, .int .i64 0, .int .i64 0, .int .i64 0, .slice none 0 0]) (pl := [(0, 1), (1, 1), (2, 1), (3, 1), (4, 1)]) Tryz.underlying82 kr kr rfl flT) subT ?_
 refine G.twoT hT8 (i := 4) (j := 12) (rem' := 126976) (rem'' := 122896) kr kr kr ?_ ?_
 ·refine go [25,4,26,24,12,122880] ?_
  refine G.turnOp rfl rfl (G.buildSlice (z := .agg #[.int .i64 0, .int .i64 0, .int .i64 0, .int .i64 0, .slice none 0 0]) (sz := 5) (cs := rsC (c, ⟨n, k, t, v', l'⟩)) rfl Tryz.underlying26 kr (by decide) (by decide) rfl kr ?_)
  intro b48
  refine go [26,24,13,114688] ?_
  refine G.turnOp rfl rfl (G.append (k := L.length) (j := 1) (cs := L.flatMap rsC) (news := rsC (c, ⟨n, k, t, v', l'⟩)) (b := b48) (off := 0) rfl Tryz.underlying26 Tryz.infoRS rfl rfl rfl selT (fun _ => rfl) (fun h => by cases h) rfl (blk_news (k := 5) selT rfl) (rsC_one hv'1) (by omega) (by omega) ?_)
  intro vn
  rw [rs_app]
  refine G.ownFact (v := vn) selT (fun hvn _ => ?_)
  refine go [26,22,14,98304,8,22,15,65536,3,0,24,16,0,30,26,27,8,9,10,0,0,0] ?_
  refine G.op rfl (G.cS rfl rfl rfl rfl Tryz.func42 rfl rfl subT may0 (rtop_tr Dr vn vT ts c n (by omega)) apT ?_)
  intro x55 hJ
  try dsimp only at hJ
  try dsimp only
  refine go [7,8,9,10,1,7,8,11] ?_
  rw [takeR_new hf0 (by assumption) (by rw [← hof]; assumption)]
  refine G.treesSnoc (ss := stR L) (s := ⟨n, k, t, v', l'⟩) selT selT selT ?_
  rw [show stR L ++ [(⟨n, k, t, v', l'⟩ : ST)] = stR (L ++ [(c, ⟨n, k, t, v', l'⟩)]) from stR_app L (c, ⟨n, k, t, v', l'⟩)]
  exact G.doneX1 (⟨vn, L ++ [(c, ⟨n, k, t, v', l'⟩)], x55, putT c n ts⟩) Y24 rfl rfl rfl subT
 refine G.turnOp rfl rfl (G.buildSlice (z := .agg #[.int .i64 0, .int .i64 0, .int .i64 0, .int .i64 0, .slice none 0 0]) (sz := 5) (cs := rsC (c, ⟨n, k, t, v', l'⟩)) rfl Tryz.underlying26 kr (by decide) (by decide) rfl kr ?_)
 intro b48
 refine go [26,24,4,122880,25,4,26,24,13,114688] ?_
 refine G.turnOp rfl rfl (G.append (k := L.length) (j := 1) (cs := L.flatMap rsC) (news := rsC (c, ⟨n, k, t, v', l'⟩)) (b := b48) (off := 0) rfl Tryz.underlying26 Tryz.infoRS rfl rfl rfl selT (fun _ => rfl) (fun h => by cases h) rfl (blk_news (k := 5) selT rfl) (rsC_one hv'1) (by omega) (by omega) ?_)
 intro vn
 rw [rs_app]
 refine G.ownFact (v := vn) selT (fun hvn _ => ?_)
 refine go [26,22,14,98304,8,22,15,65536,3,0,24,16,0,30,26,27,8,9,10,0,0,0] ?_
 refine G.op rfl (G.cS rfl rfl rfl rfl Tryz.func42 rfl rfl subT may0 (rtop_tr Dr vn vT ts c n (by omega)) apT ?_)
 intro x55 hJ
 try dsimp only at hJ
 try dsimp only
 refine go [7,8,9,10,1,7,8,11] ?_
 rw [takeR_new hf0 (by assumption) (by rw [← hof]; assumption)]
 refine G.treesSnoc (ss := stR L) (s := ⟨n, k, t, v', l'⟩) selT selT selT ?_
 rw [show stR L ++ [(⟨n, k, t, v', l'⟩ : ST)] = stR (L ++ [(c, ⟨n, k, t, v', l'⟩)]) from stR_app L (c, ⟨n, k, t, v', l'⟩)]
 exact G.doneX1 (⟨vn, L ++ [(c, ⟨n, k, t, v', l'⟩)], x55, putT c n ts⟩) Y24 rfl rfl rfl subT
set_option maxRecDepth 20000 in
set_option maxHeartbeats 4000000 in
theorem rlist_tr {Ps : Nat → Prop} (Dr : Nat) (vL vT : Value) (L : List RS) (c : Int) (hone : ∀ x ∈ L, x.2.v.oneCell' = true) (hl : L.length ≤ 100000) : Tr Tryz.prog 28 #[.pointer (some ⟨Dr, 0, none⟩), .int .i64 c] [blk Dr 29 [vL, vT], slc rRS Ps vL L] []
 (TX (fun _ : Value => True) (fun x => x) (fun x => [own 66 4 x (lsP (ofP c (plR L))).length ((lsP (ofP c (plR L))).flatMap liC)])) := by
 refine Tr.of (l := [(0, .pointer (some ⟨Dr, 0, none⟩)), (1, .int .i64 c)]) Tryz.func28 rfl (n := 37) rfl (.cons rfl (.cons rfl .nil)) (fun w0 hro => ?_)
 obtain ⟨hbr, hv0⟩ := ro2 hro
 refine go [9,10,1,7,8,9,10,1,7,8,9,10,0,0] ?_
 refine G.op rfl (G.cS rfl rfl rfl rfl Tryz.func40 rfl rfl subT (may2 (.old hbr) (.old hv0)) (rof_tr (Ps := Ps) Dr vL vT L c hone (by omega)) apT ?_)
 intro x10 hJ
 try dsimp only at hJ
 try dsimp only
 have hQl := ofR_le c L
 rw [← lsP_eq]
 obtain ⟨Q, hQ⟩ : ∃ Q, ofR c L = Q := ⟨_, rfl⟩
 rw [hQ] at hQl ⊢
 refine G.ownNews (v := x10) selT (fun za zc zk hzv hkz hmz hadz hnilz hnewz => ?_)
 subst hzv
 refine go [1,7,8,9,9,10,1,7,8,15] ?_
 refine G.ownNil 66 4 ?_
 refine G.loopK (X := Nat × Value) (ts := [4, 6]) (fun st => st.1 ≤ Q.length) (fun st => [(7, .int .i64 (st.1 : Int)), (5, st.2)]) (fun st => [own 66 4 st.2 (lsR (Q.take st.1)).length ((lsR (Q.take st.1)).flatMap liC)]) (fun st => Q.length - st.1) (x0 := (0, .slice none 0 0)) (.cons rfl (.cons rfl .nil)) subT (.cons (.cons .nil)) apT Y9 (.consE rfl veqT (.consE rfl veqT .nil)) (fun st hJ => ?_)
 obtain ⟨i, vo⟩ := st
 try dsimp only at hJ
 try dsimp only
 have hki := hJ
 have hol := lsR_len (Q.take i)
 have hol2 : (Q.take i).length ≤ i := List.length_take_le _ _
 refine go [9,9,10,0,0,2,5,2,9,7,8] ?_
 refine G.condP rfl (fun h14 => ?_) (fun h14 => ?_)
 ·have hlt : i < Q.length := by omega
  refine go [13,8,9,15] ?_
  refine G.drawT (nn := 20) (p := [own 66 4 vo _ _]) (rem := 1048575) [0, 0, 0, 6, 8, 16, 0, 0, 192, 256, 512, 0, 0, 6144, 8192, 16384, 33824, 65536, 131073, 524287] [0, 0, 0, 6, 8, 16, 0, 0, 192, 256, 512, 0, 0, 6144, 8192, 16384, 33824, 65536, 131073, 262145] kr ⟨rfl, by kernel_rfl, by kernel_rfl⟩ subT kr (fun hT6 => ?_)
  refine go [22,0,1048574,0,22,1,1048572,0,22,2,1048568,0] ?_
  refine G.takeT hT6 (i := 3) (rem' := 1048560) rfl rfl rfl kr (fun _ _ _ h => h) rfl (pv_ixSl (sz := 5) (k := i) Tryz.underlying26 kr rfl rfl hadz rfl (by omega)) subT ?_
  refine go [22,4,1048544,3,1,22,6,1048480,0,22,7,1048352,0] ?_
  refine G.takeT hT6 (i := 8) (rem' := 1048096) rfl rfl rfl kr (fun _ _ _ h => h) rfl (pv_ixSl (sz := 5) (k := i) Tryz.underlying26 kr rfl rfl hadz rfl (by omega)) subT ?_
  refine go [22,9,1047584,3,3,22,11,1045536,0,22,12,1041440,0] ?_
  refine G.takeT hT6 (i := 13) (rem' := 1033248) rfl rfl rfl kr (fun _ _ _ h => h) rfl (pv_ixSl (sz := 5) (k := i) Tryz.underlying26 kr rfl rfl hadz rfl (by omega)) subT ?_
  refine go [22,14,1016864,3,2] ?_
  refine G.takeT hT6 (i := 5) (rem' := 1016832) rfl rfl rfl kr (fun _ _ _ h => h) rfl (pv_load (v := .int .i64 Q[i].2.n) Tryz.underlying3 rfl rfl (fun w hw => news_row rsC_len (hnewz selT w hw) hlt 1 _ rfl)) subT ?_
  refine G.takeT hT6 (i := 10) (rem' := 1015808) rfl rfl rfl kr (fun _ _ _ h => h) rfl (pv_load (v := .int .i64 Q[i].2.t) Tryz.underlying3 rfl rfl (fun w hw => news_row rsC_len (hnewz selT w hw) hlt 3 _ rfl)) subT ?_
  refine go [24,15,983040] ?_
  refine G.turnOp rfl rfl (G.val rfl rfl (pv_load (v := .int .i64 Q[i].2.c) Tryz.underlying3 rfl rfl (fun w hw => news_row rsC_len (hnewz selT w hw) hlt 2 _ rfl)) ?_)
  refine go [26,22,16,917504,50,2,24,17,786432] ?_
  refine G.turnOp rfl rfl (G.buildSlice (z := .agg #[.int .i64 0, .int .i64 0, .int .i64 0, .bool false]) (sz := 4) (cs := liC (Q[i].2.n, Q[i].2.t, Q[i].2.c)) rfl Tryz.underlying60 kr (by decide) (by decide) rfl kr ?_)
  intro b34
  refine go [26,24,18,524288] ?_
  refine G.turnOp rfl rfl (G.append (k := (lsR (Q.take i)).length) (j := 1) (cs := (lsR (Q.take i)).flatMap liC) (news := liC (Q[i].2.n, Q[i].2.t, Q[i].2.c)) (b := b34) (off := 0) rfl Tryz.underlying60 Tryz.infoLi rfl rfl rfl selT (fun _ => rfl) (fun h => by cases h) rfl (blk_news (k := 4) selT rfl) (liC_one _) (by omega) (by omega) ?_)
  intro vn
  rw [ls_app, ← lsR_take hlt]
  refine go [26,22,19,0,1,27,16,8,10,0,2,6,1,7] ?_
  exact G.next ((i + 1, vn)) Y6 (by (try dsimp only); omega) (.consE rfl veqT (.consE rfl veqT (.cons rfl (.cons rfl .nil)))) subT
 obtain rfl : i = Q.length := by omega
 rw [List.take_length]
 refine go [18,14,14,19,8,9,10,0,1,7,8,11] ?_
 exact G.doneX1 (vo) trT rfl rfl rfl subT
def getR (l : List (Int × Sp)) (c n : Int) : List En × Int := match (ofP c l).find? fun x => decide (x.2.n = n) with
 | some x => (x.2.l, 0)
 | none => ([], 6)
theorem plR_get {L : List RS} {i : Nat} (h : i < L.length) : (plR L)[i]'(by rw [plR_len]; exact h) = (L[i].1, L[i].2.pl) := List.getElem_map ..
theorem getR_no {L Q : List RS} {c n : Int} (hQ : ofR c L = Q) (h : ∀ q (hq : q < Q.length), ¬ Q[q].2.n = n) : getR (plR L) c n = ([], 6) := by
 have e : (ofP c (plR L)).find? (fun x => decide (x.2.n = n)) = none := by
  rw [← plR_of, hQ]
  refine List.find?_eq_none.2 fun s hs => ?_
  obtain ⟨t, ht, rfl⟩ := List.mem_map.1 hs
  obtain ⟨q, hq, rfl⟩ := List.getElem_of_mem ht
  exact fun e => h q hq (of_decide_eq_true e)
 unfold getR
 rw [e]
theorem getR_at {L Q : List RS} {c n : Int} {i : Nat} (hQ : ofR c L = Q) (hi : i < Q.length) (h : ∀ q (hq : q < Q.length), q < i → ¬ Q[q].2.n = n) (he : Q[i].2.n = n) : getR (plR L) c n = (ens Q[i].2.l, 0) := by
 have e : (ofP c (plR L)).find? (fun x => decide (x.2.n = n)) = some (Q[i].1, Q[i].2.pl) := by
  rw [← plR_of, hQ]
  refine List.find?_eq_some_iff_getElem.2 ⟨decide_eq_true he, i, by rw [plR_len]; exact hi, plR_get hi, fun j hj => ?_⟩
  have h1 : ¬ Q[j].2.n = n := h j (by omega) hj
  rw [plR_get (by omega)]
  exact by rw [show decide ((Q[j].2.pl).n = n) = false from decide_eq_false h1]; rfl
 unfold getR
 rw [e]
 rfl
theorem ofR_mem {c : Int} {L Q : List RS} (hQ : ofR c L = Q) {x : RS} (h : x ∈ Q) : x ∈ L := by
 subst hQ
 exact (List.mem_filter.1 h).1
theorem stR_at {L : List RS} {x : RS} (h : x ∈ L) : ∃ k, ∃ hk : k < (stR L).length, (stR L)[k] = x.2 := List.mem_iff_getElem.1 (List.mem_map_of_mem h : x.2 ∈ stR L)
section
variable {n : Nat} {w0 : World} {S : Nat → Prop} {l : Fr} {m : List Ck} {K : Act → World → Prop}
theorem flat_sub {ss tt : List ST} (hsub : tt.Sublist ss) : (tt.flatMap fun s => [ownT 69 s.v s.l, datC 5 s.l]).Sublist (ss.flatMap fun s => [ownT 69 s.v s.l, datC 5 s.l]) := by
 induction hsub with
 | slnil => exact List.Sublist.refl _
 | cons a _ ih =>
  rw [List.flatMap_cons]
  exact ih.trans (List.sublist_append_right _ _)
 | cons_cons a _ ih =>
  rw [List.flatMap_cons, List.flatMap_cons]
  exact (List.Sublist.refl _).append ih
theorem G.treesSub {ss tt : List ST} {r : List Ck} (hsub : tt.Sublist ss) (h1 : Sel m (trees ss) r) (h : G n w0 S l (trees tt :: r) K) : G n w0 S l m K :=
 G.mem (fun w hw => by
  have h2 : Hp w0 S w ((ss.flatMap fun s => [ownT 69 s.v s.l, datC 5 s.l]) ++ r) := Hp.unstar (hw.sel h1)
  exact Hp.star (h2.sub ((flat_sub hsub).append (List.Sublist.refl _)))) h
end
def cutQ (c n : Int) (l : List (Int × Sp)) : List (Int × Sp) := l.filter fun x => decide (¬ x.1 = c ∨ ¬ x.2.n = n)
theorem plR_cut (c n : Int) (L : List RS) : plR (cutR c n L) = cutQ c n (plR L) := by
 unfold plR cutR cutQ
 rw [List.filter_map]
 rfl
theorem stR_cut (c n : Int) (L : List RS) : (stR (cutR c n L)).Sublist (stR L) := List.filter_sublist.map _
def forR (R : RP) (c n : Int) : Int × RP := if n < 1 ∨ topG R.2 c < n then (6, R) else (0, (cutQ c n R.1, R.2))
theorem forR_no {R : RP} {c n : Int} (h : n < 1 ∨ topG R.2 c < n) : forR R c n = (6, R) := if_pos h
theorem forR_yes {R : RP} {c n : Int} (h : ¬ (n < 1 ∨ topG R.2 c < n)) : forR R c n = (0, (cutQ c n R.1, R.2)) := if_neg h
set_option maxRecDepth 20000 in
set_option maxHeartbeats 4000000 in
theorem rget_tr (Dr : Nat) (vL vT : Value) (L : List RS) (ts : List (Int × Int)) (c n : Int) (hl : L.length ≤ 100000) (htr : ∀ x ∈ L, x.2.l.length ≤ 1000 ∧ ∀ e ∈ x.2.l, EnOk e.1) : Tr Tryz.prog 25 #[.pointer (some ⟨Dr, 0, none⟩), .int .i64 c, .int .i64 n] [] [blk Dr 29 [vL, vT], own 82 5 vL L.length (L.flatMap rsC), own 95 2 vT ts.length (ts.flatMap prC), trees (stR L)]
 (TX (fun z : Value × List ET => ens z.2 = (getR (plR L) c n).1) (fun z => .tuple #[z.1, .int .i64 (getR (plR L) c n).2]) (fun z => [ownT 69 z.1 z.2, datC 5 z.2, blk Dr 29 [vL, vT], own 82 5 vL L.length (L.flatMap rsC), own 95 2 vT ts.length (ts.flatMap prC), trees (stR L)])) := by
 refine Tr.of (l := [(0, .pointer (some ⟨Dr, 0, none⟩)), (1, .int .i64 c), (2, .int .i64 n)]) Tryz.func25 rfl (n := 32) rfl (.cons rfl (.cons rfl (.cons rfl .nil))) (fun w0 hro => ?_)
 refine go [9,10,1,1,7,8,9,10,0,0] ?_
 refine G.treesOne selT (fun hone0 => ?_)
 have hone := stR_one hone0
 refine G.op rfl (G.cS rfl rfl rfl rfl Tryz.func40 rfl rfl subT (may2 (Sel.may selT) (may_rs selT)) (rof_tr (Ps := fun b => vL.ownBlock = some b) Dr vL vT L c hone (by omega)) apT ?_)
 intro x12 hJ
 try dsimp only at hJ
 try dsimp only
 have hQl := ofR_le c L
 obtain ⟨Q, hQ⟩ : ∃ Q, ofR c L = Q := ⟨_, rfl⟩
 rw [hQ] at hQl ⊢
 refine G.ownNews (v := x12) selT (fun za zc zk hzv hkz hmz hadz hnilz hnewz => ?_)
 subst hzv
 refine go [1,7,8,9,9,10,1,7,8,15] ?_
 refine G.loopK (X := Nat) (ts := [2, 8]) (fun i => i ≤ Q.length ∧ (∀ q (hq : q < Q.length), q < i → ¬ Q[q].2.n = n)) (fun i => [(9, .int .i64 (i : Int))]) (fun i => []) (fun i => Q.length - i) (x0 := 0) (.cons rfl (.cons rfl .nil)) subT (.cons .nil) apT Y13 (.consE rfl veqT .nil) (fun i hJ => ?_)
 try dsimp only at hJ
 try dsimp only
 obtain ⟨hki, hJ⟩ := hJ
 have hJ0 := hJ
 refine go [9,9,10,0,0,2,5,2,9,7,8] ?_
 refine G.condP rfl (fun h16 => ?_) (fun h16 => ?_)
 ·have hlt : i < Q.length := by omega
  refine go [13,8,9,15,9,10,0,0] ?_
  refine G.op rfl (G.val rfl rfl (pv_ixSl (sz := 5) (k := i) Tryz.underlying26 kr rfl rfl hadz rfl (by omega)) ?_)
  refine go [2,3,1] ?_
  refine G.op rfl (G.val rfl rfl (pv_load (v := (.int .i64 Q[i].2.n)) Tryz.underlying3 rfl rfl (fun w hw => news_row rsC_len (hnewz selT w hw) hlt 1 _ rfl)) ?_)
  refine go [0,2,13,7,8] ?_
  refine G.condP rfl (fun h25 => ?_) (fun h25 => ?_)
  ·have hg : Q[i].2.n = n := by assumption
   have hyes := getR_at hQ hlt hJ0 hg
   have hmL := ofR_mem hQ (List.getElem_mem hlt)
   obtain ⟨ht1, ht2⟩ := htr _ hmL
   obtain ⟨k, hk, hke⟩ := stR_at hmL
   refine go [9,10,0,0] ?_
   refine G.op rfl (G.val rfl rfl (pv_ixSl (sz := 5) (k := i) Tryz.underlying26 kr rfl rfl hadz rfl (by omega)) ?_)
   refine go [2,3,4] ?_
   refine G.op rfl (G.val rfl rfl (pv_load (v := Q[i].2.v) Tryz.underlying32 rfl rfl (fun w hw => news_row rsC_len (hnewz selT w hw) hlt 4 _ rfl)) ?_)
   refine G.treeOut hk selT ?_
   rw [hke]
   refine G.op rfl (G.cS rfl rfl rfl rfl Tryz.func41 rfl rfl subT (may1 (may_tree selT selT ht2)) (rcopy_tr _ Q[i].2.l ht1) apT ?_)
   intro x31 hJ
   obtain ⟨v', ys⟩ := x31
   try dsimp only at hJ
   try dsimp only
   have hys : ens ys = ens Q[i].2.l := hJ
   refine go [1,1,7,8,11,17,12,12,17,12] ?_
   rw [← hke]
   refine G.treeIn hk selT selT selT ?_
   exact G.doneX2 ((v', ys)) (by first | exact trivial | ((try dsimp only) <;> exact (by rw [hyes]; exact hys))) rfl rfl rfl (by rw [hyes]) subT
  have hng : ¬ Q[i].2.n = n := by assumption
  refine go [13,16,8,10,0,2,6,1,7] ?_
  exact G.next (i + 1) Y15 (by (try dsimp only); omega) (.consE rfl veqT (.cons rfl (.cons rfl .nil))) subT
 have hno := getR_no hQ (n := n) (fun q hq => hJ q hq (by omega))
 refine go [18,14,14,19,8,9,10,1,1,7,8,11] ?_
 refine G.datNil 5 ?_
 refine G.ownNil 69 5 ?_
 exact G.doneX2 ((.slice none 0 0, [])) (by first | exact trivial | ((try dsimp only) <;> exact (by rw [hno]; rfl))) rfl rfl rfl (by rw [hno]) subT
set_option maxRecDepth 20000 in
set_option maxHeartbeats 4000000 in
theorem rforget_tr (Dr : Nat) (vL vT : Value) (L : List RS) (ts : List (Int × Int)) (c n : Int) (hl : L.length ≤ 100000) : Tr Tryz.prog 20 #[.pointer (some ⟨Dr, 0, none⟩), .int .i64 c, .int .i64 n] [] [blk Dr 29 [vL, vT], own 82 5 vL L.length (L.flatMap rsC), own 95 2 vT ts.length (ts.flatMap prC), trees (stR L)]
 (TX (fun z : RZ => z.pl = (forR (plR L, ts) c n).2) (fun _ => .int .i64 (forR (plR L, ts) c n).1) (fun z => [blk Dr 29 [z.a, z.b], own 82 5 z.a z.L.length (z.L.flatMap rsC), own 95 2 z.b z.ts.length (z.ts.flatMap prC), trees (stR z.L)])) := by
 refine Tr.of (l := [(0, .pointer (some ⟨Dr, 0, none⟩)), (1, .int .i64 c), (2, .int .i64 n)]) Tryz.func20 rfl (n := 20) rfl (.cons rfl (.cons rfl (.cons rfl .nil))) (fun w0 hro => ?_)
 refine go [9,10,1,7,8,9,9] ?_
 refine G.cutK (X := Unit) (ts := [0, 1, 2, 6]) (p := []) (fun _ => True) (fun _ => [(15, .bool (decide (n < 1 ∨ topG ts c < n)))]) (fun _ => []) (.cons rfl (.cons rfl (.cons rfl (.cons rfl .nil)))) subT (.cons .nil) apT ?_ ?_
 ·refine go [10,0] ?_
  refine G.treesOne selT (fun hone0 => ?_)
  have hone := stR_one hone0
  refine go [2,9,0] ?_
  refine G.partP (t := 9) rfl (fun h9 => ?_) (fun h9 => ?_)
  ·refine go [4,4,4,4,4,2,2,7] ?_
   exact G.meet (()) trT (.consE rfl Y5 (.cons rfl (.cons rfl (.cons rfl (.cons rfl .nil))))) subT
  refine go [3,0,3,0,3,0] ?_
  refine G.want rfl rfl rfl (G.cR rfl rfl rfl rfl Tryz.func30 rfl rfl (may2 (Sel.may selT) (may_tp selT)) (rgreat_tr (Pt := fun b => vT.ownBlock = some b) Dr vL vT ts c) ?_)
  refine go [3,10,2,2,7] ?_
  exact G.meet (()) trT (.consE rfl Y5 (.cons rfl (.cons rfl (.cons rfl (.cons rfl .nil))))) subT
 intro _ hJ
 try dsimp only at hJ
 try dsimp only
 refine G.treesOne selT (fun hone0 => ?_)
 have hone := stR_one hone0
 refine G.condP rfl (fun h15 => ?_) (fun h15 => ?_)
 ·refine go [9,10,1,7,8,11,12] ?_
  rw [forR_no (by assumption)]
  exact G.doneX1 (⟨vL, L, vT, ts⟩) Y7 rfl rfl rfl subT
 refine go [13,8,9,10,0,0,0] ?_
 refine G.op rfl (G.cS rfl rfl rfl rfl Tryz.func47 rfl rfl subT may0 (rwithout_tr Dr vL vT L c n hone (by omega)) apT ?_)
 intro x19 hJ
 try dsimp only at hJ
 try dsimp only
 refine go [7,8,9,10,1,7,8,11] ?_
 rw [forR_yes (by assumption)]
 refine G.treesSub (stR_cut c n L) selT ?_
 exact G.doneX1 (⟨x19, cutR c n L, vT, ts⟩) (by first | exact trivial | ((try dsimp only) <;> exact (by show (plR (cutR c n L), ts) = _; rw [plR_cut]))) rfl rfl rfl subT
end Go.Proofs.YtakeannapfaodaaGreat
set_option linter.unusedVariables false
set_option linter.unusedSimpArgs false
set_option maxRecDepth 100000
namespace Go.Proofs.YtakeannapfaodaaGreat
open Go.RowKit Go.Maps
set_option maxHeartbeats 1000000 in
theorem toldR_own (B : Nat) (v : Value) (l : List Snap) (last span spans : Int) (stay : Bool) (w : World) (hB : B ≤ w.heap.size) (hv : SlPair B w v l) (hl : l.length ≤ 1000) :
 Calls Tryz.prog 64 #[v, .agg #[.int .i64 last, .int .i64 span, .int .i64 spans], .bool stay] w (ToldQ l last span spans stay w) := by
 have HV := Lib.hid hv
 have HI := Lib.hid (SlPair.i64 hv)
 obtain ⟨i0, hi, hj0, hj1, hj2⟩ := info_parts Tryz.infoInt
 obtain ⟨W1, hW1⟩ : ∃ W1, W1 = w.alloc (.cells #[.int .i64 last, .int .i64 span, .int .i64 spans] 34) := ⟨_, rfl⟩
 have hS1 : W1.heap.size = w.heap.size + 1 := by rw [hW1]; simp
 have b0 : W1.cell? ⟨w.heap.size, 0, none⟩ = some (.int .i64 last) := by rw [hW1]; go_simp
 have b1 : W1.cell? ⟨w.heap.size, 1, none⟩ = some (.int .i64 span) := by rw [hW1]; go_simp
 have b2 : W1.cell? ⟨w.heap.size, 2, none⟩ = some (.int .i64 spans) := by rw [hW1]; go_simp
 have HW1 := Lib.hid hW1
 have hbw : Below w.heap.size w W1 := by rw [hW1]; exact (Below.refl _ _).alloc (Nat.le_refl _) _
 have HBW := Lib.hid hbw
 clear hbw
 go_enter Tryz.func64, Tryz.ntmps64
 go_wp2_with fail
 rw [← hW1]
 clear hW1
 refine (checkR_any _ _ _ _).mono ?_
 rintro e w1 ⟨rfl, hb1⟩
 have hz1 := hb1.size
 have b0 := (hb1.cell (p := ⟨w.heap.size, 0, none⟩) (by show w.heap.size < _; omega)).trans b0
 have b1 := (hb1.cell (p := ⟨w.heap.size, 1, none⟩) (by show w.heap.size < _; omega)).trans b1
 have b2 := (hb1.cell (p := ⟨w.heap.size, 2, none⟩) (by show w.heap.size < _; omega)).trans b2
 have hb1' : Below (w.heap.size + 1) W1 w1 := hb1.mono (by omega)
 have HB1 := Lib.hid hb1'
 clear hb1 hb1'
 by_cases hck : polM last span spans = 0
 ·have hck' : (polM last span spans != 0) = false := by simpa using hck
  have HCK := Lib.hid hck; clear hck
  go_wp2_with fail
  refine (soundR_any B v l _ (by omega) (SlPair.below HV.out ((HBW.out.trans (HB1.out.mono (by omega))).mono hB) (Nat.le_refl _))).mono ?_
  rintro e w2 ⟨rfl, hb2⟩
  have hz2 := hb2.size
  have b0 := (hb2.cell (p := ⟨w.heap.size, 0, none⟩) (by show w.heap.size < _; omega)).trans b0
  have b1 := (hb2.cell (p := ⟨w.heap.size, 1, none⟩) (by show w.heap.size < _; omega)).trans b1
  have b2 := (hb2.cell (p := ⟨w.heap.size, 2, none⟩) (by show w.heap.size < _; omega)).trans b2
  have hb2' : Below (w.heap.size + 1) W1 w2 := HB1.out.trans (hb2.mono (by omega))
  have HB2 := Lib.hid hb2'
  clear hb2 hb2'
  cases hso : soundM l
  ·have HSO := Lib.hid hso; clear hso
   go_wp2
   go_ret2
   refine ⟨.slice none 0 0, ret2 rfl (int_eq ?_), ?_, HBW.out.trans (HB2.out.mono (by omega))⟩
   ·simp [toldE, HCK.out, HSO.out]
   have : toldM l last span spans stay = [] := by simp [toldM, HSO.out]
   rw [this]; exact World.ownsRow_nil _ _ _ _
  have HSO := Lib.hid hso; clear hso
  go_wp2_with fail
  obtain ⟨a, b, off, cap, rfl, hcap, hm, -, ha, hc⟩ := HV.out
  have H := Lib.hid hc; clear hc
  have HA := Lib.hid ha; clear ha
  unfold maxLen at hm
  go_loopw [8, 9] (fun o i wr => ∃ k : Nat, k ≤ l.length ∧ i = .int .i64 k ∧ wr.ownsRow (w.heap.size + 1) 3 1 o (toldTo l last span spans stay k).length ((toldTo l last span spans stay k).flatMap encInt) ∧ Below (w.heap.size + 1) w2 wr) (fun _ i _ => l.length - (intOf i).toNat)
  case atStart => exact ⟨0, Nat.zero_le _, rfl, World.ownsRow_nil _ _ _ _, Below.refl _ _⟩
  case round =>
   obtain ⟨k, hk, rfl, hown, hb⟩ := hrel
   by_cases hlt : k < l.length
   ·have e := (HA.out (by omega)).1
    have hbB := (HA.out (by omega)).2
    subst e
    have hzr := hb.size
    have hbr : Below w.heap.size w wr := HBW.out.trans ((HB2.out.mono (by omega)).trans (hb.mono (by omega)))
    have HBR := Lib.hid hbr
    have b0 := (hb.cell (p := ⟨w.heap.size, 0, none⟩) (by show w.heap.size < _; omega)).trans b0
    have b1 := (hb.cell (p := ⟨w.heap.size, 1, none⟩) (by show w.heap.size < _; omega)).trans b1
    have b2 := (hb.cell (p := ⟨w.heap.size, 2, none⟩) (by show w.heap.size < _; omega)).trans b2
    have HB := Lib.hid hb
    clear hb hbr
    have HO := Lib.hid hown
    clear hown
    go_wp2_with fail
    refine (staysR_any B _ l last span spans k _ (by omega) (SlPair.below HV.out (HBR.out.mono hB) (Nat.le_refl _)) hl HSO.out (polM_bounds HCK.out).2.1.1 hlt).mono ?_
    rintro e w3 ⟨rfl, hb3⟩
    have hz3 := hb3.size
    have c1 := ((HBR.out.trans (hb3.mono (by omega))).cell Y21).trans (H.out k hlt).1.1
    have hown := owns_below HO.out hb3
    have HB3 := Lib.hid (HB.out.trans (hb3.mono (by omega)))
    clear hb3
    have HT := Lib.hid (toldTo_succ l last span spans stay k hlt)
    have hln := toldTo_le l last span spans stay k
    cases hst : (staysM l last span spans k == stay)
    ·have HST := Lib.hid hst
     go_wp2_with fail
     go_roundw
     case rel => exact ⟨k + 1, by omega, by go_num, by rw [HT.out, HST.out]; simpa using hown, HB3.out⟩
     case measure => simp [intOf]; omega
    have HST := Lib.hid hst
    go_wp2_with (at_builtin; refine wpList_append_own _ rfl (.tmp 28) (.tmp 34) 53 rfl (w.heap.size + 1) 3 i0 (.int .i64 0) 1 8 Tryz.underlying53 hi hj0 hj1 hj2 rfl (by decide) _ _ _ rfl (hown.alloc _) ⟨w3.heap.size, 0, none⟩ 1 1 [.int .i64 l[k].1] rfl rfl (cell_one_new _ _ _) (oneCell_int _ _) (by unfold maxLen; omega) (by omega) (by simp; omega) ?_)
    intro v' w4 hown' hgrow _
    have hb4 := below_append HB3.out hown hgrow (Nat.le_refl _) (by omega)
    clear hown hgrow
    go_wp2
    go_roundw
    case rel => exact ⟨k + 1, by omega, by go_num, by rw [HT.out, HST.out]; simpa [encInt] using hown', hb4⟩
    case measure => simp [intOf]; omega
   go_wp2
   go_ret2
   have hk' : k = l.length := by omega
   subst hk'
   refine ⟨_, ret2 rfl (int_eq ?_), ?_, HBW.out.trans ((HB2.out.mono (by omega)).trans (hb.mono (by omega)))⟩
   ·simp [toldE, HCK.out, HSO.out]
   have : toldM l last span spans stay = toldTo l last span spans stay l.length := by simp [toldM, HCK.out, HSO.out]
   rw [this]
   exact ownsRow_base_t hown (by have h1 := HBW.out.size; omega)
 have hck' : (polM last span spans != 0) = true := by simpa using hck
 have HCK := Lib.hid hck; clear hck
 go_wp2
 go_ret2
 refine ⟨.slice none 0 0, ret2 rfl (int_eq ?_), ?_, HBW.out.trans (HB1.out.mono (by omega))⟩
 ·simp [toldE, HCK.out]
 have : toldM l last span spans stay = [] := by simp [toldM, HCK.out]
 rw [this]; exact World.ownsRow_nil _ _ _ _
set_option maxHeartbeats 1000000 in
theorem goR_own (B : Nat) (v : Value) (l : List Snap) (last span spans : Int) (w : World) (hB : B ≤ w.heap.size) (hv : SlPair B w v l) (hl : l.length ≤ 1000) :
 Calls Tryz.prog 49 #[v, .agg #[.int .i64 last, .int .i64 span, .int .i64 spans]] w (ToldQ l last span spans false w) := by
 go_enter Tryz.func49, Tryz.ntmps49
 go_wp2_with fail
 refine (toldR_own B v l last span spans false _ (Nat.le_trans hB (by simp)) (SlPair.below hv (((Below.refl _ _).alloc (Nat.le_refl _) _).mono hB) (Nat.le_refl _)) hl).mono ?_
 rintro e w1 ⟨x, rfl, hx, hb⟩
 go_wp2
 go_ret2
 exact ⟨x, rfl, ownsRow_base_t hx (by simp), ((Below.refl _ _).alloc (Nat.le_refl _) _).trans (hb.mono (by simp))⟩
end Go.Proofs.YtakeannapfaodaaGreat
namespace Go.Proofs.YtakeannapfaodaaGreat
open Go.RowKit
set_option linter.unusedVariables false
set_option linter.unusedSimpArgs false
def lastF (k : Int) (Q : List RS) : Int := Q.foldl (fun a x => if x.2.c = k then x.2.n else a) 0
def lastP (k : Int) (l : List (Int × Sp)) : Int := l.foldl (fun a x => if x.2.c = k then x.2.n else a) 0
theorem lastF_pl (k : Int) (Q : List RS) : lastF k Q = lastP k (plR Q) := by
 unfold lastF lastP plR
 rw [List.foldl_map]
 rfl
theorem lastF_yes {k : Int} {Q : List RS} {i : Nat} (h : i < Q.length) (e : Q[i].2.c = k) : lastF k (Q.take (i + 1)) = Q[i].2.n := by
 unfold lastF
 rw [List.take_succ_eq_append_getElem h, List.foldl_append]
 exact if_pos e
theorem lastF_no {k : Int} {Q : List RS} {i : Nat} (h : i < Q.length) (e : ¬ Q[i].2.c = k) : lastF k (Q.take (i + 1)) = lastF k (Q.take i) := by
 unfold lastF
 rw [List.take_succ_eq_append_getElem h, List.foldl_append]
 exact if_neg e
def backR (R : RP) (c k t : Int) (es : List En) : (Int × Int) × RP :=
 if fitE c 1 k t es ≠ 0 then ((0, fitE c 1 k t es), R) else if 0 < lastP k (ofP c R.1) then ((lastP k (ofP c R.1), 0), R) else if 2147483647 < topG R.2 c + 1 then ((0, 5), R)
 else if (takeR R c (topG R.2 c + 1) k t es).1 ≠ 0 then ((0, (takeR R c (topG R.2 c + 1) k t es).1), (takeR R c (topG R.2 c + 1) k t es).2) else ((topG R.2 c + 1, 0), (takeR R c (topG R.2 c + 1) k t es).2)
theorem backR_fit {R : RP} {c k t : Int} {es : List En} (h : ¬ fitE c 1 k t es = 0) : backR R c k t es = ((0, fitE c 1 k t es), R) := if_pos h
theorem backR_old {R : RP} {c k t p : Int} {es : List En} (h : fitE c 1 k t es = 0) (hp : lastP k (ofP c R.1) = p) (h1 : 0 < p) : backR R c k t es = ((p, 0), R) := by
 subst hp
 exact (if_neg (not_not_intro h)).trans (if_pos h1)
theorem backR_max {R : RP} {c k t p : Int} {es : List En} (h : fitE c 1 k t es = 0) (hp : lastP k (ofP c R.1) = p) (h1 : ¬ 0 < p) (h2 : 2147483647 < topG R.2 c + 1) : backR R c k t es = ((0, 5), R) := by
 subst hp
 exact (if_neg (not_not_intro h)).trans ((if_neg h1).trans (if_pos h2))
theorem backR_bad {R : RP} {c k t p : Int} {es : List En} {T : Int × RP} (h : fitE c 1 k t es = 0) (hp : lastP k (ofP c R.1) = p) (h1 : ¬ 0 < p) (h2 : ¬ 2147483647 < topG R.2 c + 1) (hT : takeR R c (topG R.2 c + 1) k t es = T) (h3 : ¬ T.1 = 0) : backR R c k t es = ((0, T.1), T.2) := by
 subst hp hT
 exact (if_neg (not_not_intro h)).trans ((if_neg h1).trans ((if_neg h2).trans (if_pos h3)))
theorem backR_new {R : RP} {c k t p : Int} {es : List En} {T : Int × RP} (h : fitE c 1 k t es = 0) (hp : lastP k (ofP c R.1) = p) (h1 : ¬ 0 < p) (h2 : ¬ 2147483647 < topG R.2 c + 1) (hT : takeR R c (topG R.2 c + 1) k t es = T) (h3 : T.1 = 0) : backR R c k t es = ((topG R.2 c + 1, 0), T.2) := by
 subst hp hT
 exact (if_neg (not_not_intro h)).trans ((if_neg h1).trans ((if_neg h2).trans (if_neg (not_not_intro h3))))
def snR (Q : List RS) : List (Int × Int) := Q.map fun x => (x.2.n, x.2.t)
def snP (l : List (Int × Sp)) : List (Int × Int) := l.map fun x => (x.2.n, x.2.t)
theorem snR_pl (Q : List RS) : snR Q = snP (plR Q) := by
 unfold snR snP plR
 rw [List.map_map]
 rfl
theorem snR_len (Q : List RS) : (snR Q).length = Q.length := List.length_map ..
theorem snR_take {Q : List RS} {i : Nat} (h : i < Q.length) : snR (Q.take (i + 1)) = snR (Q.take i) ++ [(Q[i].2.n, Q[i].2.t)] := by
 unfold snR
 rw [List.take_succ_eq_append_getElem h, List.map_append]
 rfl
def cutsR (c : Int) (g : List Int) (L : List RS) : List RS := g.foldl (fun L n => cutR c n L) L
def cutsQ (c : Int) (g : List Int) (l : List (Int × Sp)) : List (Int × Sp) := g.foldl (fun l n => cutQ c n l) l
theorem cutsR_take {c : Int} {g : List Int} {L : List RS} {i : Nat} (h : i < g.length) : cutsR c (g.take (i + 1)) L = cutR c g[i] (cutsR c (g.take i) L) := by
 unfold cutsR
 rw [List.take_succ_eq_append_getElem h, List.foldl_append]
 rfl
theorem cutsR_pl (c : Int) (g : List Int) : ∀ L : List RS, plR (cutsR c g L) = cutsQ c g (plR L) := by
 induction g with
 | nil => exact fun L => rfl
 | cons n g ih => exact fun L => (ih (cutR c n L)).trans (congrArg (cutsQ c g) (plR_cut c n L))
theorem cutsR_sub (c : Int) (g : List Int) : ∀ L : List RS, (cutsR c g L).Sublist L := by
 induction g with
 | nil => exact fun L => List.Sublist.refl _
 | cons n g ih => exact fun L => (ih (cutR c n L)).trans List.filter_sublist
def expR (R : RP) (c a b d : Int) : (List Int × Int) × RP := ((toldM (snP (ofP c R.1)) a b d false, toldE (snP (ofP c R.1)) a b d), (cutsQ c (toldM (snP (ofP c R.1)) a b d false) R.1, R.2))
theorem goR_tr (v : Value) (l : List (Int × Int)) (last span spans : Int) (hl : l.length ≤ 1000) (hx : ∀ x ∈ l, I64 x.1 ∧ I64 x.2) : Tr Tryz.prog 49 #[v, .agg #[.int .i64 last, .int .i64 span, .int .i64 spans]] [own 92 2 v l.length (l.flatMap prC)] []
 (TX (fun _ : Value => True) (fun x => .tuple #[x, .int .i64 (toldE l last span spans)]) (fun x => [own 3 1 x (toldM l last span spans false).length ((toldM l last span spans false).map vInt)])) := fun w hro hp => by
 have h1 : w.ownsRow 0 92 2 v l.length (l.flatMap encPair) := (ro1 hro).1
 refine (goR_own w.heap.size v l last span spans w (Nat.le_refl _) (SlPair.of_owns h1 rfl hx) hl).mono ?_
 rintro e w' ⟨x, he, hrow, hb⟩
 rw [flat_int] at hrow
 exact ⟨_, _, he, ⟨x, trivial, rfl, rfl⟩, hp_new hrow hb⟩
set_option maxRecDepth 20000 in
set_option maxHeartbeats 4000000 in
theorem rback_tr {Ps : Nat → Prop} (Dr : Nat) (vL vT : Value) (L : List RS) (ts : List (Int × Int)) (c k t : Int) (v : Value) (xs : List ET) (hl : L.length ≤ 100000) (htl : ts.length ≤ 100000) (htop : 0 ≤ topG ts c ∧ topG ts c ≤ 2147483647) : Tr Tryz.prog 18 #[.pointer (some ⟨Dr, 0, none⟩), .int .i64 c, .int .i64 k, .int .i64 t, v] [slc rEV Ps v xs] [blk Dr 29 [vL, vT], own 82 5 vL L.length (L.flatMap rsC), own 95 2 vT ts.length (ts.flatMap prC), trees (stR L)]
 (TX (fun z : RZ => z.pl = (backR (plR L, ts) c k t (ens xs)).2) (fun _ => .tuple #[.int .i64 (backR (plR L, ts) c k t (ens xs)).1.1, .int .i64 (backR (plR L, ts) c k t (ens xs)).1.2]) (fun z => [blk Dr 29 [z.a, z.b], own 82 5 z.a z.L.length (z.L.flatMap rsC), own 95 2 z.b z.ts.length (z.ts.flatMap prC), trees (stR z.L)])) := by
 refine Tr.of (l := [(0, .pointer (some ⟨Dr, 0, none⟩)), (1, .int .i64 c), (2, .int .i64 k), (3, .int .i64 t), (4, v)]) Tryz.func18 rfl (n := 65) rfl (.cons rfl (.cons rfl (.cons rfl (.cons rfl (.cons rfl .nil))))) (fun w0 hro => ?_)
 have hv := ro1 hro
 have hel' := ens_length xs
 refine go [9,10,1,1,7,8,9,10,0,0,0,0] ?_
 refine G.treesOne selT (fun hone0 => ?_)
 have hone := stR_one hone0
 refine G.op rfl (G.cR rfl rfl rfl rfl Tryz.func39 rfl rfl (may1 (.old hv)) (rsound_tr _ _ _ _ _ _) ?_)
 refine go [1,7,8,9,9,10,0,2,14,7,8] ?_
 refine G.condP rfl (fun h22 => ?_) (fun h22 => ?_)
 ·refine go [9,10,0,1,1,7,8,11,12] ?_
  rw [backR_fit (by assumption)]
  exact G.doneX2 (⟨vL, L, vT, ts⟩) Y7 rfl rfl rfl rfl subT
 have hf0 : fitE c 1 k t (ens xs) = 0 := Decidable.of_not_not (by assumption)
 refine go [13,8,9,10,1,7,8,9,10,0,0] ?_
 refine G.op rfl (G.cS rfl rfl rfl rfl Tryz.func40 rfl rfl subT (may2 (Sel.may selT) (may_rs selT)) (rof_tr (Ps := fun b => vL.ownBlock = some b) Dr vL vT L c hone (by omega)) apT ?_)
 intro x26 hJ
 try dsimp only at hJ
 try dsimp only
 have hQl := ofR_le c L
 obtain ⟨Q, hQ⟩ : ∃ Q, ofR c L = Q := ⟨_, rfl⟩
 have hQp : plR Q = ofP c (plR L) := by rw [← hQ, plR_of]
 rw [hQ] at hQl ⊢
 refine G.ownNews (v := x26) selT (fun za zc zk hzv hkz hmz hadz hnilz hnewz => ?_)
 subst hzv
 refine go [1,7,8,9,9,10,1,7,8,15] ?_
 refine G.loopK (X := Nat) (ts := [0, 1, 2, 3, 4, 10, 11, 12, 14]) (fun i => i ≤ Q.length) (fun i => [(15, .int .i64 (i : Int)), (13, .int .i64 (lastF k (Q.take i)))]) (fun i => []) (fun i => Q.length - i) (x0 := 0) (.cons rfl (.cons rfl (.cons rfl (.cons rfl (.cons rfl (.cons rfl (.cons rfl (.cons rfl (.cons rfl .nil))))))))) subT (.cons (.cons .nil)) apT Y9 (.consE rfl veqT (.consE rfl veqT .nil)) (fun i hJ => ?_)
 try dsimp only at hJ
 try dsimp only
 have hki := hJ
 refine go [9,9,10,0,0,2,5,2,9,7,8] ?_
 refine G.condP rfl (fun h30 => ?_) (fun h30 => ?_)
 ·have hlt : i < Q.length := by omega
  refine go [13,8,9,15,9,10,0,0] ?_
  refine G.op rfl (G.val rfl rfl (pv_ixSl (sz := 5) (k := i) Tryz.underlying26 kr rfl rfl hadz rfl (by omega)) ?_)
  refine go [2,3,2] ?_
  refine G.op rfl (G.val rfl rfl (pv_load (v := (.int .i64 Q[i].2.c)) Tryz.underlying3 rfl rfl (fun w hw => news_row rsC_len (hnewz selT w hw) hlt 2 _ rfl)) ?_)
  refine go [0,2,13,7,8] ?_
  refine G.condP rfl (fun h39 => ?_) (fun h39 => ?_)
  ·have hyes := lastF_yes hlt (k := k) (by assumption)
   refine go [10,0,0] ?_
   refine G.op rfl (G.val rfl rfl (pv_ixSl (sz := 5) (k := i) Tryz.underlying26 kr rfl rfl hadz rfl (by omega)) ?_)
   refine go [2,3,1] ?_
   refine G.op rfl (G.val rfl rfl ((pv_load (v := .int .i64 Q[i].2.n) Tryz.underlying3 rfl rfl (fun w hw => news_row rsC_len (hnewz selT w hw) hlt 1 _ rfl)).cast (v' := .int .i64 (lastF k (Q.take (i + 1)))) (by rw [hyes])) ?_)
   refine go [1,7,16,8,10,0,2,6,1,7] ?_
   exact G.next (i + 1) Y6 (by (try dsimp only); omega) (.consE rfl veqT (.consE rfl veqT (.cons rfl (.cons rfl (.cons rfl (.cons rfl (.cons rfl (.cons rfl (.cons rfl (.cons rfl (.cons rfl .nil))))))))))) subT
  rw [← lastF_no hlt (k := k) (by assumption)]
  refine go [13,16,8,10,0,2,6,1,7] ?_
  exact G.next (i + 1) Y6 (by (try dsimp only); omega) (.consE rfl veqT (.consE rfl veqT (.cons rfl (.cons rfl (.cons rfl (.cons rfl (.cons rfl (.cons rfl (.cons rfl (.cons rfl (.cons rfl .nil))))))))))) subT
 obtain rfl : i = Q.length := by omega
 rw [List.take_length]
 have hlp : lastP k (ofP c (plR L)) = lastF k Q := by rw [← hQp, lastF_pl]
 obtain ⟨p, hp⟩ : ∃ p, lastF k Q = p := ⟨_, rfl⟩
 rw [hp] at hlp ⊢
 refine go [18,14,14,19,8,9,9,10,0,2,10,7,8] ?_
 refine G.condP rfl (fun h46 => ?_) (fun h46 => ?_)
 ·refine go [9,10,0,1,1,7,8,11,12] ?_
  rw [backR_old hf0 hlp (by assumption)]
  exact G.doneX2 (⟨vL, L, vT, ts⟩) Y7 rfl rfl rfl rfl subT
 refine go [13,8,9,10,0,0] ?_
 refine G.op rfl (G.cR rfl rfl rfl rfl Tryz.func30 rfl rfl (may2 (Sel.may selT) (may_tp selT)) (rgreat_tr (Pt := fun b => vT.ownBlock = some b) Dr vL vT ts c) ?_)
 refine go [2,6,1,7,8,9,9,10,0,2,10,7,8] ?_
 refine G.condP rfl (fun h53 => ?_) (fun h53 => ?_)
 ·refine go [9,10,1,1,7,8,11,12] ?_
  rw [backR_max hf0 hlp (by assumption) (by assumption)]
  exact G.doneX2 (⟨vL, L, vT, ts⟩) Y7 rfl rfl rfl rfl subT
 refine go [13,8,9,10,0,0,0,0,0,0] ?_
 refine G.op rfl (G.cS rfl rfl rfl rfl Tryz.func14 rfl rfl subT (may1 (.old hv)) (rtake_tr Dr vL vT L ts c (topG ts c + 1) k t _ xs hl htl) apT ?_)
 intro x60 hJ
 try dsimp only at hJ
 try dsimp only
 obtain ⟨T, hT⟩ : ∃ T, takeR (plR L, ts) c (topG ts c + 1) k t (ens xs) = T := ⟨_, rfl⟩
 rw [hT] at hJ ⊢
 refine go [1,7,8,9,9,10,0,2,14,7,8] ?_
 refine G.condP rfl (fun h62 => ?_) (fun h62 => ?_)
 ·refine go [9,10,0,1,1,7,8,11,12] ?_
  rw [backR_bad hf0 hlp (by assumption) (by assumption) hT (by assumption)]
  exact G.doneX2 (x60) Y28 rfl rfl rfl rfl subT
 refine go [13,8,9,10,0,1,1,7,8,11] ?_
 rw [backR_new hf0 hlp (by assumption) (by assumption) hT (Decidable.of_not_not (by assumption))]
 exact G.doneX2 (x60) Y28 rfl rfl rfl rfl subT
set_option maxRecDepth 20000 in
set_option maxHeartbeats 4000000 in
theorem rexpire_tr (Dr : Nat) (vL vT : Value) (L : List RS) (ts : List (Int × Int)) (c last span spans : Int) (hl : L.length ≤ 1000) (hI : ∀ x ∈ L, I64 x.2.n ∧ I64 x.2.t) : Tr Tryz.prog 22 #[.pointer (some ⟨Dr, 0, none⟩), .int .i64 c, .agg #[.int .i64 last, .int .i64 span, .int .i64 spans]] [] [blk Dr 29 [vL, vT], own 82 5 vL L.length (L.flatMap rsC), own 95 2 vT ts.length (ts.flatMap prC), trees (stR L)]
 (TX (fun z : Value × RZ => z.2.pl = (expR (plR L, ts) c last span spans).2) (fun z => .tuple #[z.1, .int .i64 (expR (plR L, ts) c last span spans).1.2]) (fun z => [own 3 1 z.1 (expR (plR L, ts) c last span spans).1.1.length ((expR (plR L, ts) c last span spans).1.1.map vInt), blk Dr 29 [z.2.a, z.2.b], own 82 5 z.2.a z.2.L.length (z.2.L.flatMap rsC), own 95 2 z.2.b z.2.ts.length (z.2.ts.flatMap prC), trees (stR z.2.L)])) := by
 refine Tr.of (l := [(0, .pointer (some ⟨Dr, 0, none⟩)), (1, .int .i64 c), (2, .agg #[.int .i64 last, .int .i64 span, .int .i64 spans])]) Tryz.func22 rfl (n := 58) rfl (.cons rfl (.cons rfl (.cons rfl .nil))) (fun w0 hro => ?_)
 refine go [9,10] ?_
 refine G.op rfl (G.box rfl rfl (cs := [_, _, _]) rfl ?_)
 intro b5
 refine go [1,1,7,8,9,10,1,7,8,9,10,0,0] ?_
 refine G.treesOne selT (fun hone0 => ?_)
 have hone := stR_one hone0
 refine G.op rfl (G.cS rfl rfl rfl rfl Tryz.func40 rfl rfl subT (may2 (Sel.may selT) (may_rs selT)) (rof_tr (Ps := fun b => vL.ownBlock = some b) Dr vL vT L c hone (by omega)) apT ?_)
 intro x16 hJ
 try dsimp only at hJ
 try dsimp only
 have hQl := ofR_le c L
 obtain ⟨Q, hQ⟩ : ∃ Q, ofR c L = Q := ⟨_, rfl⟩
 have hQp : plR Q = ofP c (plR L) := by rw [← hQ, plR_of]
 rw [hQ] at hQl ⊢
 refine G.ownNews (v := x16) selT (fun za zc zk hzv hkz hmz hadz hnilz hnewz => ?_)
 subst hzv
 have hsn : snP (ofP c (plR L)) = snR Q := by rw [← hQp, snR_pl]
 have hIQ : ∀ x ∈ snR Q, I64 x.1 ∧ I64 x.2 := fun x hx => by obtain ⟨s, hs, rfl⟩ := List.mem_map.1 hx; exact hI _ (ofR_mem hQ hs)
 refine go [1,7,8,9,9,10,1,7,8,15] ?_
 refine G.ownNil 92 2 ?_
 refine G.loopK (X := Nat × Value) (ts := [0, 1, 5, 6, 7, 9]) (fun st => st.1 ≤ Q.length) (fun st => [(10, .int .i64 (st.1 : Int)), (8, st.2)]) (fun st => [own 92 2 st.2 (snR (Q.take st.1)).length ((snR (Q.take st.1)).flatMap prC)]) (fun st => Q.length - st.1) (x0 := (0, .slice none 0 0)) (.cons rfl (.cons rfl (.cons rfl (.cons rfl (.cons rfl (.cons rfl .nil)))))) subT (.cons (.cons .nil)) apT Y9 (.consE rfl veqT (.consE rfl veqT .nil)) (fun st hJ => ?_)
 obtain ⟨i, vo⟩ := st
 try dsimp only at hJ
 try dsimp only
 have hki := hJ
 have hol := snR_len (Q.take i)
 have hol2 : (Q.take i).length ≤ i := List.length_take_le _ _
 refine go [9,9,10,0,0,2,5,2,9,7,8] ?_
 refine G.condP rfl (fun h20 => ?_) (fun h20 => ?_)
 ·have hlt : i < Q.length := by omega
  refine go [13,8,9,15] ?_
  refine G.drawT (nn := 15) (p := [own 92 2 vo _ _]) (rem := 32767) [0, 0, 0, 6, 8, 16, 0, 0, 192, 256, 512, 1056, 2048, 4097, 16383] [0, 0, 0, 6, 8, 16, 0, 0, 192, 256, 512, 1056, 2048, 4097, 8193] kr ⟨rfl, by kernel_rfl, by kernel_rfl⟩ subT kr (fun hT6 => ?_)
  refine go [22,0,32766,0,22,1,32764,0,22,2,32760,0] ?_
  refine G.takeT hT6 (i := 3) (rem' := 32752) rfl rfl rfl kr (fun _ _ _ h => h) rfl (pv_ixSl (sz := 5) (k := i) Tryz.underlying26 kr rfl rfl hadz rfl (by omega)) subT ?_
  refine go [22,4,32736,3,1,22,6,32672,0,22,7,32544,0] ?_
  refine G.takeT hT6 (i := 8) (rem' := 32288) rfl rfl rfl kr (fun _ _ _ h => h) rfl (pv_ixSl (sz := 5) (k := i) Tryz.underlying26 kr rfl rfl hadz rfl (by omega)) subT ?_
  refine go [22,9,31776,3,3] ?_
  refine G.takeT hT6 (i := 5) (rem' := 31744) rfl rfl rfl kr (fun _ _ _ h => h) rfl (pv_load (v := (.int .i64 Q[i].2.n)) Tryz.underlying3 rfl rfl (fun w hw => news_row rsC_len (hnewz selT w hw) hlt 1 _ rfl)) subT ?_
  refine go [24,10,30720] ?_
  refine G.turnOp rfl rfl (G.val rfl rfl (pv_load (v := (.int .i64 Q[i].2.t)) Tryz.underlying3 rfl rfl (fun w hw => news_row rsC_len (hnewz selT w hw) hlt 3 _ rfl)) ?_)
  refine go [26,22,11,28672,50,0,24,12,24576] ?_
  refine G.turnOp rfl rfl (G.buildSlice (z := .agg #[.int .i64 0, .int .i64 0]) (sz := 2) (cs := prC (Q[i].2.n, Q[i].2.t)) rfl Tryz.underlying90 kr (by decide) (by decide) rfl kr ?_)
  intro b35
  refine go [26,24,13,16384] ?_
  refine G.turnOp rfl rfl (G.append (k := (snR (Q.take i)).length) (j := 1) (cs := (snR (Q.take i)).flatMap prC) (news := prC (Q[i].2.n, Q[i].2.t)) (b := b35) (off := 0) rfl Tryz.underlying90 Tryz.infoSp rfl rfl rfl selT (fun _ => rfl) (fun h => by cases h) rfl (blk_news (k := 2) selT rfl) (prC_one _) (by omega) (by omega) ?_)
  intro vn
  rw [pr_app, ← snR_take hlt]
  refine go [26,22,14,0,1,27,16,8,10,0,2,6,1,7] ?_
  exact G.next ((i + 1, vn)) Y6 (by (try dsimp only); omega) (.consE rfl veqT (.consE rfl veqT (.cons rfl (.cons rfl (.cons rfl (.cons rfl (.cons rfl (.cons rfl .nil)))))))) subT
 obtain rfl : i = Q.length := by omega
 rw [List.take_length]
 refine go [18,14,14,19,8,9,10,0,2,50,3] ?_
 refine G.op rfl (G.cS rfl rfl rfl rfl Tryz.func49 rfl rfl subT (may1 Y0) (goR_tr vo (snR Q) last span spans (by rw [snR_len]; omega) hIQ) apT ?_)
 intro x40 hJ
 try dsimp only at hJ
 try dsimp only
 obtain ⟨te, hte⟩ : ∃ te, toldE (snR Q) last span spans = te := ⟨_, rfl⟩
 obtain ⟨ge, hge⟩ : ∃ ge, toldM (snR Q) last span spans false = ge := ⟨_, rfl⟩
 have hex : expR (plR L, ts) c last span spans = ((ge, te), (cutsQ c ge (plR L), ts)) := by unfold expR; rw [hsn, hte, hge]
 rw [hte, hge]
 refine G.ownNews (v := x40) selT (fun ga gc gk hgv hkg hmg hadg hnilg hnewg => ?_)
 subst hgv
 refine go [0,2,7,2,7,1,1,7,8,9,9,10,1,7,8,15] ?_
 refine G.loopK (X := Nat × Value) (ts := [0, 1, 6, 7, 11, 12]) (fun st => st.1 ≤ ge.length) (fun st => [(13, .int .i64 (st.1 : Int))]) (fun st => [blk Dr 29 [st.2, vT], own 82 5 st.2 (cutsR c (ge.take st.1) L).length ((cutsR c (ge.take st.1) L).flatMap rsC)]) (fun st => ge.length - st.1) (x0 := (0, vL)) (.cons rfl (.cons rfl (.cons rfl (.cons rfl (.cons rfl (.cons rfl .nil)))))) subT (.cons .nil) apT Y9 (.consE rfl veqT .nil) (fun st hJ => ?_)
 obtain ⟨i, vz⟩ := st
 try dsimp only at hJ
 try dsimp only
 have hki := hJ
 refine go [9,9,10,0,0,2,5,2,9,7,8] ?_
 refine G.condP rfl (fun h46 => ?_) (fun h46 => ?_)
 ·have hlt : i < ge.length := by omega
  refine go [13,8,9,15,10,0,0,0,0] ?_
  refine G.op rfl (G.val rfl rfl (pv_ixSl (sz := 1) (k := i) Tryz.underlying53 kr rfl rfl hadg rfl (by omega)) ?_)
  refine G.op rfl (G.val rfl rfl (pv_load (v := .int .i64 ge[i]) Tryz.underlying3 rfl rfl (fun w hw => hnewg selT w hw (i * 1) _ (by rw [Nat.mul_one, List.getElem?_map, List.getElem?_eq_getElem hlt]; rfl))) ?_)
  have hcs := cutsR_sub c (ge.take i) L
  refine G.op rfl (G.cS rfl rfl rfl rfl Tryz.func47 rfl rfl subT may0 (rwithout_tr Dr vz vT (cutsR c (ge.take i) L) c ge[i] (fun x hx => hone x (hcs.subset hx)) (by have := hcs.length_le; omega)) apT ?_)
  intro x55 hJ
  try dsimp only at hJ
  try dsimp only
  rw [← cutsR_take hlt]
  refine go [7,16,8,10,0,2,6,1,7] ?_
  exact G.next ((i + 1, x55)) Y6 (by (try dsimp only); omega) (.consE rfl veqT (.cons rfl (.cons rfl (.cons rfl (.cons rfl (.cons rfl (.cons rfl .nil))))))) subT
 obtain rfl : i = ge.length := by omega
 rw [List.take_length]
 refine go [18,14,14,19,8,9,10,0,0,1,1,7,8,11] ?_
 rw [hex]
 refine G.treesSub (ss := stR L) (tt := stR (cutsR c ge L)) ((cutsR_sub c ge L).map _) selT ?_
 exact G.doneX2 ((.slice ga ge.length gc, ⟨vz, cutsR c ge L, vT, ts⟩)) (by first | exact trivial | ((try dsimp only) <;> exact (by show (plR (cutsR c ge L), ts) = _; rw [cutsR_pl]))) rfl rfl rfl rfl subT
theorem slist_self {Ps Pu : Nat → Prop} (v u : Value) (xs : List Ls) : Tr Tryz.prog 26 #[v, u] [slc rLi Ps v xs, slc rLi Pu u xs] [] (T0 (.bool true)) := by
 have := slist_tr (Ps := Ps) (Pu := Pu) v u xs xs
 rwa [decide_eq_true rfl] at this
def sE30 : En := ⟨[97], 1, 0, [], []⟩
abbrev sT30 : List ET := [(sE30, .slice none 0 0)]
theorem sE30_ok : ∀ x ∈ sT30, EnOk x.1 := fun x hx => by
 obtain rfl : x = _ := by simpa using hx
 exact (show EnOk sE30 from ⟨⟨by decide, by decide⟩, ⟨by decide, by decide⟩, by decide, by decide, by decide⟩)
theorem ens30 : ens sT30 = [sE30] := rfl
theorem en30_ok : ∀ e ∈ [sE30], EnOk e := fun e he => by
 obtain rfl : e = _ := by simpa using he
 exact sE30_ok (sE30, .slice none 0 0) (by simp)
set_option maxRecDepth 20000 in
set_option maxHeartbeats 4000000 in
theorem sample30_tr : Tr Tryz.prog 53 #[] [] [] (TX (fun _ : Nat => True) (fun b => .slice (some ⟨b, 0, none⟩) 1 1) (fun b => [ownT 69 (.slice (some ⟨b, 0, none⟩) 1 1) sT30, datC 5 sT30])) := by
 refine Tr.of (l := []) Tryz.func53 rfl (n := 3) rfl Fa.nil (fun w0 hro => ?_)
 refine go [9,10,1,7,8,9,10] ?_
 refine G.op rfl (G.val rfl rfl (pv_buildSt (z := [.string ⟨#[]⟩, .int .i64 0, .int .i64 0, .slice none 0 0, .string ⟨#[]⟩]) (pl := [(0, 1), (1, 1), (2, 1), (3, 1), (4, 1)]) Tryz.underlying69 kr kr rfl flT) ?_)
 refine G.op rfl (G.buildSlice (z := .agg #[.string ⟨#[]⟩, .int .i64 0, .int .i64 0, .slice none 0 0, .string ⟨#[]⟩]) (sz := 5) (cs := flatT sT30) rfl Tryz.underlying32 kr (by decide) (by decide) rfl kr ?_)
 intro b2
 refine G.ownBlk (b := b2) (k := 1) (sz := 5) selT rfl (by omega) ?_
 refine G.ownBNil 5 ?_
 refine G.datNil 5 ?_
 refine G.datSnoc (ys := []) (x := (sE30, .slice none 0 0)) selT selT ?_
 refine go [1,7,8,11] ?_
 exact G.doneX1 (b2) trT rfl rfl rfl subT
set_option maxRecDepth 20000 in
set_option maxHeartbeats 4000000 in
theorem backs_tr (Dm bm : Nat) (st : MS) (k q : Int) (hok : okM (plM st)) : Tr Tryz.prog 33 #[.pointer (some ⟨Dm, 0, none⟩), .int .i64 k, .int .i64 q] [] [blk Dm 43 [.map (some bm)], mpc vInt I64 bm (ptrs st), clis st]
 (TX (fun st' : MS => plM st' = (backM (plM st) 7 k 5 [sE30]).2) (fun _ => .bool (decide ((backM (plM st) 7 k 5 [sE30]).1.1 = q ∧ (backM (plM st) 7 k 5 [sE30]).1.2 = 0))) (fun st' => [blk Dm 43 [.map (some bm)], mpc vInt I64 bm (ptrs st'), clis st'])) := by
 refine Tr.of (l := [(0, .pointer (some ⟨Dm, 0, none⟩)), (1, .int .i64 k), (2, .int .i64 q)]) Tryz.func33 rfl (n := 23) rfl (.cons rfl (.cons rfl (.cons rfl .nil))) (fun w0 hro => ?_)
 have h7 : I64 7 := ⟨by decide, by decide⟩
 refine go [9,10,1,7,8,9,10,0,0] ?_
 refine G.op rfl (G.cS rfl rfl rfl rfl Tryz.func53 rfl rfl subT may0 (sample30_tr) apT ?_)
 intro x12 hJ
 try dsimp only at hJ
 try dsimp only
 refine G.op rfl (G.cS rfl rfl rfl rfl Tryz.func17 rfl rfl subT (may1 (may_tree selT selT sE30_ok)) (mback_tr Dm bm st 7 k 5 _ sT30 hok h7) apT ?_)
 intro x13 hJ
 try dsimp only at hJ
 try dsimp only
 rw [ens30] at hJ ⊢
 refine go [0,2,7,2,7,1,1,7,8,9,10,0,0,2,13,0] ?_
 refine G.partP (t := 19) rfl (fun h19 => ?_) (fun h19 => ?_)
 ·refine go [3,0,3,13,2,2,1,7,8,11] ?_
  exact G.doneX1 (x13) Y28 rfl rfl Y12 subT
 refine go [4,4,2,2,1,7,8,11] ?_
 exact G.doneX1 (x13) Y28 rfl rfl Y12 subT
def p1M : PM := [(7, (1, [⟨1, 3, 5, [sE30]⟩]))]
def p2M : PM := [(7, (2, [⟨1, 3, 5, [sE30]⟩, ⟨2, 4, 5, [sE30]⟩]))]
theorem bk30a : backM [] 7 3 5 [sE30] = ((1, 0), p1M) := by kernel_rfl
theorem bk30b : backM p1M 7 3 5 [sE30] = ((1, 0), p1M) := by kernel_rfl
theorem bk30c : backM p1M 7 4 5 [sE30] = ((2, 0), p2M) := by kernel_rfl
theorem ok0M : okM [] := fun p hp => by cases hp
theorem ok1M : okM p1M := by have := backM_ok ok0M (c := 7) (k := 3) (t := 5) en30_ok; rwa [bk30a] at this
theorem ok2M : okM p2M := by have := backM_ok ok1M (c := 7) (k := 4) (t := 5) en30_ok; rwa [bk30c] at this
theorem ls30 : lsM (plGet p2M 7).2 = [(1, 5, 3), (2, 5, 4)] := by kernel_rfl
set_option maxRecDepth 20000 in
set_option maxHeartbeats 4000000 in
theorem awake30_tr : Tr Tryz.prog 9 #[] [] [] (T0 (.bool true)) := by
 refine Tr.of (l := []) Tryz.func9 rfl (n := 30) rfl Fa.nil (fun w0 hro => ?_)
 refine go [9,10,1,7,8,9,10] ?_
 refine G.op rfl (G.cS rfl rfl rfl rfl Tryz.func5 rfl rfl subT may0 (mnew_tr) apT ?_)
 intro x2 hJ
 obtain ⟨Dm, bm⟩ := x2
 try dsimp only at hJ
 try dsimp only
 have h0 : plM ([] : MS) = [] := rfl
 refine go [1,7,8,9,10,0] ?_
 refine G.op rfl (G.val rfl rfl (pv_neqP0 Tryz.underlying23 rfl rfl) ?_)
 refine go [0,3,0] ?_
 refine G.want rfl rfl rfl (G.cS rfl rfl rfl rfl Tryz.func33 rfl rfl subT may0 (backs_tr Dm bm ([] : MS) 3 1 (by rw [h0]; exact ok0M)) apT ?_)
 intro x7 hJ
 try dsimp only at hJ
 try dsimp only
 rw [h0, bk30a] at hJ ⊢
 have h1 : plM x7 = _ := hJ
 refine go [2,2,0,3,0] ?_
 refine G.want rfl rfl rfl (G.cS rfl rfl rfl rfl Tryz.func33 rfl rfl subT may0 (backs_tr Dm bm x7 3 1 (by rw [h1]; exact ok1M)) apT ?_)
 intro x11 hJ
 try dsimp only at hJ
 try dsimp only
 rw [h1, bk30b] at hJ ⊢
 have h2 : plM x11 = _ := hJ
 refine go [2,2,0,3,0] ?_
 refine G.want rfl rfl rfl (G.cS rfl rfl rfl rfl Tryz.func33 rfl rfl subT may0 (backs_tr Dm bm x11 4 2 (by rw [h2]; exact ok1M)) apT ?_)
 intro x15 hJ
 try dsimp only at hJ
 try dsimp only
 rw [h2, bk30c] at hJ ⊢
 have h3 : plM x15 = _ := hJ
 refine go [2,2,0,3,0] ?_
 refine G.want rfl rfl rfl (G.cS rfl rfl rfl rfl Tryz.func27 rfl rfl subT may0 (list_tr Dm bm x15 7 (by rw [h3]; exact ok2M) ⟨by decide, by decide⟩) apT ?_)
 intro x19 hJ
 try dsimp only at hJ
 try dsimp only
 rw [h3, ls30]
 refine go [3,50,2,3,50,2] ?_
 refine G.want rfl rfl rfl (G.buildSlice (z := .agg #[.int .i64 0, .int .i64 0, .int .i64 0, .bool false]) (sz := 4) (cs := ([(1, 5, 3), (2, 5, 4)] : List Ls).flatMap liC) rfl Tryz.underlying60 kr (by decide) (by decide) rfl kr ?_)
 intro b22
 refine G.ownBlk (b := b22) (k := 2) (sz := 4) selT rfl (by omega) ?_
 refine G.want rfl rfl rfl (G.cR rfl rfl rfl rfl Tryz.func26 rfl rfl (may2 (may_ls selT) (may_ls selT)) (slist_self _ _ [(1, 5, 3), (2, 5, 4)]) ?_)
 refine go [2,2,0,3,0] ?_
 refine G.want rfl rfl rfl (G.cS rfl rfl rfl rfl Tryz.func29 rfl rfl subT may0 (great_tr Dm bm x15 8 (by rw [h3]; exact ok2M) ⟨by decide, by decide⟩) apT ?_)
 intro x27 hJ
 try dsimp only at hJ
 try dsimp only
 rw [h3, show (plGet p2M 8).1 = 0 from rfl]
 refine G.want rfl rfl rfl (G.val rfl rfl ((pv_eql rfl rfl).cast (v' := .bool true) rfl) ?_)
 refine go [2,2,1,7,8,11] ?_
 exact G.done0G rfl (Rv.tmp rfl Rv.nil) Y8
structure Ac where
 kd : Int
 cl : Int
 n : Int
 cm : Int
 tk : Int
 pa : Int
 pb : Int
 pc : Int
abbrev AT := Ac × Value × List ET
def acC (x : AT) : List Value := [vInt x.1.kd, vInt x.1.cl, vInt x.1.n, vInt x.1.cm, vInt x.1.tk, x.2.1, vInt x.1.pa, vInt x.1.pb, vInt x.1.pc]
def AcOk (x : Ac) : Prop := I64 x.kd ∧ I64 x.cl ∧ I64 x.n ∧ I64 x.cm ∧ I64 x.tk ∧ I64 x.pa ∧ I64 x.pb ∧ I64 x.pc
def rAT : Rdr AT where
 sz := 9
 R := fun Ps w b o x => Ps b ∧ w.rangeAt b o (acC x) ∧ IsSl rEV Ps w x.2.1 x.2.2 ∧ AcOk x.1 ∧ x.2.2.length ≤ 140737488355328
 loc := fun h ⟨h1, h2, h3, h4⟩ => ⟨h1, rangeAt_loc (h _ h1) h2, h3.loc h, h4⟩
 mono := fun h ⟨h1, h2, h3, h4⟩ => ⟨h _ h1, h2, h3.mono h, h4⟩
section
variable {n : Nat} {w0 : World} {S : Nat → Prop} {l : Fr} {m : List Ck} {K : Act → World → Prop} {Ps : Nat → Prop} {b o : Nat} {x : AT}
theorem Ro.atRng (h : Ro w0 S (elc rAT Ps b o x)) : Ro w0 S (rng b o [.int .i64 x.1.kd, .int .i64 x.1.cl, .int .i64 x.1.n, .int .i64 x.1.cm, .int .i64 x.1.tk, x.2.1, .int .i64 x.1.pa, .int .i64 x.1.pb, .int .i64 x.1.pc]) := ⟨h.1.2.1, fun k hk => h.2 k Y30⟩
theorem Ro.atTree (h : Ro w0 S (elc rAT Ps b o x)) : Ro w0 S (slc rEV Ps x.2.1 x.2.2) := ⟨h.1.2.2.1, h.2⟩
theorem Ro.atOk (h : Ro w0 S (elc rAT Ps b o x)) : AcOk x.1 := h.1.2.2.2.1
end
def longP (xs : List AT) : Prop := (∃ x ∈ xs.take 41, bigM (ens x.2.2) 20 2000) ∨ 40 < xs.length
instance (xs : List AT) : Decidable (longP xs) := by
 unfold longP
 exact inferInstance
theorem long_all {xs : List AT} (h : ¬ longP xs) : xs.length ≤ 40 ∧ ∀ x ∈ xs, ¬ bigM (ens x.2.2) 20 2000 := by
 obtain ⟨h1, h2⟩ := not_or.1 h
 refine ⟨by omega, fun x hx hb => h1 ⟨x, ?_, hb⟩⟩
 rwa [List.take_of_length_le (by omega)]
theorem plGet_set (pm : PM) (c : Int) (z : Int × List Sp) : plGet (plSet pm c z) c = z := by
 induction pm with
 | nil => simp [plSet, plGet]
 | cons p pm ih =>
  obtain ⟨k, y⟩ := p
  by_cases h : k = c
  ·simp [plSet, plGet, h]
  simp only [plSet, if_neg h, plGet]
  exact ih
theorem lastOf_c {l : List Sp} {k : Int} {s : Sp} (h : lastOf l k = some s) : s ∈ l := List.mem_reverse.1 (List.mem_of_find?_eq_some h)
theorem ro_nil30 {α : Type} {E : Rdr α} {w0 : World} {S : Nat → Prop} : Ro w0 S (slc E (fun _ => False) (.slice none 0 0) []) := ⟨⟨none, 0, 0, 0, rfl, Nat.le_refl _, by omega, fun _ => rfl, fun h => by simp at h, fun i hi => by simp at hi⟩, fun b hb => hb.elim⟩
set_option maxRecDepth 20000 in
set_option maxHeartbeats 4000000 in
theorem long_tr {Ps : Nat → Prop} (v : Value) (xs : List AT) : Tr Tryz.prog 6 #[v] [slc rAT Ps v xs] [] (T0 (.bool (decide (longP xs)))) := by
 refine Tr.of (l := [(0, v)]) Tryz.func6 rfl (n := 23) rfl (.cons rfl .nil) (fun w0 hro => ?_)
 have hv0 := ro1 hro
 obtain ⟨av, cv, bv, fv, rfl, hcapv, hmaxv, hnilv, hadv, helv⟩ := Ro.open hv0
 refine go [9,10,1,7,8,9,9,10,1,7,8,15] ?_
 refine G.loopK (X := Nat) (ts := [0]) (fun i => i ≤ xs.length ∧ i ≤ 41 ∧ ∀ q (hq : q < xs.length), q < i → ¬ bigM (ens xs[q].2.2) 20 2000) (fun i => [(3, .int .i64 (i : Int))]) (fun i => []) (fun i => xs.length - i) (x0 := 0) (.cons rfl .nil) subT (.cons .nil) apT (by first | exact trivial | ((try dsimp only) <;> exact ⟨Nat.zero_le _, Nat.zero_le _, fun q _ h => absurd h (by omega)⟩)) (.consE rfl veqT .nil) (fun i hJ => ?_)
 try dsimp only at hJ
 try dsimp only
 obtain ⟨hi1, hi2, hJ0⟩ := hJ
 refine go [9,9] ?_
 refine G.cutK (X := Unit) (ts := [0, 3]) (p := []) (fun _ => True) (fun _ => [(11, .bool (decide (i < xs.length ∧ i < 41)))]) (fun _ => []) (.cons rfl (.cons rfl .nil)) subT (.cons .nil) apT ?_ ?_
 ·refine go [10,0,0,2,5,2,9,0] ?_
  refine G.partP (t := 8) rfl (fun h8 => ?_) (fun h8 => ?_)
  ·refine go [3,0,3,9,2,2,7] ?_
   exact G.meet (()) trT (.consE rfl Y12 (.cons rfl (.cons rfl .nil))) subT
  refine go [4,4,2,2,7] ?_
  exact G.meet (()) trT (.consE rfl Y12 (.cons rfl (.cons rfl .nil))) subT
 intro _ hJ
 try dsimp only at hJ
 try dsimp only
 refine G.condP rfl (fun h11 => ?_) (fun h11 => ?_)
 ·obtain ⟨hlt0, h41⟩ : i < xs.length ∧ i < 41 := by assumption
  have hlt : i < xs.length := by omega
  have hE := helv i hlt
  have hR := Ro.atRng hE
  have hD := Ro.atTree hE
  have hO := Ro.atOk hE
  obtain ⟨aD, cD, bD, oD, hx2, hcD, hmD, -, -, helD⟩ := Ro.openT hD
  rw [hx2] at hR
  refine go [13,8,9,15,9,10,0,0] ?_
  refine G.op rfl (G.val rfl rfl (pv_ixSl (sz := 9) (k := i) Tryz.underlying22 kr rfl rfl Y18 rfl (by omega)) ?_)
  refine go [2,3,5] ?_
  refine G.op rfl (G.val rfl rfl (pv_load (v := .slice aD xs[i].2.2.length cD) Tryz.underlying32 rfl rfl (ro_rngC hR rfl)) ?_)
  refine G.op rfl (G.cR rfl rfl rfl rfl Tryz.func11 rfl rfl (may1 (.old (hx2 ▸ hD))) (big_tr _ xs[i].2.2 20 2000 (by omega)) ?_)
  refine go [7,8] ?_
  refine G.condP rfl (fun h19 => ?_) (fun h19 => ?_)
  ·have hbt : longP xs := .inl ⟨xs[i], List.mem_iff_getElem.2 ⟨i, by rw [List.length_take]; omega, by rw [List.getElem_take]⟩, by assumption⟩
   refine go [9,10,1,7,8,11,17,12,12,17,12] ?_
   exact G.done0G rfl (Rv.tmp rfl Rv.nil) (by rw [decide_eq_true hbt]; rfl)
  have hnb : ¬ bigM (ens xs[i].2.2) 20 2000 := by assumption
  refine go [13,16,8,10,0,2,6,1,7] ?_
  exact G.next (i + 1) (by first | exact trivial | ((try dsimp only) <;> exact ⟨by omega, by omega, fun q hq hqi => by rcases Nat.lt_or_ge q i with h1 | h1; exact hJ0 q hq h1; obtain rfl : q = i := (by omega); exact hnb⟩)) (by (try dsimp only); omega) (.consE rfl veqT (.cons rfl .nil)) subT
 have hend : ¬ (i < xs.length ∧ i < 41) := by assumption
 refine go [18,14,14,19,8,9,10,0,2,5,2,10,1,7,8,11] ?_
 exact G.done0G rfl (Rv.tmp rfl Rv.nil) (by exact dec_e ⟨fun h => .inr (by omega), fun h => by rcases h with ⟨x, hx, hb⟩ | h; exact absurd hb (by obtain ⟨q, hq, rfl⟩ := List.getElem_of_mem hx; rw [List.length_take] at hq; rw [List.getElem_take]; exact hJ0 q (by omega) (by omega)); omega⟩)
abbrev HP := (Int × Int) × List En
def flatM (pm : PM) : List HP := pm.flatMap fun p => p.2.2.map fun s => ((p.1, s.n), s.l)
structure InvM (pm : PM) : Prop where
 keys : (pm.map (·.1)).Nodup
 nums : ∀ p ∈ pm, (p.2.2.map (·.n)).Nodup
theorem flat_cons (p : Int × (Int × List Sp)) (pm : PM) : flatM (p :: pm) = (p.2.2.map fun s => ((p.1, s.n), s.l)) ++ flatM pm := List.flatMap_cons ..
theorem flatM_set (pm : PM) (c n : Int) (s : Sp) : (flatM (plSet pm c (n, (plGet pm c).2 ++ [s]))).Perm (flatM pm ++ [((c, s.n), s.l)]) := by
 induction pm with
 | nil => exact List.Perm.refl _
 | cons p pm ih =>
  obtain ⟨k, z⟩ := p
  rw [plSet, plGet]
  by_cases h : k = c
  ·rw [if_pos h, if_pos h, flat_cons, flat_cons, List.map_append, List.append_assoc, List.append_assoc, h]
   exact List.Perm.append_left _ List.perm_append_comm
  rw [if_neg h, if_neg h, flat_cons, flat_cons, List.append_assoc]
  exact List.Perm.append_left _ ih
theorem set_keys (pm : PM) (c : Int) (z : Int × List Sp) : (plSet pm c z).map (·.1) = if c ∈ pm.map (·.1) then pm.map (·.1) else pm.map (·.1) ++ [c] := by
 induction pm with
 | nil => simp [plSet]
 | cons p pm ih =>
  obtain ⟨k, y⟩ := p
  unfold plSet
  by_cases h : k = c
  ·subst h
   simp
  rw [if_neg h, List.map_cons, ih]
  by_cases h2 : c ∈ pm.map (·.1)
  ·simp [h2]
  simp only [List.map_cons, List.mem_cons, if_neg h2]
  rw [if_neg (fun e => e.elim (fun e => h e.symm) h2)]
  rfl
theorem set_len (pm : PM) (c : Int) (z : Int × List Sp) : (plSet pm c z).length ≤ pm.length + 1 := by
 have := congrArg List.length (set_keys pm c z)
 rw [List.length_map] at this
 rw [this]
 split <;> simp
theorem set_mem {pm : PM} {c : Int} {z : Int × List Sp} {p : Int × (Int × List Sp)} (h : p ∈ plSet pm c z) : p = (c, z) ∨ p ∈ pm := by
 induction pm with
 | nil => exact .inl (by simpa [plSet] using h)
 | cons q pm ih =>
  obtain ⟨k, y⟩ := q
  rw [plSet] at h
  split at h
  ·rcases List.mem_cons.1 h with h | h
   ·exact .inl h
   exact .inr (List.mem_cons_of_mem _ h)
  rcases List.mem_cons.1 h with h | h
  ·exact .inr (by rw [h]; exact List.mem_cons_self ..)
  exact (ih h).imp id (List.mem_cons_of_mem _)
theorem InvM.set {pm : PM} (h : InvM pm) {c : Int} {z : Int × List Sp} (hz : (z.2.map (·.n)).Nodup) : InvM (plSet pm c z) where
 keys := by
  rw [set_keys]
  split
  ·exact h.keys
  rename_i hc
  exact List.nodup_append.2 ⟨h.keys, by simp, fun a ha b hb => by
   obtain rfl : b = c := by simpa using hb
   exact fun e => hc (e ▸ ha)⟩
 nums p hp := by
  rcases set_mem hp with rfl | hp
  ·exact hz
  exact h.nums p hp
theorem cut_keys (pm : PM) (c : Int) (g : List Int) : (plCut pm c g).map (·.1) = pm.map (·.1) := by
 induction pm with
 | nil => rfl
 | cons p pm ih =>
  obtain ⟨k, y⟩ := p
  rw [plCut]
  split
  ·rfl
  rw [List.map_cons, List.map_cons, ih]
theorem cut_mem {pm : PM} {c : Int} {g : List Int} {p : Int × (Int × List Sp)} (h : p ∈ plCut pm c g) : ∃ q ∈ pm, q.1 = p.1 ∧ q.2.1 = p.2.1 ∧ (p.2.2 = q.2.2 ∨ p.2.2 = cutL g q.2.2) := by
 induction pm with
 | nil => cases h
 | cons q pm ih =>
  obtain ⟨k, y⟩ := q
  rw [plCut] at h
  split at h
  ·rcases List.mem_cons.1 h with h | h
   ·exact ⟨_, List.mem_cons_self .., by rw [h], by rw [h], .inr (by rw [h])⟩
   exact ⟨p, List.mem_cons_of_mem _ h, rfl, rfl, .inl rfl⟩
  rcases List.mem_cons.1 h with h | h
  ·exact ⟨_, List.mem_cons_self .., by rw [h], by rw [h], .inl (by rw [h])⟩
  obtain ⟨q, hq, r⟩ := ih h
  exact ⟨q, List.mem_cons_of_mem _ hq, r⟩
theorem InvM.cut {pm : PM} (h : InvM pm) (c : Int) (g : List Int) : InvM (plCut pm c g) where
 keys := by rw [cut_keys]; exact h.keys
 nums p hp := by
  obtain ⟨q, hq, -, -, e | e⟩ := cut_mem hp
  ·rw [e]
   exact h.nums q hq
  rw [e, cutL_filter]
  exact (h.nums q hq).sublist (List.filter_sublist.map _)
theorem okM.cutM {pm : PM} (h : okM pm) (c : Int) (g : List Int) : okM (plCut pm c g) := fun p hp => by
 obtain ⟨q, hq, e1, e2, e | e⟩ := cut_mem hp
 ·obtain ⟨a, b⟩ := h q hq
  refine ⟨e1 ▸ a, ?_⟩
  obtain ⟨b1, b2, b3⟩ := b
  exact ⟨e2 ▸ b1, by rw [e]; exact b2, by rw [e, ← e2]; exact b3⟩
 obtain ⟨a, b⟩ := h q hq
 refine ⟨e1 ▸ a, ?_⟩
 obtain ⟨b1, b2, b3⟩ := b
 rw [cutL_filter] at e
 exact ⟨e2 ▸ b1, by rw [e]; exact Nat.le_trans (List.length_filter_le ..) b2, by rw [e, ← e2]; exact fun s hs => b3 s (List.mem_filter.1 hs).1⟩
theorem get_set_ne {pm : PM} {c d : Int} {z : Int × List Sp} (h : ¬ d = c) : plGet (plSet pm c z) d = plGet pm d := by
 induction pm with
 | nil => simp [plSet, plGet, Ne.symm h, (show ¬ c = d from fun e => h e.symm)]
 | cons p pm ih =>
  obtain ⟨k, y⟩ := p
  rw [plSet]
  split
  ·rename_i e
   subst e
   simp [plGet, (show ¬ k = d from fun e => h e.symm)]
  rw [plGet, plGet, ih]
theorem get_cut_ne {pm : PM} {c d : Int} {g : List Int} (h : ¬ d = c) : plGet (plCut pm c g) d = plGet pm d := by
 induction pm with
 | nil => rfl
 | cons p pm ih =>
  obtain ⟨k, y⟩ := p
  rw [plCut]
  split
  ·rename_i e
   subst e
   simp [plGet, (show ¬ k = d from fun e => h e.symm)]
  rw [plGet, plGet, ih]
theorem for_cut {pm : PM} {c n : Int} (h : 0 < (plGet pm c).1) : plSet pm c ((plGet pm c).1, cutS n (plGet pm c).2) = plCut pm c [n] := by
 induction pm with
 | nil => exact absurd h (by show ¬ (0 : Int) < 0; decide)
 | cons p pm ih =>
  obtain ⟨k, z⟩ := p
  rw [plGet] at h ⊢
  rw [plSet, plCut]
  by_cases e : k = c
  ·rw [if_pos e, if_pos e, if_pos e, e]
   rfl
  rw [if_neg e] at h ⊢
  rw [if_neg e, if_neg e, ih h]
structure StepOk (pm pm2 : PM) (cl cw kd nn ee : Int) (es : List En) (hp : List HP) : Prop where
 ok : okM pm2
 inv : InvM pm2
 len : pm2.length ≤ pm.length + 1
 great : ee = 0 → (plGet pm2 cl).1 = if nn < (plGet pm cl).1 then (plGet pm cl).1 else nn
 no0 : ee = 0 → kd = 0 → ¬ nn ≤ (plGet pm cl).1
 other : plGet pm2 cw = plGet pm cw
 perm : (if ee = 0 ∧ (plGet pm cl).1 < nn then hp ++ [((cl, nn), es)] else hp).Perm (flatM pm2)
section
variable {pm : PM} {cl cw kd nn ee : Int} {es : List En} {hp : List HP}
theorem step_same (hok : okM pm) (hi : InvM pm) (hp1 : hp.Perm (flatM pm)) (h : ee = 0 → nn ≤ (plGet pm cl).1 ∧ ¬ kd = 0) : StepOk pm pm cl cw kd nn ee es hp where
 ok := hok
 inv := hi
 len := by omega
 great e := by
  have := (h e).1
  split <;> omega
 no0 e k := absurd k (h e).2
 other := rfl
 perm := by
  rw [if_neg fun e => by have := (h e.1).1; omega]
  exact hp1
theorem step_take {cm tk : Int} (hok : okM pm) (hi : InvM pm) (hp1 : hp.Perm (flatM pm)) (hcw : ¬ cw = cl) (hen : ∀ e ∈ es, EnOk e) (h : (takeM pm cl nn cm tk es).1 = ee) : StepOk pm (takeM pm cl nn cm tk es).2 cl cw kd nn ee es hp := by
 subst h
 by_cases h0 : fitE cl nn cm tk es = 0
 ·by_cases h1 : nn ≤ (plGet pm cl).1
  ·rw [takeM_there h0 h1]
   exact step_same hok hi hp1 fun e => by cases e
  by_cases h2 : 64 ≤ ((plGet pm cl).2.length : Int)
  ·rw [takeM_full h0 h1 h2]
   exact step_same hok hi hp1 fun e => by cases e
  have hk := takeM_ok hok (c := cl) (n := nn) (k := cm) (t := tk) hen
  rw [takeM_new h0 h1 h2] at hk ⊢
  have hnd : (((plGet pm cl).2 ++ [(⟨nn, cm, tk, es⟩ : Sp)]).map fun s : Sp => s.n).Nodup := by
   rw [List.map_append]
   refine List.nodup_append.2 ⟨?_, by simp, fun a ha b hb e => ?_⟩
   ·by_cases hc : 0 < (plGet pm cl).1
    ·exact hi.nums _ (plGet_in hc)
    have h3 : (plGet pm cl).2 = [] := by
     cases hq : (plGet pm cl).2 with
     | nil => rfl
     | cons s r =>
      have := ((hok.get cl).2.2 s (by rw [hq]; exact List.mem_cons_self ..)).1
      omega
    rw [h3]
    exact List.nodup_nil
   obtain ⟨s, hs, rfl⟩ := List.mem_map.1 ha
   obtain rfl : b = nn := by simpa using hb
   have := ((hok.get cl).2.2 s hs).1
   omega
  refine ⟨hk, hi.set hnd, set_len .., fun _ => ?_, fun _ _ => h1, get_set_ne hcw, ?_⟩
  ·rw [plGet_set, if_neg (by omega)]
  rw [if_pos ⟨rfl, by omega⟩]
  exact (hp1.append_right _).trans (flatM_set pm cl nn ⟨nn, cm, tk, es⟩).symm
 rw [takeM_fit h0]
 exact step_same hok hi hp1 fun e => absurd e h0
theorem step_back {cm tk : Int} (hok : okM pm) (hi : InvM pm) (hp1 : hp.Perm (flatM pm)) (hcw : ¬ cw = cl) (hkd : ¬ kd = 0) (hen : ∀ e ∈ es, EnOk e) (hn : (backM pm cl cm tk es).1.1 = nn) (h : (backM pm cl cm tk es).1.2 = ee) : StepOk pm (backM pm cl cm tk es).2 cl cw kd nn ee es hp := by
 subst hn h
 by_cases h0 : fitE cl 1 cm tk es = 0
 ·cases h1 : lastOf (plGet pm cl).2 cm with
  | some s =>
   rw [backM_old h0 h1]
   exact step_same hok hi hp1 fun _ => ⟨((hok.get cl).2.2 s (lastOf_c h1)).1.2, hkd⟩
  | none =>
   by_cases h2 : (plGet pm cl).1 = 2147483647
   ·rw [backM_max h0 h1 h2]
    exact step_same hok hi hp1 fun e => by cases e
   by_cases h3 : (takeM pm cl ((plGet pm cl).1 + 1) cm tk es).1 = 0
   ·rw [backM_new h0 h1 h2 rfl h3]
    exact step_take hok hi hp1 hcw hen h3
   rw [backM_bad h0 h1 h2 rfl h3]
   have h4 := step_take (kd := kd) (cw := cw) hok hi hp1 hcw hen (nn := (plGet pm cl).1 + 1) (cm := cm) (tk := tk) rfl
   refine ⟨h4.ok, h4.inv, h4.len, fun e => absurd e h3, fun e => absurd e h3, h4.other, ?_⟩
   have h5 := h4.perm
   rw [if_neg fun e => h3 e.1] at h5 ⊢
   exact h5
 rw [backM_fit h0]
 exact step_same hok hi hp1 fun e => absurd e h0
theorem forM_cut {n : Int} (h : (forM pm cl n).1 = 0) : (forM pm cl n).2 = plCut pm cl [n] := by
 unfold forM at h ⊢
 split at h
 ·cases h
 rename_i h1
 rw [if_neg h1]
 exact for_cut (by omega)
theorem forM_no0 {n : Int} (h : ¬ (forM pm cl n).1 = 0) : (forM pm cl n).2 = pm := by
 unfold forM at h ⊢
 split at h
 ·rename_i h1
  rw [if_pos h1]
 exact absurd rfl h
theorem expM_cut {a b c : Int} (h : (expM pm cl a b c).1.2 = 0) : (expM pm cl a b c).2 = plCut pm cl (expM pm cl a b c).1.1 := by
 unfold expM at h ⊢
 split at h
 ·rename_i h1
  rw [if_pos h1]
 rename_i h1
 exact absurd h h1
theorem expM_no0 {a b c : Int} (h : ¬ (expM pm cl a b c).1.2 = 0) : (expM pm cl a b c).2 = pm := by
 unfold expM at h ⊢
 split at h
 ·exact absurd rfl h
 rename_i h1
 rw [if_neg h1]
end
def insT (c n : Int) : List (Int × Int) → List (Int × Int)
 | [] => [(c, n)]
 | t :: ts => if t.1 < c then t :: insT c n ts else if t.1 = c then (c, n) :: ts else (c, n) :: t :: ts
theorem fold_one (c n : Int) (ts : List (Int × Int)) : ∀ acc : List (Int × Int), (∀ t ∈ ts, ¬ t.1 = c) → ts.foldl (stepT c n) (1, acc) = (1, acc ++ ts) := by
 induction ts with
 | nil => exact fun acc _ => by rw [List.append_nil]; rfl
 | cons t ts ih =>
  intro acc h
  have h0 : ¬ t.1 = c := h t (List.mem_cons_self ..)
  have h1 : stepT c n (1, acc) t = (1, acc ++ [t]) := by
   unfold stepT
   rw [if_pos h0, if_neg (fun e => e.1 rfl)]
  rw [List.foldl_cons, h1, ih _ fun t ht => h t (List.mem_cons_of_mem _ ht), List.append_assoc]
  rfl
theorem fold_ins (c n : Int) (ts : List (Int × Int)) : ∀ acc : List (Int × Int), (keyT ts).Pairwise (· < ·) → (if ¬ (ts.foldl (stepT c n) (0, acc)).1 = 1 then (ts.foldl (stepT c n) (0, acc)).2 ++ [(c, n)] else (ts.foldl (stepT c n) (0, acc)).2) = acc ++ insT c n ts := by
 induction ts with
 | nil =>
  intro acc _
  exact if_pos (by show ¬ (0 : Int) = 1; decide)
 | cons t ts ih =>
  intro acc h
  have h2 : (∀ x ∈ keyT ts, t.1 < x) ∧ (keyT ts).Pairwise (· < ·) := List.pairwise_cons.1 h
  have h3 : ∀ u ∈ ts, t.1 < u.1 := fun u hu => h2.1 _ (List.mem_map_of_mem hu)
  rw [List.foldl_cons, insT]
  by_cases h4 : t.1 < c
  ·have h1 : stepT c n (0, acc) t = (0, acc ++ [t]) := by
    unfold stepT
    rw [if_pos (show ¬ t.1 = c by omega), if_neg (fun e => by have := e.2; omega)]
   rw [h1, ih _ h2.2, if_pos h4, List.append_assoc]
   rfl
  rw [if_neg h4]
  by_cases h5 : t.1 = c
  ·have h1 : stepT c n (0, acc) t = (1, acc ++ [(c, n)]) := by
    unfold stepT
    rw [if_neg (not_not_intro h5), if_pos ⟨(show ¬ (0 : Int) = 1 by decide), (show c ≤ t.1 by omega)⟩]
   rw [h1, fold_one c n ts _ (fun u hu => by have := h3 u hu; omega), if_pos h5, if_neg (fun e => e rfl), List.append_assoc]
   rfl
  have h1 : stepT c n (0, acc) t = (1, acc ++ [(c, n)] ++ [t]) := by
   unfold stepT
   rw [if_pos h5, if_pos ⟨(show ¬ (0 : Int) = 1 by decide), (show c ≤ t.1 by omega)⟩]
  rw [h1, fold_one c n ts _ (fun u hu => by have := h3 u hu; omega), if_neg h5, if_neg (fun e => e rfl), List.append_assoc, List.append_assoc]
  rfl
theorem putT_ins {c n : Int} {ts : List (Int × Int)} (h : (keyT ts).Pairwise (· < ·)) : putT c n ts = insT c n ts := fold_ins c n ts [] h
theorem topG_ins (c n d : Int) (ts : List (Int × Int)) : topG (insT c n ts) d = if d = c then n else topG ts d := by
 induction ts with
 | nil =>
  show (if c = d then n else 0) = if d = c then n else 0
  by_cases h : d = c
  ·rw [if_pos h, if_pos h.symm]
  rw [if_neg h, if_neg (fun e => h e.symm)]
 | cons t ts ih =>
  obtain ⟨k, g⟩ := t
  rw [insT]
  by_cases h1 : k < c
  ·rw [if_pos h1, topG, topG, ih]
   by_cases h2 : k = d
   ·rw [if_pos h2, if_pos h2, if_neg (by omega)]
   rw [if_neg h2, if_neg h2]
  rw [if_neg h1]
  by_cases h3 : k = c
  ·rw [if_pos h3, topG, topG]
   by_cases h2 : d = c
   ·rw [if_pos h2, if_pos h2.symm]
   rw [if_neg h2, if_neg (fun e => h2 e.symm), if_neg (fun e => h2 (by omega))]
  rw [if_neg h3, topG]
  by_cases h2 : d = c
  ·rw [if_pos h2, if_pos h2.symm]
  rw [if_neg h2, if_neg (fun e => h2 e.symm)]
theorem keyT_mem (c n x : Int) (ts : List (Int × Int)) : x ∈ keyT (insT c n ts) ↔ x = c ∨ x ∈ keyT ts := by
 induction ts with
 | nil => simp [insT, keyT]
 | cons t ts ih =>
  rw [insT]
  by_cases h1 : t.1 < c
  ·rw [if_pos h1]
   show x ∈ t.1 :: keyT (insT c n ts) ↔ x = c ∨ x ∈ t.1 :: keyT ts
   rw [List.mem_cons, List.mem_cons, ih]
   constructor
   ·rintro (h | h | h)
    ·exact .inr (.inl h)
    ·exact .inl h
    exact .inr (.inr h)
   rintro (h | h | h)
   ·exact .inr (.inl h)
   ·exact .inl h
   exact .inr (.inr h)
  rw [if_neg h1]
  by_cases h3 : t.1 = c
  ·rw [if_pos h3]
   show x ∈ c :: keyT ts ↔ x = c ∨ x ∈ t.1 :: keyT ts
   rw [List.mem_cons, List.mem_cons, h3]
   constructor
   ·exact fun h => h.elim .inl fun h => .inr (.inr h)
   exact fun h => h.elim .inl id
  rw [if_neg h3]
  show x ∈ c :: t.1 :: keyT ts ↔ x = c ∨ x ∈ t.1 :: keyT ts
  exact List.mem_cons
theorem keyT_rise {c n : Int} {ts : List (Int × Int)} (h : (keyT ts).Pairwise (· < ·)) : (keyT (insT c n ts)).Pairwise (· < ·) := by
 induction ts with
 | nil => exact List.pairwise_singleton ..
 | cons t ts ih =>
  have h2 : (∀ x ∈ keyT ts, t.1 < x) ∧ (keyT ts).Pairwise (· < ·) := List.pairwise_cons.1 h
  rw [insT]
  by_cases h1 : t.1 < c
  ·rw [if_pos h1]
   exact List.pairwise_cons.2 ⟨fun x hx => by
    rcases (keyT_mem c n x ts).1 hx with e | e
    ·show t.1 < x
     omega
    exact h2.1 x e, ih h2.2⟩
  rw [if_neg h1]
  by_cases h3 : t.1 = c
  ·rw [if_pos h3]
   exact List.pairwise_cons.2 ⟨fun x hx => by have := h2.1 x hx; show c < x; omega, h2.2⟩
  rw [if_neg h3]
  exact List.pairwise_cons.2 ⟨fun x hx => by
   rcases List.mem_cons.1 hx with e | e
   ·show c < x
    have h7 : x = t.1 := e
    omega
   have h6 := h2.1 x e
   show c < x
   have h7 : c ≤ t.1 := by omega
   exact Int.lt_of_le_of_lt h7 h6, h⟩
theorem keys_eq {a b : List Int} (ha : a.Pairwise (· < ·)) (hb : b.Nodup) (h : ∀ x, x ∈ a ↔ x ∈ b) : a = keysM b := by
 have hp : a.Perm b := (List.perm_ext_iff_of_nodup (ha.imp fun h e => by omega) hb).2 h
 refine List.Perm.eq_of_pairwise (le := fun x y => decide (x ≤ y) = true) (fun x y _ _ h1 h2 => ?_) (ha.imp fun h => decide_eq_true (by omega)) (List.pairwise_mergeSort (fun a b c h1 h2 => ?_) (fun a b => ?_) b) (hp.trans (keysM_perm b).symm)
 ·have e1 := of_decide_eq_true h1
  have e2 := of_decide_eq_true h2
  omega
 ·have e1 := of_decide_eq_true h1
  have e2 := of_decide_eq_true h2
  exact decide_eq_true (by omega)
 by_cases e : a ≤ b
 ·simp [e]
 have : b ≤ a := by omega
 simp [this]
structure Rel (pm : PM) (R : RP) : Prop where
 of : ∀ c, (ofP c R.1).map (fun x => x.2) = (plGet pm c).2
 top : ∀ c, topG R.2 c = (plGet pm c).1
 rise : (keyT R.2).Pairwise (· < ·)
 keys : ∀ x, x ∈ keyT R.2 ↔ x ∈ pm.map (·.1)
theorem Rel.len {pm : PM} {R : RP} (h : Rel pm R) (c : Int) : (ofP c R.1).length = (plGet pm c).2.length := by
 rw [← h.of c, List.length_map]
theorem Rel.clients {pm : PM} {R : RP} (h : Rel pm R) (hi : InvM pm) : keyT R.2 = cliM pm := keys_eq h.rise hi.keys h.keys
theorem Rel.list {pm : PM} {R : RP} (h : Rel pm R) (c : Int) : lsP (ofP c R.1) = lsM (plGet pm c).2 := by
 unfold lsP
 rw [h.of c]
theorem Rel.nil : Rel [] ([], []) where
 of _ := rfl
 top _ := rfl
 rise := List.Pairwise.nil
 keys x := by simp [keyT]
theorem ofP_snoc (c d : Int) (l : List (Int × Sp)) (s : Sp) : (ofP d (l ++ [(c, s)])).map (fun x => x.2) = (ofP d l).map (fun x => x.2) ++ if d = c then [s] else [] := by
 unfold ofP
 rw [List.filter_append, List.map_append]
 congr 1
 by_cases h : d = c
 ·rw [if_pos h, List.filter_cons, if_pos (decide_eq_true h.symm)]
  rfl
 rw [if_neg h, List.filter_cons, if_neg (fun e => h (of_decide_eq_true e).symm)]
 rfl
theorem plGet_setD (pm : PM) (c d : Int) (z : Int × List Sp) : plGet (plSet pm c z) d = if d = c then z else plGet pm d := by
 by_cases h : d = c
 ·rw [if_pos h, h]
  exact plGet_set ..
 rw [if_neg h]
 exact get_set_ne h
theorem Rel.put {pm : PM} {R : RP} (h : Rel pm R) (c n k t : Int) (es : List En) : Rel (plSet pm c (n, (plGet pm c).2 ++ [⟨n, k, t, es⟩])) (R.1 ++ [(c, ⟨n, k, t, es⟩)], putT c n R.2) where
 of d := by
  show (ofP d (R.1 ++ [(c, _)])).map _ = _
  rw [ofP_snoc, plGet_setD, h.of d]
  by_cases e : d = c
  ·rw [if_pos e, if_pos e, e]
  rw [if_neg e, if_neg e, List.append_nil]
 top d := by
  show topG (putT c n R.2) d = _
  rw [putT_ins h.rise, topG_ins, plGet_setD]
  by_cases e : d = c
  ·rw [if_pos e, if_pos e]
  rw [if_neg e, if_neg e, h.top d]
 rise := by
  show (keyT (putT c n R.2)).Pairwise _
  rw [putT_ins h.rise]
  exact keyT_rise h.rise
 keys x := by
  show x ∈ keyT (putT c n R.2) ↔ _
  rw [putT_ins h.rise, keyT_mem, set_keys, h.keys x]
  by_cases e : c ∈ pm.map (·.1)
  ·rw [if_pos e]
   exact ⟨fun k => k.elim (fun k => k ▸ e) id, .inr⟩
  rw [if_neg e, List.mem_append, List.mem_singleton]
  exact Or.comm
theorem rel_take {pm : PM} {R : RP} (h : Rel pm R) (c n k t : Int) (es : List En) : (takeR R c n k t es).1 = (takeM pm c n k t es).1 ∧ Rel (takeM pm c n k t es).2 (takeR R c n k t es).2 := by
 by_cases h0 : fitE c n k t es = 0
 ·by_cases h1 : n ≤ (plGet pm c).1
  ·rw [takeM_there h0 h1, takeR_there h0 (by rw [h.top]; exact h1)]
   exact ⟨rfl, h⟩
  have h1' : ¬ n ≤ topG R.2 c := by rw [h.top]; exact h1
  by_cases h2 : 64 ≤ ((plGet pm c).2.length : Int)
  ·rw [takeM_full h0 h1 h2, takeR_full h0 h1' (by rw [h.len]; exact h2)]
   exact ⟨rfl, h⟩
  rw [takeM_new h0 h1 h2, takeR_new h0 h1' (by rw [h.len]; exact h2)]
  exact ⟨rfl, h.put c n k t es⟩
 rw [takeM_fit h0, takeR_fit h0]
 exact ⟨rfl, h⟩
theorem plGet_cut (pm : PM) (c d : Int) (g : List Int) : plGet (plCut pm c g) d = if d = c then ((plGet pm c).1, cutL g (plGet pm c).2) else plGet pm d := by
 by_cases e : d = c
 ·subst e
  rw [if_pos rfl]
  induction pm with
  | nil =>
   show ((0 : Int), ([] : List Sp)) = (0, cutL g [])
   rw [cutL_filter]
   rfl
  | cons p pm ih =>
   obtain ⟨k, y⟩ := p
   rw [plCut]
   by_cases h : k = d
   ·rw [if_pos h, plGet, plGet, if_pos h, if_pos h]
   rw [if_neg h, plGet, plGet, if_neg h, if_neg h, ih]
 rw [if_neg e]
 exact get_cut_ne e
theorem ofP_cut (c n d : Int) (l : List (Int × Sp)) : (ofP d (cutQ c n l)).map (fun x => x.2) = if d = c then cutS n ((ofP d l).map fun x => x.2) else (ofP d l).map fun x => x.2 := by
 unfold ofP cutQ cutS
 rw [List.filter_filter]
 by_cases e : d = c
 ·rw [if_pos e, List.filter_map, List.filter_filter]
  congr 1
  refine List.filter_congr fun x _ => ?_
  by_cases h1 : x.1 = d
  ·have h2 : x.1 = c := h1.trans e
   simp [h1, h2, e]
  simp [h1]
 rw [if_neg e]
 congr 1
 refine List.filter_congr fun x _ => ?_
 by_cases h1 : x.1 = d
 ·have h2 : ¬ x.1 = c := fun k => e (h1.symm.trans k)
  simp [h1, e]
 simp [h1]
theorem ofP_cuts (c d : Int) (g : List Int) : ∀ l : List (Int × Sp), (ofP d (cutsQ c g l)).map (fun x => x.2) = if d = c then cutL g ((ofP d l).map fun x => x.2) else (ofP d l).map fun x => x.2 := by
 induction g with
 | nil =>
  intro l
  split <;> rfl
 | cons n g ih =>
  intro l
  show (ofP d (cutsQ c g (cutQ c n l))).map _ = _
  rw [ih, ofP_cut]
  by_cases e : d = c
  ·rw [if_pos e, if_pos e, if_pos e]
   rfl
  rw [if_neg e, if_neg e, if_neg e]
theorem Rel.cut {pm : PM} {R : RP} (h : Rel pm R) (c : Int) (g : List Int) : Rel (plCut pm c g) (cutsQ c g R.1, R.2) where
 of d := by
  show (ofP d (cutsQ c g R.1)).map _ = _
  rw [ofP_cuts, plGet_cut, h.of d]
  by_cases e : d = c
  ·rw [if_pos e, if_pos e, e]
  rw [if_neg e, if_neg e]
 top d := by
  show topG R.2 d = _
  rw [plGet_cut, h.top d]
  by_cases e : d = c
  ·rw [if_pos e, e]
  rw [if_neg e]
 rise := h.rise
 keys x := by
  rw [cut_keys]
  exact h.keys x
theorem rel_for {pm : PM} {R : RP} (h : Rel pm R) (c n : Int) : (forR R c n).1 = (forM pm c n).1 ∧ Rel (forM pm c n).2 (forR R c n).2 := by
 by_cases h1 : n < 1 ∨ (plGet pm c).1 < n
 ·rw [forM_no h1, forR_no (by rw [h.top]; exact h1)]
  exact ⟨rfl, h⟩
 have h2 : (forM pm c n).1 = 0 := by rw [forM_yes h1]
 rw [forR_yes (by rw [h.top]; exact h1), h2, forM_cut h2]
 exact ⟨rfl, h.cut c [n]⟩
theorem told_none {l : List (Int × Int)} {a b d : Int} {s : Bool} (h : ¬ toldE l a b d = 0) : toldM l a b d s = [] := by
 unfold toldE at h
 unfold toldM
 split
 ·rename_i h1
  rw [if_pos h1] at h
  split
  ·rename_i h2
   rw [if_pos h2] at h
   exact absurd rfl h
  rfl
 rfl
theorem Rel.snaps {pm : PM} {R : RP} (h : Rel pm R) (c : Int) : snP (ofP c R.1) = snM (plGet pm c).2 := by
 rw [← h.of c]
 unfold snP snM
 rw [List.map_map]
 rfl
theorem rel_exp {pm : PM} {R : RP} (h : Rel pm R) (c a b d : Int) : (expR R c a b d).1 = (expM pm c a b d).1 ∧ Rel (expM pm c a b d).2 (expR R c a b d).2 := by
 have hq := h.snaps c
 by_cases h0 : toldE (snM (plGet pm c).2) a b d = 0
 ·rw [expM_good rfl h0]
  unfold expR
  rw [hq, h0]
  exact ⟨rfl, h.cut c _⟩
 rw [expM_bad rfl rfl h0]
 unfold expR
 rw [hq, told_none h0]
 exact ⟨rfl, h⟩
theorem rel_get {pm : PM} {R : RP} (h : Rel pm R) (c n : Int) : getR R.1 c n = getM pm c n := by
 unfold getR getM
 rw [← h.of c, List.find?_map]
 cases hf : (ofP c R.1).find? ((fun s : Sp => decide (s.n = n)) ∘ fun x => x.2) with
 | none =>
  rw [show (ofP c R.1).find? (fun x => decide (x.2.n = n)) = none from hf]
  rfl
 | some x =>
  rw [show (ofP c R.1).find? (fun x => decide (x.2.n = n)) = some x from hf]
  rfl
theorem last_gen (k : Int) (l : List (Int × Sp)) : ∀ a : Int, l.foldl (fun a x => if x.2.c = k then x.2.n else a) a = match lastOf (l.map fun x => x.2) k with
 | some s => s.n
 | none => a := by
 induction l with
 | nil => exact fun a => rfl
 | cons x l ih =>
  intro a
  rw [List.foldl_cons, ih]
  have e : lastOf ((x :: l).map fun x => x.2) k = (lastOf (l.map fun x => x.2) k).or (if x.2.c = k then some x.2 else none) := by
   unfold lastOf
   rw [List.map_cons, List.reverse_cons, List.find?_append]
   congr 1
   rw [List.find?_cons]
   by_cases h : x.2.c = k
   ·rw [if_pos h, show decide (x.2.c = k) = true from decide_eq_true h]
   rw [if_neg h, show decide (x.2.c = k) = false from decide_eq_false h]
   rfl
  rw [e]
  cases lastOf (l.map fun x => x.2) k with
  | some s => rfl
  | none =>
   by_cases h : x.2.c = k
   ·rw [if_pos h, if_pos h]
    rfl
   rw [if_neg h, if_neg h]
   rfl
theorem rel_back {pm : PM} {R : RP} (h : Rel pm R) (hok : okM pm) (c k t : Int) (es : List En) : (backR R c k t es).1 = (backM pm c k t es).1 ∧ Rel (backM pm c k t es).2 (backR R c k t es).2 := by
 by_cases h0 : fitE c 1 k t es = 0
 ·have hg := last_gen k (ofP c R.1) 0
  rw [h.of c] at hg
  have hp : lastP k (ofP c R.1) = (match lastOf (plGet pm c).2 k with | some s => s.n | none => 0) := hg
  obtain ⟨⟨hg1, hg2⟩, hg3, hg4⟩ := hok.get c
  cases h1 : lastOf (plGet pm c).2 k with
  | some s =>
   rw [h1] at hp
   have hs := (hg4 s (lastOf_c h1)).1
   rw [backM_old h0 h1, backR_old h0 hp (by show 0 < s.n; omega)]
   exact ⟨rfl, h⟩
  | none =>
   rw [h1] at hp
   have hn : ¬ (0 : Int) < 0 := by decide
   by_cases h2 : (plGet pm c).1 = 2147483647
   ·rw [backM_max h0 h1 h2, backR_max h0 hp hn (by rw [h.top]; omega)]
    exact ⟨rfl, h⟩
   have h2' : ¬ 2147483647 < topG R.2 c + 1 := by rw [h.top]; omega
   have ht := rel_take h c (topG R.2 c + 1) k t es
   have he : topG R.2 c + 1 = (plGet pm c).1 + 1 := by rw [h.top]
   by_cases h3 : (takeM pm c ((plGet pm c).1 + 1) k t es).1 = 0
   ·have h3' : (takeR R c (topG R.2 c + 1) k t es).1 = 0 := by rw [ht.1, he]; exact h3
    rw [backM_new h0 h1 h2 rfl h3, backR_new h0 hp hn h2' rfl h3']
    exact ⟨by show (topG R.2 c + 1, (0 : Int)) = ((plGet pm c).1 + 1, 0); rw [he], by show Rel (takeM pm c ((plGet pm c).1 + 1) k t es).2 _; rw [← he]; exact ht.2⟩
   have h3' : ¬ (takeR R c (topG R.2 c + 1) k t es).1 = 0 := by rw [ht.1, he]; exact h3
   rw [backM_bad h0 h1 h2 rfl h3, backR_bad h0 hp hn h2' rfl h3']
   exact ⟨by show ((0 : Int), (takeR R c (topG R.2 c + 1) k t es).1) = (0, (takeM pm c ((plGet pm c).1 + 1) k t es).1); rw [ht.1, he], by show Rel (takeM pm c ((plGet pm c).1 + 1) k t es).2 _; rw [← he]; exact ht.2⟩
 rw [backM_fit h0, backR_fit h0]
 exact ⟨rfl, h⟩
theorem takes_next {α : Type} {a b : List α} {k : Nat} (h : a.take k = b.take k) (ha : k < a.length) (hb : k < b.length) (e : a[k] = b[k]) : a.take (k + 1) = b.take (k + 1) := by
 rw [List.take_succ_eq_append_getElem ha, List.take_succ_eq_append_getElem hb, h, e]
theorem takes_off {α : Type} {a b : List α} {k : Nat} (ha : k < a.length) (hb : k < b.length) (e : ¬ a[k] = b[k]) : ¬ a = b := fun h => by
 subst h
 exact e rfl
theorem takes_all {α : Type} {a b : List α} {k : Nat} (h : a.take k = b.take k) (ha : a.length ≤ k) (hb : b.length ≤ k) : a = b := by
 rwa [List.take_of_length_le ha, List.take_of_length_le hb] at h
set_option maxRecDepth 20000 in
set_option maxHeartbeats 4000000 in
theorem sameInts_tr {Pv Pu : Nat → Prop} (v u : Value) (a b : List Int) : Tr Tryz.prog 23 #[v, u] [slc rInt Pv v a, slc rInt Pu u b] [] (T0 (.bool (decide (a = b)))) := by
 refine Tr.of (l := [(0, v), (1, u)]) Tryz.func23 rfl (n := 26) rfl (.cons rfl (.cons rfl .nil)) (fun w0 hro => ?_)
 obtain ⟨hv, hu⟩ := ro2 hro
 obtain ⟨ad, ca, ba, oa, rfl, hca, hma, -, had, hea⟩ := Ro.open hv
 obtain ⟨ad2, cb, bb, ob, rfl, hcb, hmb, -, hbd, heb⟩ := Ro.open hu
 refine go [9,10,1,7,8,9,9,10,0,2,5,0,2,5,2,14,7,8] ?_
 refine G.condP rfl (fun h10 => ?_) (fun h10 => ?_)
 ·refine go [9,10,1,7,8,11,12] ?_
  exact G.done1 rfl rfl .nil ⟨congrArg Value.bool ((decide_eq_false (fun e => by subst e; omega)).symm), rfl⟩
 refine go [13,8,9,9,10,1,7,8,15] ?_
 refine G.loopK (X := Nat) (ts := [0, 1]) (fun k => k ≤ a.length ∧ (a.take k = b.take k)) (fun k => [(5, .int .i64 (k : Int))]) (fun k => []) (fun k => a.length - k) (x0 := 0) (.cons rfl (.cons rfl .nil)) subT (.cons .nil) apT (by first | exact trivial | ((try dsimp only) <;> exact ⟨Nat.zero_le _, (by rw [List.take_zero, List.take_zero])⟩)) (.consE rfl veqT .nil) (fun k hJ => ?_)
 try dsimp only at hJ
 try dsimp only
 obtain ⟨hkk, hJ⟩ := hJ
 refine go [9,9,10,0,0,2,5,2,9,7,8] ?_
 refine G.condP rfl (fun h14 => ?_) (fun h14 => ?_)
 ·have hka : k < a.length := by omega
  have hkb : k < b.length := by omega
  have hA := hea k hka
  have hB := heb k hkb
  refine go [13,8,9,15,9] ?_
  refine G.drawT (nn := 9) (p := []) (rem := 511) [0, 0, 3, 4, 0, 0, 48, 64, 136] [0, 0, 3, 4, 0, 0, 48, 64, 136] kr ⟨rfl, by kernel_rfl, by kernel_rfl⟩ subT kr (fun hT6 => ?_)
  refine go [22,0,510,0,22,1,508,0,22,2,504,20,1,22,4,488,0,22,5,456,0,22,6,392,20,1,22,3,384,4,24,7,256,25,4,26,22,8,0,14,27,8] ?_
  refine G.condP rfl (fun h25 => ?_) (fun h25 => ?_)
  ·refine go [9,10,1,7,8,11,17,12,12,17,12] ?_
   exact G.done1 rfl rfl .nil ⟨congrArg Value.bool ((decide_eq_false (takes_off hka hkb h25)).symm), rfl⟩
  refine go [13,16,8,10,0,2,6,1,7] ?_
  exact G.next (k + 1) (by first | exact trivial | ((try dsimp only) <;> exact ⟨by omega, takes_next hJ hka hkb (by first | exact Decidable.of_not_not h25 | (simpa using h25))⟩)) (by (try dsimp only); omega) (.consE rfl veqT (.cons rfl (.cons rfl .nil))) subT
 refine go [18,14,14,19,8,9,10,1,7,8,11] ?_
 exact G.done1 rfl rfl .nil ⟨congrArg Value.bool ((decide_eq_true (takes_all hJ (by omega) (by omega))).symm), rfl⟩
theorem sameInts_self {Ps Pu : Nat → Prop} (v u : Value) (xs : List Int) : Tr Tryz.prog 23 #[v, u] [slc rInt Ps v xs, slc rInt Pu u xs] [] (T0 (.bool true)) := by
 have := sameInts_tr (Pv := Ps) (Pu := Pu) v u xs xs
 rwa [decide_eq_true rfl] at this
theorem i7 : I64 7 := ⟨by decide, by decide⟩
theorem cli_i64 {pm : PM} (hok : okM pm) : ∀ k ∈ cliM pm, I64 k := fun k hk => by
 obtain ⟨p, hp, rfl⟩ := List.mem_map.1 ((keysM_perm _).mem_iff.1 hk)
 have h1 := (hok p hp).1
 exact ⟨by have := h1.1; omega, by have := h1.2; omega⟩
set_option maxRecDepth 20000 in
set_option maxHeartbeats 4000000 in
theorem same_tr30 (Dm bm : Nat) (st : MS) (Dr : Nat) (vL vT : Value) (L : List RS) (ts : List (Int × Int)) (c : Int) (hok : okM (plM st)) (hi : InvM (plM st)) (hrel : Rel (plM st) (plR L, ts)) (hc : I64 c) (hst : st.length ≤ 1000000) (hl : L.length ≤ 100000) (htl : ts.length ≤ 100000) : Tr Tryz.prog 8 #[.pointer (some ⟨Dm, 0, none⟩), .pointer (some ⟨Dr, 0, none⟩), .int .i64 c] [] [blk Dm 43 [.map (some bm)], mpc vInt I64 bm (ptrs st), clis st, blk Dr 29 [vL, vT], own 82 5 vL L.length (L.flatMap rsC), own 95 2 vT ts.length (ts.flatMap prC), trees (stR L)]
 (TX (fun _ : Unit => True) (fun _ => .bool true) (fun _ => [blk Dm 43 [.map (some bm)], mpc vInt I64 bm (ptrs st), clis st, blk Dr 29 [vL, vT], own 82 5 vL L.length (L.flatMap rsC), own 95 2 vT ts.length (ts.flatMap prC), trees (stR L)])) := by
 refine Tr.of (l := [(0, .pointer (some ⟨Dm, 0, none⟩)), (1, .pointer (some ⟨Dr, 0, none⟩)), (2, .int .i64 c)]) Tryz.func8 rfl (n := 30) rfl (.cons rfl (.cons rfl (.cons rfl .nil))) (fun w0 hro => ?_)
 have hcl : keyT ts = cliM (plM st) := hrel.clients hi
 have hls : lsP (ofP c (plR L)) = lsM (plGet (plM st) c).2 := hrel.list c
 have htp : topG ts c = (plGet (plM st) c).1 := hrel.top c
 refine go [9,10,1,7,8,9,10,0,0] ?_
 refine G.treesOne selT (fun hone0 => ?_)
 have hone := stR_one hone0
 refine G.op rfl (G.cS rfl rfl rfl rfl Tryz.func27 rfl rfl subT may0 (list_tr Dm bm st c hok hc) apT ?_)
 intro x9 hJ
 try dsimp only at hJ
 try dsimp only
 refine go [0,0] ?_
 refine G.op rfl (G.cS rfl rfl rfl rfl Tryz.func28 rfl rfl subT (may2 (Sel.may selT) (may_rs selT)) (rlist_tr (Ps := fun b => vL.ownBlock = some b) Dr vL vT L c hone hl) apT ?_)
 intro x12 hJ
 try dsimp only at hJ
 try dsimp only
 rw [hls]
 refine G.op rfl (G.cR rfl rfl rfl rfl Tryz.func26 rfl rfl (may2 (may_ls selT) (may_ls selT)) (slist_self _ _ (lsM (plGet (plM st) c).2)) ?_)
 refine go [0,3,0,3,0] ?_
 refine G.want rfl rfl rfl (G.cS rfl rfl rfl rfl Tryz.func29 rfl rfl subT may0 (great_tr Dm bm st c hok hc) apT ?_)
 intro x17 hJ
 try dsimp only at hJ
 try dsimp only
 refine go [3,0,3,0] ?_
 refine G.want rfl rfl rfl (G.cR rfl rfl rfl rfl Tryz.func30 rfl rfl (may2 (Sel.may selT) (may_tp selT)) (rgreat_tr (Pt := fun b => vT.ownBlock = some b) Dr vL vT ts c) ?_)
 rw [htp]
 refine G.want rfl rfl rfl (G.val rfl rfl ((pv_eql rfl rfl).cast (v' := .bool true) (congrArg Value.bool (decide_eq_true rfl))) ?_)
 refine go [2,2,0,3,0] ?_
 refine G.want rfl rfl rfl (G.cS rfl rfl rfl rfl Tryz.func31 rfl rfl subT may0 (clients_tr Dm bm st hst) apT ?_)
 intro x25 hJ
 try dsimp only at hJ
 try dsimp only
 refine go [3,0] ?_
 refine G.want rfl rfl rfl (G.cS rfl rfl rfl rfl Tryz.func32 rfl rfl subT (may2 (Sel.may selT) (may_tp selT)) (rclients_tr (Pt := fun b => vT.ownBlock = some b) Dr vL vT ts (by omega)) apT ?_)
 intro x27 hJ
 try dsimp only at hJ
 try dsimp only
 rw [hcl]
 refine G.want rfl rfl rfl (G.cR rfl rfl rfl rfl Tryz.func23 rfl rfl (may2 (may_own selT rfl (cli_i64 hok)) (may_own selT rfl (cli_i64 hok))) (sameInts_self _ _ (cliM (plM st))) ?_)
 refine go [2,2,1,7,8,11] ?_
 exact G.doneX1 (()) trT rfl rfl rfl subT
theorem rel_mem {pm : PM} {L : List RS} {ts : List (Int × Int)} (h : Rel pm (plR L, ts)) {x : RS} (hx : x ∈ L) : x.2.pl ∈ (plGet pm x.1).2 := by
 rw [← h.of x.1]
 refine List.mem_map.2 ⟨(x.1, x.2.pl), List.mem_filter.2 ⟨List.mem_map.2 ⟨x, hx, rfl⟩, by simp⟩, rfl⟩
theorem rel_facts {pm : PM} {L : List RS} {ts : List (Int × Int)} (h : Rel pm (plR L, ts)) (hok : okM pm) {x : RS} (hx : x ∈ L) : (I64 x.2.n ∧ I64 x.2.t) ∧ x.2.l.length ≤ 1000 ∧ ∀ e ∈ x.2.l, EnOk e.1 := by
 have hm := rel_mem h hx
 obtain ⟨⟨a1, a2⟩, -, a3⟩ := hok.get x.1
 obtain ⟨b1, b2, b3, b4, b5⟩ := a3 _ hm
 have c1 : 1 ≤ x.2.n ∧ x.2.n ≤ (plGet pm x.1).1 := b1
 have c3 : 0 ≤ x.2.t ∧ x.2.t ≤ 2147483647 := b3
 have c4 : (ens x.2.l).length ≤ 200 := b4
 rw [ens_length] at c4
 exact ⟨⟨⟨by omega, by omega⟩, ⟨by omega, by omega⟩⟩, by omega, fun e he => b5 _ (List.mem_map_of_mem he)⟩
theorem takeR_len (R : RP) (c n k t : Int) (es : List En) : (takeR R c n k t es).2.1.length ≤ R.1.length + 1 := by
 unfold takeR
 split
 ·exact Nat.le_succ _
 split
 ·exact Nat.le_succ _
 split
 ·exact Nat.le_succ _
 show (R.1 ++ [_]).length ≤ _
 rw [List.length_append]
 exact Nat.le_refl _
theorem backR_len (R : RP) (c k t : Int) (es : List En) : (backR R c k t es).2.1.length ≤ R.1.length + 1 := by
 unfold backR
 split
 ·exact Nat.le_succ _
 split
 ·exact Nat.le_succ _
 split
 ·exact Nat.le_succ _
 split
 ·exact takeR_len ..
 exact takeR_len ..
theorem forR_len (R : RP) (c n : Int) : (forR R c n).2.1.length ≤ R.1.length + 1 := by
 unfold forR
 split
 ·exact Nat.le_succ _
 exact Nat.le_succ_of_le (List.length_filter_le ..)
theorem cutsQ_len (c : Int) (g : List Int) : ∀ l : List (Int × Sp), (cutsQ c g l).length ≤ l.length := by
 induction g with
 | nil => exact fun l => Nat.le_refl _
 | cons n g ih => exact fun l => Nat.le_trans (ih (cutQ c n l)) (List.length_filter_le ..)
theorem expR_len (R : RP) (c a b d : Int) : (expR R c a b d).2.1.length ≤ R.1.length + 1 := Nat.le_succ_of_le (cutsQ_len ..)
structure Both (pm : PM) (R : RP) (i : Nat) : Prop where
 ok : okM pm
 inv : InvM pm
 rel : Rel pm R
 len : pm.length ≤ i
 lenR : R.1.length ≤ i
theorem Both.tops {pm : PM} {R : RP} {i : Nat} (h : Both pm R i) : R.2.length ≤ i := by
 have h1 := congrArg List.length (h.rel.clients h.inv)
 rw [keyT_len, cliM, (keysM_perm _).length_eq, List.length_map] at h1
 rw [h1]
 exact h.len
section
variable {pm : PM} {R : RP} {i : Nat} {c n k t : Int} {es : List En}
theorem Both.take (h : Both pm R i) (hen : ∀ e ∈ es, EnOk e) : Both (takeM pm c n k t es).2 (takeR R c n k t es).2 (i + 1) := by
 have hs := step_take (kd := 0) (cw := c + 1) (cm := k) (tk := t) h.ok h.inv (List.Perm.refl (flatM pm)) (by omega) hen (nn := n) (cl := c) (ee := _) rfl
 exact ⟨hs.ok, hs.inv, (rel_take h.rel c n k t es).2, by have := hs.len; have := h.len; omega, Nat.le_trans (takeR_len ..) (Nat.succ_le_succ h.lenR)⟩
theorem Both.back (h : Both pm R i) (hen : ∀ e ∈ es, EnOk e) : Both (backM pm c k t es).2 (backR R c k t es).2 (i + 1) := by
 have hs := step_back (kd := 1) (cw := c + 1) (cm := k) (tk := t) h.ok h.inv (List.Perm.refl (flatM pm)) (by omega) (by decide) hen (cl := c) (nn := _) (ee := _) rfl rfl
 exact ⟨hs.ok, hs.inv, (rel_back h.rel h.ok c k t es).2, by have := hs.len; have := h.len; omega, Nat.le_trans (backR_len ..) (Nat.succ_le_succ h.lenR)⟩
theorem Both.cut0 (h : Both pm R i) (g : List Int) : okM (plCut pm c g) ∧ InvM (plCut pm c g) ∧ (plCut pm c g).length ≤ i + 1 := by
 have e := congrArg List.length (cut_keys pm c g)
 rw [List.length_map, List.length_map] at e
 exact ⟨h.ok.cutM c g, h.inv.cut c g, by have := h.len; omega⟩
theorem Both.forget (h : Both pm R i) : Both (forM pm c n).2 (forR R c n).2 (i + 1) := by
 have hr := (rel_for h.rel c n).2
 have hl := Nat.le_trans (forR_len R c n) (Nat.succ_le_succ h.lenR)
 by_cases h1 : (forM pm c n).1 = 0
 ·rw [forM_cut h1] at hr ⊢
  obtain ⟨a, b, d⟩ := h.cut0 (c := c) [n]
  exact ⟨a, b, hr, d, hl⟩
 rw [forM_no0 h1] at hr ⊢
 exact ⟨h.ok, h.inv, hr, Nat.le_succ_of_le h.len, hl⟩
theorem Both.expire (h : Both pm R i) {a b d : Int} : Both (expM pm c a b d).2 (expR R c a b d).2 (i + 1) := by
 have hr := (rel_exp h.rel c a b d).2
 have hl := Nat.le_trans (expR_len R c a b d) (Nat.succ_le_succ h.lenR)
 by_cases h1 : (expM pm c a b d).1.2 = 0
 ·rw [expM_cut h1] at hr ⊢
  obtain ⟨e, f, g⟩ := h.cut0 (c := c) (expM pm c a b d).1.1
  exact ⟨e, f, hr, g, hl⟩
 rw [expM_no0 h1] at hr ⊢
 exact ⟨h.ok, h.inv, hr, Nat.le_succ_of_le h.len, hl⟩
end
theorem tree_yesZ {Ps Pu : Nat → Prop} (v u : Value) (xs ys : List ET) (h : ens xs = ens ys) : Tr Tryz.prog 15 #[v, u] [slc rEV Ps v xs, slc rEV Pu u ys] [] (T0 (.bool true)) := by
 have := sameTree_tr (Ps := Ps) (Pu := Pu) v u xs ys
 rwa [decide_eq_true h] at this
theorem get_okZ {pm : PM} (hok : okM pm) (c n : Int) : (getM pm c n).1.length ≤ 200 ∧ ∀ e ∈ (getM pm c n).1, EnOk e := by
 unfold getM
 cases hf : (plGet pm c).2.find? fun s => decide (s.n = n) with
 | none => exact ⟨Nat.zero_le _, fun e he => by cases he⟩
 | some s =>
  obtain ⟨-, -, -, b4, b5⟩ := (hok.get c).2.2 s (List.mem_of_find?_eq_some hf)
  exact ⟨b4, b5⟩
theorem Both.mono {pm : PM} {R : RP} {i : Nat} (h : Both pm R i) : Both pm R (i + 1) := ⟨h.ok, h.inv, h.rel, Nat.le_succ_of_le h.len, Nat.le_succ_of_le h.lenR⟩
theorem expZ_i64 {pm : PM} (hok : okM pm) (c a b d : Int) : ∀ x ∈ (expM pm c a b d).1.1, I64 x := by
 have h : ∀ s ∈ snM (plGet pm c).2, I64 s.1 := fun s hs => by
  obtain ⟨t, ht, rfl⟩ := List.mem_map.1 hs
  obtain ⟨h1, h2, h3⟩ := hok.get c
  have := (h3 t ht).1
  exact ⟨by show -9223372036854775808 ≤ t.n; omega, by show t.n ≤ 9223372036854775807; omega⟩
 unfold expM
 split
 ·show ∀ x ∈ toldM _ _ _ _ _, I64 x
  unfold toldM
  split
  ·split
   ·exact toldTo_mem (Nat.le_refl _) h
   exact fun x hx => by cases hx
  exact fun x hx => by cases hx
 exact fun x hx => by cases hx
set_option maxRecDepth 20000 in
set_option maxHeartbeats 4000000 in
theorem act_tr30 {Ps : Nat → Prop} (Dm bm : Nat) (st : MS) (Dr : Nat) (vL vT : Value) (L : List RS) (ts : List (Int × Int)) (i : Nat) (x : Ac) (v : Value) (es : List ET) (hb : Both (plM st) (plR L, ts) i) (h500 : i ≤ 500) (hx : AcOk x) (hn : es.length ≤ 1000) : Tr Tryz.prog 7 #[.pointer (some ⟨Dm, 0, none⟩), .pointer (some ⟨Dr, 0, none⟩), .agg #[.int .i64 x.kd, .int .i64 x.cl, .int .i64 x.n, .int .i64 x.cm, .int .i64 x.tk, v, .int .i64 x.pa, .int .i64 x.pb, .int .i64 x.pc]] [slc rEV Ps v es] [blk Dm 43 [.map (some bm)], mpc vInt I64 bm (ptrs st), clis st, blk Dr 29 [vL, vT], own 82 5 vL L.length (L.flatMap rsC), own 95 2 vT ts.length (ts.flatMap prC), trees (stR L)]
 (TX (fun z : MS × RZ => Both (plM z.1) (RZ.pl z.2) (i + 1)) (fun _ => .bool true) (fun z => [blk Dm 43 [.map (some bm)], mpc vInt I64 bm (ptrs z.1), clis z.1, blk Dr 29 [z.2.a, z.2.b], own 82 5 z.2.a z.2.L.length (z.2.L.flatMap rsC), own 95 2 z.2.b z.2.ts.length (z.2.ts.flatMap prC), trees (stR z.2.L)])) := by
 refine Tr.of (l := [(0, .pointer (some ⟨Dm, 0, none⟩)), (1, .pointer (some ⟨Dr, 0, none⟩)), (2, .agg #[.int .i64 x.kd, .int .i64 x.cl, .int .i64 x.n, .int .i64 x.cm, .int .i64 x.tk, v, .int .i64 x.pa, .int .i64 x.pb, .int .i64 x.pc])]) Tryz.func7 rfl (n := 185) rfl (.cons rfl (.cons rfl (.cons rfl .nil))) (fun w0 hro => ?_)
 have hv0 := ro1 hro
 have hv := hv0
 obtain ⟨aD, cD, bD, oD, rfl, hcD, hmD, -, -, helD⟩ := Ro.openT hv0
 obtain ⟨o1, o2, o3, o4, o5, o6⟩ := hx
 have hok := hb.ok
 have hrel := hb.rel
 have hen : ∀ e ∈ ens es, EnOk e := fun e he => by obtain ⟨y, hy, rfl⟩ := List.mem_map.1 he; obtain ⟨q, hq, rfl⟩ := List.getElem_of_mem hy; exact Ro.evOk (helD q hq)
 have hlL : L.length ≤ 1000 := by have := hb.lenR; have e : (plR L).length = L.length := plR_len L; replace this : (plR L).length ≤ i := this; omega
 have hlT : ts.length ≤ 1000 := Nat.le_trans hb.tops (by omega)
 have htop : 0 ≤ topG ts x.cl ∧ topG ts x.cl ≤ 2147483647 := by rw [hrel.top x.cl]; exact (hok.get x.cl).1
 refine go [9,10] ?_
 refine G.op rfl (G.box rfl rfl (cs := [_, _, _, _, _, _, _, _, _]) rfl ?_)
 intro b5
 refine go [1,7,8,9,10,2,3,5,2,4] ?_
 refine G.op rfl (G.cS rfl rfl rfl rfl Tryz.func12 rfl rfl subT (may1 (.old hv)) (copyT_tr _ es hn) apT ?_)
 intro x26 hJ
 obtain ⟨w', ys⟩ := x26
 try dsimp only at hJ
 try dsimp only
 have hys : ens ys = ens es := hJ
 have hyl : ys.length ≤ 1000 := by rw [← ens_length, hys, ens_length]; exact hn
 have hyok : ∀ y ∈ ys, EnOk y.1 := fun y hy => hen _ (hys ▸ List.mem_map_of_mem hy)
 refine go [1,7,8,9,9,10,2,3,0,2,4,7,8,15,9,10,2,13,1,7,8] ?_
 refine G.condP rfl (fun h29 => ?_) (fun h29 => ?_)
 ·refine go [9,10,0,2,3,1,2,4,2,3,2,2,4,2,3,3,2,4,2,3,4,2,4,0] ?_
  refine G.op rfl (G.cS rfl rfl rfl rfl Tryz.func13 rfl rfl subT (may1 (may_tree selT selT hyok)) (mtake_tr Dm bm st x.cl x.n x.cm x.tk _ ys hok o2) apT ?_)
  intro x41 hJ
  try dsimp only at hJ
  try dsimp only
  rw [hys] at hJ ⊢
  have hm := hJ
  refine go [1,7,8,9,10,0,0,2,3,1,2,4,2,3,2,2,4,2,3,3,2,4,2,3,4,2,4,2,3,5,2,4] ?_
  refine G.op rfl (G.cS rfl rfl rfl rfl Tryz.func14 rfl rfl subT (may1 (.old hv)) (rtake_tr Dr vL vT L ts x.cl x.n x.cm x.tk _ es (by omega) (by omega)) apT ?_)
  intro x54 hJ
  try dsimp only at hJ
  try dsimp only
  rw [(rel_take hrel x.cl x.n x.cm x.tk (ens es)).1]
  have hB := hb.take (c := x.cl) (n := x.n) (k := x.cm) (t := x.tk) hen
  rw [← hm, ← hJ] at hB
  refine G.op rfl (G.val rfl rfl ((pv_eql rfl rfl).cast (v' := .bool true) (congrArg Value.bool (decide_eq_true rfl))) ?_)
  refine go [0,3,0,3,3,5,3,4] ?_
  refine G.want rfl rfl rfl (G.cR rfl rfl rfl rfl Tryz.func15 rfl rfl (may2 (may_tree selT selT hyok) (.old hv)) (tree_yesZ _ _ ys es hys) ?_)
  refine go [2,2,1,7,8,9,10,0] ?_
  refine G.op rfl (G.cS rfl rfl rfl rfl Tryz.func16 rfl rfl subT may0 (overT_tr _ ys hyl) apT ?_)
  intro x63 hJ
  try dsimp only at hJ
  try dsimp only
  refine go [7,8,9,10,0,1,7,8,11,17,12] ?_
  exact G.doneX1 ((x41, x54)) (by first | exact trivial | ((try dsimp only) <;> exact hB)) rfl rfl rfl subT
 refine G.seq ?_
 refine G.cutK (X := Unit) (ts := [0, 1, 5, 6, 7, 28]) (p := []) (fun _ => True) (fun _ => [(65, .bool (decide (x.kd = 1 ∨ x.kd = 2 ∨ x.kd = 3)))]) (fun _ => []) (.cons rfl (.cons rfl (.cons rfl (.cons rfl (.cons rfl (.cons rfl .nil)))))) subT (.cons .nil) apT ?_ ?_
 ·refine go [9,10,2,13,1,7,8] ?_
  refine G.condP rfl (fun h65 => ?_) (fun h65 => ?_)
  ·refine G.skip ?_
   exact G.meet (()) trT (.consE rfl (by exact dec_e (by omega)) (.cons rfl (.cons rfl (.cons rfl (.cons rfl (.cons rfl (.cons rfl .nil))))))) subT
  refine go [9,10,2,13,1,7,8] ?_
  refine G.condP rfl (fun h65 => ?_) (fun h65 => ?_)
  ·refine G.skip ?_
   exact G.meet (()) trT (.consE rfl (by exact dec_e (by omega)) (.cons rfl (.cons rfl (.cons rfl (.cons rfl (.cons rfl (.cons rfl .nil))))))) subT
  refine go [10,2,13,1,7] ?_
  exact G.meet (()) trT (.consE rfl (by exact dec_e (by omega)) (.cons rfl (.cons rfl (.cons rfl (.cons rfl (.cons rfl (.cons rfl .nil))))))) subT
 intro _ hJ
 try dsimp only at hJ
 try dsimp only
 refine G.condP rfl (fun h65 => ?_) (fun h65 => ?_)
 ·refine go [9,10,0,2,3,1,2,4,2,3,3,2,4,2,3,4,2,4,0] ?_
  refine G.op rfl (G.cS rfl rfl rfl rfl Tryz.func17 rfl rfl subT (may1 (may_tree selT selT hyok)) (mback_tr Dm bm st x.cl x.cm x.tk _ ys hok o2) apT ?_)
  intro x78 hJ
  try dsimp only at hJ
  try dsimp only
  rw [hys] at hJ ⊢
  have hm := hJ
  refine go [0,2,7,2,7,1,1,7,8,9,10,0,2,3,1,2,4,2,3,3,2,4,2,3,4,2,4,2,3,5,2,4] ?_
  refine G.op rfl (G.cS rfl rfl rfl rfl Tryz.func18 rfl rfl subT (may1 (.old hv)) (rback_tr Dr vL vT L ts x.cl x.cm x.tk _ es (by omega) (by omega) htop) apT ?_)
  intro x91 hJ
  try dsimp only at hJ
  try dsimp only
  rw [(rel_back hrel hok x.cl x.cm x.tk (ens es)).1]
  have hB := hb.back (c := x.cl) (k := x.cm) (t := x.tk) hen
  rw [← hm, ← hJ] at hB
  refine go [0,2,7,2,7,1,1,7,8,9,10,0,0] ?_
  refine G.op rfl (G.val rfl rfl ((pv_eql rfl rfl).cast (v' := .bool true) (congrArg Value.bool (decide_eq_true rfl))) ?_)
  refine go [0,3,0,3,0] ?_
  refine G.want rfl rfl rfl (G.val rfl rfl ((pv_eql rfl rfl).cast (v' := .bool true) (congrArg Value.bool (decide_eq_true rfl))) ?_)
  refine go [2,2,0,3,0,3,3,5,3,4] ?_
  refine G.want rfl rfl rfl (G.cR rfl rfl rfl rfl Tryz.func15 rfl rfl (may2 (may_tree selT selT hyok) (.old hv)) (tree_yesZ _ _ ys es hys) ?_)
  refine go [2,2,1,7,8,9,10,0] ?_
  refine G.op rfl (G.cS rfl rfl rfl rfl Tryz.func16 rfl rfl subT may0 (overT_tr _ ys hyl) apT ?_)
  intro x109 hJ
  try dsimp only at hJ
  try dsimp only
  refine go [7,8,9,10,0,1,7,8,11,17,12] ?_
  exact G.doneX1 ((x78, x91)) (by first | exact trivial | ((try dsimp only) <;> exact hB)) rfl rfl rfl subT
 refine go [9,10,2,13,1,7,8] ?_
 refine G.condP rfl (fun h111 => ?_) (fun h111 => ?_)
 ·refine G.seq ?_
  refine G.cutK (X := MS × RZ) (ts := []) (p := [blk Dm 43 _, mpc vInt I64 bm _, clis _, blk Dr 29 _, own 82 5 _ _ _, own 95 2 _ _ _, trees _]) (fun st => Both (plM st.1) (RZ.pl st.2) (i + 1)) (fun st => [(6, .bool true)]) (fun st => [blk Dm 43 [.map (some bm)], mpc vInt I64 bm (ptrs st.1), clis st.1, blk Dr 29 [st.2.a, st.2.b], own 82 5 st.2.a st.2.L.length (st.2.L.flatMap rsC), own 95 2 st.2.b st.2.ts.length (st.2.ts.flatMap prC), trees (stR st.2.L)]) .nil subT (.cons .nil) apT ?_ ?_
  ·refine G.drawT (nn := 14) (p := [blk Dm 43 _, mpc vInt I64 bm _, clis _, blk Dr 29 _, own 82 5 _ _ _, own 95 2 _ _ _, trees _]) (rem := 16383) [0, 0, 2, 0, 8, 21, 0, 0, 128, 0, 512, 1376, 2080, 8191] [0, 0, 2, 0, 8, 21, 0, 0, 128, 0, 512, 1344, 2080, 4096] kr ⟨rfl, by kernel_rfl, by kernel_rfl⟩ subT kr (fun hT17 => ?_)
   refine go [22,0,16382,0,22,1,16380,3,1,22,3,16372,3,2,22,6,16308,0,22,7,16180,3,1,22,9,15668,3,2,22,2,15664,4,22,4,15648,4,22,8,15392,4,22,10,14368,4,24,5,14336] ?_
   refine G.turnOp rfl rfl (G.cS rfl rfl rfl rfl Tryz.func19 rfl rfl subT may0 (mforget_tr Dm bm st x.cl x.n hok o2) apT ?_)
   intro x118 hJ
   try dsimp only at hJ
   try dsimp only
   have hm := hJ
   refine go [26,24,11,12288] ?_
   refine G.turnOp rfl rfl (G.cS rfl rfl rfl rfl Tryz.func20 rfl rfl subT may0 (rforget_tr Dr vL vT L ts x.cl x.n (by omega)) apT ?_)
   intro x124 hJ
   try dsimp only at hJ
   try dsimp only
   rw [(rel_for hrel x.cl x.n).1]
   have hB := hb.forget (c := x.cl) (n := x.n)
   rw [← hm, ← hJ] at hB
   refine go [26] ?_
   refine G.takeT hT17 (i := 12) (rem' := 8192) rfl rfl rfl kr (fun _ _ _ h => h) rfl ((pv_eql rfl rfl).cast (v' := .bool true) (congrArg Value.bool (decide_eq_true rfl))) subT ?_
   refine go [22,13,0,1,27] ?_
   exact G.meet ((x118, x124)) (by first | exact trivial | ((try dsimp only) <;> exact hB)) (.consE rfl veqT .nil) subT
  intro st hJ
  obtain ⟨ms, zr⟩ := st
  try dsimp only at hJ
  try dsimp only
  refine go [11,17,12] ?_
  exact G.doneX1 ((ms, zr)) Y28 rfl rfl rfl subT
 refine go [9,10,2,13,1,7,8] ?_
 refine G.condP rfl (fun h126 => ?_) (fun h126 => ?_)
 ·refine go [9,10,0,2,3,1,2,4,2,3,6,2,50,3] ?_
  refine G.op rfl (G.cS rfl rfl rfl rfl Tryz.func21 rfl rfl subT may0 (mexpire_tr Dm bm st x.cl x.pa x.pb x.pc hok o2) apT ?_)
  intro x134 hJ
  obtain ⟨y134, x134⟩ := x134
  try dsimp only at hJ
  try dsimp only
  have hm := hJ
  refine G.ownFact (v := y134) selT (fun hy134 _ => ?_)
  refine go [0,2,7,2,7,1,1,7,8,9,10,0,2,3,1,2,4,2,3,6,2,50,3] ?_
  refine G.op rfl (G.cS rfl rfl rfl rfl Tryz.func22 rfl rfl subT may0 (rexpire_tr Dr vL vT L ts x.cl x.pa x.pb x.pc hlL (fun y hy => (rel_facts hrel hok hy).1)) apT ?_)
  intro x143 hJ
  obtain ⟨y143, x143⟩ := x143
  try dsimp only at hJ
  try dsimp only
  rw [(rel_exp hrel x.cl x.pa x.pb x.pc).1]
  have hB := hb.expire (c := x.cl) (a := x.pa) (b := x.pb) (d := x.pc)
  rw [← hm, ← hJ] at hB
  refine G.ownFact (v := y143) selT (fun hy143 _ => ?_)
  refine go [0,2,7,2,7,1,1,7,8,9,10,0,0] ?_
  refine G.op rfl (G.cR rfl rfl rfl rfl Tryz.func23 rfl rfl (may2 (may_own selT rfl (expZ_i64 hok x.cl x.pa x.pb x.pc)) (may_own selT rfl (expZ_i64 hok x.cl x.pa x.pb x.pc))) (sameInts_self _ _ (expM (plM st) x.cl x.pa x.pb x.pc).1.1) ?_)
  refine go [0,3,0,3,0] ?_
  refine G.want rfl rfl rfl (G.val rfl rfl ((pv_eql rfl rfl).cast (v' := .bool true) (congrArg Value.bool (decide_eq_true rfl))) ?_)
  refine go [2,2,1,7,8,11,17,12] ?_
  exact G.doneX1 ((x134, x143)) (by first | exact trivial | ((try dsimp only) <;> exact hB)) rfl rfl rfl subT
 refine go [9,10,2,13,1,7,8] ?_
 refine G.condP rfl (fun h154 => ?_) (fun h154 => ?_)
 ·refine go [9,10,0,2,3,1,2,4,2,3,2,2,4] ?_
  refine G.op rfl (G.cS rfl rfl rfl rfl Tryz.func24 rfl rfl subT may0 (mget_tr Dm bm st x.cl x.n hok o2) apT ?_)
  intro x162 hJ
  obtain ⟨y162, t162⟩ := x162
  try dsimp only at hJ
  try dsimp only
  have hm := hJ
  refine go [0,2,7,2,7,1,1,7,8,9,10,0,2,3,1,2,4,2,3,2,2,4] ?_
  refine G.op rfl (G.cS rfl rfl rfl rfl Tryz.func25 rfl rfl subT may0 (rget_tr Dr vL vT L ts x.cl x.n (by omega) (fun y hy => (rel_facts hrel hok hy).2)) apT ?_)
  intro x171 hJ
  obtain ⟨y171, t171⟩ := x171
  try dsimp only at hJ
  try dsimp only
  have hg := rel_get hrel x.cl x.n
  rw [show getR (plR L) x.cl x.n = getM (plM st) x.cl x.n from hg] at hJ ⊢
  have hgg : ens t162 = ens t171 := hm.trans hJ.symm
  obtain ⟨hk1, hk2⟩ := get_okZ hok x.cl x.n
  have e1 : ∀ y ∈ t162, EnOk y.1 := fun y hy => hk2 _ (hm ▸ List.mem_map_of_mem hy)
  have e2 : ∀ y ∈ t171, EnOk y.1 := fun y hy => hk2 _ (hJ ▸ List.mem_map_of_mem hy)
  have hk3 : t162.length ≤ 1000 := by rw [← ens_length, hm]; omega
  refine go [0,2,7,2,7,1,1,7,8,9,10,0,0] ?_
  refine G.op rfl (G.cR rfl rfl rfl rfl Tryz.func15 rfl rfl (may2 (may_tree selT selT e1) (may_tree selT selT e2)) (tree_yesZ _ _ t162 t171 hgg) ?_)
  refine go [0,3,0,3,0] ?_
  refine G.want rfl rfl rfl (G.val rfl rfl ((pv_eql rfl rfl).cast (v' := .bool true) (congrArg Value.bool (decide_eq_true rfl))) ?_)
  refine go [2,2,1,7,8,9,10,0] ?_
  refine G.op rfl (G.cS rfl rfl rfl rfl Tryz.func16 rfl rfl subT may0 (overT_tr _ t162 hk3) apT ?_)
  intro x183 hJ
  try dsimp only at hJ
  try dsimp only
  refine go [7,8,9,10,0,1,7,8,11,17,12] ?_
  exact G.doneX1 ((st, (⟨vL, L, vT, ts⟩ : RZ))) (by first | exact trivial | ((try dsimp only) <;> exact hb.mono)) rfl rfl rfl subT
 refine go [13,16,8,9,10,1,7,8,11] ?_
 exact G.doneX1 ((st, (⟨vL, L, vT, ts⟩ : RZ))) (by first | exact trivial | ((try dsimp only) <;> exact hb.mono)) rfl rfl rfl subT
set_option maxRecDepth 20000 in
set_option maxHeartbeats 4000000 in
theorem mscript {Ps : Nat → Prop} (v : Value) (xs : List AT) : Tr Tryz.prog 3 #[v] [slc rAT Ps v xs] [] (T0 (.bool true)) := by
 refine Tr.of (l := [(0, v)]) Tryz.func3 rfl (n := 43) rfl (.cons rfl .nil) (fun w0 hro => ?_)
 have hv0 := ro1 hro
 obtain ⟨av, cv, bv, fv, rfl, hcapv, hmaxv, hnilv, hadv, helv⟩ := Ro.open hv0
 refine go [9,10,1,7,8,9,10] ?_
 refine G.op rfl (G.cS rfl rfl rfl rfl Tryz.func5 rfl rfl subT may0 (mnew_tr) apT ?_)
 intro x6 hJ
 obtain ⟨Dm, bm⟩ := x6
 try dsimp only at hJ
 try dsimp only
 refine G.op rfl (G.val rfl rfl (pv_buildSt (z := [.slice none 0 0, .slice none 0 0]) (pl := [(0, 1), (1, 1)]) Tryz.underlying29 kr kr rfl flT) ?_)
 refine G.op rfl (G.box rfl rfl (cs := [_, _]) rfl ?_)
 intro b8
 obtain ⟨Dr, hDr⟩ : ∃ Dr, b8 = Dr := ⟨_, rfl⟩
 rw [hDr]
 refine go [1,1,7,8,9,9] ?_
 refine G.cutK (X := Unit) (ts := [0, 2, 3, 4]) (p := []) (fun _ => True) (fun _ => [(14, .bool (decide (longP xs)))]) (fun _ => []) (.cons rfl (.cons rfl (.cons rfl (.cons rfl .nil)))) subT (.cons .nil) apT ?_ ?_
 ·refine go [10,0] ?_
  refine G.op rfl (G.cR rfl rfl rfl rfl Tryz.func6 rfl rfl (may1 (.old hv0)) (long_tr _ xs) ?_)
  refine go [0] ?_
  refine G.partP (t := 11) rfl (fun h11 => ?_) (fun h11 => ?_)
  ·refine go [4,4,2,2,7] ?_
   exact G.meet (()) trT (.consE rfl (by first | rfl | exact dec_t (by assumption) | exact dec_f (by assumption)) (.cons rfl (.cons rfl (.cons rfl (.cons rfl .nil))))) subT
  refine go [3,0] ?_
  refine G.want rfl rfl rfl (G.val rfl rfl (pv_eqlP0 Tryz.underlying23 rfl rfl) ?_)
  refine go [2,2,7] ?_
  exact G.meet (()) trT (.consE rfl (by first | rfl | exact dec_t (by assumption) | exact dec_f (by assumption)) (.cons rfl (.cons rfl (.cons rfl (.cons rfl .nil))))) subT
 intro _ hJ
 try dsimp only at hJ
 try dsimp only
 refine G.condP rfl (fun h14 => ?_) (fun h14 => ?_)
 ·refine go [9,10,0] ?_
  refine G.op rfl (G.val rfl rfl (pv_neqP0 Tryz.underlying23 rfl rfl) ?_)
  refine go [1,7,8,11,12] ?_
  exact G.done0G rfl (Rv.tmp rfl Rv.nil) Y8
 have hnl : ¬ longP xs := by assumption
 obtain ⟨hx40, hbig⟩ := long_all hnl
 refine go [13,8,9,9,10,1,7,8,15] ?_
 refine G.ownNil 82 5 ?_
 refine G.ownNil 95 2 ?_
 refine G.treesNil ?_
 refine G.loopK (X := Nat × MS × Value × (List RS) × Value × (List (Int × Int))) (ts := [0, 3, 4]) (fun st => st.1 ≤ xs.length ∧ (Both (plM st.2.1) (plR st.2.2.2.1, st.2.2.2.2.2) st.1)) (fun st => [(5, .int .i64 (st.1 : Int))]) (fun st => [blk Dm 43 [.map (some bm)], mpc vInt I64 bm (ptrs st.2.1), clis st.2.1, blk Dr 29 [st.2.2.1, st.2.2.2.2.1], own 82 5 st.2.2.1 st.2.2.2.1.length (st.2.2.2.1.flatMap rsC), own 95 2 st.2.2.2.2.1 st.2.2.2.2.2.length (st.2.2.2.2.2.flatMap prC), trees (stR st.2.2.2.1)]) (fun st => xs.length - st.1) (x0 := (0, ([] : MS), .slice none 0 0, [], .slice none 0 0, [])) (.cons rfl (.cons rfl (.cons rfl .nil))) subT (.cons .nil) apT (by first | exact trivial | ((try dsimp only) <;> exact ⟨Nat.zero_le _, ⟨ok0M, ⟨List.nodup_nil, fun p hp => by cases hp⟩, Rel.nil, Nat.le_refl _, Nat.le_refl _⟩⟩)) (.consE rfl veqT .nil) (fun st hJ => ?_)
 obtain ⟨i, ms, vL, L, vT, ts⟩ := st
 try dsimp only at hJ
 try dsimp only
 obtain ⟨hki, hJ⟩ := hJ
 have hb := hJ
 refine go [9,9,10,0,0,2,5,2,9,7,8] ?_
 refine G.condP rfl (fun h20 => ?_) (fun h20 => ?_)
 ·have hlt : i < xs.length := by omega
  have hE := helv i hlt
  have hR := Ro.atRng hE
  have hD := Ro.atTree hE
  have hO := Ro.atOk hE
  obtain ⟨aD, cD, hx2⟩ := Ro.slv hD
  have hnb := hbig _ (List.getElem_mem hlt)
  have hl20 : xs[i].2.2.length ≤ 1000 := by unfold bigM at hnb; rw [ens_length] at hnb; omega
  refine go [13,8,9,15,9,10,0,0,0,0] ?_
  refine G.op rfl (G.val rfl rfl (pv_ixSl (sz := 9) (k := i) Tryz.underlying22 kr rfl rfl Y18 rfl (by omega)) ?_)
  refine G.op rfl (G.val rfl rfl (pv_loadN (cs := [.int .i64 xs[i].1.kd, .int .i64 xs[i].1.cl, .int .i64 xs[i].1.n, .int .i64 xs[i].1.cm, .int .i64 xs[i].1.tk, xs[i].2.1, .int .i64 xs[i].1.pa, .int .i64 xs[i].1.pb, .int .i64 xs[i].1.pc]) Tryz.underlying36 rfl kr rfl (fun w hw => hR.at hw)) ?_)
  refine G.op rfl (G.cS rfl rfl rfl rfl Tryz.func7 rfl rfl subT (may1 (.old hD)) (act_tr30 Dm bm ms Dr vL vT L ts i xs[i].1 _ xs[i].2.2 hb (by omega) hO hl20) apT ?_)
  intro x29 hJ
  obtain ⟨ms2, vL2, L2, vT2, ts2⟩ := x29
  try dsimp only at hJ
  try dsimp only
  have hb2 : Both (plM ms2) (plR L2, ts2) (i + 1) := hJ
  have hl2 : L2.length ≤ i + 1 := by have := hb2.lenR; rw [← plR_len L2]; exact this
  have hs2 : ms2.length ≤ i + 1 := by have := hb2.len; rw [plM_len] at this; exact this
  have ht2 : ts2.length ≤ i + 1 := hb2.tops
  refine go [2,25,0,3,0,3,0,3,0,3,0] ?_
  refine G.want rfl rfl rfl (G.val rfl rfl (pv_ixSl (sz := 9) (k := i) Tryz.underlying22 kr rfl rfl Y18 rfl (by omega)) ?_)
  refine go [3,3,1] ?_
  refine G.want rfl rfl rfl (G.val rfl rfl (pv_load (v := .int .i64 xs[i].1.cl) Tryz.underlying3 rfl rfl (ro_rngC hR rfl)) ?_)
  refine G.want rfl rfl rfl (G.cS rfl rfl rfl rfl Tryz.func8 rfl rfl subT may0 (same_tr30 Dm bm ms2 Dr vL2 vT2 L2 ts2 xs[i].1.cl hb2.ok hb2.inv hb2.rel hO.2.1 (by omega) (by omega) (by omega)) apT ?_)
  intro x39 hJ
  try dsimp only at hJ
  try dsimp only
  refine go [3,25,2,2,7,8,60,0,13,16,8,10,0,2,6,1,7] ?_
  exact G.next ((i + 1, (ms2, vL2, L2, vT2, ts2))) (by first | exact trivial | ((try dsimp only) <;> exact ⟨by omega, hb2⟩)) (by (try dsimp only); omega) (.consE rfl veqT (.cons rfl (.cons rfl (.cons rfl .nil)))) subT
 refine go [18,14,14,19,8,9,10] ?_
 refine G.op rfl (G.cR rfl rfl rfl rfl Tryz.func9 rfl rfl may0 (awake30_tr) ?_)
 refine go [1,7,8,11] ?_
 exact G.done0G rfl (Rv.tmp rfl Rv.nil) Y8
end Go.Proofs.YtakeannapfaodaaGreat
set_option maxRecDepth 100000
set_option linter.unusedVariables false
set_option linter.unusedSimpArgs false
namespace Go.Proofs.YtakeannapfaodaaGreat
open Go.ChangeShapes Go.WideShapes Go.ChangeAt Go.RowKit Go.Deep
section
variable {H : Type} {enc : TypeId × Value → H} {W : World}
theorem opn_weak {P : Program} {α β : Type} {t : TypeId} {E : Rdr α} {F : Rdr β} (h : Opn H enc P W t E) (hs : E.sz = F.sz) (hf : ∀ Ps w b o a, E.R Ps w b o a → ∃ a', F.R Ps w b o a') : Opn H enc P W t F := ⟨h.sz.trans hs, fun fuel cs x b o hx hwt hA hb => by
 obtain ⟨a, ha⟩ := h.mem fuel cs x b o hx hwt hA hb
 exact hf _ _ _ _ _ ha⟩
theorem opn_entry : Opn H enc Tryz.prog W 69 rEV := by
 refine opn_weak (opn_struct Tryz.underlying69 (F := rProd rStrB (rProd rInt (rProd rInt (rProd (rSlB rByte) (rProd rStrB rUnit))))) kr
  (.cons (opn_str Tryz.underlying9 kr) rfl (.cons (opn_int Tryz.underlying3 kr) rfl (.cons (opn_int Tryz.underlying3 kr) rfl
   (.cons (opn_rSl Tryz.underlying67 kr (of_decide_eq_true kr) (opn_byte Tryz.underlying5 kr) (by decide)) rfl (.cons (opn_str Tryz.underlying9 kr) rfl .nil)))))) rfl ?_
 rintro Ps w b o ⟨a0, a1, a2, a3, a4, _⟩ ⟨⟨hb, h0, l0⟩, ⟨_, h1, l1⟩, ⟨_, h2, l2⟩, ⟨⟨_, d, h3, hd⟩, l3⟩, ⟨_, h4, l4⟩, _⟩
 refine ⟨(⟨a0, a1, a2, a3, a4⟩, d), hb, fun j v hj => ?_, hd, l1, l2, l0, l3, l4⟩
 have hlt : j < 5 := by
  have := (List.getElem?_eq_some_iff.1 hj).1
  exact this
 rcases (by omega : j = 0 ∨ j = 1 ∨ j = 2 ∨ j = 3 ∨ j = 4) with rfl | rfl | rfl | rfl | rfl
 ·obtain rfl : _ = v := Option.some.inj hj
  exact h0
 ·obtain rfl : _ = v := Option.some.inj hj
  exact h1
 ·obtain rfl : _ = v := Option.some.inj hj
  exact h2
 ·obtain rfl : _ = v := Option.some.inj hj
  exact h3
 obtain rfl : _ = v := Option.some.inj hj
 exact h4
end
end Go.Proofs.YtakeannapfaodaaGreat
set_option maxRecDepth 100000
set_option linter.unusedVariables false
set_option linter.unusedSimpArgs false
namespace Go.Proofs.YtakeannapfaodaaGreat
open Go.ChangeShapes Go.WideShapes Go.ChangeAt Go.RowKit Go.Deep
section
variable {H : Type} {enc : TypeId × Value → H} {W : World}
theorem opn_i : Opn H enc Tryz.prog W 3 rInt := opn_int Tryz.underlying3 kr
theorem opn_act : Opn H enc Tryz.prog W 36 rAT := by
 refine opn_weak (opn_struct Tryz.underlying36 (F := rProd rInt (rProd rInt (rProd rInt (rProd rInt (rProd rInt (rProd (rSlB rEV) (rProd (rProd rInt (rProd rInt (rProd rInt rUnit))) rUnit))))))) kr
  (.cons opn_i rfl (.cons opn_i rfl (.cons opn_i rfl (.cons opn_i rfl (.cons opn_i rfl
   (.cons (opn_rSl Tryz.underlying32 kr (of_decide_eq_true kr) opn_entry (by decide)) rfl
    (.cons (opn_struct Tryz.underlying34 (F := rProd rInt (rProd rInt (rProd rInt rUnit))) kr (.cons opn_i rfl (.cons opn_i rfl (.cons opn_i rfl .nil)))) rfl .nil)))))))) rfl ?_
 rintro Ps w b o ⟨a0, a1, a2, a3, a4, a5, ⟨a6, a7, a8, _⟩, _⟩ ⟨⟨hb, h0, l0⟩, ⟨_, h1, l1⟩, ⟨_, h2, l2⟩, ⟨_, h3, l3⟩, ⟨_, h4, l4⟩, ⟨⟨_, d, h5, hd⟩, l5⟩, ⟨⟨_, h6, l6⟩, ⟨_, h7, l7⟩, ⟨_, h8, l8⟩, _⟩, _⟩
 refine ⟨(⟨a0, a1, a2, a3, a4, a6, a7, a8⟩, d, a5), hb, fun j v hj => ?_, hd, ⟨l0, l1, l2, l3, l4, l6, l7, l8⟩, l5⟩
 have hlt : j < 9 := by
  have := (List.getElem?_eq_some_iff.1 hj).1
  exact this
 rcases (by omega : j = 0 ∨ j = 1 ∨ j = 2 ∨ j = 3 ∨ j = 4 ∨ j = 5 ∨ j = 6 ∨ j = 7 ∨ j = 8) with rfl | rfl | rfl | rfl | rfl | rfl | rfl | rfl | rfl
 ·obtain rfl : _ = v := Option.some.inj hj
  exact h0
 ·obtain rfl : _ = v := Option.some.inj hj
  exact h1
 ·obtain rfl : _ = v := Option.some.inj hj
  exact h2
 ·obtain rfl : _ = v := Option.some.inj hj
  exact h3
 ·obtain rfl : _ = v := Option.some.inj hj
  exact h4
 ·obtain rfl : _ = v := Option.some.inj hj
  exact h5
 ·obtain rfl : _ = v := Option.some.inj hj
  exact h6
 ·obtain rfl : _ = v := Option.some.inj hj
  exact h7
 obtain rfl : _ = v := Option.some.inj hj
 exact h8
theorem opn_acts {v : Value} {d : DataW H} {p : List MemPlace} {r : Reach} {base : Nat} (hok : Value.okWide Tryz.prog W r base 22 v) (h : DataW.Trod enc Tryz.prog W 0 (fun _ => true) true 22 v d p)
 {ts : List TypeId} {ds : List (DataW H)} {j : Nat} (hsz : (DataW.weightsEach Tryz.prog ts ds).all (· ≤ reachBytes) = true) (hts : ts[j]? = some 22) (hds : ds[j]? = some d) :
 ∃ xs : List AT, Ro W (fun _ => False) (slc rAT (· < W.heap.size) v xs) ∧ xs.length ≤ 140737488355328 :=
 opn_arg Tryz.underlying22 (of_decide_eq_true kr) opn_act (by decide) hok h hsz hts hds
end
end Go.Proofs.YtakeannapfaodaaGreat
namespace Go.Proofs.YtakeannapfaodaaGreat
open Go.RowKit
set_option linter.unusedVariables false
set_option linter.unusedSimpArgs false
theorem pick_nat9 (n : Int) (m : Nat) : ∃ k : Nat, pickM n ((m : Int) + 1) = (k : Int) ∧ k ≤ m := by
 have h1 := Int.emod_nonneg n (show (m : Int) + 1 ≠ 0 by omega)
 have h2 := Int.emod_lt_of_pos n (show 0 < (m : Int) + 1 by omega)
 refine ⟨(n % ((m : Int) + 1)).toNat, ?_, by omega⟩
 unfold pickM
 rw [if_neg (by omega)]
 omega
theorem z64 : I64 0 := ⟨by decide, by decide⟩
theorem acZ {kd n cm : Int} (h1 : I64 kd) (h2 : I64 n) (h3 : I64 cm) : AcOk ⟨kd, 7, n, cm, 0, 0, 0, 0⟩ := ⟨h1, i7, h2, h3, z64, z64, z64, z64⟩
theorem li64 {x : Int} (h : 0 ≤ x) (k : x ≤ 1000) : I64 x := ⟨by omega, by omega⟩
set_option maxRecDepth 20000 in
set_option maxHeartbeats 4000000 in
theorem mmany (wh : Int) (hw : I64 wh) : Tr Tryz.prog 4 #[.int .i64 wh] [] [] (T0 (.bool true)) := by
 refine Tr.of (l := [(0, .int .i64 wh)]) Tryz.func4 rfl (n := 49) rfl (.cons rfl .nil) (fun w0 hro => ?_)
 obtain ⟨pk, hpk0, hpkl⟩ := pick_nat9 wh 63
 have hpk : pickM wh 64 = (pk : Int) := hpk0
 refine go [9,10,1,7,8,9,10] ?_
 refine G.op rfl (G.cS rfl rfl rfl rfl Tryz.func5 rfl rfl subT may0 (mnew_tr) apT ?_)
 intro x6 hJ
 obtain ⟨Dm, bm⟩ := x6
 try dsimp only at hJ
 try dsimp only
 refine G.op rfl (G.val rfl rfl (pv_buildSt (z := [.slice none 0 0, .slice none 0 0]) (pl := [(0, 1), (1, 1)]) Tryz.underlying29 kr kr rfl flT) ?_)
 refine G.op rfl (G.box rfl rfl (cs := [_, _]) rfl ?_)
 intro b8
 obtain ⟨Dr, hDr⟩ : ∃ Dr, b8 = Dr := ⟨_, rfl⟩
 rw [hDr]
 refine go [1,1,7,8,9,9,10,0] ?_
 refine G.op rfl (G.val rfl rfl (pv_eqlP0 Tryz.underlying23 rfl rfl) ?_)
 refine go [7,8,60,0,13,8,9,9,10,1,7,8,15] ?_
 refine G.ownNil 82 5 ?_
 refine G.ownNil 95 2 ?_
 refine G.treesNil ?_
 refine G.loopK (X := Nat × MS × Value × (List RS) × Value × (List (Int × Int))) (ts := [0, 3, 4]) (fun st => st.1 ≤ 66 ∧ (Both (plM st.2.1) (plR st.2.2.2.1, st.2.2.2.2.2) st.1)) (fun st => [(5, .int .i64 (st.1 : Int))]) (fun st => [blk Dm 43 [.map (some bm)], mpc vInt I64 bm (ptrs st.2.1), clis st.2.1, blk Dr 29 [st.2.2.1, st.2.2.2.2.1], own 82 5 st.2.2.1 st.2.2.2.1.length (st.2.2.2.1.flatMap rsC), own 95 2 st.2.2.2.2.1 st.2.2.2.2.2.length (st.2.2.2.2.2.flatMap prC), trees (stR st.2.2.2.1)]) (fun st => 66 - st.1) (x0 := (0, ([] : MS), .slice none 0 0, [], .slice none 0 0, [])) (.cons rfl (.cons rfl (.cons rfl .nil))) subT (.cons .nil) apT (by first | exact trivial | ((try dsimp only) <;> exact ⟨Nat.zero_le _, ⟨ok0M, ⟨List.nodup_nil, fun p hp => by cases hp⟩, Rel.nil, Nat.le_refl _, Nat.le_refl _⟩⟩)) (.consE rfl veqT .nil) (fun st hJ => ?_)
 obtain ⟨i, ms, vL, L, vT, ts⟩ := st
 try dsimp only at hJ
 try dsimp only
 obtain ⟨hki, hJ⟩ := hJ
 have hb := hJ
 refine go [9,9,10,0,2,9,7,8] ?_
 refine G.condP rfl (fun h12 => ?_) (fun h12 => ?_)
 ·refine go [13,8,9,15,9,10,0,0,0,2,6,2,50,4] ?_
  refine G.op rfl (G.cS rfl rfl rfl rfl Tryz.func7 rfl rfl subT (may1 (.old ro_nil30)) (act_tr30 Dm bm ms Dr vL vT L ts (i) ⟨1, 7, 0, (1 + (i : Int)), 0, 0, 0, 0⟩ (.slice none 0 0) [] hb (by omega) (acZ (li64 (by decide) (by decide)) z64 (li64 (by omega) (by omega))) (by show 0 ≤ 1000; omega)) apT ?_)
  intro x20 hJ
  obtain ⟨ms2, vL2, L2, vT2, ts2⟩ := x20
  try dsimp only at hJ
  try dsimp only
  have hb2 := hJ
  refine go [2,25,7,8,60,0,13,16,8,10,0,2,6,1,7] ?_
  exact G.next ((i + 1, (ms2, vL2, L2, vT2, ts2))) (by first | exact trivial | ((try dsimp only) <;> exact ⟨by omega, hb2⟩)) (by (try dsimp only); omega) (.consE rfl veqT (.cons rfl (.cons rfl (.cons rfl .nil)))) subT
 obtain rfl : i = 66 := by omega
 refine go [18,14,14,19,8,9,10,0,0,0] ?_
 refine G.op rfl (G.cR rfl rfl rfl rfl Tryz.func10 rfl rfl may0 (pick_tr wh _ hw ⟨by omega, by omega⟩) ?_)
 rw [hpk]
 refine go [2,6,2,50,4] ?_
 refine G.op rfl (G.cS rfl rfl rfl rfl Tryz.func7 rfl rfl subT (may1 (.old ro_nil30)) (act_tr30 Dm bm ms Dr vL vT L ts (66) ⟨4, 7, (1 + (pk : Int)), 0, 0, 0, 0, 0⟩ (.slice none 0 0) [] hb (by omega) (acZ (li64 (by decide) (by decide)) (li64 (by omega) (by omega)) z64) (by show 0 ≤ 1000; omega)) apT ?_)
 intro x28 hJ
 obtain ⟨m1, vL1, L1, vT1, ts1⟩ := x28
 try dsimp only at hJ
 try dsimp only
 have hb1 := hJ
 refine go [0,3,0,3,0,3,50,4] ?_
 refine G.want rfl rfl rfl (G.cS rfl rfl rfl rfl Tryz.func7 rfl rfl subT (may1 (.old ro_nil30)) (act_tr30 Dm bm m1 Dr vL1 vT1 L1 ts1 (66 + 1) ⟨1, 7, 0, 100, 0, 0, 0, 0⟩ (.slice none 0 0) [] hb1 (by omega) (acZ (li64 (by decide) (by decide)) z64 (li64 (by decide) (by decide))) (by show 0 ≤ 1000; omega)) apT ?_)
 intro x33 hJ
 obtain ⟨m3, vL3, L3, vT3, ts3⟩ := x33
 try dsimp only at hJ
 try dsimp only
 have hb3 := hJ
 refine go [2,2,0,3,0,3,0,3,50,4] ?_
 refine G.want rfl rfl rfl (G.cS rfl rfl rfl rfl Tryz.func7 rfl rfl subT (may1 (.old ro_nil30)) (act_tr30 Dm bm m3 Dr vL3 vT3 L3 ts3 (66 + 1 + 1) ⟨1, 7, 0, 101, 0, 0, 0, 0⟩ (.slice none 0 0) [] hb3 (by omega) (acZ (li64 (by decide) (by decide)) z64 (li64 (by decide) (by decide))) (by show 0 ≤ 1000; omega)) apT ?_)
 intro x39 hJ
 obtain ⟨m4, vL4, L4, vT4, ts4⟩ := x39
 try dsimp only at hJ
 try dsimp only
 have hb4 := hJ
 refine go [2,2,0,3,0,3,0] ?_
 have hl4 : L4.length ≤ 100 := by have := hb4.lenR; rw [← plR_len L4]; replace this : (plR L4).length ≤ 69 := this; omega
 have hs4 : m4.length ≤ 100 := by have := hb4.len; rw [plM_len] at this; omega
 have ht4 : ts4.length ≤ 100 := Nat.le_trans hb4.tops (by omega)
 refine G.want rfl rfl rfl (G.cS rfl rfl rfl rfl Tryz.func8 rfl rfl subT may0 (same_tr30 Dm bm m4 Dr vL4 vT4 L4 ts4 7 hb4.ok hb4.inv hb4.rel ⟨by decide, by decide⟩ (by omega) (by omega) (by omega)) apT ?_)
 intro x44 hJ
 try dsimp only at hJ
 try dsimp only
 refine go [2,2,0] ?_
 refine G.want rfl rfl rfl (G.cR rfl rfl rfl rfl Tryz.func9 rfl rfl may0 (awake30_tr) ?_)
 refine go [2,2,1,7,8,11] ?_
 exact G.done0G rfl (Rv.tmp rfl Rv.nil) Y8
end Go.Proofs.YtakeannapfaodaaGreat
