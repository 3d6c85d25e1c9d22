/- Contracts of what layer 22's statements share: the examples are answered; those left; picking a number. Conditions: the slices lie in memory as stated. -/
import Derived.Test.YtjjjonhjofllfaaRetL
set_option linter.unusedVariables false
set_option linter.unusedSimpArgs false
namespace Go.Proofs.Ytjjjonhjofllfaa
open Go.RowKit Go.Maps

set_option maxHeartbeats 1000000 in
theorem awake_any (w : World) : Calls Try.prog 9 #[] w fun e w' => e = .returned (.bool true) ∧ Below w.heap.size w w' := by
  go_enter Try.func9, Try.ntmps9
  go_wp2_with fail
  refine (stayL_any _ _ [4, 5] 2 0 0 _ (Nat.le_refl _) (SlInt.lit w [4, 5] 3 (by decide) (by simp [I64])) (by decide +kernel) (by decide +kernel)).mono ?_
  rintro e w1 ⟨rfl, hb1⟩
  have HB1 := Lib.hid (Below.after ((Below.refl _ w).alloc (Nat.le_refl _) _) hb1 (by simp)); clear hb1
  go_wp2_with fail
  refine (stayL_any _ _ [5] 0 0 0 _ (Nat.le_refl _) (SlInt.lit w1 [5] 3 (by decide) (by simp [I64])) (by decide +kernel) (by decide +kernel)).mono ?_
  rintro e w2 ⟨rfl, hb2⟩
  have HB2 := Lib.hid (Below.after (HB1.out.alloc HB1.out.size _) hb2 (by have := HB1.out.size; simp; omega)); clear hb2
  go_wp2_with fail
  refine (stayL_any _ _ [2, 4, 5] 0 10 3 _ (Nat.le_refl _) (SlInt.lit w2 [2, 4, 5] 3 (by decide) (by simp [I64])) (by decide +kernel) (by decide +kernel)).mono ?_
  rintro e w3 ⟨rfl, hb3⟩
  have HB3 := Lib.hid (Below.after (HB2.out.alloc HB2.out.size _) hb3 (by have := HB2.out.size; simp; omega)); clear hb3
  go_wp2
  go_ret
  exact ⟨rfl, HB3.out⟩

def pickM (x n : Int) : Int := if n < 1 then 0 else if x.tmod n < 0 then x.tmod n + n else x.tmod n
theorem tmod_bounds (x n : Int) (h : 1 ≤ n) : -n < x.tmod n ∧ x.tmod n < n := ⟨by have := Int.lt_tmod_of_pos x (show 0 < n by omega); omega, Int.tmod_lt_of_pos x (by omega)⟩
theorem pickM_bounds (x n : Int) (h : 1 ≤ n) : 0 ≤ pickM x n ∧ pickM x n < n := by
  have := tmod_bounds x n h
  unfold pickM
  rw [if_neg (by omega)]
  split <;> omega

set_option maxHeartbeats 1000000 in
theorem pick_any (x n : Int) (w : World) (hn : I64 n) : Calls Try.prog 10 #[.int .i64 x, .int .i64 n] w fun e w' => e = .returned (.int .i64 (pickM x n)) ∧ w' = w := by
  have HP := Lib.hid (show pickM x n = if n < 1 then 0 else if x.tmod n < 0 then x.tmod n + n else x.tmod n from rfl)
  obtain ⟨hn1, hn2⟩ := hn
  by_cases h1 : n < 1
  · go_enter Try.func10, Try.ntmps10
    go_wp2
    go_ret
    exact ⟨ret_int (by unfold pickM; rw [if_pos h1]), rfl⟩
  · obtain ⟨b1, b2⟩ := tmod_bounds x n (by omega)
    by_cases h2 : x.tmod n < 0
    all_goals
      have H1 := Lib.hid h1; have H2 := Lib.hid h2
      go_enter Try.func10, Try.ntmps10
      go_wp2_with fail
    · go_ret
      refine ⟨ret_int ?_, rfl⟩
      have e1 := H1.out; have e2 := H2.out
      unfold pickM
      rw [if_neg (by omega), if_pos e2]
    · go_ret
      refine ⟨ret_int ?_, rfl⟩
      have e1 := H1.out; have e2 := H2.out
      unfold pickM
      rw [if_neg (by omega), if_neg (by omega)]

theorem Try.infoSnap : (Try.prog.info? 37).map (fun i => (i.zero, i.size, i.bytes)) = some (some (.agg #[.int .i64 0, .int .i64 0]), 2, 16) := by kernel_rfl
def leftM (l : List Snap) (n : List Int) : List Snap := l.filter fun s => hasB n s.1
theorem leftM_snoc (l : List Snap) (n : List Int) (k : Nat) (h : k < l.length) : leftM (l.take (k + 1)) n = leftM (l.take k) n ++ if hasB n l[k].1 then [l[k]] else [] := by
  unfold leftM
  rw [take_snoc l k h, List.filter_append]
  congr 1
  cases hh : hasB n l[k].1 <;> simp [hh]
theorem leftM_le (l : List Snap) (n : List Int) : (leftM l n).length ≤ l.length := List.length_filter_le _ _
def LeftP (l : List Snap) (n : List Int) (w : World) (e : Ending) (w' : World) : Prop := ∃ v, e = .returned v ∧ SlPair w'.heap.size w' v (leftM l n) ∧ Below w.heap.size w w'

set_option maxHeartbeats 1000000 in
theorem left_any (B : Nat) (v u : Value) (l : List Snap) (n : List Int) (w : World) (hB : B ≤ w.heap.size) (hv : SlPair B w v l) (hu : SlInt B w u n) (hl : l.length ≤ 1000) :
    Calls Try.prog 15 #[v, u] w (LeftP l n w) := by
  have HU := Lib.hid hu; clear hu
  have hI : ∀ s ∈ l, I64 s.1 ∧ I64 s.2 := by
    obtain ⟨a, b, off, cap, _, _, _, _, _, hc⟩ := hv
    intro s hs
    obtain ⟨i, hi, rfl⟩ := List.getElem_of_mem hs
    exact ⟨(hc i hi).1.2, (hc i hi).2.2⟩
  have HI := Lib.hid hI; clear hI
  obtain ⟨i0, hi, hj0, hj1, hj2⟩ := info_parts Try.infoSnap
  obtain ⟨a, b, off, cap, rfl, hcap, hm, -, ha, hc⟩ := hv
  have H := Lib.hid hc; clear hc
  have HA := Lib.hid ha; clear ha
  unfold maxLen at hm
  go_enter Try.func15, Try.ntmps15
  go_wp2_with fail
  go_loopw [5, 6] (fun o i wr => ∃ k : Nat, k ≤ l.length ∧ i = .int .i64 k ∧ wr.ownsRow w.heap.size 37 2 o (leftM (l.take k) n).length ((leftM (l.take k) n).flatMap encPair) ∧ Below w.heap.size w wr) (fun _ i _ => l.length - (intOf i).toNat)
  case atStart => exact ⟨0, Nat.zero_le _, rfl, World.ownsRow_nil _ _ _ _, Below.refl _ _⟩
  case round =>
    obtain ⟨k, hk, rfl, hown, hb⟩ := hrel
    by_cases hlt : k < l.length
    · have e := (HA.out (by omega)).1
      have hbB := (HA.out (by omega)).2
      subst e
      have q1 := (hb.cell (by exact Nat.lt_of_lt_of_le hbB hB)).trans (H.out k hlt).1.1
      have q2 := (hb.cell (by exact Nat.lt_of_lt_of_le hbB hB)).trans (H.out k hlt).2.1
      have HB := Lib.hid hb
      have hzr := hb.size
      clear hb
      have HT := Lib.hid (leftM_snoc l n k hlt)
      have hln := leftM_le (l.take k) n
      have hlk : (l.take k).length ≤ k := List.length_take_le _ _
      cases hst : hasB n l[k].1
      all_goals
        have HST := Lib.hid hst
        go_wp2_with fail
        refine (among_any _ _ n _ _ (SlInt.below HU.out (HB.out.mono hB) (Nat.le_refl _))).mono ?_
        rintro e w' ⟨rfl, rfl⟩
        rw [HST.out]
      · go_wp2_with fail
        go_roundw
        case rel => exact ⟨k + 1, by omega, by go_num, by rw [HT.out, HST.out]; simpa using hown, HB.out⟩
        case measure => simp [intOf]; omega
      · go_wp2_with (at_builtin; refine wpList_append_own _ rfl (.tmp 20) (.tmp 25) 22 rfl w.heap.size 37 i0 (.agg #[.int .i64 0, .int .i64 0]) 2 16 Try.underlying22 hi hj0 hj1 hj2 rfl (by decide) _ _ _ rfl (hown.alloc _) ⟨w'.heap.size, 0, none⟩ 1 1 [.int .i64 l[k].1, .int .i64 l[k].2] rfl rfl (cell_two_new _ _ _ _) (oneCell_ints .i64 [l[k].1, l[k].2]) (by unfold maxLen; omega) (by omega) (by simp; omega) ?_)
        intro v' w7 hown' hgrow _
        have hb7 := below_append HB.out hown hgrow (Nat.le_refl _) (by omega)
        clear hown hgrow
        go_wp2
        go_roundw
        case rel => exact ⟨k + 1, by omega, by go_num, by rw [HT.out, HST.out]; simpa [encPair] using hown', hb7⟩
        case measure => simp [intOf]; omega
    · go_wp2
      go_ret
      have hk' : k = l.length := by omega
      subst hk'
      rw [List.take_length] at hown
      refine ⟨_, rfl, SlPair.of_owns hown rfl fun s hs => HI.out s (List.mem_filter.1 hs).1, hb⟩
end Go.Proofs.Ytjjjonhjofllfaa
