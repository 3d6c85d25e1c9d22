/- Contracts of layer 22's entries, and of what its statements share. Conditions: the slices lie in memory as stated; at most 1000 snapshots. -/
import Derived.Test.YtjjjonhjofllfaaRetJ
import Derived.Deep.RegionWith
set_option linter.unusedVariables false
set_option linter.unusedSimpArgs false
namespace Go.Proofs.Ytjjjonhjofllfaa
open Go.RowKit Go.Maps

theorem ToldP.after {l : List Snap} {last span spans : Int} {stay : Bool} {w w1 : World} {e : Ending} {w' : World} (hb : Below w.heap.size w w1) (h : ToldP l last span spans stay w1 e w') : ToldP l last span spans stay w e w' := by
  obtain ⟨x, h1, h2, h3⟩ := h
  exact ⟨x, h1, h2, hb.trans (h3.mono hb.size)⟩

set_option maxHeartbeats 1000000 in
theorem stay_any (B : Nat) (v : Value) (l : List Snap) (last span spans : Int) (w : World) (hB : B ≤ w.heap.size) (hv : SlPair B w v l) (hl : l.length ≤ 1000) :
    Calls Try.prog 13 #[v, .agg #[.int .i64 last, .int .i64 span, .int .i64 spans]] w (ToldP l last span spans true w) := by
  go_enter Try.func13, Try.ntmps13
  go_wp2_with fail
  refine (told_any B v l last span spans true _ (Nat.le_trans hB (by simp)) (SlPair.below hv (((Below.refl _ _).alloc (Nat.le_refl _) _).mono hB) (Nat.le_refl _)) hl).mono ?_
  rintro e w1 ⟨x, rfl, hx, hb⟩
  go_wp2
  go_ret2
  exact ⟨x, rfl, hx, ((Below.refl _ _).alloc (Nat.le_refl _) _).trans (hb.mono (by simp))⟩

set_option maxHeartbeats 1000000 in
theorem go_any (B : Nat) (v : Value) (l : List Snap) (last span spans : Int) (w : World) (hB : B ≤ w.heap.size) (hv : SlPair B w v l) (hl : l.length ≤ 1000) :
    Calls Try.prog 16 #[v, .agg #[.int .i64 last, .int .i64 span, .int .i64 spans]] w (ToldP l last span spans false w) := by
  go_enter Try.func16, Try.ntmps16
  go_wp2_with fail
  refine (told_any B v l last span spans false _ (Nat.le_trans hB (by simp)) (SlPair.below hv (((Below.refl _ _).alloc (Nat.le_refl _) _).mono hB) (Nat.le_refl _)) hl).mono ?_
  rintro e w1 ⟨x, rfl, hx, hb⟩
  go_wp2
  go_ret2
  exact ⟨x, rfl, hx, ((Below.refl _ _).alloc (Nat.le_refl _) _).trans (hb.mono (by simp))⟩

set_option maxHeartbeats 1000000 in
theorem stayR_any (B : Nat) (v : Value) (l : List Snap) (last span spans : Int) (w : World) (hB : B ≤ w.heap.size) (hv : SlPair B w v l) (hl : l.length ≤ 1000) :
    Calls Try.prog 17 #[v, .agg #[.int .i64 last, .int .i64 span, .int .i64 spans]] w (ToldP l last span spans true w) := by
  go_enter Try.func17, Try.ntmps17
  go_wp2_with fail
  refine (toldR_any B v l last span spans true _ (Nat.le_trans hB (by simp)) (SlPair.below hv (((Below.refl _ _).alloc (Nat.le_refl _) _).mono hB) (Nat.le_refl _)) hl).mono ?_
  rintro e w1 ⟨x, rfl, hx, hb⟩
  go_wp2
  go_ret2
  exact ⟨x, rfl, hx, ((Below.refl _ _).alloc (Nat.le_refl _) _).trans (hb.mono (by simp))⟩

set_option maxHeartbeats 1000000 in
theorem goR_any (B : Nat) (v : Value) (l : List Snap) (last span spans : Int) (w : World) (hB : B ≤ w.heap.size) (hv : SlPair B w v l) (hl : l.length ≤ 1000) :
    Calls Try.prog 18 #[v, .agg #[.int .i64 last, .int .i64 span, .int .i64 spans]] w (ToldP l last span spans false w) := by
  go_enter Try.func18, Try.ntmps18
  go_wp2_with fail
  refine (toldR_any B v l last span spans false _ (Nat.le_trans hB (by simp)) (SlPair.below hv (((Below.refl _ _).alloc (Nat.le_refl _) _).mono hB) (Nat.le_refl _)) hl).mono ?_
  rintro e w1 ⟨x, rfl, hx, hb⟩
  go_wp2
  go_ret2
  exact ⟨x, rfl, hx, ((Below.refl _ _).alloc (Nat.le_refl _) _).trans (hb.mono (by simp))⟩

def sameI (a b : List Int) : Bool := decide (a = b)
theorem sameI_step (a b : List Int) (k : Nat) (ha : k < a.length) (hb : k < b.length) : decide (a.take (k + 1) = b.take (k + 1)) = (decide (a.take k = b.take k) && (a[k] == b[k])) := by
  rw [List.take_succ_eq_append_getElem ha, List.take_succ_eq_append_getElem hb, Bool.eq_iff_iff]
  simp only [decide_eq_true_eq, Bool.and_eq_true, beq_iff_eq]
  constructor
  · intro h
    have := List.append_inj' h rfl
    simpa using this
  · rintro ⟨h1, h2⟩
    rw [h1, h2]

set_option maxHeartbeats 1000000 in
theorem sameInts_any (B : Nat) (v u : Value) (a b : List Int) (w : World) (hv : SlInt B w v a) (hu : SlInt B w u b) :
    Calls Try.prog 19 #[v, u] w fun e w' => e = .returned (.bool (sameI a b)) ∧ ∃ n, w' = w.drewN n := by
  obtain ⟨ax, bx, ox, cx, rfl, hcx, hmx, -, hax, hxc⟩ := hv
  obtain ⟨ay, by_, oy, cy, rfl, hcy, hmy, -, hay, hyc⟩ := hu
  have HX := Lib.hid hxc; have HY := Lib.hid hyc
  have HAX := Lib.hid hax; have HAY := Lib.hid hay
  clear hxc hyc hax hay
  unfold maxLen at hmx hmy
  by_cases hne : a.length = b.length
  · have h1 : ((a.length : Int) != (b.length : Int)) = false := by simp [hne]
    have HNE := Lib.hid hne; clear hne
    go_enter Try.func19, Try.ntmps19
    go_wp2_with fail
    go_loopw [5] (fun i wr => ∃ k n : Nat, k ≤ a.length ∧ i = .int .i64 k ∧ sameI (a.take k) (b.take k) = true ∧ wr = w.drewN n) (fun i _ => a.length - (intOf i).toNat)
    case atStart => exact ⟨0, 0, Nat.zero_le _, rfl, by simp [sameI], rfl⟩
    case round =>
      obtain ⟨k, n, hk, rfl, hs, rfl⟩ := hrel
      have HS := Lib.hid hs; clear hs
      by_cases hlt : k < a.length
      · have hltb : k < b.length := by have := HNE.out; omega
        have e1 := (HAX.out (by omega)).1
        have e2 := (HAY.out (by omega)).1
        subst e1; subst e2
        have c1 : w.cell? ⟨bx, ox + k, none⟩ = some (.int .i64 a[k]) := by have := (HX.out k hlt).1; rwa [Nat.mul_one] at this
        have c2 : w.cell? ⟨by_, oy + k, none⟩ = some (.int .i64 b[k]) := by have := (HY.out k hltb).1; rwa [Nat.mul_one] at this
        have HST := Lib.hid (sameI_step a b k hlt hltb)
        cases he : (a[k] == b[k])
        · have he' : (a[k] != b[k]) = true := by simp [bne, he]
          go_wp2_with fail
          go_quiet (fail)
          go_wp2
          go_ret
          refine ⟨ret_bool ?_, _, World.drewN_drewN ..⟩
          have h2 := HST.out
          rw [he, Bool.and_false] at h2
          unfold sameI
          symm
          rw [decide_eq_false_iff_not] at h2 ⊢
          intro e; exact h2 (by rw [e])
        · have he' : (a[k] != b[k]) = false := by simp [bne, he]
          have HE := Lib.hid he
          go_wp2_with fail
          go_quiet (fail)
          go_wp2
          go_roundw
          case rel => exact ⟨k + 1, _, by omega, by go_num, by have h1 := HS.out; unfold sameI at h1 ⊢; rw [HST.out, h1, HE.out]; rfl, rfl⟩
          case measure => simp [intOf]; omega
      · go_wp2
        go_ret
        refine ⟨ret_bool ?_, _, rfl⟩
        have h1 := HS.out
        rw [List.take_of_length_le (by omega), List.take_of_length_le (by have := HNE.out; omega)] at h1
        exact h1.symm
  · have h1 : ((a.length : Int) != (b.length : Int)) = true := by rw [bne_iff_ne]; omega
    have HNE := Lib.hid hne; clear hne
    go_enter Try.func19, Try.ntmps19
    go_wp2
    go_ret
    refine ⟨ret_bool ?_, 0, rfl⟩
    unfold sameI
    symm
    rw [decide_eq_false_iff_not]
    intro e; exact HNE.out (by rw [e])

set_option maxHeartbeats 1000000 in
theorem among_any (B : Nat) (v : Value) (l : List Int) (n : Int) (w : World) (hv : SlInt B w v l) :
    Calls Try.prog 14 #[v, .int .i64 n] w fun e w' => e = .returned (.bool (hasB l n)) ∧ w' = w := by
  obtain ⟨ax, bx, ox, cx, rfl, hcx, hmx, -, hax, hxc⟩ := hv
  have HX := Lib.hid hxc
  have HAX := Lib.hid hax
  clear hxc hax
  unfold maxLen at hmx
  go_enter Try.func14, Try.ntmps14
  go_wp2_with fail
  go_loop [5] (fun i => ∃ k : Nat, k ≤ l.length ∧ i = .int .i64 k ∧ hasB (l.take k) n = false) (fun i => l.length - (intOf i).toNat)
  case atStart => exact ⟨0, Nat.zero_le _, rfl, by simp [hasB]⟩
  case round =>
    obtain ⟨k, hk, rfl, hs⟩ := hrel
    have HS := Lib.hid hs; clear hs
    by_cases hlt : k < l.length
    · have e1 := (HAX.out (by omega)).1
      subst e1
      have c1 : w.cell? ⟨bx, ox + k, none⟩ = some (.int .i64 l[k]) := by have := (HX.out k hlt).1; rwa [Nat.mul_one] at this
      have HST := Lib.hid (hasB_take_succ l n k hlt)
      cases he : (l[k] == n)
      · have HE := Lib.hid he
        go_wp2
        go_round
        case rel => exact ⟨k + 1, by omega, by go_num, by rw [HST.out, HS.out, HE.out]; rfl⟩
        case measure => simp [intOf]; omega
      · have HE := Lib.hid he
        go_wp2
        go_ret
        exact ⟨ret_bool (hasB_true k hlt (by simpa using HE.out)).symm, rfl⟩
    · go_wp2
      go_ret
      refine ⟨ret_bool ?_, rfl⟩
      have h1 := HS.out
      rw [List.take_of_length_le (by omega)] at h1
      exact h1.symm
end Go.Proofs.Ytjjjonhjofllfaa
