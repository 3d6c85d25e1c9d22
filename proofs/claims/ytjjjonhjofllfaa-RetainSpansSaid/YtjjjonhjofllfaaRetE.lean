/- Contract of the reference of layer 22: which snapshots stay, which go. Conditions: the slice lies in memory as stated; at most 1000 snapshots. -/
import Derived.Test.YtjjjonhjofllfaaRetD
set_option linter.unusedVariables false
set_option linter.unusedSimpArgs false
namespace Go.Proofs.Ytjjjonhjofllfaa
open Go.RowKit

theorem Try.infoInt : (Try.prog.info? 3).map (fun i => (i.zero, i.size, i.bytes)) = some (some (.int .i64 0), 1, 8) := by kernel_rfl

theorem toldTo_le (l : List Snap) (last span spans : Int) (stay : Bool) (k : Nat) : (toldTo l last span spans stay k).length ≤ k := by
  unfold toldTo
  rw [List.length_map]
  exact Nat.le_trans (List.length_filter_le _ _) (by simp)
theorem toldTo_mem {l : List Snap} {last span spans : Int} {stay : Bool} {k : Nat} (hk : k ≤ l.length) (h : ∀ s ∈ l, I64 s.1) : ∀ x ∈ toldTo l last span spans stay k, I64 x := by
  intro x hx
  simp only [toldTo, List.mem_map, List.mem_filter, List.mem_range] at hx
  obtain ⟨i, ⟨hi, _⟩, rfl⟩ := hx
  have hlt : i < l.length := by omega
  simp only [List.getD_eq_getElem?_getD, List.getElem?_eq_getElem hlt, Option.getD_some]
  exact h _ (List.getElem_mem hlt)
theorem SlPair.i64 {B : Nat} {w : World} {v : Value} {l : List Snap} (h : SlPair B w v l) : ∀ s ∈ l, I64 s.1 := by
  obtain ⟨a, b, off, cap, _, _, _, _, _, hc⟩ := h
  intro s hs
  obtain ⟨i, hi, rfl⟩ := List.getElem_of_mem hs
  exact (hc i hi).1.2

/-- how who is told ends: some slice of the numbers told, and the error -/
def ToldP (l : List Snap) (last span spans : Int) (stay : Bool) (w : World) (e : Ending) (w' : World) : Prop :=
  ∃ x, e = .returned (.tuple #[x, .int .i64 (toldE l last span spans)]) ∧ SlInt w'.heap.size w' x (toldM l last span spans stay) ∧ Below w.heap.size w w'

set_option maxHeartbeats 1000000 in
theorem toldR_any (B : Nat) (v : Value) (l : List Snap) (last span spans : Int) (stay : Bool) (w : World) (hB : B ≤ w.heap.size) (hv : SlPair B w v l) (hl : l.length ≤ 1000) :
    Calls Try.prog 26 #[v, .agg #[.int .i64 last, .int .i64 span, .int .i64 spans], .bool stay] w (ToldP l last span spans stay w) := by
  have HV := Lib.hid hv
  have HI := Lib.hid (SlPair.i64 hv)
  obtain ⟨i0, hi, hj0, hj1, hj2⟩ := info_parts Try.infoInt
  obtain ⟨W1, hW1⟩ : ∃ W1, W1 = w.alloc (.cells #[.int .i64 last, .int .i64 span, .int .i64 spans] 24) := ⟨_, rfl⟩
  have hS1 : W1.heap.size = w.heap.size + 1 := by rw [hW1]; simp
  have b0 : W1.cell? ⟨w.heap.size, 0, none⟩ = some (.int .i64 last) := by rw [hW1]; go_simp
  have b1 : W1.cell? ⟨w.heap.size, 1, none⟩ = some (.int .i64 span) := by rw [hW1]; go_simp
  have b2 : W1.cell? ⟨w.heap.size, 2, none⟩ = some (.int .i64 spans) := by rw [hW1]; go_simp
  have HW1 := Lib.hid hW1
  have hbw : Below w.heap.size w W1 := by rw [hW1]; exact (Below.refl _ _).alloc (Nat.le_refl _) _
  have HBW := Lib.hid hbw
  clear hbw
  go_enter Try.func26, Try.ntmps26
  go_wp2_with fail
  rw [← hW1]
  clear hW1
  refine (checkR_any _ _ _ _).mono ?_
  rintro e w1 ⟨rfl, hb1⟩
  have hz1 := hb1.size
  have b0 := (hb1.cell (p := ⟨w.heap.size, 0, none⟩) (by show w.heap.size < _; omega)).trans b0
  have b1 := (hb1.cell (p := ⟨w.heap.size, 1, none⟩) (by show w.heap.size < _; omega)).trans b1
  have b2 := (hb1.cell (p := ⟨w.heap.size, 2, none⟩) (by show w.heap.size < _; omega)).trans b2
  have hb1' : Below (w.heap.size + 1) W1 w1 := hb1.mono (by omega)
  have HB1 := Lib.hid hb1'
  clear hb1 hb1'
  by_cases hck : checkM last span spans = 0
  · have hck' : (checkM last span spans != 0) = false := by simpa using hck
    have HCK := Lib.hid hck; clear hck
    go_wp2_with fail
    refine (soundR_any B v l _ (by omega) (SlPair.below HV.out ((HBW.out.trans (HB1.out.mono (by omega))).mono hB) (Nat.le_refl _))).mono ?_
    rintro e w2 ⟨rfl, hb2⟩
    have hz2 := hb2.size
    have b0 := (hb2.cell (p := ⟨w.heap.size, 0, none⟩) (by show w.heap.size < _; omega)).trans b0
    have b1 := (hb2.cell (p := ⟨w.heap.size, 1, none⟩) (by show w.heap.size < _; omega)).trans b1
    have b2 := (hb2.cell (p := ⟨w.heap.size, 2, none⟩) (by show w.heap.size < _; omega)).trans b2
    have hb2' : Below (w.heap.size + 1) W1 w2 := HB1.out.trans (hb2.mono (by omega))
    have HB2 := Lib.hid hb2'
    clear hb2 hb2'
    cases hso : soundM l
    · have HSO := Lib.hid hso; clear hso
      go_wp2
      go_ret2
      refine ⟨.slice none 0 0, ret2 rfl (int_eq ?_), ?_, HBW.out.trans (HB2.out.mono (by omega))⟩
      · simp [toldE, HCK.out, HSO.out]
      · have : toldM l last span spans stay = [] := by simp [toldM, HSO.out]
        rw [this]; exact Sl.nil _ _ _ _
    · have HSO := Lib.hid hso; clear hso
      go_wp2_with fail
      obtain ⟨a, b, off, cap, rfl, hcap, hm, -, ha, hc⟩ := HV.out
      have H := Lib.hid hc; clear hc
      have HA := Lib.hid ha; clear ha
      unfold maxLen at hm
      go_loopw [8, 9] (fun o i wr => ∃ k : Nat, k ≤ l.length ∧ i = .int .i64 k ∧ wr.ownsRow (w.heap.size + 1) 3 1 o (toldTo l last span spans stay k).length ((toldTo l last span spans stay k).flatMap encInt) ∧ Below (w.heap.size + 1) w2 wr) (fun _ i _ => l.length - (intOf i).toNat)
      case atStart => exact ⟨0, Nat.zero_le _, rfl, World.ownsRow_nil _ _ _ _, Below.refl _ _⟩
      case round =>
        obtain ⟨k, hk, rfl, hown, hb⟩ := hrel
        by_cases hlt : k < l.length
        · have e := (HA.out (by omega)).1
          have hbB := (HA.out (by omega)).2
          subst e
          have hzr := hb.size
          have hbr : Below w.heap.size w wr := HBW.out.trans ((HB2.out.mono (by omega)).trans (hb.mono (by omega)))
          have HBR := Lib.hid hbr
          have b0 := (hb.cell (p := ⟨w.heap.size, 0, none⟩) (by show w.heap.size < _; omega)).trans b0
          have b1 := (hb.cell (p := ⟨w.heap.size, 1, none⟩) (by show w.heap.size < _; omega)).trans b1
          have b2 := (hb.cell (p := ⟨w.heap.size, 2, none⟩) (by show w.heap.size < _; omega)).trans b2
          have HB := Lib.hid hb
          clear hb hbr
          have HO := Lib.hid hown
          clear hown
          go_wp2_with fail
          refine (staysR_any B _ l last span spans k _ (by omega) (SlPair.below HV.out (HBR.out.mono hB) (Nat.le_refl _)) hl HSO.out (checkM_bounds HCK.out).2.1.1 hlt).mono ?_
          rintro e w3 ⟨rfl, hb3⟩
          have hz3 := hb3.size
          have c1 := ((HBR.out.trans (hb3.mono (by omega))).cell (by exact Nat.lt_of_lt_of_le hbB hB)).trans (H.out k hlt).1.1
          have hown := owns_below HO.out hb3
          have HB3 := Lib.hid (HB.out.trans (hb3.mono (by omega)))
          clear hb3
          have HT := Lib.hid (toldTo_succ l last span spans stay k hlt)
          have hln := toldTo_le l last span spans stay k
          cases hst : (staysM l last span spans k == stay)
          · have HST := Lib.hid hst
            go_wp2_with fail
            go_roundw
            case rel => exact ⟨k + 1, by omega, by go_num, by rw [HT.out, HST.out]; simpa using hown, HB3.out⟩
            case measure => simp [intOf]; omega
          · have HST := Lib.hid hst
            go_wp2_with (at_builtin; refine wpList_append_own _ rfl (.tmp 28) (.tmp 34) 30 rfl (w.heap.size + 1) 3 i0 (.int .i64 0) 1 8 Try.underlying30 hi hj0 hj1 hj2 rfl (by decide) _ _ _ rfl (hown.alloc _) ⟨w3.heap.size, 0, none⟩ 1 1 [.int .i64 l[k].1] rfl rfl (cell_one_new _ _ _) (oneCell_int _ _) (by unfold maxLen; omega) (by omega) (by simp; omega) ?_)
            intro v' w4 hown' hgrow _
            have hb4 := below_append HB3.out hown hgrow (Nat.le_refl _) (by omega)
            clear hown hgrow
            go_wp2
            go_roundw
            case rel => exact ⟨k + 1, by omega, by go_num, by rw [HT.out, HST.out]; simpa [encInt] using hown', hb4⟩
            case measure => simp [intOf]; omega
        · go_wp2
          go_ret2
          have hk' : k = l.length := by omega
          subst hk'
          refine ⟨_, ret2 rfl (int_eq ?_), ?_, HBW.out.trans ((HB2.out.mono (by omega)).trans (hb.mono (by omega)))⟩
          · simp [toldE, HCK.out, HSO.out]
          · have : toldM l last span spans stay = toldTo l last span spans stay l.length := by simp [toldM, HCK.out, HSO.out]
            rw [this]
            exact SlInt.of_owns hown rfl (toldTo_mem (Nat.le_refl _) HI.out)
  · have hck' : (checkM last span spans != 0) = true := by simpa using hck
    have HCK := Lib.hid hck; clear hck
    go_wp2
    go_ret2
    refine ⟨.slice none 0 0, ret2 rfl (int_eq ?_), ?_, HBW.out.trans (HB1.out.mono (by omega))⟩
    · simp [toldE, HCK.out]
    · have : toldM l last span spans stay = [] := by simp [toldM, HCK.out]
      rw [this]; exact Sl.nil _ _ _ _
end Go.Proofs.Ytjjjonhjofllfaa
