/- Contract of layer 22: which snapshots stay, which go. Conditions: the slice lies in memory as stated; at most 1000 snapshots. -/
import Derived.Test.YtjjjonhjofllfaaRetI
import Derived.Test.YtjjjonhjofllfaaRetE
set_option linter.unusedVariables false
set_option linter.unusedSimpArgs false
namespace Go.Proofs.Ytjjjonhjofllfaa
open Go.RowKit Go.Maps

theorem ends_all (B : Nat) (v : Value) (l : List Snap) (last span spans : Int) (w : World) (hB : B ≤ w.heap.size) (hv : SlPair B w v l) (hl : l.length ≤ 1000) (hs : soundM l = true) (h1 : 0 ≤ span) :
    Calls Try.prog 28 #[v, .agg #[.int .i64 last, .int .i64 span, .int .i64 spans]] w (EndsPost l span spans w) := by
  by_cases h0 : span = 0
  · subst h0; exact ends_zero v l last spans w
  · exact ends_any B v l last span spans w hB hv hl hs (by omega)

theorem checkM_five {last span spans : Int} (h : ¬ checkM last span spans = 0) : checkM last span spans = 5 := by
  unfold checkM at h ⊢
  split
  · rename_i hh; rw [if_pos hh] at h; exact absurd rfl h
  · rfl

/-- what told has laid into memory ahead of its loop -/
structure ToldAt (w0 w : World) (B : Nat) (v : Value) (last span spans : Int) : Prop where
  below : Below B w0 w
  room : B + 2 ≤ w.heap.size
  c0 : w.cell? ⟨B, 0, none⟩ = some v
  c1 : w.cell? ⟨B + 1, 0, none⟩ = some (.int .i64 last)
  c2 : w.cell? ⟨B + 1, 1, none⟩ = some (.int .i64 span)
  c3 : w.cell? ⟨B + 1, 2, none⟩ = some (.int .i64 spans)
theorem ToldAt.later {w0 w w' : World} {B : Nat} {v : Value} {last span spans : Int} (h : ToldAt w0 w B v last span spans) (hb : Below (B + 2) w w') : ToldAt w0 w' B v last span spans :=
  ⟨h.below.trans (hb.mono (by omega)), Nat.le_trans h.room hb.size, (hb.cell (by show B < B + 2; omega)).trans h.c0, (hb.cell (by show B + 1 < B + 2; omega)).trans h.c1, (hb.cell (by show B + 1 < B + 2; omega)).trans h.c2, (hb.cell (by show B + 1 < B + 2; omega)).trans h.c3⟩
theorem ToldAt.start (w : World) (v : Value) (last span spans : Int) (t1 t2 : TypeId) : ToldAt w ((w.alloc (.cells #[v] t1)).alloc (.cells #[.int .i64 last, .int .i64 span, .int .i64 spans] t2)) w.heap.size v last span spans where
  below := ((Below.refl _ _).alloc (Nat.le_refl _) _).alloc (by simp) _
  room := by simp
  c0 := by go_simp
  c1 := by go_simp
  c2 := by go_simp
  c3 := by go_simp

set_option maxHeartbeats 1000000 in
theorem told_any (B : Nat) (v : Value) (l : List Snap) (last span spans : Int) (stay : Bool) (w : World) (hB : B ≤ w.heap.size) (hv : SlPair B w v l) (hl : l.length ≤ 1000) :
    Calls Try.prog 25 #[v, .agg #[.int .i64 last, .int .i64 span, .int .i64 spans], .bool stay] w (ToldP l last span spans stay w) := by
  have HV := Lib.hid hv
  have HI := Lib.hid (SlPair.i64 hv)
  obtain ⟨i0, hi, hj0, hj1, hj2⟩ := info_parts Try.infoInt
  obtain ⟨a, b, off, cap, rfl, hcap, hm, -, ha, hc⟩ := hv
  have H := Lib.hid hc; clear hc
  have HA := Lib.hid ha; clear ha
  unfold maxLen at hm
  have hT := ToldAt.start w (.slice a l.length cap) last span spans 22 24
  obtain ⟨W1, hW1⟩ : ∃ W1, W1 = (w.alloc (.cells #[.slice a l.length cap] 22)).alloc (.cells #[.int .i64 last, .int .i64 span, .int .i64 spans] 24) := ⟨_, rfl⟩
  rw [← hW1] at hT
  have g0 := hT.c0
  have g1 := hT.c1
  have g2 := hT.c2
  have g3 := hT.c3
  go_enter Try.func25, Try.ntmps25
  go_wp2_with fail
  rw [← hW1]
  clear hW1
  refine (check_any _ _ _ _).mono ?_
  rintro e w1 ⟨rfl, hb1⟩
  have hT1 := hT.later (hb1.mono hT.room)
  clear hT g0 g1 g2 g3 hb1
  have g0 := hT1.c0
  have HT1 := Lib.hid hT1; clear hT1
  by_cases hck : checkM last span spans = 0
  · have hck' : (checkM last span spans != 0) = false := by simpa using hck
    have HCK := Lib.hid hck; clear hck
    go_wp2_with fail
    refine (sound_any B _ l _ (Nat.le_trans hB HT1.out.below.size) (SlPair.below HV.out (HT1.out.below.mono hB) (Nat.le_refl _))).mono ?_
    rintro e w2 ⟨rfl, hb2⟩
    have hT2 := HT1.out.later (hb2.mono HT1.out.room)
    clear hb2 g0
    have g0 := hT2.c0
    have g1 := hT2.c1
    have g2 := hT2.c2
    have g3 := hT2.c3
    have HT2 := Lib.hid hT2; clear hT2
    cases hso : soundM l
    · have HSO := Lib.hid hso; clear hso
      go_wp2
      go_ret2
      refine ⟨.slice none 0 0, ret2 rfl (int_eq ?_), ?_, HT2.out.below⟩
      · simp [toldE, HCK.out, HSO.out]
      · have : toldM l last span spans stay = [] := by simp [toldM, HSO.out]
        rw [this]; exact Sl.nil _ _ _ _
    · have HSO := Lib.hid hso; clear hso
      go_wp2_with fail
      refine (ends_all B _ l last span spans _ (Nat.le_trans hB HT2.out.below.size) (SlPair.below HV.out (HT2.out.below.mono hB) (Nat.le_refl _)) hl HSO.out (checkM_bounds HCK.out).2.1.1).mono ?_
      rintro e w3 ⟨mb, n, rfl, hmb, _, hset, hb3⟩
      have hT3 := HT2.out.later (hb3.mono HT2.out.room)
      clear hb3 g0 g1 g2 g3
      have hT4 := hT3.later (((Below.refl _ w3).alloc (Nat.le_refl _) (.cells #[.map (some mb)] 46)).mono hT3.room)
      have hs4 : SetIs Try.prog 3 (w3.alloc (.cells #[.map (some mb)] 46)) mb n (outsM l span spans) := hset.grown (World.grownBy_alloc _ _ none) (by simp) (Nat.le_refl _)
      have g0 := hT3.c0
      have g4 : (w3.alloc (.cells #[.map (some mb)] 46)).cell? ⟨w3.heap.size, 0, none⟩ = some (.map (some mb)) := by go_simp
      have g0' := hT4.c0
      have HT3 := Lib.hid hT3; have HT4 := Lib.hid hT4; have HS4 := Lib.hid hs4; have HG4 := Lib.hid g4
      clear hT3 hT4 hs4 hset g4
      go_wp2_with fail
      clear g0' g0
      obtain ⟨W4, hW4⟩ : ∃ W4, W4 = w3.alloc (.cells #[.map (some mb)] 46) := ⟨_, rfl⟩
      have hz4 : w3.heap.size < W4.heap.size := by rw [hW4]; simp
      rw [← hW4] at HT4 HS4 HG4
      go_loopw [11, 28] (fun o i wr => ∃ k : Nat, k ≤ l.length ∧ i = .int .i64 k ∧ wr.ownsRow W4.heap.size 3 1 o (toldTo l last span spans stay k).length ((toldTo l last span spans stay k).flatMap encInt) ∧ Below W4.heap.size W4 wr) (fun _ i _ => l.length - (intOf i).toNat)
      case atStart => exact ⟨0, Nat.zero_le _, rfl, World.ownsRow_nil _ _ _ _, by rw [← hW4]; exact Below.refl _ _⟩
      case round =>
        clear hW4
        obtain ⟨k, hk, rfl, hown, hb⟩ := hrel
        by_cases hlt : k < l.length
        · have e := (HA.out (by omega)).1
          have hbB := (HA.out (by omega)).2
          subst e
          have hzr := hb.size
          have hTr := HT4.out.later (hb.mono (by have := HT3.out.room; omega))
          have q1 := (hTr.below.cell (by exact Nat.lt_of_lt_of_le hbB hB)).trans (H.out k hlt).1.1
          have q2 := (hTr.below.cell (by exact Nat.lt_of_lt_of_le hbB hB)).trans (H.out k hlt).2.1
          have HB := Lib.hid hb
          have HTR := Lib.hid hTr
          have HO := Lib.hid hown
          clear hown hb hTr
          go_wp2_with fail
          obtain ⟨W5, hW5⟩ : ∃ W5, W5 = wr.alloc (.cells #[.int .i64 l[k].1, .int .i64 l[k].2] 37) := ⟨_, rfl⟩
          have p0 : W5.cell? ⟨wr.heap.size, 0, none⟩ = some (.int .i64 l[k].1) := by rw [hW5]; go_simp
          have hb5 : Below wr.heap.size wr W5 := by rw [hW5]; exact (Below.refl _ _).alloc (Nat.le_refl _) _
          have hz5 : W5.heap.size = wr.heap.size + 1 := by rw [hW5]; simp
          rw [← hW5]
          clear hW5 q1 q2
          have hT5 := HTR.out.later (hb5.mono HTR.out.room)
          have hb45 := HB.out.trans (hb5.mono hzr)
          refine (stays_any B _ l last (outsM l span spans) k W5 w3.heap.size w.heap.size (w.heap.size + 1) mb n (Nat.le_trans hB hT5.below.size) (SlPair.below HV.out (hT5.below.mono hB) (Nat.le_refl _)) hl hlt (checkM_bounds HCK.out).1 ((hb45.cell (by show w3.heap.size < _; omega)).trans HG4.out) hT5.c0 hT5.c1 (HS4.out.below hb45 (by omega))).mono ?_
          rintro e w6 ⟨rfl, hb6⟩
          rw [staysP_eq HSO.out last span spans k hlt]
          have p0 := (hb6.cell (p := ⟨wr.heap.size, 0, none⟩) (by show wr.heap.size < _; omega)).trans p0
          have hb46 := hb45.trans (hb6.mono (by omega))
          have hown := owns_below (owns_below HO.out hb5) hb6
          have hz6 := hb6.size
          have HB46 := Lib.hid hb46
          clear hb5 hb45 hb46 hb6 hT5
          have HT := Lib.hid (toldTo_succ l last span spans stay k hlt)
          have hln := toldTo_le l last span spans stay k
          cases hst : (staysM l last span spans k == stay)
          · have HST := Lib.hid hst
            go_wp2_with fail
            go_roundw
            case rel => exact ⟨k + 1, by omega, by go_num, by rw [HT.out, HST.out]; simpa using hown, HB46.out⟩
            case measure => simp [intOf]; omega
          · have HST := Lib.hid hst
            go_wp2_with (at_builtin; refine wpList_append_own _ rfl (.tmp 38) (.tmp 41) 30 rfl W4.heap.size 3 i0 (.int .i64 0) 1 8 Try.underlying30 hi hj0 hj1 hj2 rfl (by decide) _ _ _ rfl (hown.alloc _) ⟨w6.heap.size, 0, none⟩ 1 1 [.int .i64 l[k].1] rfl rfl (cell_one_new _ _ _) (oneCell_int _ _) (by unfold maxLen; omega) (by omega) (by simp; omega) ?_)
            intro v' w7 hown' hgrow _
            have hb7 := below_append HB46.out hown hgrow (Nat.le_refl _) (by omega)
            clear hown hgrow
            go_wp2
            go_roundw
            case rel => exact ⟨k + 1, by omega, by go_num, by rw [HT.out, HST.out]; simpa [encInt] using hown', hb7⟩
            case measure => simp [intOf]; omega
        · go_wp2
          go_ret2
          have hk' : k = l.length := by omega
          subst hk'
          refine ⟨_, ret2 rfl (int_eq ?_), ?_, HT4.out.below.trans (hb.mono (by have := HT3.out.room; omega))⟩
          · simp [toldE, HCK.out, HSO.out]
          · have : toldM l last span spans stay = toldTo l last span spans stay l.length := by simp [toldM, HCK.out, HSO.out]
            rw [this]
            exact SlInt.of_owns hown rfl (toldTo_mem (Nat.le_refl _) HI.out)
  · have hck' : (checkM last span spans != 0) = true := by simpa using hck
    have HCK := Lib.hid hck; clear hck
    go_wp2
    go_ret2
    refine ⟨.slice none 0 0, ret2 rfl (int_eq ?_), ?_, HT1.out.below⟩
    · rw [checkM_five HCK.out]; unfold toldE; rw [if_neg HCK.out]
    · have : toldM l last span spans stay = [] := by simp [toldM, HCK.out]
      rw [this]; exact Sl.nil _ _ _ _
end Go.Proofs.Ytjjjonhjofllfaa
