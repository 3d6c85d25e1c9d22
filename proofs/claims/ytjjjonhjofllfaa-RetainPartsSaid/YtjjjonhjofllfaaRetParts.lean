/- RetainParts: each snapshot stays, or goes; the last one stays, and the last Last ones do; of those that stay all stay. Conditions: none. -/
import Derived.Test.YtjjjonhjofllfaaRetQ
import Derived.Test.YtjjjonhjofllfaaFrame
import Derived.Deep.RegionHeld3
set_option linter.unusedVariables false
set_option linter.unusedSimpArgs false
namespace Go.Proofs.Ytjjjonhjofllfaa
open Go.RowKit Go.Maps Go.ChangeShapes Go.WideShapes Go.ChangeAt

/-- what stands in memory behind the two answers -/
structure PartsAt (w0 w : World) (last span spans : Int) (l : List Snap) (A : List Int) (v y : Value) : Prop where
  p : PolAt w0 w w0.heap.size last span spans
  arg : SlPair w.heap.size w v l
  a : SlInt w.heap.size w y A
theorem PartsAt.after {w0 w w' : World} {last span spans : Int} {l : List Snap} {A : List Int} {v y : Value} (h : PartsAt w0 w last span spans l A v y) (hb : Below w.heap.size w w') : PartsAt w0 w' last span spans l A v y :=
  ⟨h.p.after hb, SlPair.below h.arg hb hb.size, SlInt.below h.a hb hb.size⟩
theorem PartsAt.held {w0 w : World} {last span spans : Int} {l : List Snap} {A : List Int} {v y : Value} (h : PartsAt w0 w last span spans l A v y) :
    w.cell? ⟨w0.heap.size, 0, none⟩ = some (.int .i64 last) ∧ w.cell? ⟨w0.heap.size, 1, none⟩ = some (.int .i64 span) ∧ w.cell? ⟨w0.heap.size, 2, none⟩ = some (.int .i64 spans) ∧ PartsAt w0 w last span spans l A v y := ⟨h.p.c0, h.p.c1, h.p.c2, h⟩
theorem PartsAt.left {w0 w : World} {last span spans : Int} {l : List Snap} {A : List Int} {v y : Value} (h : PartsAt w0 w last span spans l A v y) (hl : l.length ≤ 1000) :
    Calls Try.prog 15 #[v, y] w fun e w' => ∃ x, e = .returned x ∧ SlPair w'.heap.size w' x (leftM l A) ∧ PartsAt w0 w' last span spans l A v y :=
  (left_any _ _ _ _ _ _ (Nat.le_refl _) h.arg h.a hl).mono fun e w' ⟨x, he, hx, hb⟩ => ⟨x, he, hx, h.after hb⟩
theorem PartsAt.stay {w0 w : World} {last span spans : Int} {l L : List Snap} {A : List Int} {v y x : Value} (h : PartsAt w0 w last span spans l A v y) (hx : SlPair w.heap.size w x L) (hl : L.length ≤ 1000) (he : toldE L last span spans = 0) :
    Calls Try.prog 13 #[x, .agg #[.int .i64 last, .int .i64 span, .int .i64 spans]] w fun e w' => ∃ z, e = .returned (.tuple #[z, .int .i64 0]) ∧ SlInt w'.heap.size w' z (toldM L last span spans true) ∧ PartsAt w0 w' last span spans l A v y :=
  (stay_any _ _ _ _ _ _ _ (Nat.le_refl _) hx hl).mono fun e w' ⟨z, h1, h2, h3⟩ => ⟨z, by rw [h1, he], h2, h.after h3⟩

theorem parts_facts {l : List Snap} {last span spans : Int} (hs : soundM l = true) (hc : checkM last span spans = 0) :
    ((toldM l last span spans true).length + (toldM l last span spans false).length = l.length) ∧ (0 < l.length → 0 < (toldM l last span spans true).length) ∧
    (∀ k (h : k < l.length), hasB (toldM l last span spans true) l[k].1 = staysM l last span spans k ∧ hasB (toldM l last span spans false) l[k].1 = !staysM l last span spans k) ∧
    toldM (leftM l (toldM l last span spans true)) last span spans true = toldM l last span spans true ∧ toldE (leftM l (toldM l last span spans true)) last span spans = 0 := by
  refine ⟨?_, ?_, ?_, told_again hs hc, ?_⟩
  · rw [toldM_part true hs hc, toldM_part false hs hc, List.length_map, List.length_map, part_len, part_len]
    exact parts_len
  · intro h0
    rw [toldM_part true hs hc, List.length_map, part_len]
    exact List.length_pos_of_mem (mem_idxM.2 ⟨by omega, stays_lastOne (l := l) (i := l.length - 1) (by omega)⟩)
  · intro k h
    refine ⟨?_, ?_⟩
    · rw [told_has true hs hc k h]; cases staysM l last span spans k <;> rfl
    · rw [told_has false hs hc k h]; cases staysM l last span spans k <;> rfl
  · unfold toldE
    rw [if_pos hc, left_part true hs hc, if_pos (part_sound hs)]

set_option maxHeartbeats 2000000 in
theorem parts_any (v : Value) (l : List Snap) (last span spans : Int) (w : World) (hv : SlPair w.heap.size w v l) (b1 : I64 last) (b2 : I64 span) (b3 : I64 spans) :
    Calls Try.prog 6 #[v, .agg #[.int .i64 last, .int .i64 span, .int .i64 spans]] w fun e w' => e = .returned (.bool true) ∧ Below w.heap.size w w' := by
  have HV := Lib.hid hv
  obtain ⟨i0, hi, hj0, hj1, hj2⟩ := info_parts Try.infoSnap
  obtain ⟨a, b, off, cap, rfl, hcap, hm, -, ha, hc⟩ := hv
  have H := Lib.hid hc; clear hc
  have HA := Lib.hid ha; clear ha
  unfold maxLen at hm
  have HP := Lib.hid (PolAt.start w last span spans 24)
  go_enter Try.func6, Try.ntmps6
  go_wp2_with fail
  refine (awake_any _).mono ?_
  rintro e w1 ⟨rfl, hb1⟩
  have hP1 := HP.out.after hb1
  have c0 := hP1.c0; have c1 := hP1.c1; have c2 := hP1.c2
  have HP1 := Lib.hid hP1; clear hP1 hb1
  by_cases hl : l.length ≤ 100
  · have hl' : ¬ 100 < l.length := by omega
    go_wp2_with fail
    refine (sound_any w.heap.size _ l _ HP1.out.below.size (SlPair.below HV.out HP1.out.below (Nat.le_refl _))).mono ?_
    rintro e w4 ⟨rfl, hb4⟩
    have hP4 := HP1.out.after hb4
    clear c0 c1 c2
    have c0 := hP4.c0; have c1 := hP4.c1; have c2 := hP4.c2
    have HP4 := Lib.hid hP4
    clear hP4 hb4
    cases hs : soundM l with
    | false =>
      go_wp2
      go_ret
      exact ⟨rfl, HP4.out.below⟩
    | true =>
      go_wp2_with fail
      refine (check_any _ _ _ _).mono ?_
      rintro e w5 ⟨rfl, hb5⟩
      have hP5 := HP4.out.after hb5
      clear c0 c1 c2
      have c0 := hP5.c0; have c1 := hP5.c1; have c2 := hP5.c2
      have HP5 := Lib.hid hP5
      clear hP5 hb5
      by_cases hc : checkM last span spans = 0
      · have hcq : (checkM last span spans != 0) = false := by simp [hc]
        obtain ⟨hf1, hf2, hf3, hf4, hf5⟩ := parts_facts hs hc
        have HF3 := Lib.hid hf3; have HF4 := Lib.hid hf4; have HF5 := Lib.hid hf5
        have HST := Lib.hid (fun (i : Nat) (h : i + 1 = l.length) => stays_lastOne (last := last) (span := span) (spans := spans) h)
        have HSL := Lib.hid (fun (i : Nat) (h : (l.length : Int) - i ≤ last) => stays_lasts (span := span) (spans := spans) h)
        have hcb := checkM_bounds hc
        have he1 : toldE l last span spans = 0 := by unfold toldE; rw [if_pos hc, if_pos hs]
        clear hf3 hf4 hf5
        have HF12 := Lib.hid (And.intro hf1 hf2)
        clear hf1 hf2
        go_wp2_with fail
        refine (stay_any w.heap.size _ l last span spans _ HP5.out.below.size (SlPair.below HV.out HP5.out.below (Nat.le_refl _)) (by omega)).mono ?_
        rintro e W6 ⟨y1, rfl, hy1, hb6⟩
        rw [he1]
        have hP6 := HP5.out.after hb6
        clear c0 c1 c2
        have c0 := hP6.c0; have c1 := hP6.c1; have c2 := hP6.c2
        have HP6 := Lib.hid hP6; have HY1 := Lib.hid hy1
        clear hP6 hb6 hy1
        go_wp2_with fail
        refine (go_any w.heap.size _ l last span spans _ HP6.out.below.size (SlPair.below HV.out HP6.out.below (Nat.le_refl _)) (by omega)).mono ?_
        rintro e W7 ⟨y2, rfl, hy2, hb7⟩
        rw [he1]
        have hT : PartsAt w W7 last span spans l (toldM l last span spans true) (.slice a l.length cap) y1 := ⟨HP6.out.after hb7, SlPair.below HV.out (HP6.out.after hb7).below (HP6.out.after hb7).below.size, SlInt.below HY1.out hb7 hb7.size⟩
        have HY2 := Lib.hid hy2
        clear hb7 hy2 HY1 c0 c1 c2
        have c0 := hT.p.c0; have c1 := hT.p.c1; have c2 := hT.p.c2
        have HT := Lib.hid hT; clear hT
        generalize hA1 : toldM l last span spans true = A1 at *
        generalize hA2 : toldM l last span spans false = A2 at *
        obtain ⟨a1, cp1, e1, hm1⟩ := Sl.len HT.out.a
        subst e1
        obtain ⟨a2, cp2, e2, hm2⟩ := Sl.len HY2.out
        subst e2
        have hf1 := HF12.out.1
        have hq0 : ((l.length : Int) == l.length) = true := by simp
        have hq1 : (((A1.length : Int) + A2.length) != l.length) = false := by simp; omega
        have hp := HF12.out.2
        by_cases h0 : 0 < l.length
        all_goals
          have hq2 : 0 < l.length → ((A1.length : Int) == 0) = false := fun h => by have := hp h; simp; intro e; simp [e] at this
          try have hq3 := hq2 h0
          clear hq2
          have hq4 : decide (0 < (l.length : Int)) = decide (0 < l.length) := by simp
          go_wp2_with fail
          clear hq0 hq1 hq4 hf1 hp he1 hcq
          try clear hq3
          go_loopw [10] (fun i wr => ∃ k : Nat, k ≤ l.length ∧ i = .int .i64 k ∧ wr = W7) (fun i _ => l.length - (intOf i).toNat)
          case atStart => exact ⟨0, Nat.zero_le _, rfl, rfl⟩
          case round =>
            obtain ⟨k, hk, rfl, rfl⟩ := hrel
            by_cases hlt : k < l.length
            · (try (exfalso; omega))
              all_goals
                have ea := (HA.out (by omega)).1
                have hbB := (HA.out (by omega)).2
                subst ea
                have q1 := (HT.out.p.below.cell (by exact hbB)).trans (H.out k hlt).1.1
                have q2 := (HT.out.p.below.cell (by exact hbB)).trans (H.out k hlt).2.1
                have f1 := HF3.out k hlt
                have HG1 := Lib.hid f1.1; have HG2 := Lib.hid f1.2
                have g3 := HST.out k; have g4 := HSL.out k
                clear f1
                cases hst : staysM l last span spans k
                · have n1 : ¬ (k : Int) = l.length - 1 := by intro h; have := g3 (by omega); rw [hst] at this; cases this
                  have n2 : ¬ (l.length : Int) - k ≤ last := by intro h; have := g4 h; rw [hst] at this; cases this
                  have n1' : ((k : Int) == l.length - 1) = false := by simpa using n1
                  clear g3 g4
                  rw [hst] at HG1 HG2
                  go_wp2_with fail
                  refine (among_any _ _ A1 _ _ HT.out.a).mono ?_
                  rintro e w8 ⟨rfl, rfl⟩
                  rw [HG1.out]
                  go_wp2_with fail
                  refine (among_any _ _ A2 _ _ HY2.out).mono ?_
                  rintro e w9 ⟨rfl, rfl⟩
                  rw [HG2.out]
                  go_wp2_with fail
                  go_roundw
                  all_goals first
                    | (case rel => exact ⟨k + 1, by omega, by go_num, by first | rfl | trivial⟩)
                    | (case measure => simp [intOf]; omega)
                · clear g3 g4
                  rw [hst] at HG1 HG2
                  by_cases n1 : (k : Int) = l.length - 1 <;> by_cases n2 : (l.length : Int) - k ≤ last
                  all_goals
                    first | (have n1' : ((k : Int) == l.length - 1) = false := by simpa using n1) | (have n1' : ((k : Int) == l.length - 1) = true := by simpa using n1)
                    clear n1
                    go_wp2_with fail
                    refine (among_any _ _ A1 _ _ HT.out.a).mono ?_
                    rintro e w8 ⟨rfl, rfl⟩
                    rw [HG1.out]
                    go_wp2_with fail
                    refine (among_any _ _ A2 _ _ HY2.out).mono ?_
                    rintro e w9 ⟨rfl, rfl⟩
                    rw [HG2.out]
                    go_wp2_with fail
                  all_goals try (refine (among_any _ _ A1 _ _ HT.out.a).mono ?_; rintro e w10 ⟨rfl, rfl⟩; rw [HG1.out]; go_wp2_with fail)
                  all_goals go_roundw
                  all_goals first
                    | (case rel => exact ⟨k + 1, by omega, by go_num, by first | rfl | trivial⟩)
                    | (case measure => simp [intOf]; omega)
            · go_wp2_with fail
              have hlL : (leftM l A1).length ≤ 1000 := by have := leftM_le l A1; omega
              have HLL := Lib.hid hlL
              have hT := PartsAt.after HT.out (Below.refl _ _).drew
              have he5 := HF5.out
              have HE5 := Lib.hid he5
              clear hlL he5 hcb
              go_region_held3 (fun w' => w'.cell? ⟨w.heap.size, 0, none⟩ = some (.int .i64 last) ∧ w'.cell? ⟨w.heap.size, 1, none⟩ = some (.int .i64 span) ∧ w'.cell? ⟨w.heap.size, 2, none⟩ = some (.int .i64 spans) ∧ PartsAt w w' last span spans l A1 (.slice a l.length cap) (.slice a1 A1.length cp1)) (exact PartsAt.held (by assumption)) (first | (go_at_call 15; refine (PartsAt.left (by assumption) (by omega)).mono ?_; rintro e w' ⟨x, rfl, hx, hT'⟩) | (go_at_call 13; refine (PartsAt.stay (by assumption) (by assumption) HLL.out HE5.out).mono ?_; rintro e w' ⟨z, rfl, hz, hT'⟩))
              all_goals
                rw [HF4.out] at hz
                have HZ := Lib.hid hz; have HT9 := Lib.hid hT'
                clear hz hT'
                go_wp2_with fail
                refine (sameInts_any _ _ _ _ _ _ HZ.out HT9.out.a).mono ?_
                rintro e w10 ⟨rfl, n, rfl⟩
                rw [sameI_self]
                go_wp2
                go_ret
                exact ⟨rfl, Below.drewN HT9.out.p.below n⟩
      · have hcq : (checkM last span spans != 0) = true := by simp [hc]
        go_wp2
        go_ret
        exact ⟨rfl, HP5.out.below⟩
  · have hl' : 100 < l.length := by omega
    go_wp2
    go_ret
    exact ⟨rfl, HP1.out.below⟩

set_option maxRecDepth 100000 in
theorem retainParts_contract (H : Type) (enc : TypeId × Value → H) (W : World) (base : Nat) (args : Array Value) (ds gs : List (DataW H)) (before : List MemPlace)
    (hval : ∀ (j : Nat) t v, Try.f6.params[j]? = some t → args[j]? = some v → Value.okWide Try.prog W .any base t v)
    (hW : DataW.Whole enc Try.prog Try.f6.params.toList Rows.retainPartsSpec.vars false W args.toList ds gs before) :
    Calls Try.prog 6 args W fun e W' => ∃ v, e = .returned v ∧ Rows.retainPartsSpec.post enc Try.prog Try.f6 false true false false W args v W' := by
  have hlt := hW.lt
  obtain ⟨p, q, hA, hV, hpq, _, _⟩ := id hW
  obtain ⟨rfl, rfl⟩ := trodVars_none hV
  rw [Try.params6] at hA hval
  obtain ⟨v0, vs0, d0, ds0, p0, q0, hargs, rfl, rfl, h0, r0⟩ := trodAll_cons hA
  obtain ⟨v1, vs1, d1, ds1, p1, q1, rfl, rfl, rfl, h1, r1⟩ := trodAll_cons r0
  obtain ⟨rfl, rfl, rfl⟩ := ChangeShapes.trodAll_nil r1
  obtain rfl : args = #[v0, v1] := by cases args; simp_all
  obtain ⟨l0, hl0, hn0⟩ := open_snaps (hval 0 _ _ rfl rfl) h0 (fun x hx => hlt x (by rw [hpq]; simp [hx]))
  obtain ⟨x1, y1, z1, rfl, hx1, hy1, hz1⟩ := open_policy (hval 1 _ _ rfl rfl) h1
  refine (parts_any v0 l0 x1 y1 z1 W hl0 hx1 hy1 hz1).mono fun e W' ⟨he, hb⟩ => ?_
  subst he
  exact ⟨_, rfl, law_post hW (by rw [Try.params6]; intro t ht; simp at ht; first | (rcases ht with rfl | rfl <;> exact ⟨by kernel_rfl, of_decide_eq_true (by kernel_rfl)⟩) | exact ht.elim) rfl rfl rfl rfl rfl hb⟩

set_option maxRecDepth 100000 in
theorem retainParts_lifted (os : Os) (started : os.Started) (H : Type) (enc : TypeId × Value → H) :
    ReturnsInHanded {} Try.checked os 6 .any (Rows.retainPartsSpec.pre6 enc Try.prog Try.f6 Rows.retainPartsRow.domain false) (Rows.retainPartsSpec.post enc Try.prog Try.f6 false true false false) := by
  refine returnsInHanded_of_change_sized (C := Try.checked) Try.own started (by kernel_rfl) Try.func6
    (ChangeSpec.witness6 (enc := enc) (C := Try.checked) false ⟨#[], #[.slice none 0 0, .agg #[.int .i64 0, .int .i64 0, .int .i64 0]], []⟩ 8 (by kernel_rfl) (by kernel_rfl) (by kernel_rfl) (by kernel_rfl)) ?_
  intro W base args ds gs before hval0 hW _ hsz0 _
  exact retainParts_contract H enc W base args ds gs before hval0 hW

theorem retainParts_holds : Rows.RetainPartsSaid :=
  OpenClaim.holds_of_wide 6 Try.f6 rfl rfl rfl rfl rfl rfl rfl ⟨rfl, rfl, rfl, rfl, rfl⟩ rfl rfl rfl rfl rfl (by kernel_rfl) Try.func6 (by kernel_rfl)
    (of_decide_eq_true (by kernel_rfl)) (by unfold Func.isWrapper; first | (rw [if_pos (by decide +kernel)]; kernel_rfl) | (rw [if_neg (by decide +kernel)]; exact ⟨rfl, rfl⟩))
    (fun os started H enc _ => retainParts_lifted os started H enc)
end Go.Proofs.Ytjjjonhjofllfaa
