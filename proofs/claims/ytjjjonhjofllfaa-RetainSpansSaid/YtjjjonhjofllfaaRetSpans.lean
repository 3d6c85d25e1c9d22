/- RetainSpans: by spans alone at most so many stay as Spans says, and one; each but the last the last one of its own span. Conditions: none. -/
import Derived.Test.YtjjjonhjofllfaaRetQ
import Derived.Test.YtjjjonhjofllfaaFrame
set_option linter.unusedVariables false
set_option linter.unusedSimpArgs false
namespace Go.Proofs.Ytjjjonhjofllfaa
open Go.RowKit Go.Maps Go.ChangeShapes Go.WideShapes Go.ChangeAt

set_option maxHeartbeats 2000000 in
theorem spansLaw_any (v : Value) (l : List Snap) (span spans : Int) (w : World) (hv : SlPair w.heap.size w v l) (b2 : I64 span) (b3 : I64 spans) :
    Calls Try.prog 4 #[v, .int .i64 span, .int .i64 spans] w fun e w' => e = .returned (.bool true) ∧ Below w.heap.size w w' := by
  have HV := Lib.hid hv
  obtain ⟨a, b, off, cap, rfl, hcap, hm, -, ha, hc⟩ := hv
  have H := Lib.hid hc; clear hc
  have HA := Lib.hid ha; clear ha
  unfold maxLen at hm
  go_enter Try.func4, Try.ntmps4
  go_wp2_with fail
  refine (awake_any _).mono ?_
  rintro e w1 ⟨rfl, hb1⟩
  have HB1 := Lib.hid hb1; clear hb1
  by_cases hl : l.length ≤ 100
  · have hl' : ¬ 100 < l.length := by omega
    go_wp2_with fail
    have hP1 := PolAt.start w1 0 span spans 24
    obtain ⟨W2, hW2⟩ : ∃ W2, W2 = w1.alloc (.cells #[.int .i64 0, .int .i64 span, .int .i64 spans] 24) := ⟨_, rfl⟩
    rw [← hW2] at hP1 ⊢
    clear hW2
    have HP1 := Lib.hid hP1; clear hP1
    have HW := Lib.hid (fun (w' : World) (h : PolAt w1 w' w1.heap.size 0 span spans) => (Below.trans HB1.out (h.below.mono HB1.out.size) : Below w.heap.size w w'))
    refine (sound_any w.heap.size _ l _ (HW.out _ HP1.out).size (SlPair.below HV.out (HW.out _ HP1.out) (Nat.le_refl _))).mono ?_
    rintro e w4 ⟨rfl, hb4⟩
    have hP4 := HP1.out.after hb4
    have c0 := hP4.c0; have c1 := hP4.c1; have c2 := hP4.c2
    have HP4 := Lib.hid hP4
    clear hP4 hb4
    cases hs : soundM l with
    | false =>
      go_wp2
      go_ret
      exact ⟨rfl, HW.out _ HP4.out⟩
    | true =>
      go_wp2_with fail
      refine (check_any _ _ _ _).mono ?_
      rintro e w5 ⟨rfl, hb5⟩
      have hP5 := HP4.out.after hb5
      clear c0 c1 c2
      have c0 := hP5.c0; have c1 := hP5.c1; have c2 := hP5.c2
      have HP5 := Lib.hid hP5
      clear hP5 hb5
      by_cases hc : checkM 0 span spans = 0
      · have hcq : (checkM 0 span spans != 0) = false := by simp [hc]
        by_cases hsp : span < 1
        · go_wp2
          go_ret
          exact ⟨rfl, HW.out _ HP5.out⟩
        · have hcb := checkM_bounds hc
          have he1 : toldE l 0 span spans = 0 := by unfold toldE; rw [if_pos hc, if_pos hs]
          have hcount := spans_count (l := l) (span := span) (spans := spans) (by omega)
          have HKE := Lib.hid (left_part (last := 0) (span := span) (spans := spans) true hs hc)
          have hAl : (toldM l 0 span spans true).length = (idxM l 0 span spans true).length := by rw [toldM_part true hs hc, List.length_map, part_len]
          have HSB := Lib.hid (soundM_bounds hs)
          go_wp2_with fail
          refine (stay_any w.heap.size _ l 0 span spans _ (HW.out _ HP5.out).size (SlPair.below HV.out (HW.out _ HP5.out) (Nat.le_refl _)) (by omega)).mono ?_
          rintro e W6 ⟨y1, rfl, hy1, hb6⟩
          rw [he1]
          have HP6 := Lib.hid (HP5.out.after hb6); have HY1 := Lib.hid hy1
          clear hb6 hy1 c0 c1 c2
          generalize hA1 : toldM l 0 span spans true = A1 at *
          clear hA1
          obtain ⟨a1, cp1, e1, hm1⟩ := Sl.len HY1.out
          subst e1
          have hlim : ¬ spans + 1 < A1.length := by omega
          clear hcount hAl
          go_wp2_with fail
          refine (left_any _ _ _ l A1 _ (Nat.le_refl _) (SlPair.below HV.out (HW.out _ HP6.out) (HW.out _ HP6.out).size) HY1.out (by omega)).mono ?_
          rintro e W8 ⟨x, rfl, hx, hb8⟩
          have HP8 := Lib.hid (HP6.out.after hb8)
          obtain ⟨K, hK⟩ : ∃ K, K = partM l 0 span spans true := ⟨_, rfl⟩
          rw [HKE.out, ← hK] at hx
          have hKl : K.length ≤ l.length := by rw [hK, ← HKE.out]; exact leftM_le _ _
          have HKS := Lib.hid (show ∀ s ∈ K, s ∈ l by rw [hK]; exact fun s h => part_sub h)
          have HBH := Lib.hid (show ∀ (k j : Nat) (hk : k + 1 < K.length) (hj : j < l.length), (K[k]'(by omega)).1 < l[j].1 → l[j].2 / span ≠ (K[k]'(by omega)).2 / span by subst hK; exact spans_behind hs)
          clear hK hb8
          obtain ⟨ax, bx, ox, cx, rfl, hcx, hmx, -, hax, hxc⟩ := hx
          have HX := Lib.hid hxc; have HAX := Lib.hid hax
          clear hxc hax
          unfold maxLen at hmx
          have hne : ¬ span = 0 := by omega
          go_wp2_with fail
          go_loopw [12] (fun i wr => ∃ k n : Nat, k ≤ K.length ∧ i = .int .i64 k ∧ wr = W8.drewN n) (fun i _ => K.length - (intOf i).toNat)
          case atStart => exact ⟨0, 0, Nat.zero_le _, rfl, rfl⟩
          case round =>
            obtain ⟨k, n, hk, rfl, rfl⟩ := hrel
            by_cases hlt : (k : Int) < K.length - 1
            · go_wp2_with fail
              go_loopw [13] (fun i wr => ∃ j n : Nat, j ≤ l.length ∧ i = .int .i64 j ∧ wr = W8.drewN n) (fun i _ => l.length - (intOf i).toNat)
              case atStart => exact ⟨0, n, Nat.zero_le _, rfl, rfl⟩
              case round =>
                obtain ⟨j, n2, hj, rfl, rfl⟩ := hrel
                by_cases hlj : j < l.length
                · have ea := (HA.out (by omega)).1
                  have hbB := (HA.out (by omega)).2
                  subst ea
                  have ex := (HAX.out (by omega)).1
                  subst ex
                  have hkK : k < K.length := by omega
                  have q1 := ((HW.out _ HP8.out).cell (by exact hbB)).trans (H.out j hlj).1.1
                  have q2 := ((HW.out _ HP8.out).cell (by exact hbB)).trans (H.out j hlj).2.1
                  have r1 := (HX.out k hkK).1.1
                  have r2 := (HX.out k hkK).2.1
                  have hbeh := HBH.out k j (by omega) hlj
                  have s1 := HSB.out j hlj
                  have s2 : 0 ≤ K[k].2 ∧ K[k].2 ≤ 2147483647 := by
                    have hm := HKS.out _ (List.getElem_mem hkK)
                    obtain ⟨t, ht, e⟩ := List.getElem_of_mem hm
                    rw [← e]; exact ⟨(HSB.out t ht).2.2.1, (HSB.out t ht).2.2.2⟩
                  have d1 := wrap_tdiv s1.2.2.1 (show 1 ≤ span by omega) (by omega)
                  have d2 := wrap_tdiv s2.1 (show 1 ≤ span by omega) (by omega)
                  by_cases hgt : K[k].1 < l[j].1
                  · have hb2 : (l[j].2 / span == K[k].2 / span) = false := by simpa using hbeh hgt
                    clear hbeh
                    go_wp2_with fail
                    go_quiet (fail)
                    go_wp2
                    go_roundw
                    case rel => exact ⟨j + 1, _, by omega, by go_num, rfl⟩
                    case measure => simp [intOf]; omega
                  · have hgt' : decide (K[k].1 < l[j].1) = false := by simpa using hgt
                    clear hbeh hgt
                    go_wp2_with fail
                    go_quiet (fail)
                    go_wp2
                    go_roundw
                    case rel => exact ⟨j + 1, _, by omega, by go_num, rfl⟩
                    case measure => simp [intOf]; omega
                · go_wp2_with fail
                  go_roundw
                  case rel => exact ⟨k + 1, _, by omega, by go_num, rfl⟩
                  case measure => simp [intOf]; omega
            · go_wp2
              go_ret
              exact ⟨rfl, Below.drewN (HW.out _ HP8.out) n⟩
      · have hcq : (checkM 0 span spans != 0) = true := by simp [hc]
        go_wp2
        go_ret
        exact ⟨rfl, HW.out _ HP5.out⟩
  · have hl' : 100 < l.length := by omega
    go_wp2
    go_ret
    exact ⟨rfl, HB1.out.alloc HB1.out.size _⟩

set_option maxRecDepth 100000 in
theorem retainSpans_contract (H : Type) (enc : TypeId × Value → H) (W : World) (base : Nat) (args : Array Value) (ds gs : List (DataW H)) (before : List MemPlace)
    (hval : ∀ (j : Nat) t v, Try.f4.params[j]? = some t → args[j]? = some v → Value.okWide Try.prog W .any base t v)
    (hW : DataW.Whole enc Try.prog Try.f4.params.toList Rows.retainSpansSpec.vars false W args.toList ds gs before) :
    Calls Try.prog 4 args W fun e W' => ∃ v, e = .returned v ∧ Rows.retainSpansSpec.post enc Try.prog Try.f4 false true false false W args v W' := by
  have hlt := hW.lt
  obtain ⟨p, q, hA, hV, hpq, _, _⟩ := id hW
  obtain ⟨rfl, rfl⟩ := trodVars_none hV
  rw [Try.params4] at hA hval
  obtain ⟨v0, vs0, d0, ds0, p0, q0, hargs, rfl, rfl, h0, r0⟩ := trodAll_cons hA
  obtain ⟨v1, vs1, d1, ds1, p1, q1, rfl, rfl, rfl, h1, r1⟩ := trodAll_cons r0
  obtain ⟨v2, vs2, d2, ds2, p2, q2, rfl, rfl, rfl, h2, r2⟩ := trodAll_cons r1
  obtain ⟨rfl, rfl, rfl⟩ := ChangeShapes.trodAll_nil r2
  obtain rfl : args = #[v0, v1, v2] := by cases args; simp_all
  obtain ⟨l0, hl0, hn0⟩ := open_snaps (hval 0 _ _ rfl rfl) h0 (fun x hx => hlt x (by rw [hpq]; simp [hx]))
  obtain ⟨x1, rfl, hx1⟩ := open_intv (hval 1 _ _ rfl rfl) h1
  obtain ⟨x2, rfl, hx2⟩ := open_intv (hval 2 _ _ rfl rfl) h2
  refine (spansLaw_any v0 l0 x1 x2 W hl0 hx1 hx2).mono fun e W' ⟨he, hb⟩ => ?_
  subst he
  exact ⟨_, rfl, law_post hW (by rw [Try.params4]; intro t ht; simp at ht; first | (rcases ht with rfl | rfl | rfl <;> exact ⟨by kernel_rfl, of_decide_eq_true (by kernel_rfl)⟩) | exact ht.elim) rfl rfl rfl rfl rfl hb⟩

set_option maxRecDepth 100000 in
theorem retainSpans_lifted (os : Os) (started : os.Started) (H : Type) (enc : TypeId × Value → H) :
    ReturnsInHanded {} Try.checked os 4 .any (Rows.retainSpansSpec.pre6 enc Try.prog Try.f4 Rows.retainSpansRow.domain false) (Rows.retainSpansSpec.post enc Try.prog Try.f4 false true false false) := by
  refine returnsInHanded_of_change_sized (C := Try.checked) Try.own started (by kernel_rfl) Try.func4
    (ChangeSpec.witness6 (enc := enc) (C := Try.checked) false ⟨#[], #[.slice none 0 0, .int .i64 0, .int .i64 0], []⟩ 8 (by kernel_rfl) (by kernel_rfl) (by kernel_rfl) (by kernel_rfl)) ?_
  intro W base args ds gs before hval0 hW _ hsz0 _
  exact retainSpans_contract H enc W base args ds gs before hval0 hW

theorem retainSpans_holds : Rows.RetainSpansSaid :=
  OpenClaim.holds_of_wide 4 Try.f4 rfl rfl rfl rfl rfl rfl rfl ⟨rfl, rfl, rfl, rfl, rfl⟩ rfl rfl rfl rfl rfl (by kernel_rfl) Try.func4 (by kernel_rfl)
    (of_decide_eq_true (by kernel_rfl)) (by unfold Func.isWrapper; first | (rw [if_pos (by decide +kernel)]; kernel_rfl) | (rw [if_neg (by decide +kernel)]; exact ⟨rfl, rfl⟩))
    (fun os started H enc _ => retainSpans_lifted os started H enc)
end Go.Proofs.Ytjjjonhjofllfaa
