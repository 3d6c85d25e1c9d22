/- RetainMore: of a policy with a greater Last, or Spans, all stay that stayed of the other one. Conditions: none. -/
import Derived.Test.YtjjjonhjofllfaaRetP
import Derived.Test.YtjjjonhjofllfaaFrame
import Derived.Deep.RegionHeld3
import Derived.Deep.DeepCutAuto
set_option linter.unusedVariables false
set_option linter.unusedSimpArgs false
namespace Go.Proofs.Ytjjjonhjofllfaa
open Go.RowKit Go.Maps Go.ChangeShapes Go.WideShapes Go.ChangeAt

theorem staysM_more {l : List Snap} {last last' span spans spans' : Int} {i : Nat} (h1 : last ≤ last') (h2 : spans ≤ spans') (h : staysM l last span spans i = true) : staysM l last' span spans' i = true := by
  unfold staysM at h ⊢
  simp only [Bool.or_eq_true, Bool.and_eq_true, decide_eq_true_eq] at h ⊢
  rcases h with (h | h) | ⟨h3, h4, h5⟩
  · exact .inl (.inl h)
  · exact .inl (.inr (by omega))
  · exact .inr ⟨h3, h4, by omega⟩
theorem told_more {l : List Snap} {last last' span spans spans' : Int} (h1 : last ≤ last') (h2 : spans ≤ spans') (hs : soundM l = true) (hc : checkM last span spans = 0) (hc' : checkM last' span spans' = 0) :
    ∀ x ∈ toldM l last span spans true, hasB (toldM l last' span spans' true) x = true := by
  intro x hx
  unfold toldM at hx ⊢
  rw [if_pos hc, if_pos hs] at hx
  rw [if_pos hc', if_pos hs]
  unfold hasB
  rw [List.contains_iff_mem]
  simp only [toldTo, List.mem_map, List.mem_filter, List.mem_range, beq_iff_eq] at hx ⊢
  obtain ⟨i, ⟨hi, hst⟩, rfl⟩ := hx
  exact ⟨i, ⟨hi, staysM_more h1 h2 hst⟩, rfl⟩

def minM (x y : Int) : Int := if y < x then y else x
/-- behind the new policy: both lie in memory -/
structure MoreAt (w0 w1 w : World) (last span spans last' spans' : Int) : Prop where
  p : PolAt w0 w w0.heap.size last span spans
  q : PolAt w1 w w1.heap.size last' span spans'
theorem MoreAt.set {w0 w1 w : World} {last span spans : Int} (hp : PolAt w0 w w0.heap.size last span spans) (hq : PolAt w1 w w1.heap.size last span spans) (hn : w0.heap.size < w1.heap.size) (x y : Int) :
    MoreAt w0 w1 ((w.setCell ⟨w1.heap.size, 0, none⟩ (.int .i64 x)).setCell ⟨w1.heap.size, 2, none⟩ (.int .i64 y)) last span spans x y where
  p := hp.later (((Below.refl _ _).setCell hn _).setCell hn _)
  q := {
    below := (hq.below.setCell (Nat.le_refl _) _).setCell (Nat.le_refl _) _
    room := by have := hq.room; simpa using this
    c0 := by
      exact (World.cell?_setCell_other _ _ _ _ (by simp)).trans (World.cell?_setCell_same' _ _ _ (by rw [hq.c0]; rfl))
    c1 := by
      exact (World.cell?_setCell_other _ _ _ _ (by simp)).trans ((World.cell?_setCell_other _ _ _ _ (by simp)).trans hq.c1)
    c2 := by
      exact World.cell?_setCell_same' _ _ _ (by rw [(World.cell?_setCell_other w ⟨w1.heap.size, 0, none⟩ ⟨w1.heap.size, 2, none⟩ (.int .i64 x) (by simp)).trans hq.c2]; rfl) }
theorem MoreAt.after {w0 w1 w w' : World} {last span spans last' spans' : Int} (h : MoreAt w0 w1 w last span spans last' spans') (hb : Below w.heap.size w w') : MoreAt w0 w1 w' last span spans last' spans' := ⟨h.p.after hb, h.q.after hb⟩
theorem MoreAt.drew {w0 w1 w : World} {last span spans last' spans' : Int} (h : MoreAt w0 w1 w last span spans last' spans') : MoreAt w0 w1 w.drew last span spans last' spans' := ⟨h.p.drew, h.q.drew⟩
theorem minM_pos {x : Int} (h : 64 < x) : minM x 64 = 64 := if_pos h
theorem minM_neg {x : Int} (h : x ≤ 64) : minM x 64 = x := if_neg (by omega)
theorem minM_neg' {x : Int} (h : ¬ 64 < x) : minM x 64 = x := if_neg h

set_option maxHeartbeats 2000000 in
theorem more_any (v : Value) (l : List Snap) (last span spans xl xs : Int) (w : World) (hv : SlPair w.heap.size w v l) (b1 : I64 last) (b2 : I64 span) (b3 : I64 spans) (b4 : I64 xl) (b5 : I64 xs) :
    Calls Try.prog 3 #[v, .agg #[.int .i64 last, .int .i64 span, .int .i64 spans], .int .i64 xl, .int .i64 xs] w fun e w' => e = .returned (.bool true) ∧ Below w.heap.size w w' := by
  have HV := Lib.hid hv
  obtain ⟨a, b, off, cap, rfl, hcap, hm, -, ha, hc⟩ := hv
  have H := Lib.hid hc; clear hc
  have HA := Lib.hid ha; clear ha
  unfold maxLen at hm
  have hP := PolAt.start w last span spans 24
  have HP := Lib.hid hP; clear hP
  have hk1 := pickM_bounds xl 65 (by omega)
  have hk2 := pickM_bounds xs 65 (by omega)
  go_enter Try.func3, Try.ntmps3
  go_wp2_with fail
  refine (awake_any _).mono ?_
  rintro e w1 ⟨rfl, hb1⟩
  have hP1 := HP.out.after hb1
  have c0 := hP1.c0; have c1 := hP1.c1; have c2 := hP1.c2
  have HP1 := Lib.hid hP1; clear hP1 hb1
  go_wp2_with fail
  obtain ⟨W2, hW2⟩ : ∃ W2, W2 = w1.alloc (.cells #[.int .i64 last, .int .i64 span, .int .i64 spans] 24) := ⟨_, rfl⟩
  rw [← hW2]
  have hq := PolAt.start w1 last span spans 24
  have hP2 := HP1.out.alloc (.cells #[.int .i64 last, .int .i64 span, .int .i64 spans] 24)
  rw [← hW2] at hq hP2
  have f0 : W2.frozen? ⟨w1.heap.size, 0, none⟩ = false := by rw [hW2]; go_simp
  have f2 : W2.frozen? ⟨w1.heap.size, 2, none⟩ = false := by rw [hW2]; go_simp
  have d0 := hq.c0; have d1 := hq.c1; have d2 := hq.c2
  clear c0 c1 c2
  have c0 := hP2.c0; have c1 := hP2.c1; have c2 := hP2.c2
  have HP2 := Lib.hid hP2; have HQ := Lib.hid hq
  have hne : w.heap.size < w1.heap.size := HP1.out.room
  have hne2 : ¬ w.heap.size = w1.heap.size := by omega
  clear hP2 hq hW2
  have HN := Lib.hid hne
  go_cut [18] (fun _ wx => MoreAt w w1 wx last span spans (minM (IntKind.i64.wrap (last + pickM xl 65)) 64) (minM (IntKind.i64.wrap (spans + pickM xs 65)) 64))
  case first =>
    have HM1 := Lib.hid (show minM (IntKind.i64.wrap (last + pickM xl 65)) 64 = if 64 < IntKind.i64.wrap (last + pickM xl 65) then 64 else IntKind.i64.wrap (last + pickM xl 65) from rfl)
    by_cases hA : 64 < IntKind.i64.wrap (last + pickM xl 65) <;> by_cases hB : 64 < IntKind.i64.wrap (spans + pickM xs 65)
    all_goals
      go_region_held3 (fun w' => w'.cell? ⟨w.heap.size, 0, none⟩ = some (.int .i64 last) ∧ w'.cell? ⟨w.heap.size, 2, none⟩ = some (.int .i64 spans)) (first | assumption | (refine ⟨?_, ?_⟩ <;> first | assumption | ((try rw [World.cell?_drew]); (try rw [World.cell?_drewN]); (repeat rw [World.cell?_setCell_far _ _ _ _ (Nat.ne_of_gt HN.out)]); assumption)) | go_keep) (first | (go_at_call_of 10 (xl); refine (pick_any xl 65 _ (by simp [I64])).mono ?_; rintro e w' ⟨rfl, rfl⟩) | (go_at_call_of 10 (xs); refine (pick_any xs 65 _ (by simp [I64])).mono ?_; rintro e w' ⟨rfl, rfl⟩))
      all_goals go_wp2_with fail
    all_goals go_meet
    all_goals first | rw [minM_pos hA] | rw [minM_neg hA] | rw [minM_neg' hA]
    all_goals first | rw [minM_pos hB] | rw [minM_neg hB] | rw [minM_neg' hB]
    all_goals first
      | exact (MoreAt.set HP2.out HQ.out HN.out _ _).drew
      | (rw [if_pos (by omega)]; exact (MoreAt.set HP2.out HQ.out HN.out _ _).drew)
      | (rw [if_neg (by omega)]; exact (MoreAt.set HP2.out HQ.out HN.out _ _).drew)
  case rest =>
    obtain ⟨W3, hW3⟩ : ∃ W3, W3 = wc := ⟨_, rfl⟩
    rw [← hW3] at hcut ⊢
    clear hW3
    generalize hLA : minM (IntKind.i64.wrap (last + pickM xl 65)) 64 = last' at hcut
    generalize hSA : minM (IntKind.i64.wrap (spans + pickM xs 65)) 64 = spans' at hcut
    have HLA := Lib.hid hLA; have HSA := Lib.hid hSA
    clear hLA hSA c0 c1 c2 d0 d1 d2
    have HM := Lib.hid hcut
    have c0 := hcut.p.c0; have c1 := hcut.p.c1; have c2 := hcut.p.c2
    clear hcut
    by_cases hl : l.length ≤ 100
    · have hl' : ¬ 100 < l.length := by omega
      go_wp2_with fail
      refine (sound_any w.heap.size _ l _ HM.out.p.below.size (SlPair.below HV.out HM.out.p.below (Nat.le_refl _))).mono ?_
      rintro e W4 ⟨rfl, hb4⟩
      have hM4 := HM.out.after hb4
      clear c0 c1 c2
      have c0 := hM4.p.c0; have c1 := hM4.p.c1; have c2 := hM4.p.c2
      have HM4 := Lib.hid hM4
      clear hM4 hb4
      cases hs : soundM l with
      | false =>
        go_wp2
        go_ret
        exact ⟨rfl, HM4.out.p.below⟩
      | true =>
        go_wp2_with fail
        refine (check_any _ _ _ _).mono ?_
        rintro e W5 ⟨rfl, hb5⟩
        have hM5 := HM4.out.after hb5
        clear c0 c1 c2
        have c0 := hM5.p.c0; have c1 := hM5.p.c1; have c2 := hM5.p.c2
        have d0 := hM5.q.c0; have d1 := hM5.q.c1; have d2 := hM5.q.c2
        have HM5 := Lib.hid hM5
        clear hM5 hb5
        by_cases hc : checkM last span spans = 0
        · have hcq : (checkM last span spans != 0) = false := by simp [hc]
          have hcb := checkM_bounds hc
          have hLb : last ≤ last' ∧ last' ≤ 64 := by
            have h1 := HLA.out
            rw [wrap_i64 (by unfold I64; omega)] at h1
            unfold minM at h1; split at h1 <;> omega
          have hSb : spans ≤ spans' ∧ spans' ≤ 64 := by
            have h1 := HSA.out
            rw [wrap_i64 (by unfold I64; omega)] at h1
            unfold minM at h1; split at h1 <;> omega
          have hc2 : checkM last' span spans' = 0 := by
            unfold checkM withinB
            rw [if_pos (by simp; omega)]
          have HT := Lib.hid (told_more hLb.1 hSb.1 hs hc hc2)
          have he1 : toldE l last span spans = 0 := by unfold toldE; rw [if_pos hc, if_pos hs]
          have he2 : toldE l last' span spans' = 0 := by unfold toldE; rw [if_pos hc2, if_pos hs]
          clear hcb hLb hSb
          go_wp2_with fail
          refine (stay_any w.heap.size _ l last span spans _ HM5.out.p.below.size (SlPair.below HV.out HM5.out.p.below (Nat.le_refl _)) (by omega)).mono ?_
          rintro e W6 ⟨y1, rfl, hy1, hb6⟩
          rw [he1]
          have hM6 := HM5.out.after hb6
          clear c0 c1 c2 d0 d1 d2
          have d0 := hM6.q.c0; have d1 := hM6.q.c1; have d2 := hM6.q.c2
          have HM6 := Lib.hid hM6; have HY1 := Lib.hid hy1
          clear hM6 hb6 hy1
          go_wp2_with fail
          refine (stay_any w.heap.size _ l last' span spans' _ HM6.out.p.below.size (SlPair.below HV.out HM6.out.p.below (Nat.le_refl _)) (by omega)).mono ?_
          rintro e W7 ⟨y2, rfl, hy2, hb7⟩
          rw [he2]
          have HM7 := Lib.hid (HM6.out.after hb7); have HY1' := Lib.hid (SlInt.below HY1.out hb7 hb7.size); have HY2 := Lib.hid hy2
          clear hb7 hy2 HY1
          obtain ⟨ax, bx, ox, cx, rfl, hcx, hmx, -, hax, hxc⟩ := HY1'.out
          have HX := Lib.hid hxc; have HAX := Lib.hid hax
          unfold maxLen at hmx
          clear hxc hax d0 d1 d2
          generalize hA1 : toldM l last span spans true = A1 at *
          generalize hA2 : toldM l last' span spans' true = A2 at *
          clear hA1 hA2
          have HCALL := Lib.hid (show ∀ (k n : Nat) (h : k < A1.length), Calls Try.prog 14 #[y2, .int .i64 A1[k]] (W7.drewN n) fun e w' => e = .returned (.bool true) ∧ w' = W7.drewN n from fun k n h =>
            (among_any _ _ _ _ _ (SlInt.below HY2.out (Below.drewN (Below.refl _ _) n) (Nat.le_refl _))).mono fun e w' ⟨he, hw⟩ => ⟨by rw [he, HT.out _ (List.getElem_mem h)], hw⟩)
          go_wp2_with fail
          go_loopw [15] (fun i wr => ∃ k n : Nat, k ≤ A1.length ∧ i = .int .i64 k ∧ wr = W7.drewN n) (fun i _ => A1.length - (intOf i).toNat)
          case atStart => exact ⟨0, 0, Nat.zero_le _, rfl, rfl⟩
          case round =>
            obtain ⟨k, n, hk, rfl, rfl⟩ := hrel
            by_cases hlt : k < A1.length
            · have e1 := (HAX.out (by omega)).1
              subst e1
              have r1 : (W7.drewN n).cell? ⟨bx, ox + k, none⟩ = some (.int .i64 A1[k]) := by have := (HX.out k hlt).1; rw [Nat.mul_one] at this; exact (World.cell?_drewN _ _ _).trans this
              go_wp2_with fail
              refine (HCALL.out k n hlt).mono ?_
              rintro e w' ⟨rfl, rfl⟩
              go_wp2
              go_roundw
              case rel => exact ⟨k + 1, _, by omega, by go_num, rfl⟩
              case measure => simp [intOf]; omega
            · go_wp2
              go_ret
              exact ⟨rfl, Below.drewN HM7.out.p.below n⟩
        · have hcq : (checkM last span spans != 0) = true := by simp [hc]
          go_wp2
          go_ret
          exact ⟨rfl, HM5.out.p.below⟩
    · have hl' : 100 < l.length := by omega
      go_wp2
      go_ret
      exact ⟨rfl, HM.out.p.below⟩

set_option maxRecDepth 100000 in
theorem retainMore_contract (H : Type) (enc : TypeId × Value → H) (W : World) (base : Nat) (args : Array Value) (ds gs : List (DataW H)) (before : List MemPlace)
    (hval : ∀ (j : Nat) t v, Try.f3.params[j]? = some t → args[j]? = some v → Value.okWide Try.prog W .any base t v)
    (hW : DataW.Whole enc Try.prog Try.f3.params.toList Rows.retainMoreSpec.vars false W args.toList ds gs before) :
    Calls Try.prog 3 args W fun e W' => ∃ v, e = .returned v ∧ Rows.retainMoreSpec.post enc Try.prog Try.f3 false true false false W args v W' := by
  have hlt := hW.lt
  obtain ⟨p, q, hA, hV, hpq, _, _⟩ := id hW
  obtain ⟨rfl, rfl⟩ := trodVars_none hV
  rw [Try.params3] at hA hval
  obtain ⟨v0, vs0, d0, ds0, p0, q0, hargs, rfl, rfl, h0, r0⟩ := trodAll_cons hA
  obtain ⟨v1, vs1, d1, ds1, p1, q1, rfl, rfl, rfl, h1, r1⟩ := trodAll_cons r0
  obtain ⟨v2, vs2, d2, ds2, p2, q2, rfl, rfl, rfl, h2, r2⟩ := trodAll_cons r1
  obtain ⟨v3, vs3, d3, ds3, p3, q3, rfl, rfl, rfl, h3, r3⟩ := trodAll_cons r2
  obtain ⟨rfl, rfl, rfl⟩ := ChangeShapes.trodAll_nil r3
  obtain rfl : args = #[v0, v1, v2, v3] := by cases args; simp_all
  obtain ⟨l0, hl0, hn0⟩ := open_snaps (hval 0 _ _ rfl rfl) h0 (fun x hx => hlt x (by rw [hpq]; simp [hx]))
  obtain ⟨x1, y1, z1, rfl, hx1, hy1, hz1⟩ := open_policy (hval 1 _ _ rfl rfl) h1
  obtain ⟨x2, rfl, hx2⟩ := open_intv (hval 2 _ _ rfl rfl) h2
  obtain ⟨x3, rfl, hx3⟩ := open_intv (hval 3 _ _ rfl rfl) h3
  refine (more_any v0 l0 x1 y1 z1 x2 x3 W hl0 hx1 hy1 hz1 hx2 hx3).mono fun e W' ⟨he, hb⟩ => ?_
  subst he
  exact ⟨_, rfl, law_post hW (by rw [Try.params3]; intro t ht; simp at ht; first | (rcases ht with rfl | rfl | rfl | rfl <;> exact ⟨by kernel_rfl, of_decide_eq_true (by kernel_rfl)⟩) | exact ht.elim) rfl rfl rfl rfl rfl hb⟩

set_option maxRecDepth 100000 in
theorem retainMore_lifted (os : Os) (started : os.Started) (H : Type) (enc : TypeId × Value → H) :
    ReturnsInHanded {} Try.checked os 3 .any (Rows.retainMoreSpec.pre6 enc Try.prog Try.f3 Rows.retainMoreRow.domain false) (Rows.retainMoreSpec.post enc Try.prog Try.f3 false true false false) := by
  refine returnsInHanded_of_change_sized (C := Try.checked) Try.own started (by kernel_rfl) Try.func3
    (ChangeSpec.witness6 (enc := enc) (C := Try.checked) false ⟨#[], #[.slice none 0 0, .agg #[.int .i64 0, .int .i64 0, .int .i64 0], .int .i64 0, .int .i64 0], []⟩ 8 (by kernel_rfl) (by kernel_rfl) (by kernel_rfl) (by kernel_rfl)) ?_
  intro W base args ds gs before hval0 hW _ hsz0 _
  exact retainMore_contract H enc W base args ds gs before hval0 hW

theorem retainMore_holds : Rows.RetainMoreSaid :=
  OpenClaim.holds_of_wide 3 Try.f3 rfl rfl rfl rfl rfl rfl rfl ⟨rfl, rfl, rfl, rfl, rfl⟩ rfl rfl rfl rfl rfl (by kernel_rfl) Try.func3 (by kernel_rfl)
    (of_decide_eq_true (by kernel_rfl)) (by unfold Func.isWrapper; first | (rw [if_pos (by decide +kernel)]; kernel_rfl) | (rw [if_neg (by decide +kernel)]; exact ⟨rfl, rfl⟩))
    (fun os started H enc _ => retainMore_lifted os started H enc)
end Go.Proofs.Ytjjjonhjofllfaa
