/- RetainTells: which policies and snapshots may be, who stays and who goes is told as the reference says. Conditions: none. -/
import Derived.Test.YtjjjonhjofllfaaRetP
import Derived.Test.YtjjjonhjofllfaaFrame
import Derived.Deep.RegionHeld3
set_option linter.unusedVariables false
set_option linter.unusedSimpArgs false
namespace Go.Proofs.Ytjjjonhjofllfaa
open Go.RowKit Go.Maps Go.ChangeShapes Go.WideShapes Go.ChangeAt

/-- what stands in memory behind the four answers -/
structure TellsAt (w0 w : World) (last span spans : Int) (l : List Snap) (v x y1 y2 y3 y4 : Value) : Prop where
  pol : PolAt w0 w w0.heap.size last span spans
  arg : SlPair w.heap.size w v l
  own : SlPair w.heap.size w x l
  a1 : SlInt w.heap.size w y1 (toldM l last span spans true)
  a2 : SlInt w.heap.size w y2 (toldM l last span spans false)
  a3 : SlInt w.heap.size w y3 (toldM l last span spans true)
  a4 : SlInt w.heap.size w y4 (toldM l last span spans false)
theorem TellsAt.after {w0 w w' : World} {last span spans : Int} {l : List Snap} {v x y1 y2 y3 y4 : Value} (h : TellsAt w0 w last span spans l v x y1 y2 y3 y4) (hb : Below w.heap.size w w') : TellsAt w0 w' last span spans l v x y1 y2 y3 y4 :=
  ⟨h.pol.after hb, SlPair.below h.arg hb hb.size, SlPair.below h.own hb hb.size, SlInt.below h.a1 hb hb.size, SlInt.below h.a2 hb hb.size, SlInt.below h.a3 hb hb.size, SlInt.below h.a4 hb hb.size⟩

theorem tells_c1 {w0 w : World} {last span spans : Int} {l : List Snap} {v x y1 y2 y3 y4 : Value} (h : TellsAt w0 w last span spans l v x y1 y2 y3 y4) : Calls Try.prog 19 #[y1, y3] w fun e w' => e = .returned (.bool true) ∧ TellsAt w0 w' last span spans l v x y1 y2 y3 y4 :=
  (sameInts_any _ _ _ _ _ _ h.a1 h.a3).mono fun e W' ⟨he, n, hn⟩ => ⟨by rw [he, sameI_self], by rw [hn]; exact h.after (Below.drewN (Below.refl _ _) n)⟩
theorem tells_c2 {w0 w : World} {last span spans : Int} {l : List Snap} {v x y1 y2 y3 y4 : Value} (h : TellsAt w0 w last span spans l v x y1 y2 y3 y4) : Calls Try.prog 19 #[y2, y4] w fun e w' => e = .returned (.bool true) ∧ TellsAt w0 w' last span spans l v x y1 y2 y3 y4 :=
  (sameInts_any _ _ _ _ _ _ h.a2 h.a4).mono fun e W' ⟨he, n, hn⟩ => ⟨by rw [he, sameI_self], by rw [hn]; exact h.after (Below.drewN (Below.refl _ _) n)⟩
theorem tells_c3 {w0 w : World} {last span spans : Int} {l : List Snap} {v x y1 y2 y3 y4 : Value} (h : TellsAt w0 w last span spans l v x y1 y2 y3 y4) : Calls Try.prog 12 #[.agg #[.int .i64 last, .int .i64 span, .int .i64 spans]] w fun e w' => e = .returned (.int .i64 (checkM last span spans)) ∧ TellsAt w0 w' last span spans l v x y1 y2 y3 y4 :=
  (check_any _ _ _ _).mono fun e W' ⟨he, hb⟩ => ⟨he, h.after hb⟩
theorem tells_c4 {w0 w : World} {last span spans : Int} {l : List Snap} {v x y1 y2 y3 y4 : Value} (h : TellsAt w0 w last span spans l v x y1 y2 y3 y4) : Calls Try.prog 20 #[.agg #[.int .i64 last, .int .i64 span, .int .i64 spans]] w fun e w' => e = .returned (.int .i64 (checkM last span spans)) ∧ TellsAt w0 w' last span spans l v x y1 y2 y3 y4 :=
  (checkR_any _ _ _ _).mono fun e W' ⟨he, hb⟩ => ⟨he, h.after hb⟩
theorem tells_c5 {w0 w : World} {last span spans : Int} {l : List Snap} {v x y1 y2 y3 y4 : Value} (h : TellsAt w0 w last span spans l v x y1 y2 y3 y4) : Calls Try.prog 11 #[x] w fun e w' => e = .returned (.bool (soundM l)) ∧ TellsAt w0 w' last span spans l v x y1 y2 y3 y4 :=
  (sound_any _ _ _ _ (Nat.le_refl _) h.own).mono fun e W' ⟨he, hb⟩ => ⟨he, h.after hb⟩
theorem tells_c6 {w0 w : World} {last span spans : Int} {l : List Snap} {v x y1 y2 y3 y4 : Value} (h : TellsAt w0 w last span spans l v x y1 y2 y3 y4) : Calls Try.prog 21 #[v] w fun e w' => e = .returned (.bool (soundM l)) ∧ TellsAt w0 w' last span spans l v x y1 y2 y3 y4 :=
  (soundR_any _ _ _ _ (Nat.le_refl _) h.arg).mono fun e W' ⟨he, hb⟩ => ⟨he, h.after hb⟩
theorem TellsAt.held {w0 w : World} {last span spans : Int} {l : List Snap} {v x y1 y2 y3 y4 : Value} (h : TellsAt w0 w last span spans l v x y1 y2 y3 y4) :
    w.cell? ⟨w0.heap.size, 0, none⟩ = some (.int .i64 last) ∧ w.cell? ⟨w0.heap.size, 1, none⟩ = some (.int .i64 span) ∧ w.cell? ⟨w0.heap.size, 2, none⟩ = some (.int .i64 spans) ∧ TellsAt w0 w last span spans l v x y1 y2 y3 y4 := ⟨h.pol.c0, h.pol.c1, h.pol.c2, h⟩

set_option maxHeartbeats 2000000 in
theorem tells_any (v : Value) (l : List Snap) (last span spans : Int) (w : World) (hv : SlPair w.heap.size w v l) :
    Calls Try.prog 5 #[v, .agg #[.int .i64 last, .int .i64 span, .int .i64 spans]] w fun e w' => e = .returned (.bool true) ∧ Below w.heap.size w w' := by
  have HV := Lib.hid hv
  have HI := Lib.hid (SlPair.all hv)
  obtain ⟨i0, hi, hj0, hj1, hj2⟩ := info_parts Try.infoSnap
  obtain ⟨a, b, off, cap, rfl, hcap, hm, -, ha, hc⟩ := hv
  have H := Lib.hid hc; clear hc
  have HA := Lib.hid ha; clear ha
  unfold maxLen at hm
  have HP := Lib.hid (PolAt.start w last span spans 24)
  by_cases hl : l.length ≤ 100
  · have hl' : ¬ 100 < l.length := by omega
    go_enter Try.func5, Try.ntmps5
    have hB1 : Below w.heap.size w ((w.alloc (.cells #[.int .i64 last, .int .i64 span, .int .i64 spans] 24)).alloc (.cells #[] 37)) := ((Below.refl _ _).alloc (Nat.le_refl _) _).alloc (by simp) _
    have HS1 := Lib.hid (SlPair.below HV.out hB1 (Nat.le_refl _))
    have HB1 := Lib.hid hB1; clear hB1
    have hown := World.ownsRow_lit (base := w.heap.size + 1) (e := 37) (size := 2) (w.alloc (.cells #[.int .i64 last, .int .i64 span, .int .i64 spans] 24)) #[] 0 (by simp) (by decide) rfl
    simp only [World.size_alloc] at hown
    have HO := Lib.hid hown; clear hown
    go_wp2_with (at_builtin; refine wpList_append_slice rfl (.tmp 19) (.tmp 20) 22 rfl (w.heap.size + 1) 37 i0 (.agg #[.int .i64 0, .int .i64 0]) 2 16 Try.underlying22 hi hj0 hj1 hj2 rfl (by decide) _ _ _ rfl HO.out encPair l _ rfl HS1.out (fun _ => rfl) (fun _ _ _ h => RPair.enc h) (oneCell_flat _ encPair_one _) (by unfold maxLen; omega) (by omega) (by simp) ?_)
    intro x w2 hown2 hgrow
    have hb2 : Below (w.heap.size + 1) (w.alloc (.cells #[.int .i64 last, .int .i64 span, .int .i64 spans] 24)) w2 :=
      ((Below.refl _ _).alloc (by simp) _).grown hgrow (by simp) (fun k hk => by cases hk; exact Nat.le_refl _)
    have hP2 := HP.out.later hb2
    have hI2 : SlPair w2.heap.size w2 x l := SlPair.of_owns (by simpa using hown2) rfl HI.out
    have c0 := hP2.c0; have c1 := hP2.c1; have c2 := hP2.c2
    have HP2 := Lib.hid hP2; have HI2 := Lib.hid hI2
    clear hP2 hI2 hb2 hown2 hgrow
    go_wp2_with fail
    refine (stay_any _ x l last span spans _ (Nat.le_refl _) HI2.out (by omega)).mono ?_
    rintro e w3 ⟨y1, rfl, hy1, hb3⟩
    have hP3 := HP2.out.after hb3
    have d0 := hP3.c0; have d1 := hP3.c1; have d2 := hP3.c2
    have HP3 := Lib.hid hP3; have HI3 := Lib.hid (SlPair.below HI2.out hb3 hb3.size); have HY1 := Lib.hid hy1
    clear hP3 hb3 hy1 c0 c1 c2
    go_wp2_with fail
    refine (go_any _ x l last span spans _ (Nat.le_refl _) HI3.out (by omega)).mono ?_
    rintro e w4 ⟨y2, rfl, hy2, hb4⟩
    have hP4 := HP3.out.after hb4
    have c0 := hP4.c0; have c1 := hP4.c1; have c2 := hP4.c2
    have HP4 := Lib.hid hP4; have HI4 := Lib.hid (SlPair.below HI3.out hb4 hb4.size); have HY1' := Lib.hid (SlInt.below HY1.out hb4 hb4.size); have HY2 := Lib.hid hy2
    clear hP4 hb4 hy2 d0 d1 d2 HY1
    go_wp2_with fail
    refine (stayR_any w.heap.size _ l last span spans _ HP4.out.below.size (SlPair.below HV.out HP4.out.below (Nat.le_refl _)) (by omega)).mono ?_
    rintro e w5 ⟨y3, rfl, hy3, hb5⟩
    have hP5 := HP4.out.after hb5
    have d0 := hP5.c0; have d1 := hP5.c1; have d2 := hP5.c2
    have HP5 := Lib.hid hP5; have HI5 := Lib.hid (SlPair.below HI4.out hb5 hb5.size); have HY1 := Lib.hid (SlInt.below HY1'.out hb5 hb5.size); have HY2' := Lib.hid (SlInt.below HY2.out hb5 hb5.size); have HY3 := Lib.hid hy3
    clear hP5 hb5 hy3 c0 c1 c2 HY1' HY2
    go_wp2_with fail
    refine (goR_any w.heap.size _ l last span spans _ HP5.out.below.size (SlPair.below HV.out HP5.out.below (Nat.le_refl _)) (by omega)).mono ?_
    rintro e w6 ⟨y4, rfl, hy4, hb6⟩
    have hP6 := HP5.out.after hb6
    have c0 := hP6.c0; have c1 := hP6.c1; have c2 := hP6.c2
    have HP6 := Lib.hid hP6; have HI6 := Lib.hid (SlPair.below HI5.out hb6 hb6.size); have HY1' := Lib.hid (SlInt.below HY1.out hb6 hb6.size); have HY2 := Lib.hid (SlInt.below HY2'.out hb6 hb6.size); have HY3' := Lib.hid (SlInt.below HY3.out hb6 hb6.size); have HY4 := Lib.hid hy4
    clear hP6 hb6 hy4 d0 d1 d2 HY1 HY2' HY3
    go_wp2_with fail
    have hT : TellsAt w w6.drew last span spans l (.slice a l.length cap) x y1 y2 y3 y4 :=
      TellsAt.after ⟨HP6.out, SlPair.below HV.out HP6.out.below HP6.out.below.size, HI6.out, HY1'.out, HY2.out, HY3'.out, HY4.out⟩ (Below.refl _ _).drew
    go_region_held3 (fun w' => w'.cell? ⟨w.heap.size, 0, none⟩ = some (.int .i64 last) ∧ w'.cell? ⟨w.heap.size, 1, none⟩ = some (.int .i64 span) ∧ w'.cell? ⟨w.heap.size, 2, none⟩ = some (.int .i64 spans) ∧ TellsAt w w' last span spans l (.slice a l.length cap) x y1 y2 y3 y4) (exact TellsAt.held (by assumption)) (first | (go_at_call_of 19 (y1); refine (tells_c1 (by assumption)).mono ?_; rintro e w' ⟨rfl, hT'⟩) | (go_at_call_of 19 (y2); refine (tells_c2 (by assumption)).mono ?_; rintro e w' ⟨rfl, hT'⟩) | (go_at_call 12; refine (tells_c3 (by assumption)).mono ?_; rintro e w' ⟨rfl, hT'⟩) | (go_at_call 20; refine (tells_c4 (by assumption)).mono ?_; rintro e w' ⟨rfl, hT'⟩) | (go_at_call 11; refine (tells_c5 (by assumption)).mono ?_; rintro e w' ⟨rfl, hT'⟩) | (go_at_call 21; refine (tells_c6 (by assumption)).mono ?_; rintro e w' ⟨rfl, hT'⟩))
    have hT9 := hT'
    clear hT'
    obtain ⟨W9, hW9⟩ : ∃ W9, W9 = w' := ⟨_, rfl⟩
    rw [← hW9] at hT9 ⊢
    clear hW9
    clear hT c0 c1 c2
    obtain ⟨ax, bx, ox, cx, rfl, hcx, hmx, -, hax, hxc⟩ := hT9.own
    have HX := Lib.hid hxc; have HAX := Lib.hid hax
    clear hxc hax
    have HT9 := Lib.hid hT9; clear hT9
    go_wp2_with fail
    go_loopw [14, 15] (fun f i wr => ∃ k n : Nat, k ≤ l.length ∧ i = .int .i64 k ∧ f = .bool true ∧ wr = W9.drewN n) (fun _ i _ => l.length - (intOf i).toNat)
    case atStart => exact ⟨0, 0, Nat.zero_le _, rfl, rfl, rfl⟩
    case round =>
      obtain ⟨k, n, hk, rfl, rfl, rfl⟩ := hrel
      by_cases hlt : k < l.length
      · have e1 := (HAX.out (by omega)).1
        have e2 := (HA.out (by omega)).1
        have hbB := (HA.out (by omega)).2
        subst e1; subst e2
        have q1 := (HT9.out.pol.below.cell (by exact hbB)).trans (H.out k hlt).1.1
        have q2 := (HT9.out.pol.below.cell (by exact hbB)).trans (H.out k hlt).2.1
        have r1 := (HX.out k hlt).1.1
        have r2 := (HX.out k hlt).2.1
        go_wp2_with fail
        go_quiet (fail)
        go_wp2
        go_roundw
        case rel => exact ⟨k + 1, _, by omega, by go_num, rfl, rfl⟩
        case measure => simp [intOf]; omega
      · go_wp2_with fail
        refine (awake_any _).mono ?_
        rintro e w10 ⟨rfl, hb10⟩
        have HB10 := Lib.hid (Below.after (Below.drewN HT9.out.pol.below n) hb10 HT9.out.pol.below.size)
        clear hb10
        go_wp2
        go_ret
        exact ⟨rfl, HB10.out⟩
  · have hl' : 100 < l.length := by omega
    go_enter Try.func5, Try.ntmps5
    go_wp2
    go_ret
    exact ⟨rfl, HP.out.below⟩

set_option maxRecDepth 100000 in
theorem retainTells_contract (H : Type) (enc : TypeId × Value → H) (W : World) (base : Nat) (args : Array Value) (ds gs : List (DataW H)) (before : List MemPlace)
    (hval : ∀ (j : Nat) t v, Try.f5.params[j]? = some t → args[j]? = some v → Value.okWide Try.prog W .any base t v)
    (hW : DataW.Whole enc Try.prog Try.f5.params.toList Rows.retainTellsSpec.vars false W args.toList ds gs before) :
    Calls Try.prog 5 args W fun e W' => ∃ v, e = .returned v ∧ Rows.retainTellsSpec.post enc Try.prog Try.f5 false true false false W args v W' := by
  have hlt := hW.lt
  obtain ⟨p, q, hA, hV, hpq, _, _⟩ := id hW
  obtain ⟨rfl, rfl⟩ := trodVars_none hV
  rw [Try.params5] at hA hval
  obtain ⟨v0, vs0, d0, ds0, p0, q0, hargs, rfl, rfl, h0, r0⟩ := trodAll_cons hA
  obtain ⟨v1, vs1, d1, ds1, p1, q1, rfl, rfl, rfl, h1, r1⟩ := trodAll_cons r0
  obtain ⟨rfl, rfl, rfl⟩ := ChangeShapes.trodAll_nil r1
  obtain rfl : args = #[v0, v1] := by cases args; simp_all
  obtain ⟨l0, hl0, hn0⟩ := open_snaps (hval 0 _ _ rfl rfl) h0 (fun x hx => hlt x (by rw [hpq]; simp [hx]))
  obtain ⟨x1, y1, z1, rfl, hx1, hy1, hz1⟩ := open_policy (hval 1 _ _ rfl rfl) h1
  refine (tells_any v0 l0 x1 y1 z1 W hl0).mono fun e W' ⟨he, hb⟩ => ?_
  subst he
  exact ⟨_, rfl, law_post hW (by rw [Try.params5]; intro t ht; simp at ht; first | (rcases ht with rfl | rfl <;> exact ⟨by kernel_rfl, of_decide_eq_true (by kernel_rfl)⟩) | exact ht.elim) rfl rfl rfl rfl rfl hb⟩

set_option maxRecDepth 100000 in
theorem retainTells_lifted (os : Os) (started : os.Started) (H : Type) (enc : TypeId × Value → H) :
    ReturnsInHanded {} Try.checked os 5 .any (Rows.retainTellsSpec.pre6 enc Try.prog Try.f5 Rows.retainTellsRow.domain false) (Rows.retainTellsSpec.post enc Try.prog Try.f5 false true false false) := by
  refine returnsInHanded_of_change_sized (C := Try.checked) Try.own started (by kernel_rfl) Try.func5
    (ChangeSpec.witness6 (enc := enc) (C := Try.checked) false ⟨#[], #[.slice none 0 0, .agg #[.int .i64 0, .int .i64 0, .int .i64 0]], []⟩ 8 (by kernel_rfl) (by kernel_rfl) (by kernel_rfl) (by kernel_rfl)) ?_
  intro W base args ds gs before hval0 hW _ hsz0 _
  exact retainTells_contract H enc W base args ds gs before hval0 hW

theorem retainTells_holds : Rows.RetainTellsSaid :=
  OpenClaim.holds_of_wide 5 Try.f5 rfl rfl rfl rfl rfl rfl rfl ⟨rfl, rfl, rfl, rfl, rfl⟩ rfl rfl rfl rfl rfl (by kernel_rfl) Try.func5 (by kernel_rfl)
    (of_decide_eq_true (by kernel_rfl)) (by unfold Func.isWrapper; first | (rw [if_pos (by decide +kernel)]; kernel_rfl) | (rw [if_neg (by decide +kernel)]; exact ⟨rfl, rfl⟩))
    (fun os started H enc _ => retainTells_lifted os started H enc)
end Go.Proofs.Ytjjjonhjofllfaa
