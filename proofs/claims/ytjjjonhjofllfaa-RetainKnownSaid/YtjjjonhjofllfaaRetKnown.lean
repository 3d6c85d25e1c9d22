/- RetainKnown: the chapter's examples of layer 22 are answered as it says. Conditions: none. -/
import Derived.Test.YtjjjonhjofllfaaRetO
import Derived.Test.YtjjjonhjofllfaaFrame
set_option linter.unusedVariables false
set_option linter.unusedSimpArgs false
namespace Go.Proofs.Ytjjjonhjofllfaa
open Go.RowKit Go.Maps Go.ChangeShapes Go.WideShapes Go.ChangeAt

set_option maxHeartbeats 2000000 in
theorem known_any (w : World) : Calls Try.prog 8 #[] w fun e w' => e = .returned (.bool true) ∧ Below w.heap.size w w' := by
  go_enter Try.func8, Try.ntmps8
  go_wp2_with fail
  refine (sample_any _).mono ?_
  rintro e w1 ⟨v1, rfl, hv1, hb1⟩
  go_wp2_with fail
  refine (go_any _ _ _ 2 0 0 _ (Nat.le_refl _) hv1 (by decide)).mono ?_
  rintro e w2 ⟨x, rfl, hx, hb2⟩
  have HX := Lib.hid hx; have HB2 := Lib.hid (Below.after hb1 hb2 hb1.size)
  clear hv1 hb1 hb2 hx
  rw [show toldE sampleM 2 0 0 = 0 from by decide +kernel]
  go_wp2_with fail
  refine (stay_any w2.heap.size _ [] 2 0 0 _ (Nat.le_refl _) (Sl.nil _ _ _ _) (by decide)).mono ?_
  rintro e w3 ⟨y, rfl, hy, hb3⟩
  rw [show toldE [] 2 0 0 = 0 from by decide +kernel]
  obtain ⟨ya, yb, yo, yc, hyv, _, _, _, _, _⟩ := hy
  rw [show toldM [] 2 0 0 true = [] from by decide +kernel] at hyv
  rw [hyv]
  have HB3 := Lib.hid (Below.after HB2.out hb3 HB2.out.size)
  have HX3 := Lib.hid (SlInt.below HX.out hb3 hb3.size)
  clear hb3 hyv HX
  go_wp2_with fail
  refine (stay_any _ _ [(2, 0), (1, 0)] 2 0 0 _ (Nat.le_refl _) (Sl.lit w3 _ _ [(2, 0), (1, 0)] (by decide) (fun i h => ?_)) (by decide)).mono ?_
  · have hi' : i < 2 := h
    rcases i with _ | _ | i
    · exact ⟨⟨by rw [cell_new]; rfl, by simp [I64]⟩, ⟨by rw [cell_new]; rfl, by simp [I64]⟩⟩
    · exact ⟨⟨by rw [cell_new]; rfl, by simp [I64]⟩, ⟨by rw [cell_new]; rfl, by simp [I64]⟩⟩
    · omega
  rintro e w4 ⟨z, rfl, hz, hb4⟩
  rw [show toldE [(2, 0), (1, 0)] 2 0 0 = 2 from by decide +kernel]
  have hb34 := Below.after ((Below.refl _ w3).alloc (Nat.le_refl _) _) hb4 (by simp)
  have HB4 := Lib.hid (Below.after HB3.out hb34 HB3.out.size)
  have HX4 := Lib.hid (SlInt.below HX3.out hb34 hb34.size)
  clear hb4 hb34 hz HX3
  go_wp2_with fail
  refine (sample_any _).mono ?_
  rintro e w5 ⟨v5, rfl, hv5, hb5⟩
  go_wp2_with fail
  refine (stay_any _ _ _ 65 0 0 _ (Nat.le_refl _) hv5 (by decide)).mono ?_
  rintro e w6 ⟨u, rfl, hu, hb6⟩
  rw [show toldE sampleM 65 0 0 = 5 from by decide +kernel]
  have hb46 := Below.after hb5 hb6 hb5.size
  have HB6 := Lib.hid (Below.after HB4.out hb46 HB4.out.size)
  have HX6 := Lib.hid (SlInt.below HX4.out hb46 hb46.size)
  clear hb5 hb6 hb46 hu hv5 HX4
  go_wp2_with fail
  refine (awake_any _).mono ?_
  rintro e w7 ⟨rfl, hb7⟩
  have HB7 := Lib.hid (Below.after HB6.out hb7 HB6.out.size)
  have HX7 := Lib.hid (SlInt.below HX6.out hb7 hb7.size)
  clear hb7 HX6
  go_wp2_with fail
  have ha7 := (Below.refl _ w7).alloc (Nat.le_refl _) (.cells #[.int .i64 1, .int .i64 2, .int .i64 3] 3)
  refine (sameInts_any _ _ _ _ [1, 2, 3] _ (SlInt.below HX7.out ha7 ha7.size) (SlInt.lit w7 [1, 2, 3] 3 (by decide) (by simp [I64]))).mono ?_
  rintro e w8 ⟨rfl, n8, rfl⟩
  rw [show sameI (toldM sampleM 2 0 0 false) [1, 2, 3] = true from by decide +kernel]
  have hb8 := Below.drewN (HB7.out.alloc HB7.out.size (.cells #[.int .i64 1, .int .i64 2, .int .i64 3] 3)) n8
  obtain ⟨w8, hw8⟩ : ∃ w8, w8 = World.drewN (w7.alloc (.cells #[.int .i64 1, .int .i64 2, .int .i64 3] 3)) n8 := ⟨_, rfl⟩
  rw [← hw8] at hb8
  have HB8 := Lib.hid hb8
  clear ha7 HX7 hb8
  rw [← hw8]
  clear hw8
  go_wp2_with fail
  refine (stayL_any _ _ [4, 5] 0 10 2 _ (Nat.le_refl _) (SlInt.lit w8 [4, 5] 3 (by decide) (by simp [I64])) (by decide +kernel) (by decide +kernel)).mono ?_
  rintro e w9 ⟨rfl, hb9⟩
  have HB9 := Lib.hid (Below.after (HB8.out.alloc HB8.out.size _) hb9 (by have := HB8.out.size; simp; omega)); clear hb9
  go_wp2_with fail
  refine (stayL_any _ _ [2, 3, 4, 5] 3 10 3 _ (Nat.le_refl _) (SlInt.lit w9 [2, 3, 4, 5] 3 (by decide) (by simp [I64])) (by decide +kernel) (by decide +kernel)).mono ?_
  rintro e w10 ⟨rfl, hb10⟩
  have HB10 := Lib.hid (Below.after (HB9.out.alloc HB9.out.size _) hb10 (by have := HB9.out.size; simp; omega)); clear hb10
  go_wp2
  go_ret
  exact ⟨rfl, HB10.out⟩

set_option maxRecDepth 100000 in
theorem known_lifted (os : Os) (started : os.Started) (H : Type) (enc : TypeId × Value → H) :
    ReturnsInHanded {} Try.checked os 8 .any (Rows.retainKnownSpec.pre6 enc Try.prog Try.f8 Rows.retainKnownRow.domain false) (Rows.retainKnownSpec.post enc Try.prog Try.f8 false true false false) := by
  refine returnsInHanded_of_change_sized (C := Try.checked) Try.own started (by kernel_rfl) Try.func8
    (ChangeSpec.witness6 (enc := enc) (C := Try.checked) false ⟨#[], #[], []⟩ 8 (by kernel_rfl) (by kernel_rfl) (by kernel_rfl) (by kernel_rfl)) ?_
  intro W base args ds gs before hval0 hW _ hsz0 _
  obtain ⟨p, q, hA, hV, hpq, _, _⟩ := id hW
  rw [Try.params8] at hA
  obtain ⟨hargs, hds, rfl⟩ := ChangeShapes.trodAll_nil hA
  obtain rfl : args = #[] := by cases args; simp_all
  subst hds
  obtain ⟨rfl, _⟩ := trodVars_none hV
  refine (known_any W).mono fun e W' ⟨he, hb⟩ => ?_
  subst he
  exact ⟨_, rfl, law_post hW (by rw [Try.params8]; simp) rfl rfl rfl rfl rfl hb⟩

theorem known_holds : Rows.RetainKnownSaid :=
  OpenClaim.holds_of_wide 8 Try.f8 rfl rfl rfl rfl rfl rfl rfl ⟨rfl, rfl, rfl, rfl, rfl⟩ rfl rfl rfl rfl rfl (by kernel_rfl) Try.func8 (by kernel_rfl)
    (of_decide_eq_true (by kernel_rfl)) (by unfold Func.isWrapper; first | (rw [if_pos (by decide +kernel)]; kernel_rfl) | (rw [if_neg (by decide +kernel)]; exact ⟨rfl, rfl⟩))
    (fun os started H enc _ => known_lifted os started H enc)
end Go.Proofs.Ytjjjonhjofllfaa
