/- FieldWrites: what is written, step by step. Conditions: none. -/
import Derived.Test.YtnfjpiancbgdhaaFP
set_option linter.unusedVariables false
set_option linter.unusedSimpArgs false
namespace Go.Proofs.Ytnfjpiancbgdhaa
open Go.RowKit Go.Maps Go.ChangeShapes Go.WideShapes Go.ChangeAt

theorem opn_rStep {H : Type} {enc : TypeId × Value → H} {W : World} : Opn H enc Try.prog W 39 rStep :=
  opn_struct Try.underlying39 (by kernel_rfl) (.cons (opn_int Try.underlying3 (by kernel_rfl)) rfl (.cons (opn_int Try.underlying3 (by kernel_rfl)) rfl (.cons (opn_int Try.underlying3 (by kernel_rfl)) rfl
    (.cons (opn_rSl Try.underlying23 (by kernel_rfl) (of_decide_eq_true (by kernel_rfl)) (opn_byte Try.underlying5 (by kernel_rfl)) (by decide)) rfl (.cons (opn_arr Try.underlying37 (by kernel_rfl) (opn_byte Try.underlying5 (by kernel_rfl))) rfl .nil)))))
set_option maxRecDepth 100000 in
theorem fieldWrites_contract (H : Type) (enc : TypeId × Value → H) (W : World) (base : Nat) (args : Array Value) (ds gs : List (DataW H)) (before : List MemPlace)
    (hval : ∀ (j : Nat) t v, Try.f4.params[j]? = some t → args[j]? = some v → Value.okWide Try.prog W .any base t v)
    (hW : DataW.Whole enc Try.prog Try.f4.params.toList Rows.fieldWritesSpec.vars false W args.toList ds gs before) (hsz : (DataW.weightsEach Try.prog (Try.f4.params.toList ++ Rows.fieldWritesSpec.plain.varTypes Try.prog) (ds ++ gs)).all (· ≤ reachBytes) = true) :
    Calls Try.prog 4 args W fun e W' => ∃ v, e = .returned v ∧ Rows.fieldWritesSpec.post enc Try.prog Try.f4 false true false false W args v W' := by
  have hlt := hW.lt
  obtain ⟨p, q, hA, hV, hpq, _, _⟩ := id hW
  obtain ⟨rfl, rfl⟩ := trodVars_none hV
  rw [Try.params4] at hA hval
  obtain ⟨v0, vs0, d0, ds0, p0, q0, hargs, rfl, rfl, h0, r0⟩ := trodAll_cons hA
  obtain ⟨rfl, rfl, rfl⟩ := ChangeShapes.trodAll_nil r0
  obtain rfl : args = #[v0] := by cases args; simp_all
  obtain ⟨l0, hl0, hn0⟩ := opn_arg (j := 0) Try.underlying28 (of_decide_eq_true (by kernel_rfl)) opn_rStep (by decide) (hval 0 _ _ rfl rfl) h0 hsz (by kernel_rfl) rfl
  refine (law_callsR (writes_tr v0 l0 hn0) W (by simpa using hl0)).mono fun e W' ⟨he, hb⟩ => ?_
  subst he
  exact ⟨_, rfl, law_post hW (by rw [Try.params4]; intro t ht; simp at ht; first | (rcases ht with rfl <;> exact ⟨by kernel_rfl, of_decide_eq_true (by kernel_rfl)⟩) | exact ht.elim) rfl rfl rfl rfl rfl hb⟩

set_option maxRecDepth 100000 in
theorem fieldWrites_lifted (os : Os) (started : os.Started) (H : Type) (enc : TypeId × Value → H) :
    ReturnsInHanded {} Try.checked os 4 .any (Rows.fieldWritesSpec.pre6 enc Try.prog Try.f4 Rows.fieldWritesRow.domain false) (Rows.fieldWritesSpec.post enc Try.prog Try.f4 false true false false) := by
  refine returnsInHanded_of_change_sized (C := Try.checked) Try.own started (by kernel_rfl) Try.func4
    (ChangeSpec.witness6 (enc := enc) (C := Try.checked) false ⟨#[], #[.slice none 0 0], []⟩ 8 (by kernel_rfl) (by kernel_rfl) (by kernel_rfl) (by kernel_rfl)) ?_
  intro W base args ds gs before hval0 hW _ hsz0 _
  exact fieldWrites_contract H enc W base args ds gs before hval0 hW hsz0

theorem fieldWrites_holds : Rows.FieldWritesSaid :=
  OpenClaim.holds_of_wide 4 Try.f4 rfl rfl rfl rfl rfl rfl rfl ⟨rfl, rfl, rfl, rfl, rfl⟩ rfl rfl rfl rfl rfl (by kernel_rfl) Try.func4 (by kernel_rfl)
    (of_decide_eq_true (by kernel_rfl)) (by unfold Func.isWrapper; first | (rw [if_pos (by decide +kernel)]; kernel_rfl) | (rw [if_neg (by decide +kernel)]; exact ⟨rfl, rfl⟩))
    (fun os started H enc _ => fieldWrites_lifted os started H enc)
end Go.Proofs.Ytnfjpiancbgdhaa
