/- ModelKnown: the chapter's examples are answered as it says. Conditions: none. -/
import Derived.Test.YtakeannapfaodaaDc
set_option linter.unusedVariables false
set_option linter.unusedSimpArgs false
set_option maxRecDepth 100000
namespace Go.Proofs.Ytakeannapfaodaa
open Go.RowKit Go.Maps Go.ChangeShapes Go.WideShapes Go.ChangeAt
set_option maxRecDepth 100000 in
theorem modelKnown_contract (H : Type) (enc : TypeId × Value → H) (W : World) (base : Nat) (args : Array Value) (ds gs : List (DataW H)) (before : List MemPlace)
 (hval : ∀ (j : Nat) t v, Try.f5.params[j]? = some t → args[j]? = some v → Value.okWide Try.prog W .any base t v)
 (hW : DataW.Whole enc Try.prog Try.f5.params.toList Rows.modelKnownSpec.vars false W args.toList ds gs before) :
 Calls Try.prog 5 args W fun e W' => ∃ v, e = .returned v ∧ Rows.modelKnownSpec.post enc Try.prog Try.f5 false true false false W args v W' := by
 have hlt := hW.lt
 obtain ⟨p, q, hA, hV, hpq, _, _⟩ := id hW
 obtain ⟨rfl, rfl⟩ := trodVars_none hV
 rw [Try.params5] at hA hval
 obtain ⟨hargs, rfl, rfl⟩ := ChangeShapes.trodAll_nil hA
 obtain rfl : args = #[] := by cases args; simp_all
 refine (law_callsR (mknown) W (fun c hc => by cases hc)).mono fun e W' ⟨he, hb⟩ => ?_
 subst he
 exact ⟨_, rfl, law_post hW (by rw [Try.params5]; intro t ht; simp at ht) rfl rfl rfl rfl rfl hb⟩
set_option maxRecDepth 100000 in
theorem modelKnown_lifted (os : Os) (started : os.Started) (H : Type) (enc : TypeId × Value → H) :
 ReturnsInHanded {} Try.checked os 5 .any (Rows.modelKnownSpec.pre6 enc Try.prog Try.f5 Rows.modelKnownRow.domain false) (Rows.modelKnownSpec.post enc Try.prog Try.f5 false true false false) := by
 refine returnsInHanded_of_change_sized (C := Try.checked) Try.own started kr Try.func5
  (ChangeSpec.witness6 (enc := enc) (C := Try.checked) false ⟨#[], #[], []⟩ 8 kr kr kr kr) ?_
 intro W base args ds gs before hval0 hW _ hsz0 _
 exact modelKnown_contract H enc W base args ds gs before hval0 hW
theorem modelKnown_holds : Rows.ModelKnownSaid :=
 OpenClaim.holds_of_wide 5 Try.f5 rfl rfl rfl rfl rfl rfl rfl ⟨rfl, rfl, rfl, rfl, rfl⟩ rfl rfl rfl rfl rfl kr Try.func5 kr
  (of_decide_eq_true kr) (by unfold Func.isWrapper; first | (rw [if_pos (by decide +kernel)]; kernel_rfl) | (rw [if_neg (by decide +kernel)]; exact ⟨rfl, rfl⟩))
  (fun os started H enc _ => modelKnown_lifted os started H enc)
end Go.Proofs.Ytakeannapfaodaa
