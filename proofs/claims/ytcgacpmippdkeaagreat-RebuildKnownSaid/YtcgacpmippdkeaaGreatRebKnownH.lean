/- RebuildKnown: the chapter's examples are answered as it says. Conditions: none. -/
import Derived.Test.YtcgacpmippdkeaaGreatHf
set_option linter.unusedVariables false
set_option linter.unusedSimpArgs false
set_option maxRecDepth 100000
namespace Go.Proofs.YtcgacpmippdkeaaGreat
open Go.RowKit Go.Maps Go.ChangeShapes Go.WideShapes Go.ChangeAt
set_option maxRecDepth 100000 in
theorem rebuildKnown_contract (H : Type) (enc : TypeId × Value → H) (W : World) (base : Nat) (args : Array Value) (ds gs : List (DataW H)) (before : List MemPlace)
 (hval : ∀ (j : Nat) t v, Tryz.f3.params[j]? = some t → args[j]? = some v → Value.okWide Tryz.prog W .any base t v)
 (hW : DataW.Whole enc Tryz.prog Tryz.f3.params.toList Rows.rebuildKnownSpec.vars false W args.toList ds gs before) :
 Calls Tryz.prog 3 args W fun e W' => ∃ v, e = .returned v ∧ Rows.rebuildKnownSpec.post enc Tryz.prog Tryz.f3 false true false false W args v W' := by
 have hlt := hW.lt
 obtain ⟨p, q, hA, hV, hpq, _, _⟩ := id hW
 obtain ⟨rfl, rfl⟩ := trodVars_none hV
 rw [Tryz.params3] at hA hval
 obtain ⟨hargs, rfl, rfl⟩ := ChangeShapes.trodAll_nil hA
 obtain rfl : args = #[] := by cases args; simp_all
 refine (law_callsR (known28_tr) W (fun c hc => by cases hc)).mono fun e W' ⟨he, hb⟩ => ?_
 subst he
 exact ⟨_, rfl, law_post hW (by rw [Tryz.params3]; intro t ht; simp at ht) rfl rfl rfl rfl rfl hb⟩
set_option maxRecDepth 100000 in
theorem rebuildKnown_lifted (os : Os) (started : os.Started) (H : Type) (enc : TypeId × Value → H) :
 ReturnsInHanded {} Tryz.checked os 3 .any (Rows.rebuildKnownSpec.pre6 enc Tryz.prog Tryz.f3 Rows.rebuildKnownRow.domain false) (Rows.rebuildKnownSpec.post enc Tryz.prog Tryz.f3 false true false false) := by
 refine returnsInHanded_of_change_sized (C := Tryz.checked) Tryz.own started kr Tryz.func3
  (ChangeSpec.witness6 (enc := enc) (C := Tryz.checked) false ⟨#[], #[], []⟩ 8 kr kr kr kr) ?_
 intro W base args ds gs before hval0 hW _ hsz0 _
 exact rebuildKnown_contract H enc W base args ds gs before hval0 hW
theorem rebuildKnown_holds : Rows.RebuildKnownSaid :=
 OpenClaim.holds_of_wide 3 Tryz.f3 rfl rfl rfl rfl rfl rfl rfl ⟨rfl, rfl, rfl, rfl, rfl⟩ rfl rfl rfl rfl rfl kr Tryz.func3 kr
  (of_decide_eq_true kr) (by unfold Func.isWrapper; first | (rw [if_pos (by decide +kernel)]; kernel_rfl) | (rw [if_neg (by decide +kernel)]; exact ⟨rfl, rfl⟩))
  (fun os started H enc _ => rebuildKnown_lifted os started H enc)
end Go.Proofs.YtcgacpmippdkeaaGreat
