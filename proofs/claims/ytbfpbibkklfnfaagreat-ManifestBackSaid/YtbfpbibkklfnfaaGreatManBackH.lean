/- ManifestBack: a manifest that is written is read as it was; what is read may be, and is written as it was. Conditions: none. -/
import Derived.Test.YtbfpbibkklfnfaaGreatHg
set_option linter.unusedVariables false
set_option linter.unusedSimpArgs false
set_option maxRecDepth 100000
namespace Go.Proofs.YtbfpbibkklfnfaaGreat
open Go.RowKit Go.Maps Go.ChangeShapes Go.WideShapes Go.ChangeAt
set_option maxRecDepth 100000 in
theorem manifestBack_contract (H : Type) (enc : TypeId × Value → H) (W : World) (base : Nat) (args : Array Value) (ds gs : List (DataW H)) (before : List MemPlace)
 (hval : ∀ (j : Nat) t v, Tryz.f6.params[j]? = some t → args[j]? = some v → Value.okWide Tryz.prog W .any base t v)
 (hW : DataW.Whole enc Tryz.prog Tryz.f6.params.toList Rows.manifestBackSpec.vars false W args.toList ds gs before) (hsz : (DataW.weightsEach Tryz.prog (Tryz.f6.params.toList ++ Rows.manifestBackSpec.plain.varTypes Tryz.prog) (ds ++ gs)).all (· ≤ reachBytes) = true) :
 Calls Tryz.prog 6 args W fun e W' => ∃ v, e = .returned v ∧ Rows.manifestBackSpec.post enc Tryz.prog Tryz.f6 false true false false W args v W' := by
 have hlt := hW.lt
 obtain ⟨p, q, hA, hV, hpq, _, _⟩ := id hW
 obtain ⟨rfl, rfl⟩ := trodVars_none hV
 rw [Tryz.params6] at hA hval
 obtain ⟨v0, vs0, d0, ds0, p0, q0, hargs, rfl, rfl, h0, r0⟩ := trodAll_cons hA
 obtain ⟨v1, vs1, d1, ds1, p1, q1, rfl, rfl, rfl, h1, r1⟩ := trodAll_cons r0
 obtain ⟨rfl, rfl, rfl⟩ := ChangeShapes.trodAll_nil r1
 obtain rfl : args = #[v0, v1] := by cases args; simp_all
 obtain ⟨a0, u0, m0, rfl, hk0, hl0, hn0⟩ := open_man (j := 0) (hval 0 _ _ rfl rfl) h0 hsz kr rfl
 obtain ⟨l1, hl1, hn1⟩ := opn_bytes (hval 1 _ _ rfl rfl) h1
 refine (law_callsR (mbackL a0 u0 v1 m0 l1) W (inC hl0 (in1 hl1))).mono fun e W' ⟨he, hb⟩ => ?_
 subst he
 exact ⟨_, rfl, law_post hW (by rw [Tryz.params6]; intro t ht; simp at ht; first | (rcases ht with rfl | rfl <;> exact ⟨by kernel_rfl, of_decide_eq_true kr⟩) | exact ht.elim) rfl rfl rfl rfl rfl hb⟩
set_option maxRecDepth 100000 in
theorem manifestBack_lifted (os : Os) (started : os.Started) (H : Type) (enc : TypeId × Value → H) :
 ReturnsInHanded {} Tryz.checked os 6 .any (Rows.manifestBackSpec.pre6 enc Tryz.prog Tryz.f6 Rows.manifestBackRow.domain false) (Rows.manifestBackSpec.post enc Tryz.prog Tryz.f6 false true false false) := by
 refine returnsInHanded_of_change_sized (C := Tryz.checked) Tryz.own started kr Tryz.func6
  (ChangeSpec.witness6 (enc := enc) (C := Tryz.checked) false ⟨#[], #[.agg #[.int .i64 0, .int .i64 0, .int .i64 0, .int .i64 0, .slice none 0 0], .slice none 0 0], []⟩ 8 kr kr kr kr) ?_
 intro W base args ds gs before hval0 hW _ hsz0 _
 exact manifestBack_contract H enc W base args ds gs before hval0 hW hsz0
theorem manifestBack_holds : Rows.ManifestBackSaid :=
 OpenClaim.holds_of_wide 6 Tryz.f6 rfl rfl rfl rfl rfl rfl rfl ⟨rfl, rfl, rfl, rfl, rfl⟩ rfl rfl rfl rfl rfl kr Tryz.func6 kr
  (of_decide_eq_true kr) Y37
  (fun os started H enc _ => manifestBack_lifted os started H enc)
end Go.Proofs.YtbfpbibkklfnfaaGreat
