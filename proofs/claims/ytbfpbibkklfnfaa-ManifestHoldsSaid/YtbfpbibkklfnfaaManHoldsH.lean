/- ManifestHolds: whatever chunks are handed in, data have the names of the manifest. Conditions: none. -/
import Derived.Test.YtbfpbibkklfnfaaHe
set_option linter.unusedVariables false
set_option linter.unusedSimpArgs false
set_option maxRecDepth 100000
namespace Go.Proofs.Ytbfpbibkklfnfaa
open Go.RowKit Go.Maps Go.ChangeShapes Go.WideShapes Go.ChangeAt
set_option maxRecDepth 100000 in
theorem manifestHolds_contract (H : Type) (enc : TypeId × Value → H) (W : World) (base : Nat) (args : Array Value) (ds gs : List (DataW H)) (before : List MemPlace)
 (hval : ∀ (j : Nat) t v, Try.f4.params[j]? = some t → args[j]? = some v → Value.okWide Try.prog W .any base t v)
 (hW : DataW.Whole enc Try.prog Try.f4.params.toList Rows.manifestHoldsSpec.vars false W args.toList ds gs before) (hsz : (DataW.weightsEach Try.prog (Try.f4.params.toList ++ Rows.manifestHoldsSpec.plain.varTypes Try.prog) (ds ++ gs)).all (· ≤ reachBytes) = true) :
 Calls Try.prog 4 args W fun e W' => ∃ v, e = .returned v ∧ Rows.manifestHoldsSpec.post enc Try.prog Try.f4 false true false false W args v W' := by
 have hlt := hW.lt
 obtain ⟨p, q, hA, hV, hpq, _, _⟩ := id hW
 obtain ⟨rfl, rfl⟩ := trodVars_none hV
 rw [Try.params4] at hA hval
 obtain ⟨v0, vs0, d0, ds0, p0, q0, hargs, rfl, rfl, h0, r0⟩ := trodAll_cons hA
 obtain ⟨v1, vs1, d1, ds1, p1, q1, rfl, rfl, rfl, h1, r1⟩ := trodAll_cons r0
 obtain ⟨rfl, rfl, rfl⟩ := ChangeShapes.trodAll_nil r1
 obtain rfl : args = #[v0, v1] := by cases args; simp_all
 obtain ⟨a0, u0, m0, rfl, hk0, hl0, hn0⟩ := open_man (j := 0) (hval 0 _ _ rfl rfl) h0 hsz kr rfl
 obtain ⟨l1, hl1, hn1⟩ := opn_chunks (j := 1) (hval 1 _ _ rfl rfl) h1 hsz kr rfl
 refine (law_callsR (mholds a0 u0 v1 m0 l1) W (inC hl0 (in1 hl1))).mono fun e W' ⟨he, hb⟩ => ?_
 subst he
 exact ⟨_, rfl, law_post hW (by rw [Try.params4]; intro t ht; simp at ht; first | (rcases ht with rfl | rfl <;> exact ⟨by kernel_rfl, of_decide_eq_true kr⟩) | exact ht.elim) rfl rfl rfl rfl rfl hb⟩
set_option maxRecDepth 100000 in
theorem manifestHolds_lifted (os : Os) (started : os.Started) (H : Type) (enc : TypeId × Value → H) :
 ReturnsInHanded {} Try.checked os 4 .any (Rows.manifestHoldsSpec.pre6 enc Try.prog Try.f4 Rows.manifestHoldsRow.domain false) (Rows.manifestHoldsSpec.post enc Try.prog Try.f4 false true false false) := by
 refine returnsInHanded_of_change_sized (C := Try.checked) Try.own started kr Try.func4
  (ChangeSpec.witness6 (enc := enc) (C := Try.checked) false ⟨#[], #[.agg #[.int .i64 0, .int .i64 0, .int .i64 0, .int .i64 0, .slice none 0 0], .slice none 0 0], []⟩ 8 kr kr kr kr) ?_
 intro W base args ds gs before hval0 hW _ hsz0 _
 exact manifestHolds_contract H enc W base args ds gs before hval0 hW hsz0
theorem manifestHolds_holds : Rows.ManifestHoldsSaid :=
 OpenClaim.holds_of_wide 4 Try.f4 rfl rfl rfl rfl rfl rfl rfl ⟨rfl, rfl, rfl, rfl, rfl⟩ rfl rfl rfl rfl rfl kr Try.func4 kr
  (of_decide_eq_true kr) (by unfold Func.isWrapper; first | (rw [if_pos (by decide +kernel)]; kernel_rfl) | (rw [if_neg (by decide +kernel)]; exact ⟨rfl, rfl⟩))
  (fun os started H enc _ => manifestHolds_lifted os started H enc)
end Go.Proofs.Ytbfpbibkklfnfaa
