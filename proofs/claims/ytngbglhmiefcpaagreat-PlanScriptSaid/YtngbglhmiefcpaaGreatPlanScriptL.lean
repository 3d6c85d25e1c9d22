/- PlanScript: which notes a plan sends, and what it makes of any answers, one behind the other, is as the document says. Conditions: none. -/
import Derived.Test.YtngbglhmiefcpaaGreatLg
set_option linter.unusedVariables false
set_option linter.unusedSimpArgs false
set_option maxRecDepth 100000
namespace Go.Proofs.YtngbglhmiefcpaaGreat
open Go.RowKit Go.Maps Go.ChangeShapes Go.WideShapes Go.ChangeAt
set_option maxRecDepth 100000 in
theorem planScript_contract (H : Type) (enc : TypeId × Value → H) (W : World) (base : Nat) (args : Array Value) (ds gs : List (DataW H)) (before : List MemPlace)
 (hval : ∀ (j : Nat) t v, Tryz.f6.params[j]? = some t → args[j]? = some v → Value.okWide Tryz.prog W .any base t v)
 (hW : DataW.Whole enc Tryz.prog Tryz.f6.params.toList Rows.planScriptSpec.vars false W args.toList ds gs before) (hsz : (DataW.weightsEach Tryz.prog (Tryz.f6.params.toList ++ Rows.planScriptSpec.plain.varTypes Tryz.prog) (ds ++ gs)).all (· ≤ reachBytes) = true) :
 Calls Tryz.prog 6 args W fun e W' => ∃ v, e = .returned v ∧ Rows.planScriptSpec.post enc Tryz.prog Tryz.f6 false true false false W args v W' := by
 have hlt := hW.lt
 obtain ⟨p, q, hA, hV, hpq, _, _⟩ := id hW
 obtain ⟨rfl, rfl⟩ := trodVars_none hV
 rw [Tryz.params6] at hA hval
 obtain ⟨v0, vs0, d0, ds0, p0, q0, hargs, rfl, rfl, h0, r0⟩ := trodAll_cons hA
 obtain ⟨v1, vs1, d1, ds1, p1, q1, rfl, rfl, rfl, h1, r1⟩ := trodAll_cons r0
 obtain ⟨v2, vs2, d2, ds2, p2, q2, rfl, rfl, rfl, h2, r2⟩ := trodAll_cons r1
 obtain ⟨v3, vs3, d3, ds3, p3, q3, rfl, rfl, rfl, h3, r3⟩ := trodAll_cons r2
 obtain ⟨v4, vs4, d4, ds4, p4, q4, rfl, rfl, rfl, h4, r4⟩ := trodAll_cons r3
 obtain ⟨rfl, rfl, rfl⟩ := ChangeShapes.trodAll_nil r4
 obtain rfl : args = #[v0, v1, v2, v3, v4] := by cases args; simp_all
 obtain ⟨x0, rfl, hx0⟩ := open_intv (hval 0 _ _ rfl rfl) h0
 obtain ⟨x1, rfl, hx1⟩ := open_intv (hval 1 _ _ rfl rfl) h1
 obtain ⟨x2, rfl, hx2⟩ := open_intv (hval 2 _ _ rfl rfl) h2
 obtain ⟨l3, hl3, hn3⟩ := opn_tree (j := 3) (hval 3 _ _ rfl rfl) h3 hsz kr rfl
 obtain ⟨l4, hl4, hn4⟩ := opn_acts (j := 4) (hval 4 _ _ rfl rfl) h4 hsz kr rfl
 refine (law_callsR (script27_tr x0 x1 x2 v3 v4 l3 l4 hx1 hx2) W (inC hl3 (in1 hl4))).mono fun e W' ⟨he, hb⟩ => ?_
 subst he
 exact ⟨_, rfl, law_post hW (by rw [Tryz.params6]; intro t ht; simp at ht; first | (rcases ht with rfl | rfl | rfl | rfl | rfl <;> exact ⟨by kernel_rfl, of_decide_eq_true kr⟩) | exact ht.elim) rfl rfl rfl rfl rfl hb⟩
set_option maxRecDepth 100000 in
theorem planScript_lifted (os : Os) (started : os.Started) (H : Type) (enc : TypeId × Value → H) :
 ReturnsInHanded {} Tryz.checked os 6 .any (Rows.planScriptSpec.pre6 enc Tryz.prog Tryz.f6 Rows.planScriptRow.domain false) (Rows.planScriptSpec.post enc Tryz.prog Tryz.f6 false true false false) := by
 refine returnsInHanded_of_change_sized (C := Tryz.checked) Tryz.own started kr Tryz.func6
  (ChangeSpec.witness6 (enc := enc) (C := Tryz.checked) false ⟨#[], #[.int .i64 0, .int .i64 0, .int .i64 0, .slice none 0 0, .slice none 0 0], []⟩ 8 kr kr kr kr) ?_
 intro W base args ds gs before hval0 hW _ hsz0 _
 exact planScript_contract H enc W base args ds gs before hval0 hW hsz0
theorem planScript_holds : Rows.PlanScriptSaid :=
 OpenClaim.holds_of_wide 6 Tryz.f6 rfl rfl rfl rfl rfl rfl rfl ⟨rfl, rfl, rfl, rfl, rfl⟩ rfl rfl rfl rfl rfl kr Tryz.func6 kr
  (of_decide_eq_true kr) (by unfold Func.isWrapper; first | (rw [if_pos (by decide +kernel)]; kernel_rfl) | (rw [if_neg (by decide +kernel)]; exact ⟨rfl, rfl⟩))
  (fun os started H enc _ => planScript_lifted os started H enc)
end Go.Proofs.YtngbglhmiefcpaaGreat
