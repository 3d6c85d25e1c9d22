/- From a contract to a statement. Conditions: none. -/
import Derived.Test.YtkhffndeomihhaaDoorFrameG
import Derived.Test.YtkhffndeomihhaaDoorW9
set_option linter.unusedVariables false
set_option linter.unusedSimpArgs false
set_option maxRecDepth 100000
namespace Go.Proofs.YtkhffndeomihhaaDoor
open Go.RowKit
theorem U_nil : U [] = fun _ => False := by
  funext b
  simp [U]
theorem law_callsR {P : Program} {f : FuncId} {args : Array Value} {ro : List Ck} (h : Tr P f args ro [] (T0 (.bool true))) (w : World) (hro : ∀ c ∈ ro, Ro w (fun _ => False) c) : Calls P f args w fun e w' => e = .returned (.bool true) ∧ Below w.heap.size w w' := by
  refine (h w (fun c hc => by rw [U_nil]; exact hro c hc) ⟨Chg.refl _ _, by simp, by simp, .nil⟩).mono ?_
  rintro e w' ⟨v, m', he, ⟨hv, -⟩, hw⟩
  have hc := hw.chg
  rw [U_nil] at hc
  exact ⟨by rw [he, hv], Chg.below_of_none hc⟩
theorem law_calls {P : Program} {f : FuncId} {args : Array Value} (h : Tr P f args [] [] (T0 (.bool true))) (w : World) : Calls P f args w fun e w' => e = .returned (.bool true) ∧ Below w.heap.size w w' :=
  law_callsR h w (by simp)
theorem ro_new {c : Ck} {w : World} (h : c.φ w) (hb : ∀ b, c.S b → b < w.heap.size) : Ro w (fun _ => False) c := ⟨h, fun b hc => ⟨hb b hc, id⟩⟩
end Go.Proofs.YtkhffndeomihhaaDoor
