/- How texts that came in are opened. Conditions: none. -/
import Derived.Test.YtkhffndeomihhaaDoorLaw
import Derived.ChangeMaps5
set_option linter.unusedVariables false
set_option linter.unusedSimpArgs false
set_option maxRecDepth 100000
namespace Go.Proofs.YtkhffndeomihhaaDoor
open Go.ChangeShapes Go.WideShapes Go.ChangeAt Go.RowKit
section
variable {H : Type} {enc : TypeId × Value → H} {W : World}
theorem open_strv {r : Reach} {base : Nat} {v : Value} {d : DataW H} {p : List MemPlace} (hok : Value.okWide Tryd.prog W r base 9 v) (h : DataW.Trod enc Tryd.prog W 0 (fun _ => true) true 9 v d p) :
    ∃ l : List UInt8, v = .string (sB l) ∧ l.length ≤ 9223372036854775807 := by
  obtain ⟨s, rfl, _, _, hs⟩ := Go.ChangeMaps.open_string Tryd.underlying9 hok h
  obtain ⟨l, rfl⟩ := sB_ext s
  rw [sB_size] at hs
  unfold maxLen at hs
  exact ⟨l, rfl, by omega⟩
end
end Go.Proofs.YtkhffndeomihhaaDoor
