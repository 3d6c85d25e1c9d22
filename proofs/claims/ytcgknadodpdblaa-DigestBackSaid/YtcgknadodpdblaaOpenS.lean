/- How texts and arrays of bytes that came in are opened. Conditions: none. -/
import Derived.Test.YtcgknadodpdblaaOpenB
import Derived.OpenShut
import Derived.ChangeMaps5
set_option linter.unusedVariables false
set_option linter.unusedSimpArgs false
namespace Go.Proofs.Ytcgknadodpdblaa
open Go.ChangeShapes Go.WideShapes Go.ChangeAt Go.RowKit Go.Deep

section
variable {H : Type} {enc : TypeId × Value → H} {W : World}
theorem open_strv {r : Reach} {base : Nat} {v : Value} {d : DataW H} {p : List MemPlace} (hok : Value.okWide Try.prog W r base 9 v) (h : DataW.Trod enc Try.prog W 0 (fun _ => true) true 9 v d p) :
    ∃ l : List UInt8, v = .string (strB l) ∧ l.length ≤ maxLen := by
  obtain ⟨s, rfl, _, _, hs⟩ := Go.ChangeMaps.open_string Try.underlying9 hok h
  exact ⟨s.data.toList, by unfold strB; simp, by simpa using hs⟩
theorem okWide_arr {w : World} {r : Reach} {base n : Nat} {t e : TypeId} {v : Value} (ht : Try.prog.underlying t = some (.array n e)) (h : Value.okWide Try.prog w r base t v) : ∃ cs, v = .agg cs ∧ cs.size = Try.prog.cellsOf t := by
  simp only [Value.okWide, ht] at h
  obtain ⟨cs, h1, h2, _⟩ := h
  exact ⟨cs, h1, h2⟩
theorem open_bytesArr {r : Reach} {base n : Nat} {t : TypeId} {v : Value} {d : DataW H} {p : List MemPlace} (ht : Try.prog.underlying t = some (.array n 5)) (hc : Try.prog.cellsOf t = n) (hok : Value.okWide Try.prog W r base t v) (h : DataW.Trod enc Try.prog W 0 (fun _ => true) true t v d p) :
    ∃ l : List UInt8, v = .agg (l.flatMap fun c => [.int .u8 (c.toNat : Int)]).toArray ∧ l.length = n := by
  obtain ⟨cs, rfl, hcs⟩ := okWide_arr ht hok
  rw [hc] at hcs
  obtain ⟨fuel, hf⟩ := h
  obtain ⟨xs, m, _, _, _, hx, hi⟩ := DataW.trod_array ht hf
  have h1 : Try.prog.cellsOf 5 = 1 := by kernel_rfl
  have hcell : ∀ i, i < n → ∃ c : UInt8, cs[i]? = some (.int .u8 (c.toNat : Int)) := by
    intro i hin
    have h2 := hi i hin
    rw [h1, Nat.mul_one] at h2
    have h3 : xs[i]? = some (xs[i]'(by omega)) := List.getElem?_eq_getElem _
    rw [h3] at h2
    obtain ⟨z, hz, _, hwz⟩ := DataW.trod_int Try.underlying5 h2
    have hb := bounds_u8 hwz
    refine ⟨UInt8.ofNat z.toNat, ?_⟩
    have h4 : (List.take 1 (List.drop i (Value.agg cs).cells.toList))[0]? = some (.int .u8 z) := by rw [hz]; rfl
    rw [List.getElem?_take_of_lt (by omega), List.getElem?_drop] at h4
    have h5 : cs[i]? = some (.int .u8 z) := by simpa [Value.cells] using h4
    rw [h5]
    congr 2
    simp only [UInt8.toNat_ofNat']
    omega
  obtain ⟨f, hfc⟩ : ∃ f : Nat → UInt8, ∀ i, i < n → cs[i]? = some (.int .u8 ((f i).toNat : Int)) := by
    refine ⟨fun i => if h : i < n then Classical.choose (hcell i h) else 0, fun i hin => ?_⟩
    have := Classical.choose_spec (hcell i hin)
    simp only [hin, dif_pos]
    exact this
  refine ⟨(List.range n).map f, ?_, by simp⟩
  congr 1
  apply Array.ext_getElem?
  intro i
  by_cases hin : i < n
  · rw [hfc i hin, List.getElem?_toArray]
    have e := flatMap_get (fun c : UInt8 => [Value.int .u8 (c.toNat : Int)]) 1 (fun _ => rfl) ((List.range n).map f) i 0 (by simp; omega) (by omega)
    rw [Nat.mul_one, Nat.add_zero] at e
    rw [e]
    simp [hin]
  · rw [Array.getElem?_eq_none (by omega), List.getElem?_toArray, List.getElem?_eq_none (by rw [flatMap_length _ 1 (fun _ => rfl)]; simp; omega)]
end
end Go.Proofs.Ytcgknadodpdblaa
