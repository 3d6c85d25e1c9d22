/- How bytes that came in are opened, as chunks. Conditions: none. -/
import Derived.Test.YtcgknadodpdblaaLaw
set_option maxRecDepth 100000
set_option linter.unusedVariables false
set_option linter.unusedSimpArgs false
namespace Go.Proofs.Ytcgknadodpdblaa
open Go.ChangeShapes Go.WideShapes Go.ChangeAt Go.RowKit

section
variable {H : Type} {enc : TypeId × Value → H} {W : World}
theorem opn_bytes {r : Reach} {base : Nat} {v : Value} {d : DataW H} {p : List MemPlace} (hok : Value.okWide Try.prog W r base 22 v) (h : DataW.Trod enc Try.prog W 0 (fun _ => true) true 22 v d p) :
    ∃ l : List UInt8, Ro W (fun _ => False) (slc rByte (· < W.heap.size) v l) ∧ sliceLen d = l.length := by
  suffices hs : ∃ l : List UInt8, IsSl rByte (· < W.heap.size) W v l ∧ sliceLen d = l.length by
    obtain ⟨l, h1, h2⟩ := hs
    exact ⟨l, ro_new h1 fun b hb => hb, h2⟩
  obtain ⟨a1, len, cap, rfl⟩ := okWide_slice Try.underlying22 hok
  obtain ⟨fuel, hf⟩ := h
  rcases open_ints Try.underlying22 Try.underlying5 (by kernel_rfl) hf with ⟨hcs, hx⟩ | ⟨a, len', cap', zs, hcs, _, hl, hm, hz, hx, hcell, hwz⟩
  · simp [Value.cells] at hcs
    obtain ⟨rfl, rfl, rfl⟩ := hcs
    simp only [Prod.mk.injEq] at hx
    obtain ⟨rfl, rfl⟩ := hx
    exact ⟨[], ⟨none, 0, 0, 0, rfl, Nat.le_refl _, by omega, fun _ => rfl, fun h => absurd h (by simp), fun i hi => absurd hi (by simp)⟩, rfl⟩
  · simp [Value.cells] at hcs
    obtain ⟨rfl, rfl, rfl⟩ := hcs
    simp only [Prod.mk.injEq] at hx
    obtain ⟨rfl, rfl⟩ := hx
    simp only [if_true] at hz
    have hlen : ((zs.take len).map fun n => UInt8.ofNat n.toNat).length = len := by simp; omega
    refine ⟨(zs.take len).map fun n => UInt8.ofNat n.toNat, ⟨some a, cap, a.block, a.off, by rw [hlen], by omega, by unfold maxLen at hm; omega, by simp, fun h0 => ?_, fun i hi => ?_⟩, ?_⟩
    · rw [hlen] at h0
      have h1 := hcell 0 (by omega)
      have e : a.add 0 = a := by unfold Addr.add; simp
      rw [e] at h1
      exact congrArg some (spot_none h1)
    · rw [hlen] at hi
      have h0 := hcell 0 (by omega)
      have e : a.add 0 = a := by unfold Addr.add; simp
      rw [e] at h0
      have hs := spot_none h0
      have g := add_none (hcell i (by omega)) hs
      have hb := range_u8 hwz i
      have e2 : zs.getD i 0 = zs[i]'(by omega) := by simp [List.getD, List.getElem?_eq_getElem (show i < zs.length by omega)]
      have e3 : zs[i]?.getD 0 = zs[i]'(by omega) := by simp [List.getElem?_eq_getElem (show i < zs.length by omega)]
      rw [e2] at g
      rw [e3] at hb
      refine ⟨cell_lt h0, ?_, trivial⟩
      show W.cell? ⟨a.block, a.off + i * 1, none⟩ = _
      rw [Nat.mul_one, g]
      simp only [List.getElem_map, List.getElem_take, vByte]
      congr 2
      simp only [UInt8.toNat_ofNat']
      omega
    · simp [sliceLen, lits]
end
end Go.Proofs.Ytcgknadodpdblaa
