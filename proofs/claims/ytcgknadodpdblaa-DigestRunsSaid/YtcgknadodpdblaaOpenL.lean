/- How a list of byte strings that came in is opened. Conditions: none. -/
import Derived.Test.YtcgknadodpdblaaOpenB
import Derived.Deep.Matrix
set_option linter.unusedVariables false
set_option linter.unusedSimpArgs false
namespace Go.Proofs.Ytcgknadodpdblaa
open Go.ChangeShapes Go.WideShapes Go.ChangeAt Go.RowKit Go.Deep

/-- a cell that holds a slice of bytes -/
def RBytes (B : Nat) (w : World) (b o : Nat) (x : List UInt8) : Prop := ∃ v, w.cell? ⟨b, o, none⟩ = some v ∧ SlByte B w v x
theorem RBytes.below {B : Nat} {w w' : World} {b o : Nat} {x : List UInt8} (h : RBytes B w b o x) (hb : b < B) (hw : Below B w w') : RBytes B w' b o x := by
  obtain ⟨v, h1, h2⟩ := h
  exact ⟨v, (hw.cell (by exact hb)).trans h1, h2.below hw (Nat.le_refl _)⟩
theorem weightsAll_memL {H : Type} {P : Program} {e : TypeId} : ∀ {l : List (DataW H)} {d : DataW H}, d ∈ l → ∀ n ∈ d.weights P e, n ∈ DataW.weightsAll P e l
  | x :: l, d, hd, n, hn => by
    simp only [DataW.weightsAll, List.mem_append]
    rcases List.mem_cons.1 hd with rfl | h
    · exact Or.inl hn
    · exact Or.inr (weightsAll_memL h n hn)
theorem sized_innerL {H : Type} {P : Program} {ts : List TypeId} {ds : List (DataW H)} (h : (DataW.weightsEach P ts ds).all (· ≤ reachBytes) = true) {j : Nat} {t e q : TypeId} {elems spare e' sp' : List (DataW H)}
    (ht : ts[j]? = some t) (hd : ds[j]? = some (.slice elems spare)) (hu : P.underlying t = some (.slice e)) (hu2 : P.underlying e = some (.slice q)) (hx : DataW.slice e' sp' ∈ elems) : (e'.length + sp'.length) * P.bytesOf q ≤ reachBytes := by
  refine of_decide_eq_true (List.all_eq_true.1 h _ (DataW.weights_mem_each ht hd _ ?_))
  simp only [DataW.weights, hu, List.mem_cons, List.mem_append]
  exact Or.inr (Or.inl (weightsAll_memL hx _ (by simp [DataW.weights, hu2])))
section
variable {H : Type} {enc : TypeId × Value → H} {W : World}
theorem open_listsv {r : Reach} {base : Nat} {v : Value} {d : DataW H} {p : List MemPlace} {ts : List TypeId} {ds : List (DataW H)} {j : Nat}
    (hok : Value.okWide Try.prog W r base 32 v) (h : DataW.Trod enc Try.prog W 0 (fun _ => true) true 32 v d p) (hsz : (DataW.weightsEach Try.prog ts ds).all (· ≤ reachBytes) = true) (hts : ts[j]? = some 32) (hds : ds[j]? = some d) :
    ∃ l : List (List UInt8), Sl (RBytes W.heap.size) 1 W.heap.size W v l ∧ ∀ x ∈ l, x.length ≤ 140737488351232 := by
  obtain ⟨a1, len, cap, rfl⟩ := okWide_slice Try.underlying32 hok
  obtain ⟨fuel, hf⟩ := h
  rcases open_int_rows Try.underlying32 Try.underlying22 Try.underlying5 (by kernel_rfl) (by kernel_rfl) hf with ⟨hcs, hx⟩ | ⟨a, len', cap', A, L, C, Z, hcs, _, hl, hm, hx, hrow⟩
  · simp [Value.cells] at hcs
    obtain ⟨rfl, rfl, rfl⟩ := hcs
    exact ⟨[], Sl.nil _ _ _ _, fun x hx => by simp at hx⟩
  · simp [Value.cells] at hcs
    obtain ⟨rfl, rfl, rfl⟩ := hcs
    simp only [Prod.mk.injEq] at hx
    obtain ⟨rfl, rfl⟩ := hx
    have e0 : ∀ b : Addr, b.add 0 = b := fun b => by unfold Addr.add; simp
    have inner : ∀ i, i < len → SlByte W.heap.size W (.slice (A i) (L i) (C i)) (((Z i).take (L i)).map fun n => UInt8.ofNat n.toNat) := by
      intro i hi
      obtain ⟨_, h1, h2, h3, h4, h5, h6⟩ := hrow i (by omega)
      have hlen : (((Z i).take (L i)).map fun n => UInt8.ofNat n.toNat).length = L i := by simp; omega
      cases hA : A i with
      | none =>
        have := h5 hA
        have hL0 : L i = 0 := by omega
        refine ⟨none, 0, 0, C i, by rw [hlen], by omega, h2, fun _ => this, fun hp => by omega, fun k hk => by omega⟩
      | some a' =>
        obtain ⟨_, hc⟩ := h6 a' hA
        refine ⟨some a', a'.block, a'.off, C i, by rw [hlen], by omega, h2, (fun hn => by cases hn), (fun hp => ?_), fun k hk => ?_⟩
        · rw [hlen] at hp
          have hc0 := hc 0 (by omega)
          rw [e0] at hc0
          exact ⟨congrArg some (spot_none hc0), cell_lt hc0⟩
        · rw [hlen] at hk
          have hc0 := hc 0 (by omega)
          rw [e0] at hc0
          have hs := spot_none hc0
          have g := add_none (hc k (by omega)) hs
          have hb := range_u8 h4 k
          have e2 : (Z i).getD k 0 = (Z i)[k]'(by omega) := by simp [List.getD, List.getElem?_eq_getElem (show k < (Z i).length by omega)]
          have e3 : (Z i)[k]?.getD 0 = (Z i)[k]'(by omega) := by simp [List.getElem?_eq_getElem (show k < (Z i).length by omega)]
          rw [e2] at g
          rw [e3] at hb
          unfold RByte
          rw [Nat.mul_one, g]
          simp only [List.getElem_map, List.getElem_take]
          congr 2
          simp only [UInt8.toNat_ofNat']
          omega
    have size : ∀ i, i < len → L i ≤ 140737488351232 := by
      intro i hi
      obtain ⟨_, h1, h2, h3, h4, h5, h6⟩ := hrow i (by omega)
      cases hA : A i with
      | none => have := h5 hA; omega
      | some a' =>
        have hmem : DataW.slice (lits (H := H) .u8 ((Z i).take (L i))) (lits .u8 ((Z i).drop (L i))) ∈ (List.range len).map fun r => intRow (H := H) .u8 (A r) (L r) (Z r) := by
          rw [List.mem_map]
          exact ⟨i, List.mem_range.2 hi, by unfold intRow; rw [hA]⟩
        have := sized_innerL hsz hts hds Try.underlying32 Try.underlying22 hmem
        have hb1 : (Try.prog).bytesOf 5 = 1 := by kernel_rfl
        rw [hb1] at this
        simp [lits, reachBytes] at this
        omega
    refine ⟨(List.range len).map fun i => ((Z i).take (L i)).map fun n => UInt8.ofNat n.toNat, ⟨some a, a.block, a.off, cap, by simp, by simpa using hl, hm, by simp, fun h0 => ?_, fun i hi => ?_⟩, fun x hx => ?_⟩
    · have h0' : 0 < len := by simpa using h0
      have h1 := (hrow 0 (by omega)).1
      rw [e0] at h1
      exact ⟨congrArg some (spot_none h1), cell_lt h1⟩
    · have hi' : i < len := by simpa using hi
      have h0 := (hrow 0 (by omega)).1
      rw [e0] at h0
      have hs := spot_none h0
      have g := add_none (hrow i (by omega)).1 hs
      rw [Nat.mul_one]
      refine ⟨_, g, ?_⟩
      simp only [List.getElem_map, List.getElem_range]
      exact inner i hi'
    · obtain ⟨i, hi, rfl⟩ := List.mem_map.1 hx
      have hi' := List.mem_range.1 hi
      have := size i hi'
      simp
      omega
end
end Go.Proofs.Ytcgknadodpdblaa
