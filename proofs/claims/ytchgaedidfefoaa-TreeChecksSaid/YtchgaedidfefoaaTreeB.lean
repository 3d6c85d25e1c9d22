/- Trees in memory: entries that are copied, their bytes one by one. Conditions: none. -/
import Derived.Test.YtchgaedidfefoaaTreeA
set_option linter.unusedVariables false
set_option linter.unusedSimpArgs false
namespace Go.Proofs.Ytchgaedidfefoaa
open Go.RowKit
theorem flat_dat {xs : List ET} {sp : List Value} {i : Nat} (h : i < xs.length) : (flatT xs ++ sp)[0 + i * 5 + 3]? = some xs[i].2 := flat_at h 3 (by omega)
theorem flat_pth {xs : List ET} {sp : List Value} {i : Nat} (h : i < xs.length) : (flatT xs ++ sp)[0 + i * 5 + 0]? = some (.string (sB xs[i].1.path)) := flat_at h 0 (by omega)
theorem flat_len {xs : List ET} {sp : List Value} {i j : Nat} (h : i < xs.length) (hj : j < 5) : 0 + i * 5 + j < (flatT xs ++ sp).length := by
  rw [List.length_append, flatT_length]
  omega
theorem take_set_succ {α : Type} {zs : List α} {i : Nat} (h : i < zs.length) (x : α) : (zs.set i x).take (i + 1) = zs.take i ++ [x] := by
  rw [List.take_succ_eq_append_getElem (by rw [List.length_set]; exact h), List.getElem_set_self, List.take_set_of_le (Nat.le_refl _)]
theorem ens_set {xs : List ET} {i : Nat} (h : i < xs.length) (d : Value) : ens (xs.set i (xs[i].1, d)) = ens xs := by
  unfold ens
  rw [List.map_set]
  apply List.ext_getElem?
  intro j
  by_cases hj : i = j
  · subst hj
    rw [List.getElem?_set_self (by rw [List.length_map]; exact h)]
    simp [h]
  · rw [List.getElem?_set_ne hj]
theorem ok_ens {xs ys : List ET} (h : ens xs = ens ys) (hok : ∀ x ∈ ys, EnOk x.1) : ∀ x ∈ xs, EnOk x.1 := fun x hx => by
  have : x.1 ∈ ens xs := List.mem_map.2 ⟨x, hx, rfl⟩
  rw [h] at this
  obtain ⟨y, hy, e⟩ := List.mem_map.1 this
  rw [← e]
  exact hok y hy
theorem len_ens {xs ys : List ET} (h : ens xs = ens ys) : xs.length = ys.length := by
  have := congrArg List.length h
  rwa [ens_length, ens_length] at this
theorem get_ens {xs ys : List ET} (h : ens xs = ens ys) {i : Nat} (hx : i < xs.length) (hy : i < ys.length) : xs[i].1 = ys[i].1 := by
  rw [← ens_get hx, ← ens_get hy]
  simp only [h]
section
variable {P : Program} {n : Nat} {w0 : World} {S : Nat → Prop} {l : Fr} {m : List Ck} {Q : Exit → Act → World → Prop} {K : Act → World → Prop}
theorem Ro.allOk {b o : Nat} {Ps : Nat → Prop} {xs : List ET} (hel : ∀ i (hi : i < xs.length), Ro w0 S (elc rEV Ps b (o + i * 5) xs[i])) : ∀ x ∈ xs, EnOk x.1 := fun x hx => by
  obtain ⟨i, hi, rfl⟩ := List.getElem_of_mem hx
  exact Ro.evOk (hel i hi)
theorem Ro.allDat {b o : Nat} {Ps : Nat → Prop} {xs : List ET} (hel : ∀ i (hi : i < xs.length), Ro w0 S (elc rEV Ps b (o + i * 5) xs[i])) : ∀ x ∈ xs, Ro w0 S (slc rByte Ps x.2 x.1.data) := fun x hx => by
  obtain ⟨i, hi, rfl⟩ := List.getElem_of_mem hx
  exact Ro.evDat (hel i hi)
theorem newsT {b o : Nat} {Ps : Nat → Prop} {xs : List ET} (hel : ∀ i (hi : i < xs.length), Ro w0 S (elc rEV Ps b (o + i * 5) xs[i])) : ∀ w, Hp w0 S w m → News w b o (flatT xs) := fun w hw j u hj => by
  have hl : j < xs.length * 5 := by
    have := (List.getElem?_eq_some_iff.1 hj).1
    rwa [flatT_length] at this
  obtain ⟨q, r, rfl, hr, hq⟩ : ∃ q r, j = q * 5 + r ∧ r < 5 ∧ q < xs.length := ⟨j / 5, j % 5, by omega, by omega, by omega⟩
  rw [flatT_get hq hr] at hj
  have h2 := ((hel q hq).at hw : rEV.R Ps w b (o + q * 5) xs[q]).2.1 r u hj
  rwa [Nat.add_assoc] at h2
theorem flatT_one' {xs : List ET} (h : ∀ x ∈ xs, x.2.oneCell' = true) : ∀ u ∈ flatT xs, u.oneCell' = true := fun u hu => by
  obtain ⟨x, hx, hu⟩ := List.mem_flatMap.1 hu
  simp only [evC, List.mem_cons, List.not_mem_nil, or_false] at hu
  rcases hu with rfl | rfl | rfl | rfl | rfl
  · rfl
  · rfl
  · rfl
  · exact h x hx
  · rfl
theorem Ro.allOne {b o : Nat} {Ps : Nat → Prop} {xs : List ET} (hel : ∀ i (hi : i < xs.length), Ro w0 S (elc rEV Ps b (o + i * 5) xs[i])) : ∀ u ∈ flatT xs, u.oneCell' = true := flatT_one' fun x hx => by
  obtain ⟨ad, cap, e⟩ := Ro.slv (Ro.allDat hel x hx)
  rw [e]
  rfl
theorem G.datNil (e : TypeId) (h : G n w0 S l (datC e [] :: m) K) : G n w0 S l m K := G.mem (fun w hw => Hp.star (m := []) hw) h
theorem G.datSnoc {e : TypeId} {ys : List ET} {x : ET} {r r' : List Ck} (h1 : Sel m (datC e ys) r) (h2 : Sel r (ownB e x.2 x.1.data) r') (h : G n w0 S l (datC e (ys ++ [x]) :: r') K) : G n w0 S l m K := G.mem (fun w hw => by
  have h3 := Hp.unstar (hw.sel h1)
  have p : (ys.map (fun x : ET => ownB e x.2 x.1.data) ++ r).Perm (((ys ++ [x]).map fun x : ET => ownB e x.2 x.1.data) ++ r') := by
    rw [List.map_append, List.append_assoc]
    exact List.Perm.append_left _ h2.perm
  exact Hp.star (h3.perm p)) h
theorem G.datOne {e : TypeId} {x : ET} {r : List Ck} (h1 : Sel m (datC e [x]) r) (h : G n w0 S l (ownB e x.2 x.1.data :: r) K) : G n w0 S l m K := G.mem (fun w hw => Hp.unstar (hw.sel h1)) h
end
end Go.Proofs.Ytchgaedidfefoaa
