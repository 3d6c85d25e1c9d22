/- The reference's answers of layer 7: Compare, Under, Join. Conditions: the texts are not of more than a hundred thousand bytes. -/
import Derived.Test.YtkhffndeomihhaaDoorPI
set_option linter.unusedVariables false
set_option linter.unusedSimpArgs false
namespace Go.Proofs.YtkhffndeomihhaaDoor
open Go.RowKit

theorem cmp_ne {xs ys : List (List UInt8)} {i : Nat} (hx : i < xs.length) (hy : i < ys.length) (h : xs[i] ≠ ys[i]) : cmpL (xs.drop i) (ys.drop i) = bytesC xs[i] ys[i] := by
  rw [List.drop_eq_getElem_cons hx, List.drop_eq_getElem_cons hy]
  exact if_neg h
theorem cmp_next {xs ys : List (List UInt8)} {i : Nat} (hx : i < xs.length) (hy : i < ys.length) (h : ¬ xs[i] ≠ ys[i]) : cmpL (xs.drop i) (ys.drop i) = cmpL (xs.drop (i + 1)) (ys.drop (i + 1)) := by
  rw [List.drop_eq_getElem_cons hx, List.drop_eq_getElem_cons hy]
  exact if_pos (Decidable.of_not_not h)
theorem cmp_end {xs ys : List (List UInt8)} {i : Nat} (hx : i ≤ xs.length) (hy : i ≤ ys.length) (h : ¬ (i < xs.length ∧ i < ys.length)) : cmpL (xs.drop i) (ys.drop i) = if xs.length < ys.length then -1 else if ys.length < xs.length then 1 else 0 := by
  rcases Nat.lt_or_ge i xs.length with h1 | h1
  · have h2 : ys.length ≤ i := by omega
    rw [List.drop_of_length_le h2, if_neg (by omega), if_pos (by omega), List.drop_eq_getElem_cons h1]
    rfl
  · rw [List.drop_of_length_le h1]
    rcases Nat.lt_or_ge i ys.length with h2 | h2
    · rw [if_pos (by omega), List.drop_eq_getElem_cons h2]
      rfl
    · rw [List.drop_of_length_le h2, if_neg (by omega), if_neg (by omega)]
      rfl
theorem preM_iff {s d : List UInt8} : preM s (d ++ [47]) = true ↔ ∃ h : d.length < s.length, s.take d.length = d ∧ s[d.length] = 47 := by
  have e : (d ++ [47]).length = d.length + 1 := by simp
  unfold preM
  rw [e]
  constructor
  · intro h
    split at h
    · rename_i hl
      have h := of_decide_eq_true h
      have hlt : d.length < s.length := by omega
      refine ⟨hlt, ?_⟩
      rw [take_succ_app hlt] at h
      have := List.append_inj' h rfl
      exact ⟨this.1, by simpa using this.2⟩
    · cases h
  · rintro ⟨hl, h1, h2⟩
    rw [if_pos (by omega)]
    refine decide_eq_true ?_
    rw [take_succ_app hl, h1, h2]
theorem pre_no1 {s d : List UInt8} (h : ¬ (d.length : Int) < s.length) : preM s (d ++ [47]) = false := by
  cases h2 : preM s (d ++ [47]) with
  | false => rfl
  | true => obtain ⟨h3, _⟩ := preM_iff.1 h2; omega
theorem pre_no2 {s d : List UInt8} (h : ¬ s.take d.length = d) : preM s (d ++ [47]) = false := by
  cases h2 : preM s (d ++ [47]) with
  | false => rfl
  | true => obtain ⟨_, h3, _⟩ := preM_iff.1 h2; exact absurd h3 h
theorem pre_yes {s d : List UInt8} (hl : d.length < s.length) (h : s.take d.length = d) : preM s (d ++ [47]) = decide ((s[d.length].toNat : Int) = 47) := by
  by_cases h3 : (s[d.length].toNat : Int) = 47
  · rw [decide_eq_true h3]
    exact preM_iff.2 ⟨hl, h, UInt8.toNat_inj.1 (show s[d.length].toNat = 47 by omega)⟩
  · rw [decide_eq_false h3]
    cases h2 : preM s (d ++ [47]) with
    | false => rfl
    | true =>
      obtain ⟨_, _, h4⟩ := preM_iff.1 h2
      exact absurd (by rw [h4]; rfl) h3
theorem split_one {p : List UInt8} (h : ∀ x ∈ p, ¬ x = 47) : splitM p = [p] := by
  induction p with
  | nil => rfl
  | cons c s ih =>
    rw [splitM_char (h c (List.mem_cons_self ..)), ih fun x hx => h x (List.mem_cons_of_mem _ hx)]
    rfl
theorem headP_len {c : UInt8} {ps : List (List UInt8)} (h : ps ≠ []) : (headP c ps).length = ps.length := by
  cases ps with
  | nil => exact absurd rfl h
  | cons p r => rfl
theorem split_one' : ∀ {p : List UInt8}, (splitM p).length = 1 → ∀ x ∈ p, ¬ x = 47
  | [], _, x, hx => by cases hx
  | c :: s, h, x, hx => by
    by_cases hc : c = 47
    · subst hc
      rw [splitM_stroke] at h
      have := splitM_pos s
      have h : (splitM s).length + 1 = 1 := h
      omega
    · rw [splitM_char hc, headP_len (splitM_ne s)] at h
      rcases List.mem_cons.1 hx with rfl | hx
      · exact hc
      · exact split_one' h x hx
theorem stepP_no {p : List UInt8} (h : (stepB badP p).1 = 0) : ∀ x ∈ p, ¬ x = 47 := fun x hx e => by
  subst e
  unfold stepB at h
  split at h
  · cases h
  · split at h
    · cases h
    · rename_i h2
      have : p.findIdx badP < p.length := List.findIdx_lt_length_of_exists ⟨47, hx, rfl⟩
      exact h2 this
theorem step_join (p : List UInt8) : (stepB badP p).1 = 0 ↔ (stepB badR p).1 = 0 ∧ (splitM p).length = 1 := by
  constructor
  · intro h
    have hn := stepP_no h
    exact ⟨by rw [← stepB_eq hn]; exact h, by rw [split_one hn]; rfl⟩
  · rintro ⟨h1, h2⟩
    rw [stepB_eq (split_one' h2)]
    exact h1
theorem okP_one {p : List UInt8} (h : (stepB badP p).1 = 0) : okP p := by
  have h1 := (step_join p).1 h
  have hs := split_one (stepP_no h)
  have hn : ¬ p = [] := fun e => by
    subst e
    cases h
  have hl : ¬ 200 < p.length := fun hl => by
    have h2 := h1.1
    unfold stepB at h2
    split at h2
    · cases h2
    · split at h2
      · cases h2
      · split at h2
        · cases h2
        · omega
  unfold okP
  rw [show checkM p = checkL (splitM p) 0 0 from (if_neg hn).trans (if_neg hl), hs]
  show (if 0 = 20 then _ else if (stepB badR p).1 = 0 then checkL [] _ _ else _ : Int × Int).1 = 0
  rw [if_neg (by decide), if_pos h1.1]
  rfl
theorem joinM_bad {d p : List UInt8} (h : (stepB badP p).1 ≠ 0 ∨ (d ≠ [] ∧ ¬ okP d)) : joinM d p = ([], 2) := if_pos h
theorem joinM_nil {d p : List UInt8} (h : ¬ ((stepB badP p).1 ≠ 0 ∨ (d ≠ [] ∧ ¬ okP d))) (hd : d = []) : joinM d p = (p, 0) := (if_neg h).trans (if_pos hd)
theorem joinM_long {d p : List UInt8} (h : ¬ ((stepB badP p).1 ≠ 0 ∨ (d ≠ [] ∧ ¬ okP d))) (hd : ¬ d = []) (h2 : ¬ okP (d ++ [47] ++ p)) : joinM d p = ([], 3) := (if_neg h).trans ((if_neg hd).trans (if_pos h2))
theorem joinM_ok {d p : List UInt8} (h : ¬ ((stepB badP p).1 ≠ 0 ∨ (d ≠ [] ∧ ¬ okP d))) (hd : ¬ d = []) (h2 : okP (d ++ [47] ++ p)) : joinM d p = (d ++ [47] ++ p, 0) := (if_neg h).trans ((if_neg hd).trans (if_neg (fun h => h h2)))
end Go.Proofs.YtkhffndeomihhaaDoor
