/- Plain laws of layer 22: the program's way to tell who stays is the document's. Conditions: snapshots that may be. -/
import Derived.Test.YtjjjonhjofllfaaRetH
set_option linter.unusedVariables false
set_option linter.unusedSimpArgs false
namespace Go.Proofs.Ytjjjonhjofllfaa
open Go.RowKit Go.Maps

theorem soundFrom_lt {l : List Snap} : ∀ {last : Int}, soundFrom last l = true → ∀ i j (hi : i < l.length) (hj : j < l.length), i < j → l[i].1 < l[j].1 := by
  induction l with
  | nil => intro last _ i j hi; simp at hi
  | cons s r ih =>
    intro last h i j hi hj hij
    simp only [soundFrom, Bool.and_eq_true] at h
    cases j with
    | zero => omega
    | succ j =>
      cases i with
      | zero =>
        have hj' : j < r.length := by rw [List.length_cons] at hj; omega
        have := soundFrom_bounds h.2 r[j] (List.getElem_mem hj')
        simp only [List.getElem_cons_zero, List.getElem_cons_succ]; omega
      | succ i =>
        have := ih h.2 i j (by simpa using hi) (by simpa using hj) (by omega)
        simpa using this
theorem soundM_inj {l : List Snap} (h : soundM l = true) (i j : Nat) (hi : i < l.length) (hj : j < l.length) (e : l[i].1 = l[j].1) : i = j := by
  rcases Nat.lt_trichotomy i j with h1 | h1 | h1
  · have := soundFrom_lt h i j hi hj h1; omega
  · exact h1
  · have := soundFrom_lt h j i hj hi h1; omega

theorem mem_outsTo (l : List Snap) (span spans : Int) (x : Int) : ∀ c, c ≤ l.length → (x ∈ outsTo l span spans c ↔ ∃ j, ∃ hj : j < l.length, l.length - c ≤ j ∧ keepB l span spans j = true ∧ l[j].1 = x) := by
  intro c
  induction c with
  | zero => intro _; simp only [outsTo, List.not_mem_nil, false_iff]; rintro ⟨j, hj, h, _⟩; omega
  | succ c ih =>
    intro hc
    have hlt : l.length - (c + 1) < l.length := by omega
    have ih := ih (by omega)
    unfold outsTo
    rw [getD_snap hlt]
    constructor
    · intro h
      split at h
      · rename_i hk
        rcases List.mem_cons.1 h with h | h
        · exact ⟨_, hlt, Nat.le_refl _, hk, h.symm⟩
        · obtain ⟨j, hj, h1, h2⟩ := ih.1 h
          exact ⟨j, hj, by omega, h2⟩
      · obtain ⟨j, hj, h1, h2⟩ := ih.1 h
        exact ⟨j, hj, by omega, h2⟩
    · rintro ⟨j, hj, h1, hk, h2⟩
      by_cases e : j = l.length - (c + 1)
      · subst e
        rw [if_pos hk, h2]; exact List.mem_cons_self
      · have := ih.2 ⟨j, hj, by omega, hk, h2⟩
        split
        · exact List.mem_cons_of_mem _ this
        · exact this

theorem hasB_outs {l : List Snap} (hs : soundM l = true) (span spans : Int) (i : Nat) (hi : i < l.length) : hasB (outsM l span spans) l[i].1 = (!decide (span = 0) && keepB l span spans i) := by
  unfold outsM
  by_cases h0 : span = 0
  · rw [if_pos h0]; simp [hasB, h0]
  · rw [if_neg h0, Bool.eq_iff_iff]
    unfold hasB
    rw [List.contains_iff_mem, mem_outsTo _ _ _ _ _ (Nat.le_refl _)]
    simp only [h0, decide_false, Bool.not_false, Bool.true_and]
    constructor
    · rintro ⟨j, hj, _, hk, e⟩
      rw [← soundM_inj hs j i hj hi e]; exact hk
    · intro hk
      exact ⟨i, hi, by omega, hk, rfl⟩

theorem staysP_eq {l : List Snap} (hs : soundM l = true) (last span spans : Int) (i : Nat) (hi : i < l.length) : staysP l last (outsM l span spans) i = staysM l last span spans i := by
  unfold staysP staysM
  rw [getD_snap hi, hasB_outs hs span spans i hi]
  have e1 : decide ((i : Int) = (l.length : Int) - 1) = decide ((l.length : Int) - 1 - i = 0) := by rw [decide_eq_decide]; omega
  have e2 : decide ((l.length : Int) - last ≤ (i : Int)) = decide ((l.length : Int) - 1 - i < last) := by rw [decide_eq_decide]; omega
  have e3 : keepB l span spans i = (lastOf l span i && decide ((laterM l span (l[i].2 / span) : Int) < spans)) := by unfold keepB; rw [getD_snap hi]
  rw [e1, e2, e3, Bool.or_comm]
end Go.Proofs.Ytjjjonhjofllfaa
