/- The plain laws of a running digest. Conditions: none. -/
import Derived.Test.YtcgknadodpdblaaDigM
set_option linter.unusedVariables false
set_option linter.unusedSimpArgs false
namespace Go.Proofs.Ytcgknadodpdblaa

/-- the bytes that wait behind m -/
def Waits (wait m : List UInt8) : Prop := wait.length = 64 ∧ ∀ i, i < m.length % 64 → wait[i]? = m[64 * (m.length / 64) + i]?
/-- bytes laid over others from a place on -/
def laid (wait : List UInt8) (at_ : Nat) (r : List UInt8) : List UInt8 := wait.take at_ ++ (r ++ wait.drop (at_ + r.length))
theorem laid_length (wait : List UInt8) (at_ : Nat) (r : List UInt8) (h : at_ + r.length ≤ wait.length) : (laid wait at_ r).length = wait.length := by
  unfold laid; simp; omega
theorem laid_get (wait : List UInt8) (at_ : Nat) (r : List UInt8) (h : at_ + r.length ≤ wait.length) (i : Nat) : (laid wait at_ r)[i]? = if at_ ≤ i ∧ i < at_ + r.length then r[i - at_]? else wait[i]? := by
  unfold laid
  rcases Nat.lt_or_ge i at_ with h1 | h1
  · rw [List.getElem?_append_left (by simp; omega), if_neg (by omega), List.getElem?_take_of_lt h1]
  · rw [List.getElem?_append_right (by simp; omega)]
    have e : i - (wait.take at_).length = i - at_ := by simp; omega
    rw [e]
    rcases Nat.lt_or_ge i (at_ + r.length) with h2 | h2
    · rw [List.getElem?_append_left (by omega), if_pos ⟨h1, h2⟩]
    · rw [List.getElem?_append_right (by omega), if_neg (by omega), List.getElem?_drop]
      congr 1
      omega
theorem stateN_prefix (s : List Int) (l l' : List UInt8) : ∀ n, 64 * n ≤ l.length → stateN s (l ++ l') n = stateN s l n := by
  intro n
  induction n with
  | zero => intro _; rfl
  | succ n ih =>
    intro h
    rw [stateN, stateN, ih (by omega), List.drop_append_of_le_length (by omega), List.take_append_of_le_length (by simp; omega)]
theorem stateM_less (m r : List UInt8) (h : m.length % 64 + r.length < 64) : stateM (m ++ r) = stateM m := by
  have e : (m ++ r).length / 64 = m.length / 64 := by simp; omega
  unfold stateM
  rw [e, stateN_prefix _ _ _ _ (by omega)]
theorem waits_less (wait m r : List UInt8) (h : m.length % 64 + r.length < 64) (hw : Waits wait m) : Waits (laid wait (m.length % 64) r) (m ++ r) := by
  obtain ⟨h1, h2⟩ := hw
  have e1 : (m ++ r).length / 64 = m.length / 64 := by simp; omega
  have e2 : (m ++ r).length % 64 = m.length % 64 + r.length := by simp; omega
  refine ⟨by rw [laid_length _ _ _ (by omega), h1], fun i hi => ?_⟩
  rw [e1, laid_get _ _ _ (by omega)]
  rw [e2] at hi
  rcases Nat.lt_or_ge i (m.length % 64) with h3 | h3
  · rw [if_neg (by omega), h2 i h3, List.getElem?_append_left (by omega)]
  · rw [if_pos ⟨h3, hi⟩, List.getElem?_append_right (by omega)]
    congr 1
    omega
theorem full_block (wait m r : List UInt8) (h : m.length % 64 + r.length = 64) (hw : Waits wait m) : ((m ++ r).drop (64 * (m.length / 64))).take 64 = laid wait (m.length % 64) r := by
  obtain ⟨h1, h2⟩ := hw
  apply List.ext_getElem?
  intro i
  rw [laid_get _ _ _ (by omega)]
  rcases Nat.lt_or_ge i 64 with h3 | h3
  · rw [List.getElem?_take_of_lt h3, List.getElem?_drop]
    rcases Nat.lt_or_ge i (m.length % 64) with h4 | h4
    · rw [if_neg (by omega), h2 i h4, List.getElem?_append_left (by omega)]
    · rw [if_pos ⟨h4, by omega⟩, List.getElem?_append_right (by omega)]
      congr 1
      omega
  · rw [List.getElem?_eq_none (by simp; omega), if_neg (by omega), List.getElem?_eq_none (by omega)]
theorem stateM_full (wait m r : List UInt8) (h : m.length % 64 + r.length = 64) (hw : Waits wait m) : stateM (m ++ r) = stepM (stateM m) (laid wait (m.length % 64) r) := by
  have e : (m ++ r).length / 64 = m.length / 64 + 1 := by simp; omega
  unfold stateM
  rw [e, stateN, stateN_prefix _ _ _ _ (by omega), full_block wait m r h hw]
theorem waits_full (wait m r : List UInt8) (h : m.length % 64 + r.length = 64) (hw : Waits wait m) : Waits (laid wait (m.length % 64) r) (m ++ r) := by
  obtain ⟨h1, h2⟩ := hw
  have e2 : (m ++ r).length % 64 = 0 := by simp; omega
  exact ⟨by rw [laid_length _ _ _ (by omega), h1], fun i hi => by omega⟩
theorem padM_length (n : Nat) : (padM n).length = 1 + (119 - n % 64) % 64 + 8 := by
  simp [padM, lenBytes]; omega
end Go.Proofs.Ytcgknadodpdblaa
