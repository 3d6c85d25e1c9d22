/- The plain answers of layer 22 (retain), as functions on lists: which policies and snapshots may be, which snapshots stay. Conditions: none. -/
import Derived.Test.YtjjjonhjofllfaaBase
set_option linter.unusedVariables false
set_option linter.unusedSimpArgs false
namespace Go.Proofs.Ytjjjonhjofllfaa

abbrev Snap := Int × Int

def withinB (n lo hi : Int) : Bool := decide (lo ≤ n) && decide (n ≤ hi)
def checkM (last span spans : Int) : Int := if withinB last 0 64 && withinB spans 0 64 && withinB span 0 2147483647 then 0 else 5
def soundFrom (last : Int) : List Snap → Bool
  | [] => true
  | s :: r => decide (last < s.1) && (decide (s.1 ≤ 2147483647) && withinB s.2 0 2147483647) && soundFrom s.1 r
def soundM (l : List Snap) : Bool := soundFrom 0 l

theorem checkM_bounds {last span spans : Int} (h : checkM last span spans = 0) : (0 ≤ last ∧ last ≤ 64) ∧ (0 ≤ span ∧ span ≤ 2147483647) ∧ (0 ≤ spans ∧ spans ≤ 64) := by
  unfold checkM withinB at h
  split at h
  · rename_i hh; simp at hh; omega
  · omega

def nthLast (last : Int) : List Snap → Int
  | [] => last
  | s :: r => nthLast s.1 r

theorem nthLast_append (last : Int) (l r : List Snap) : nthLast last (l ++ r) = nthLast (nthLast last l) r := by
  induction l generalizing last with
  | nil => rfl
  | cons s l ih => exact ih s.1

theorem soundFrom_append (last : Int) (l r : List Snap) : soundFrom last (l ++ r) = (soundFrom last l && soundFrom (nthLast last l) r) := by
  induction l generalizing last with
  | nil => simp [soundFrom, nthLast]
  | cons s l ih => simp only [List.cons_append, soundFrom, ih, Bool.and_assoc, nthLast]

theorem take_snoc {α : Type} (l : List α) (k : Nat) (h : k < l.length) : l.take (k + 1) = l.take k ++ [l[k]] := List.take_succ_eq_append_getElem h

theorem nthLast_take_succ (l : List Snap) (k : Nat) (h : k < l.length) : nthLast 0 (l.take (k + 1)) = l[k].1 := by
  rw [take_snoc l k h, nthLast_append]; rfl
theorem soundFrom_take_succ (l : List Snap) (k : Nat) (h : k < l.length) : soundFrom 0 (l.take (k + 1)) =
    (soundFrom 0 (l.take k) && (decide (nthLast 0 (l.take k) < l[k].1) && (decide (l[k].1 ≤ 2147483647) && withinB l[k].2 0 2147483647))) := by
  rw [take_snoc l k h, soundFrom_append]; simp [soundFrom]
theorem soundFrom_take (l : List Snap) (k : Nat) (h : soundFrom 0 (l.take k) = false) : soundM l = false := by
  unfold soundM
  rw [← List.take_append_drop k l, soundFrom_append, h]; rfl
theorem soundM_eq (l : List Snap) (k : Nat) (h : l.length ≤ k) : soundM l = soundFrom 0 (l.take k) := by
  rw [List.take_of_length_le h]; rfl

/-- how many different numbers that p takes are on a list -/
def dcountFrom (p : Int → Bool) : List Int → List Int → Nat
  | _, [] => 0
  | seen, x :: r => (if p x && !seen.contains x then 1 else 0) + dcountFrom p (seen ++ [x]) r
def dcount (p : Int → Bool) (xs : List Int) : Nat := dcountFrom p [] xs

theorem dcountFrom_snoc (p : Int → Bool) (x : Int) (seen xs : List Int) : dcountFrom p seen (xs ++ [x]) = dcountFrom p seen xs + if p x && !(seen ++ xs).contains x then 1 else 0 := by
  induction xs generalizing seen with
  | nil => simp [dcountFrom]
  | cons y r ih =>
    simp only [List.cons_append, dcountFrom, ih, List.append_assoc]
    simp only [List.cons_append, List.nil_append]
    omega
theorem dcount_snoc (p : Int → Bool) (x : Int) (xs : List Int) : dcount p (xs ++ [x]) = dcount p xs + if p x && !xs.contains x then 1 else 0 := by
  have := dcountFrom_snoc p x [] xs
  simpa [dcount] using this
def hasB (xs : List Int) (x : Int) : Bool := xs.contains x
theorem dcount_snoc' (p : Int → Bool) (x : Int) (xs : List Int) : dcount p (xs ++ [x]) = dcount p xs + if p x && !hasB xs x then 1 else 0 := dcount_snoc p x xs
theorem dcount_le (p : Int → Bool) (xs : List Int) : dcount p xs ≤ xs.length := by
  have : ∀ seen, dcountFrom p seen xs ≤ xs.length := by
    induction xs with
    | nil => intro seen; simp [dcountFrom]
    | cons x r ih => intro seen; have := ih (seen ++ [x]); simp only [dcountFrom, List.length_cons]; split <;> omega
  exact this []

def spansOf (l : List Snap) (span : Int) : List Int := l.map (·.2 / span)
/-- how many spans later than one have a tick -/
def laterM (l : List Snap) (span at_ : Int) : Nat := dcount (fun x => decide (at_ < x)) (spansOf l span)

theorem spansOf_length (l : List Snap) (span : Int) : (spansOf l span).length = l.length := by simp [spansOf]
theorem spansOf_get (l : List Snap) (span : Int) (k : Nat) (h : k < l.length) : (spansOf l span)[k]'(by rw [spansOf_length]; exact h) = l[k].2 / span := by simp [spansOf]
theorem hasB_take_succ (xs : List Int) (x : Int) (m : Nat) (h : m < xs.length) : hasB (xs.take (m + 1)) x = (hasB (xs.take m) x || xs[m] == x) := by
  unfold hasB
  rw [take_snoc xs m h, Bool.eq_iff_iff]
  simp only [List.contains_iff_mem, List.mem_append, List.mem_singleton, Bool.or_eq_true, beq_iff_eq]
  exact ⟨fun h => h.imp id Eq.symm, fun h => h.imp id Eq.symm⟩

/-- the i-th one is the last of its span -/
def lastOf (l : List Snap) (span : Int) (i : Nat) : Bool := !hasB ((spansOf l span).drop (i + 1)) ((l.getD i (0, 0)).2 / span)
theorem lastOf_eq (l : List Snap) (span : Int) (i : Nat) (h : i < l.length) : lastOf l span i = !hasB ((spansOf l span).drop (i + 1)) (l[i].2 / span) := by simp [lastOf, h]
theorem hasB_true {xs : List Int} {x : Int} (m : Nat) (h : m < xs.length) (hx : xs[m] = x) : hasB xs x = true := by
  unfold hasB; rw [List.contains_iff_mem, ← hx]; exact List.getElem_mem _
/-- does the i-th one stay? -/
def staysM (l : List Snap) (last span spans : Int) (i : Nat) : Bool :=
  decide ((l.length : Int) - 1 - i = 0) || decide ((l.length : Int) - 1 - i < last) ||
    (!decide (span = 0) && (lastOf l span i && decide ((laterM l span ((l.getD i (0, 0)).2 / span) : Int) < spans)))
/-- the numbers of those of the first k that stay, or of those that do not -/
def toldTo (l : List Snap) (last span spans : Int) (stay : Bool) (k : Nat) : List Int := ((List.range k).filter fun i => staysM l last span spans i == stay).map fun i => (l.getD i (0, 0)).1
def toldM (l : List Snap) (last span spans : Int) (stay : Bool) : List Int := if checkM last span spans = 0 then if soundM l then toldTo l last span spans stay l.length else [] else []
def toldE (l : List Snap) (last span spans : Int) : Int := if checkM last span spans = 0 then if soundM l then 0 else 2 else 5

theorem toldTo_succ (l : List Snap) (last span spans : Int) (stay : Bool) (k : Nat) (h : k < l.length) :
    toldTo l last span spans stay (k + 1) = toldTo l last span spans stay k ++ if staysM l last span spans k == stay then [l[k].1] else [] := by
  unfold toldTo
  rw [List.range_succ, List.filter_append, List.map_append]
  congr 1
  by_cases hs : staysM l last span spans k == stay
  · simp [hs, h]
  · simp [hs]

theorem soundFrom_bounds {l : List Snap} : ∀ {last : Int}, soundFrom last l = true → ∀ s ∈ l, last < s.1 ∧ s.1 ≤ 2147483647 ∧ 0 ≤ s.2 ∧ s.2 ≤ 2147483647 := by
  induction l with
  | nil => intro last _ s hs; simp at hs
  | cons t r ih =>
    intro last h s hs
    simp [soundFrom, withinB] at h
    rcases List.mem_cons.1 hs with rfl | hs
    · omega
    · have := ih h.2 s hs; omega
theorem soundM_bounds {l : List Snap} (h : soundM l = true) (k : Nat) (hk : k < l.length) : 0 < l[k].1 ∧ l[k].1 ≤ 2147483647 ∧ 0 ≤ l[k].2 ∧ l[k].2 ≤ 2147483647 :=
  soundFrom_bounds h _ (List.getElem_mem hk)

theorem div_bounds (x y : Int) (h0 : 0 ≤ x) (h1 : 1 ≤ y) : 0 ≤ x / y ∧ x / y ≤ x := ⟨Int.ediv_nonneg h0 (by omega), Int.ediv_le_self _ h0⟩

end Go.Proofs.Ytjjjonhjofllfaa
