/- Plain facts on which snapshots stay: those that stay are a part of the list in its order, and of those that stay all stay; by spans alone not too many stay. Conditions: none. -/
import Derived.Test.YtjjjonhjofllfaaRetP
set_option linter.unusedVariables false
set_option linter.unusedSimpArgs false
namespace Go.Proofs.Ytjjjonhjofllfaa

theorem le_dcountFrom (p : Int → Bool) (xs : List Int) : ∀ (seen Y : List Int), Y.Nodup → (∀ y ∈ Y, y ∈ xs ∧ p y = true ∧ y ∉ seen) → Y.length ≤ dcountFrom p seen xs := by
  induction xs with
  | nil =>
    intro seen Y hn h
    cases Y with
    | nil => simp
    | cons y r => have := (h y (by simp)).1; simp at this
  | cons x r ih =>
    intro seen Y hn h
    by_cases hx : x ∈ Y
    · have h0 := h x hx
      have hlen := List.length_erase_of_mem hx
      have hpos : 0 < Y.length := List.length_pos_of_mem hx
      have := ih (seen ++ [x]) (Y.erase x) (hn.erase x) (fun y hy => by
        have hy' := (hn.mem_erase_iff).1 hy
        have h1 := h y hy'.2
        refine ⟨(List.mem_cons.1 h1.1).resolve_left hy'.1, h1.2.1, ?_⟩
        simp only [List.mem_append, List.mem_singleton, not_or]
        exact ⟨h1.2.2, hy'.1⟩)
      have e : (p x && !seen.contains x) = true := by simp [h0.2.1, h0.2.2]
      simp only [dcountFrom, e, if_true]
      omega
    · have := ih (seen ++ [x]) Y hn (fun y hy => by
        have h1 := h y hy
        have hne : y ≠ x := fun e => hx (e ▸ hy)
        refine ⟨(List.mem_cons.1 h1.1).resolve_left hne, h1.2.1, ?_⟩
        simp only [List.mem_append, List.mem_singleton, not_or]
        exact ⟨h1.2.2, hne⟩)
      simp only [dcountFrom]
      omega
theorem ex_dcountFrom (p : Int → Bool) (xs : List Int) : ∀ seen, ∃ Y : List Int, Y.Nodup ∧ Y.length = dcountFrom p seen xs ∧ ∀ y ∈ Y, y ∈ xs ∧ p y = true ∧ y ∉ seen := by
  induction xs with
  | nil => intro seen; exact ⟨[], by simp, by simp [dcountFrom], by simp⟩
  | cons x r ih =>
    intro seen
    obtain ⟨Y, h1, h2, h3⟩ := ih (seen ++ [x])
    cases e : (p x && !seen.contains x) with
    | true =>
      have e' : p x = true ∧ x ∉ seen := by simpa using e
      refine ⟨x :: Y, List.nodup_cons.2 ⟨fun hx => ?_, h1⟩, by simp only [dcountFrom, e, if_true, List.length_cons]; omega, fun y hy => ?_⟩
      · have := (h3 x hx).2.2; simp at this
      · rcases List.mem_cons.1 hy with rfl | hy
        · exact ⟨by simp, e'.1, e'.2⟩
        · have := h3 y hy
          refine ⟨by simp [this.1], this.2.1, fun h => this.2.2 (by simp [h])⟩
    | false =>
      refine ⟨Y, h1, by simp only [dcountFrom, e]; simp; omega, fun y hy => ?_⟩
      have := h3 y hy
      exact ⟨by simp [this.1], this.2.1, fun h => this.2.2 (by simp [h])⟩
theorem dcount_sub (p : Int → Bool) {xs ys : List Int} (h : ∀ x ∈ xs, x ∈ ys) : dcount p xs ≤ dcount p ys := by
  obtain ⟨Y, h1, h2, h3⟩ := ex_dcountFrom p xs []
  unfold dcount
  rw [← h2]
  exact le_dcountFrom p ys [] Y h1 fun y hy => ⟨h _ (h3 y hy).1, (h3 y hy).2.1, by simp⟩

theorem soundFrom_pairwise : ∀ {l : List Snap} {last : Int}, soundFrom last l = true → l.Pairwise (fun a b => a.1 < b.1) := by
  intro l
  induction l with
  | nil => intro last _; exact List.Pairwise.nil
  | cons s r ih =>
    intro last h
    have h' : soundFrom s.1 r = true := by simp [soundFrom] at h; exact h.2
    exact List.Pairwise.cons (fun t ht => (soundFrom_bounds h' t ht).1) (ih h')
theorem sound_lt {l : List Snap} (h : soundM l = true) {i j : Nat} (hi : i < l.length) (hj : j < l.length) (hij : i < j) : l[i].1 < l[j].1 :=
  List.pairwise_iff_getElem.1 (soundFrom_pairwise h) i j hi hj hij
theorem sound_inj {l : List Snap} (h : soundM l = true) {i j : Nat} (hi : i < l.length) (hj : j < l.length) (he : l[i].1 = l[j].1) : i = j := by
  rcases Nat.lt_trichotomy i j with h1 | h1 | h1
  · have := sound_lt h hi hj h1; omega
  · exact h1
  · have := sound_lt h hj hi h1; omega

/-- the places of those that stay, or do not -/
def idxM (l : List Snap) (last span spans : Int) (stay : Bool) : List Nat := (List.range l.length).filter fun i => staysM l last span spans i == stay
def partM (l : List Snap) (last span spans : Int) (stay : Bool) : List Snap := (idxM l last span spans stay).map fun i => l.getD i (0, 0)
theorem toldM_part {l : List Snap} {last span spans : Int} (stay : Bool) (hs : soundM l = true) (hc : checkM last span spans = 0) : toldM l last span spans stay = (partM l last span spans stay).map (·.1) := by
  unfold toldM toldTo partM idxM
  rw [if_pos hc, if_pos hs, List.map_map]
  rfl
theorem mem_idxM {l : List Snap} {last span spans : Int} {stay : Bool} {i : Nat} : i ∈ idxM l last span spans stay ↔ i < l.length ∧ staysM l last span spans i = stay := by
  unfold idxM; simp
theorem getD_lt {l : List Snap} {i : Nat} (h : i < l.length) : l.getD i (0, 0) = l[i] := by simp [List.getD, h]
theorem told_has {l : List Snap} {last span spans : Int} (stay : Bool) (hs : soundM l = true) (hc : checkM last span spans = 0) (i : Nat) (hi : i < l.length) :
    hasB (toldM l last span spans stay) l[i].1 = (staysM l last span spans i == stay) := by
  rw [toldM_part stay hs hc]
  unfold hasB
  rw [Bool.eq_iff_iff, List.contains_iff_mem]
  simp only [partM, List.mem_map, mem_idxM, beq_iff_eq]
  constructor
  · rintro ⟨_, ⟨j, ⟨hj, hst⟩, rfl⟩, he⟩
    rw [getD_lt hj] at he
    have := sound_inj hs hj hi he
    subst this
    exact hst
  · intro hst
    exact ⟨_, ⟨i, ⟨hi, hst⟩, rfl⟩, by rw [getD_lt hi]⟩
theorem map_getD (l : List Snap) : (List.range l.length).map (fun i => l.getD i (0, 0)) = l := by
  apply List.ext_getElem
  · simp
  · intro i h1 h2
    simp only [List.getElem_map, List.getElem_range]
    exact getD_lt h2
theorem left_part {l : List Snap} {last span spans : Int} (stay : Bool) (hs : soundM l = true) (hc : checkM last span spans = 0) : leftM l (toldM l last span spans stay) = partM l last span spans stay := by
  unfold leftM
  conv => lhs; arg 2; rw [← map_getD l]
  unfold partM idxM
  rw [List.filter_map]
  congr 1
  apply List.filter_congr
  intro i hi
  have hi' : i < l.length := by simpa using hi
  simp only [Function.comp]
  rw [getD_lt hi']
  exact told_has stay hs hc i hi'
theorem parts_len {l : List Snap} {last span spans : Int} : (idxM l last span spans true).length + (idxM l last span spans false).length = l.length := by
  unfold idxM
  have : ∀ r : List Nat, (r.filter fun i => staysM l last span spans i == true).length + (r.filter fun i => staysM l last span spans i == false).length = r.length := by
    intro r
    induction r with
    | nil => simp
    | cons x r ih => cases h : staysM l last span spans x <;> simp [h] at ih ⊢ <;> omega
  simpa using this (List.range l.length)
theorem stays_lastOne {l : List Snap} {last span spans : Int} {i : Nat} (h : i + 1 = l.length) : staysM l last span spans i = true := by
  unfold staysM
  have : (l.length : Int) - 1 - i = 0 := by omega
  simp [this]
theorem stays_lasts {l : List Snap} {last span spans : Int} {i : Nat} (h : (l.length : Int) - i ≤ last) : staysM l last span spans i = true := by
  unfold staysM
  have : (l.length : Int) - 1 - i < last := by omega
  simp [this]

theorem idx_sorted (l : List Snap) (last span spans : Int) (stay : Bool) : (idxM l last span spans stay).Pairwise (· < ·) := List.Pairwise.filter _ List.pairwise_lt_range
theorem sorted_room : ∀ {n : Nat} {xs : List Nat}, xs.Pairwise (· < ·) → (∀ x ∈ xs, x < n) → ∀ j (h : j < xs.length), xs[j] + (xs.length - 1 - j) ≤ n - 1 := by
  intro n xs
  induction xs with
  | nil => intro _ _ j h; simp at h
  | cons x r ih =>
    intro hp hn j h
    have hr := ih (List.pairwise_cons.1 hp).2 (fun y hy => hn y (by simp [hy]))
    cases j with
    | succ j =>
      have := hr j (by simpa using h)
      simp only [List.getElem_cons_succ, List.length_cons]
      omega
    | zero =>
      cases r with
      | nil => have := hn x (by simp); simp; omega
      | cons y r' =>
        have h1 := hr 0 (by simp)
        have h2 := (List.pairwise_cons.1 hp).1 y (by simp)
        simp at h1 ⊢
        omega
theorem part_len (l : List Snap) (last span spans : Int) (stay : Bool) : (partM l last span spans stay).length = (idxM l last span spans stay).length := by simp [partM]
theorem part_sub {l : List Snap} {last span spans : Int} {stay : Bool} {s : Snap} (h : s ∈ partM l last span spans stay) : s ∈ l := by
  simp only [partM, List.mem_map, mem_idxM] at h
  obtain ⟨i, ⟨hi, _⟩, rfl⟩ := h
  rw [getD_lt hi]; exact List.getElem_mem hi
theorem part_get {l : List Snap} {last span spans : Int} {stay : Bool} {j : Nat} (h : j < (partM l last span spans stay).length) :
    ∃ hi : (idxM l last span spans stay)[j]'(by rw [← part_len]; exact h) < l.length, (partM l last span spans stay)[j] = l[(idxM l last span spans stay)[j]'(by rw [← part_len]; exact h)] := by
  have h1 := (mem_idxM.1 (List.getElem_mem (l := idxM l last span spans stay) (by rw [← part_len]; exact h))).1
  exact ⟨h1, by simp only [partM, List.getElem_map]; exact getD_lt h1⟩
/-- of those that stay all stay -/
theorem part_stays {l : List Snap} {last span spans : Int} (j : Nat) (hj : j < (partM l last span spans true).length) : staysM (partM l last span spans true) last span spans j = true := by
  obtain ⟨hi, hg⟩ := part_get hj
  have hj' : j < (idxM l last span spans true).length := by rw [← part_len]; exact hj
  have hst := (mem_idxM.1 (List.getElem_mem hj')).2
  have hroom := sorted_room (idx_sorted l last span spans true) (fun x hx => (mem_idxM.1 hx).1) j hj'
  have hlen := part_len l last span spans true
  unfold staysM at hst ⊢
  rw [getD_lt hi] at hst
  rw [getD_lt hj, hg]
  simp only [Bool.or_eq_true, Bool.and_eq_true, decide_eq_true_eq] at hst ⊢
  rcases hst with (h | h) | ⟨h3, h4, h5⟩
  · exact .inl (.inl (by omega))
  · exact .inl (.inr (by omega))
  · refine .inr ⟨h3, ?_, ?_⟩
    · rw [lastOf_eq _ _ _ hi] at h4
      rw [lastOf_eq _ _ _ hj, hg]
      simp only [Bool.not_eq_true', hasB, List.contains_eq_mem, decide_eq_false_iff_not] at h4 ⊢
      intro hm
      apply h4
      obtain ⟨t, ht, he⟩ := List.getElem_of_mem hm
      rw [← he]
      have ht' : j + 1 + t < (partM l last span spans true).length := by simp [spansOf] at ht; omega
      obtain ⟨hi2, hg2⟩ := part_get ht'
      have hlt : (idxM l last span spans true)[j] < (idxM l last span spans true)[j + 1 + t]'(by omega) := List.pairwise_iff_getElem.1 (idx_sorted l last span spans true) _ _ hj' (by omega) (by omega)
      have e : ((spansOf (partM l last span spans true) span).drop (j + 1))[t] = l[(idxM l last span spans true)[j + 1 + t]'(by omega)].2 / span := by
        simp only [List.getElem_drop, spansOf, List.getElem_map, hg2]
      rw [e]
      have := List.getElem_mem (l := (spansOf l span).drop ((idxM l last span spans true)[j] + 1)) (n := (idxM l last span spans true)[j + 1 + t]'(by omega) - ((idxM l last span spans true)[j] + 1)) (by simp [spansOf]; omega)
      simp only [List.getElem_drop, spansOf, List.getElem_map] at this
      have e2 : (idxM l last span spans true)[j] + 1 + ((idxM l last span spans true)[j + 1 + t]'(by omega) - ((idxM l last span spans true)[j] + 1)) = (idxM l last span spans true)[j + 1 + t]'(by omega) := by omega
      simp only [e2] at this
      exact this
    · refine Int.lt_of_le_of_lt ?_ h5
      have := dcount_sub (fun x => decide (l[(idxM l last span spans true)[j]].2 / span < x)) (xs := spansOf (partM l last span spans true) span) (ys := spansOf l span) (by
        intro x hx
        simp only [spansOf, List.mem_map] at hx ⊢
        obtain ⟨s, hs, rfl⟩ := hx
        exact ⟨s, part_sub hs, rfl⟩)
      unfold laterM
      omega
theorem soundFrom_sub {l : List Snap} (hl : l.Pairwise (fun a b => a.1 < b.1)) : ∀ {last : Int}, (∀ s ∈ l, last < s.1 ∧ s.1 ≤ 2147483647 ∧ 0 ≤ s.2 ∧ s.2 ≤ 2147483647) → soundFrom last l = true := by
  induction l with
  | nil => intro _ _; rfl
  | cons s r ih =>
    intro last h
    have h0 := h s (by simp)
    have h1 := List.pairwise_cons.1 hl
    simp only [soundFrom, withinB, Bool.and_eq_true, decide_eq_true_eq]
    exact ⟨⟨h0.1, h0.2.1, h0.2.2.1, h0.2.2.2⟩, ih h1.2 fun t ht => ⟨h1.1 t ht, (h t (by simp [ht])).2⟩⟩
theorem part_sound {l : List Snap} {last span spans : Int} {stay : Bool} (hs : soundM l = true) : soundM (partM l last span spans stay) = true := by
  refine soundFrom_sub ?_ fun s h => soundFrom_bounds hs s (part_sub h)
  rw [List.pairwise_iff_getElem]
  intro i j hi hj hij
  obtain ⟨h1, g1⟩ := part_get hi
  obtain ⟨h2, g2⟩ := part_get hj
  rw [g1, g2]
  exact sound_lt hs h1 h2 (List.pairwise_iff_getElem.1 (idx_sorted l last span spans stay) _ _ _ _ hij)
theorem told_again {l : List Snap} {last span spans : Int} (hs : soundM l = true) (hc : checkM last span spans = 0) :
    toldM (leftM l (toldM l last span spans true)) last span spans true = toldM l last span spans true := by
  rw [left_part true hs hc, toldM_part true (part_sound hs) hc, toldM_part true hs hc]
  congr 1
  generalize hp : partM l last span spans true = p
  have hall : ∀ j, j < p.length → staysM p last span spans j = true := by subst hp; exact fun j hj => part_stays j hj
  have : idxM p last span spans true = List.range p.length := by
    unfold idxM
    rw [List.filter_eq_self]
    intro j hj
    rw [hall j (by simpa using hj)]
    rfl
  unfold partM
  rw [this, map_getD]

/-- a list of different numbers has a least one -/
theorem least (Y : List Int) (h : Y ≠ []) : ∃ y ∈ Y, ∀ z ∈ Y, y ≤ z := by
  induction Y with
  | nil => exact absurd rfl h
  | cons x r ih =>
    by_cases hr : r = []
    · subst hr; exact ⟨x, by simp, by simp⟩
    · obtain ⟨y, hy, hz⟩ := ih hr
      by_cases hxy : x ≤ y
      · refine ⟨x, by simp, fun z h => ?_⟩
        rcases List.mem_cons.1 h with rfl | h
        · exact Int.le_refl _
        · have := hz z h; omega
      · refine ⟨y, by simp [hy], fun z h => ?_⟩
        rcases List.mem_cons.1 h with rfl | h
        · omega
        · exact hz z h
/-- who stays by spans alone: the last one, or the last of its own span -/
theorem spans_stay {l : List Snap} {span spans : Int} {i : Nat} (hi : i + 1 < l.length) (h : staysM l 0 span spans i = true) : lastOf l span i = true ∧ (laterM l span (l[i].2 / span) : Int) < spans := by
  unfold staysM at h
  rw [getD_lt (by omega)] at h
  simp only [Bool.or_eq_true, Bool.and_eq_true, decide_eq_true_eq] at h
  rcases h with (h | h) | ⟨_, h4, h5⟩
  · omega
  · omega
  · exact ⟨h4, h5⟩
theorem lastOf_ne {l : List Snap} {span : Int} {i k : Nat} (hi : i < l.length) (hk : k < l.length) (hik : i < k) (h : lastOf l span i = true) : l[k].2 / span ≠ l[i].2 / span := by
  rw [lastOf_eq _ _ _ hi] at h
  simp only [Bool.not_eq_true', hasB, List.contains_eq_mem, decide_eq_false_iff_not] at h
  intro e
  apply h
  rw [← e]
  have := List.getElem_mem (l := (spansOf l span).drop (i + 1)) (n := k - (i + 1)) (by simp [spansOf]; omega)
  simp only [List.getElem_drop, spansOf, List.getElem_map] at this
  have e2 : i + 1 + (k - (i + 1)) = k := by omega
  simp only [e2] at this
  exact this
theorem spans_count {l : List Snap} {span spans : Int} (hsp : 0 ≤ spans) : ((idxM l 0 span spans true).length : Int) ≤ spans + 1 := by
  have hroom := sorted_room (idx_sorted l 0 span spans true) (fun x hx => (mem_idxM.1 hx).1)
  generalize hI : idxM l 0 span spans true = I at hroom
  have hsort : I.Pairwise (· < ·) := hI ▸ idx_sorted l 0 span spans true
  have hmem : ∀ i ∈ I, i < l.length ∧ staysM l 0 span spans i = true := fun i hi => mem_idxM.1 (hI ▸ hi)
  clear hI
  -- all but the last
  generalize hD : I.dropLast = D
  have hDl : D.length = I.length - 1 := by rw [← hD]; simp
  have hDI : ∀ j (h : j < D.length), D[j] = I[j]'(by omega) := by subst hD; intro j h; simp
  have hD1 : ∀ i ∈ D, i + 1 < l.length ∧ staysM l 0 span spans i = true := by
    intro i hi
    obtain ⟨j, hj, rfl⟩ := List.getElem_of_mem hi
    have h1 := hmem _ (List.getElem_mem (l := I) (n := j) (by omega))
    have h2 := hroom j (by omega)
    rw [hDI j hj]
    refine ⟨?_, h1.2⟩
    omega
  have hDs : D.Pairwise (· < ·) := by
    rw [List.pairwise_iff_getElem]
    intro i j hi hj hij
    rw [hDI i hi, hDI j hj]
    exact List.pairwise_iff_getElem.1 hsort _ _ _ _ hij
  generalize hY : D.map (fun i => (l.getD i (0, 0)).2 / span) = Y
  have hYn : Y.Nodup := by
    subst hY
    unfold List.Nodup
    rw [List.pairwise_map]
    refine hDs.imp_of_mem ?_
    intro i j hi hj hij
    have h1 := hD1 i hi; have h2 := hD1 j hj
    rw [getD_lt (by omega), getD_lt (by omega)]
    exact (lastOf_ne (by omega) (by omega) hij (spans_stay h1.1 h1.2).1).symm
  have hYl : Y.length = D.length := by rw [← hY]; simp
  by_cases he : Y = []
  · have : Y.length = 0 := by rw [he]; rfl
    omega
  · obtain ⟨y, hy, hleast⟩ := least Y he
    have hy' := hy
    rw [← hY] at hy'
    obtain ⟨i, hi, rfl⟩ := List.mem_map.1 hy'
    have h1 := hD1 i hi
    have h5 := (spans_stay h1.1 h1.2).2
    rw [getD_lt (show i < l.length by omega)] at hy hleast
    have h6 : (Y.erase (l[i].2 / span)).length ≤ laterM l span (l[i].2 / span) := by
      refine le_dcountFrom _ _ _ _ (hYn.erase _) fun z hz => ?_
      have hz' := (hYn.mem_erase_iff).1 hz
      have h7 := hleast z hz'.2
      refine ⟨?_, by simp; have := hz'.1; omega, by simp⟩
      have h8 := hz'.2
      rw [← hY] at h8
      obtain ⟨k, hk, rfl⟩ := List.mem_map.1 h8
      have h9 := hD1 k hk
      rw [getD_lt (show k < l.length by omega)]
      simp only [spansOf, List.mem_map]
      exact ⟨_, List.getElem_mem (by omega), rfl⟩
    rw [List.length_erase_of_mem hy] at h6
    omega
/-- behind who stays, but the last one, none of its span stands -/
theorem spans_behind {l : List Snap} {span spans : Int} (hs : soundM l = true) (j k : Nat) (hj : j + 1 < (partM l 0 span spans true).length) (hk : k < l.length) (hlt : ((partM l 0 span spans true)[j]'(by omega)).1 < l[k].1) :
    l[k].2 / span ≠ ((partM l 0 span spans true)[j]'(by omega)).2 / span := by
  obtain ⟨hi, hg⟩ := part_get (show j < (partM l 0 span spans true).length by omega)
  have hlen := part_len l 0 span spans true
  have hj' : j < (idxM l 0 span spans true).length := by omega
  have hroom := sorted_room (idx_sorted l 0 span spans true) (fun x hx => (mem_idxM.1 hx).1) j hj'
  have hst := (mem_idxM.1 (List.getElem_mem hj')).2
  rw [hg] at hlt ⊢
  have hik : (idxM l 0 span spans true)[j] < k := by
    rcases Nat.lt_trichotomy (idxM l 0 span spans true)[j] k with h1 | h1 | h1
    · exact h1
    · subst h1; omega
    · have := sound_lt hs hk hi h1; omega
  exact lastOf_ne hi hk hik (spans_stay (by omega) hst).1
end Go.Proofs.Ytjjjonhjofllfaa
