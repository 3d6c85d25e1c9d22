/- Plain laws of paths: the order is one; what lies under a path; what a path's parent is. Conditions: none. -/
import Derived.Test.YtkhffndeomihhaaDoorPJ
set_option linter.unusedVariables false
set_option linter.unusedSimpArgs false
namespace Go.Proofs.YtkhffndeomihhaaDoor
open Go.RowKit

/-! which of two texts is ahead, as bytes -/
theorem bl_irrefl : ∀ a, Op.bytesLess a a = false
  | [] => rfl
  | a :: x => by
    have h := bl_irrefl x
    simp [Op.bytesLess, h]
theorem bl_cons {a b : UInt8} {x y : List UInt8} : Op.bytesLess (a :: x) (b :: y) = true ↔ a.toNat < b.toNat ∨ (a = b ∧ Op.bytesLess x y = true) := by
  simp only [Op.bytesLess, Bool.or_eq_true, decide_eq_true_eq, Bool.and_eq_true, beq_iff_eq, UInt8.lt_iff_toNat_lt]
theorem bl_asymm : ∀ a b, Op.bytesLess a b = true → Op.bytesLess b a = true → False
  | a, [], h, _ => by cases a <;> cases h
  | [], b :: y, _, h => by cases h
  | a :: x, b :: y, h, k => by
    rcases bl_cons.1 h with h | ⟨rfl, h2⟩
    · rcases bl_cons.1 k with k | ⟨rfl, k⟩
      · omega
      · omega
    · rcases bl_cons.1 k with k | ⟨_, k2⟩
      · omega
      · exact bl_asymm x y h2 k2
theorem bl_trans : ∀ a b c, Op.bytesLess a b = true → Op.bytesLess b c = true → Op.bytesLess a c = true
  | a, [], c, h, _ => by cases a <;> cases h
  | a, b :: y, [], _, k => by cases k
  | [], b :: y, c :: z, _, _ => rfl
  | a :: x, b :: y, c :: z, h, k => by
    refine bl_cons.2 ?_
    rcases bl_cons.1 h with h1 | ⟨rfl, h2⟩
    · rcases bl_cons.1 k with k1 | ⟨rfl, k2⟩
      · exact .inl (by omega)
      · exact .inl h1
    · rcases bl_cons.1 k with k1 | ⟨rfl, k2⟩
      · exact .inl k1
      · exact .inr ⟨rfl, bl_trans x y z h2 k2⟩
theorem bl_total : ∀ a b, Op.bytesLess a b = false → Op.bytesLess b a = false → a = b
  | [], [], _, _ => rfl
  | [], b :: y, h, _ => by cases h
  | a :: x, [], _, h => by cases h
  | a :: x, b :: y, h, k => by
    have h' : ¬ (a.toNat < b.toNat ∨ (a = b ∧ Op.bytesLess x y = true)) := fun e => by rw [bl_cons.2 e] at h; cases h
    have k' : ¬ (b.toNat < a.toNat ∨ (b = a ∧ Op.bytesLess y x = true)) := fun e => by rw [bl_cons.2 e] at k; cases k
    have e : a = b := UInt8.toNat_inj.1 (by omega)
    subst e
    have h2 : Op.bytesLess x y = false := by
      cases hh : Op.bytesLess x y with
      | false => rfl
      | true => exact absurd (.inr ⟨rfl, hh⟩) h'
    have k2 : Op.bytesLess y x = false := by
      cases hh : Op.bytesLess y x with
      | false => rfl
      | true => exact absurd (.inr ⟨rfl, hh⟩) k'
    rw [bl_total x y h2 k2]
/-- an order that tells -1, 0, 1 -/
structure OrdF {α : Type} (f : α → α → Int) : Prop where
  rng : ∀ a b, f a b = -1 ∨ f a b = 0 ∨ f a b = 1
  zero : ∀ a b, f a b = 0 ↔ a = b
  anti : ∀ a b, f b a = - f a b
  trans : ∀ a b c, f a b = -1 → f b c = -1 → f a c = -1
theorem bytesM_neg {a b : List UInt8} : bytesC a b = -1 ↔ Op.bytesLess a b = true := by
  unfold bytesC
  cases h : Op.bytesLess a b <;> simp
  by_cases e : a = b <;> simp [e]
theorem bytesM_eq {a b : List UInt8} (h : Op.bytesLess a b = false) : bytesC a b = if a = b then 0 else 1 := by
  unfold bytesC
  rw [h]
  by_cases e : a = b <;> simp [e]
theorem bytesM_ord : OrdF bytesC where
  rng a b := by
    cases h : Op.bytesLess a b with
    | true => exact .inl (bytesM_neg.2 h)
    | false =>
      rw [bytesM_eq h]
      by_cases e : a = b <;> simp [e]
  zero a b := by
    cases h : Op.bytesLess a b with
    | true =>
      rw [bytesM_neg.2 h]
      constructor
      · intro h; cases h
      · rintro rfl
        rw [bl_irrefl] at h
        cases h
    | false =>
      rw [bytesM_eq h]
      by_cases e : a = b <;> simp [e]
  anti a b := by
    cases h : Op.bytesLess a b with
    | true =>
      have h2 : Op.bytesLess b a = false := by
        cases k : Op.bytesLess b a with
        | false => rfl
        | true => exact (bl_asymm _ _ h k).elim
      have h3 : ¬ b = a := fun e => by
        subst e
        rw [bl_irrefl] at h
        cases h
      rw [bytesM_neg.2 h, bytesM_eq h2, if_neg h3]
      rfl
    | false =>
      cases k : Op.bytesLess b a with
      | true =>
        have h3 : ¬ a = b := fun e => by
          subst e
          rw [bl_irrefl] at k
          cases k
        rw [bytesM_neg.2 k, bytesM_eq h, if_neg h3]
      | false =>
        have := bl_total _ _ h k
        subst this
        rw [bytesM_eq h, if_pos rfl]
        rfl
  trans a b c h k := bytesM_neg.2 (bl_trans _ _ _ (bytesM_neg.1 h) (bytesM_neg.1 k))
theorem OrdF.self {α : Type} {f : α → α → Int} (h : OrdF f) (a : α) : f a a = 0 := (h.zero a a).2 rfl
theorem cmpL_cons_eq {x : List UInt8} {xs ys : List (List UInt8)} : cmpL (x :: xs) (x :: ys) = cmpL xs ys := if_pos rfl
theorem cmpL_cons_ne {x y : List UInt8} {xs ys : List (List UInt8)} (h : ¬ x = y) : cmpL (x :: xs) (y :: ys) = bytesC x y := if_neg h
theorem cmpL_rng : ∀ a b, cmpL a b = -1 ∨ cmpL a b = 0 ∨ cmpL a b = 1
  | [], [] => .inr (.inl rfl)
  | [], _ :: _ => .inl rfl
  | _ :: _, [] => .inr (.inr rfl)
  | x :: xs, y :: ys => by
    by_cases h : x = y
    · subst h
      rw [cmpL_cons_eq]
      exact cmpL_rng xs ys
    · rw [cmpL_cons_ne h]
      exact bytesM_ord.rng x y
theorem cmpL_zero : ∀ a b, cmpL a b = 0 ↔ a = b
  | [], [] => ⟨fun _ => rfl, fun _ => rfl⟩
  | [], _ :: _ => ⟨fun h => (by cases h), fun h => (by cases h)⟩
  | _ :: _, [] => ⟨fun h => (by cases h), fun h => (by cases h)⟩
  | x :: xs, y :: ys => by
    by_cases h : x = y
    · subst h
      rw [cmpL_cons_eq, cmpL_zero xs ys]
      simp
    · rw [cmpL_cons_ne h, bytesM_ord.zero]
      simp [h]
theorem cmpL_anti : ∀ a b, cmpL b a = - cmpL a b
  | [], [] => rfl
  | [], _ :: _ => rfl
  | _ :: _, [] => rfl
  | x :: xs, y :: ys => by
    by_cases h : x = y
    · subst h
      rw [cmpL_cons_eq, cmpL_cons_eq]
      exact cmpL_anti xs ys
    · rw [cmpL_cons_ne h, cmpL_cons_ne (fun e => h e.symm)]
      exact bytesM_ord.anti x y
theorem cmpL_trans : ∀ a b c, cmpL a b = -1 → cmpL b c = -1 → cmpL a c = -1
  | [], [], _, h, _ => by cases h
  | _ :: _, [], _, h, _ => by cases h
  | _, _ :: _, [], _, k => by cases k
  | [], _ :: _, _ :: _, _, _ => rfl
  | x :: xs, y :: ys, z :: zs, h, k => by
    by_cases e : x = y
    · subst e
      rw [cmpL_cons_eq] at h
      by_cases e2 : x = z
      · subst e2
        rw [cmpL_cons_eq] at k ⊢
        exact cmpL_trans xs ys zs h k
      · rw [cmpL_cons_ne e2] at k ⊢
        exact k
    · rw [cmpL_cons_ne e] at h
      by_cases e2 : y = z
      · subst e2
        rw [cmpL_cons_ne e]
        exact h
      · rw [cmpL_cons_ne e2] at k
        have h3 := bytesM_ord.trans x y z h k
        have e3 : ¬ x = z := fun e => by
          subst e
          rw [bytesM_ord.self] at h3
          cases h3
        rw [cmpL_cons_ne e3]
        exact h3
/-! parts joined -/
def joinL : List (List UInt8) → List UInt8
  | [] => []
  | [p] => p
  | p :: q :: r => p ++ 47 :: joinL (q :: r)
theorem joinL_cons {p : List UInt8} {r : List (List UInt8)} (h : r ≠ []) : joinL (p :: r) = p ++ 47 :: joinL r := by
  cases r with
  | nil => exact absurd rfl h
  | cons q r => rfl
theorem joinL_head {c : UInt8} {ps : List (List UInt8)} (h : ps ≠ []) : joinL (headP c ps) = c :: joinL ps := by
  cases ps with
  | nil => exact absurd rfl h
  | cons p r => cases r <;> rfl
theorem joinL_split : ∀ s, joinL (splitM s) = s
  | [] => rfl
  | c :: s => by
    have ih := joinL_split s
    by_cases h : c = 47
    · subst h
      rw [splitM_stroke, joinL_cons (splitM_ne s), ih]
      rfl
    · rw [splitM_char h, joinL_head (splitM_ne s), ih]
theorem split_inj {a b : List UInt8} (h : splitM a = splitM b) : a = b := by
  rw [← joinL_split a, h, joinL_split]
theorem split_app : ∀ d t, splitM (d ++ 47 :: t) = splitM d ++ splitM t
  | [], t => splitM_stroke t
  | c :: d, t => by
    have ih := split_app d t
    rw [List.cons_append]
    by_cases h : c = 47
    · subst h
      rw [splitM_stroke, splitM_stroke, ih]
      rfl
    · rw [splitM_char h, splitM_char h, ih]
      cases e : splitM d with
      | nil => exact absurd e (splitM_ne d)
      | cons p r => rfl
theorem joinL_app : ∀ {a b : List (List UInt8)}, a ≠ [] → b ≠ [] → joinL (a ++ b) = joinL a ++ 47 :: joinL b
  | [], _, h, _ => absurd rfl h
  | [p], b, _, hb => joinL_cons hb
  | p :: q :: r, b, _, hb => by
    have ih := joinL_app (a := q :: r) (b := b) (by simp) hb
    show p ++ 47 :: joinL (q :: r ++ b) = _
    rw [ih]
    show _ = (p ++ 47 :: joinL (q :: r)) ++ 47 :: joinL b
    simp
theorem pre_app {s d : List UInt8} : preM s (d ++ [47]) = true ↔ ∃ t, s = d ++ 47 :: t := by
  rw [preM_iff]
  constructor
  · rintro ⟨h, h1, h2⟩
    refine ⟨s.drop (d.length + 1), ?_⟩
    have e := List.take_append_drop d.length s
    rw [h1, List.drop_eq_getElem_cons h, h2] at e
    exact e.symm
  · rintro ⟨t, rfl⟩
    exact ⟨by simp, by simp, by simp⟩
/-- what lies under a path has its parts, and more behind them -/
theorem under_iff {s d : List UInt8} : underM s d ↔ okP s ∧ okP d ∧ ∃ T, T ≠ [] ∧ splitM s = splitM d ++ T := by
  unfold underM
  rw [pre_app]
  constructor
  · rintro ⟨h1, h2, t, rfl⟩
    exact ⟨h1, h2, splitM t, splitM_ne t, split_app d t⟩
  · rintro ⟨h1, h2, T, hT, h⟩
    refine ⟨h1, h2, joinL T, ?_⟩
    have := joinL_app (splitM_ne d) hT
    rw [← h, joinL_split, joinL_split] at this
    exact this
/-! which texts are paths -/
theorem checkL_ok : ∀ {ps : List (List UInt8)} {i o : Nat}, i ≤ 20 → ((checkL ps i o).1 = 0 ↔ i + ps.length ≤ 20 ∧ ∀ p ∈ ps, (stepB badR p).1 = 0)
  | [], i, o, h => ⟨fun _ => ⟨by simpa using h, fun p hp => by cases hp⟩, fun _ => rfl⟩
  | p :: r, i, o, h => by
    unfold checkL
    by_cases hi : i = 20
    · rw [if_pos hi]
      subst hi
      constructor
      · intro h; cases h
      · rintro ⟨h, _⟩
        simp at h
        omega
    · rw [if_neg hi]
      by_cases hp : (stepB badR p).1 = 0
      · rw [if_pos hp, checkL_ok (ps := r) (by omega)]
        simp [hp]
        intro _
        omega
      · rw [if_neg hp]
        constructor
        · intro h; exact absurd h hp
        · rintro ⟨_, h⟩
          exact absurd (h p (List.mem_cons_self ..)) hp
theorem okP_iff {s : List UInt8} : okP s ↔ s ≠ [] ∧ s.length ≤ 200 ∧ (splitM s).length ≤ 20 ∧ ∀ p ∈ splitM s, (stepB badR p).1 = 0 := by
  unfold okP checkM
  by_cases h : s = []
  · rw [if_pos h]
    simp [h]
  · rw [if_neg h]
    by_cases h2 : 200 < s.length
    · rw [if_pos h2]
      simp
      intro _ h
      omega
    · rw [if_neg h2, checkL_ok (by omega)]
      simp [h]
      intro _ _
      omega
theorem step_ne {p : List UInt8} (h : (stepB badR p).1 = 0) : p ≠ [] := fun e => by
  subst e
  cases h
/-! the last part -/
theorem last_at {a p : List UInt8} (hp : ∀ x ∈ p, ¬ x = 47) (ha : a = [] ∨ ∃ a', a = a' ++ [47]) : ∀ k, a.length ≤ k → k ≤ (a ++ p).length → lastM (a ++ p) k = a.length
  | 0, h, _ => by
    unfold lastM
    omega
  | k + 1, h, h2 => by
    rw [lastM.eq_2]
    by_cases e : a.length = k + 1
    · rcases ha with rfl | ⟨a', rfl⟩
      · simp at e
      · have e2 : a'.length = k := by simpa using e
        rw [if_pos]
        · exact e.symm
        · rw [List.getElem?_append_left (by omega), List.getElem?_append_right (by omega), e2]
          simp
    · have hk : k - a.length < p.length := by
        simp at h2
        omega
      rw [if_neg, last_at hp ha k (by omega) (by omega)]
      rw [List.getElem?_append_right (by omega), List.getElem?_eq_getElem hk]
      intro e3
      injection e3 with e3
      exact hp _ (List.getElem_mem hk) e3
theorem last_none {s p : List UInt8} (h : splitM s = [p]) : lastM s s.length = 0 ∧ s = p := by
  have e : s = p := by
    have := joinL_split s
    rw [h] at this
    exact this.symm
  subst e
  exact ⟨last_at (a := []) (split_one' (by rw [h]; rfl)) (.inl rfl) s.length (Nat.zero_le _) (Nat.le_refl _), rfl⟩
theorem last_some {s p : List UInt8} {ini : List (List UInt8)} (h : splitM s = ini ++ [p]) (hi : ini ≠ []) : s = joinL ini ++ 47 :: p ∧ lastM s s.length = (joinL ini).length + 1 ∧ splitM (joinL ini) = ini := by
  have e : s = joinL ini ++ 47 :: p := by
    have := joinL_app hi (b := [p]) (by simp)
    rw [← h, joinL_split] at this
    exact this
  have hno : ∀ x ∈ p, ¬ x = 47 := splitM_no s p (by rw [h]; simp)
  refine ⟨e, ?_, ?_⟩
  · have := last_at (a := joinL ini ++ [47]) hno (.inr ⟨_, rfl⟩) (joinL ini ++ [47] ++ p).length (by simp) (Nat.le_refl _)
    have e2 : joinL ini ++ [47] ++ p = s := by rw [e]; simp
    rw [e2] at this
    rw [this]
    simp
  · have e3 := split_app (joinL ini) p
    rw [← e, split_one hno, h] at e3
    exact (List.append_inj' e3 rfl).1.symm
theorem ini_ok {s p : List UInt8} {ini : List (List UInt8)} (hs : okP s) (h : splitM s = ini ++ [p]) (hi : ini ≠ []) : okP (joinL ini) := by
  obtain ⟨e, _, e3⟩ := last_some h hi
  obtain ⟨h1, h2, h4, h5⟩ := okP_iff.1 hs
  refine okP_iff.2 ⟨fun e4 => ?_, ?_, ?_, ?_⟩
  · rw [e4] at e3
    have := h5 [] (by rw [h, ← e3]; simp [splitM])
    exact step_ne this rfl
  · rw [e] at h2
    simp at h2
    omega
  · rw [e3]
    rw [h] at h4
    simp at h4
    omega
  · rw [e3]
    intro q hq
    exact h5 q (by rw [h]; exact List.mem_append_left _ hq)
theorem parent_some {s p : List UInt8} {ini : List (List UInt8)} (hs : okP s) (h : splitM s = ini ++ [p]) (hi : ini ≠ []) : parentM s = (joinL ini, true) := by
  obtain ⟨e, e2, _⟩ := last_some h hi
  unfold parentM
  rw [if_pos ⟨by omega, hs⟩, e2, Nat.add_sub_cancel]
  congr 1
  conv => lhs; rw [e]
  simp
theorem parent_none {s p : List UInt8} (h : splitM s = [p]) : parentM s = ([], false) := by
  unfold parentM
  rw [if_neg (fun h2 => by rw [(last_none h).1] at h2; omega)]
theorem base_last {s p : List UInt8} {ini : List (List UInt8)} (hs : okP s) (h : splitM s = ini ++ [p]) : baseM s = p := by
  unfold baseM
  rw [if_pos hs]
  by_cases hi : ini = []
  · subst hi
    rw [(last_none h).1, (last_none h).2]
    rfl
  · obtain ⟨e, e2, _⟩ := last_some h hi
    rw [e2]
    conv => lhs; rw [e]
    simp
theorem parent_yes {s : List UInt8} (h : (parentM s).2 = true) : okP s ∧ ∃ ini p, ini ≠ [] ∧ splitM s = ini ++ [p] := by
  unfold parentM at h
  split at h
  · rename_i h2
    refine ⟨h2.2, ?_⟩
    obtain ⟨ini, p, hip⟩ := splitM_last s
    refine ⟨ini, p, fun e => ?_, hip⟩
    subst e
    have := (last_none hip).1
    omega
  · cases h
theorem parentM_len (s : List UInt8) : (parentM s).1.length ≤ s.length := by
  unfold parentM
  split
  · simp
    omega
  · simp
/-! the order of texts -/
theorem compareM_ok {a b : List UInt8} (ha : okP a) (hb : okP b) : compareM a b = cmpL (splitM a) (splitM b) := (if_pos ha).trans (if_pos hb)
theorem compareM_l {a b : List UInt8} (ha : okP a) (hb : ¬ okP b) : compareM a b = 1 := (if_pos ha).trans (if_neg hb)
theorem compareM_r {a b : List UInt8} (ha : ¬ okP a) (hb : okP b) : compareM a b = -1 := (if_neg ha).trans (if_pos hb)
theorem compareM_no {a b : List UInt8} (ha : ¬ okP a) (hb : ¬ okP b) : compareM a b = bytesC a b := (if_neg ha).trans (if_neg hb)
theorem compareM_ord : OrdF compareM where
  rng a b := by
    by_cases ha : okP a <;> by_cases hb : okP b
    · rw [compareM_ok ha hb]; exact cmpL_rng _ _
    · rw [compareM_l ha hb]; simp
    · rw [compareM_r ha hb]; simp
    · rw [compareM_no ha hb]; exact bytesM_ord.rng _ _
  zero a b := by
    by_cases ha : okP a <;> by_cases hb : okP b
    · rw [compareM_ok ha hb, cmpL_zero]
      exact ⟨split_inj, fun h => by rw [h]⟩
    · rw [compareM_l ha hb]
      exact ⟨fun h => (by cases h), fun h => absurd (h ▸ ha) hb⟩
    · rw [compareM_r ha hb]
      exact ⟨fun h => (by cases h), fun h => absurd (h ▸ hb) ha⟩
    · rw [compareM_no ha hb]; exact bytesM_ord.zero _ _
  anti a b := by
    by_cases ha : okP a <;> by_cases hb : okP b
    · rw [compareM_ok ha hb, compareM_ok hb ha]; exact cmpL_anti _ _
    · rw [compareM_l ha hb, compareM_r hb ha]
    · rw [compareM_r ha hb, compareM_l hb ha]; rfl
    · rw [compareM_no ha hb, compareM_no hb ha]; exact bytesM_ord.anti _ _
  trans a b c h k := by
    by_cases ha : okP a
    · by_cases hb : okP b
      · rw [compareM_ok ha hb] at h
        by_cases hc : okP c
        · rw [compareM_ok hb hc] at k
          rw [compareM_ok ha hc]
          exact cmpL_trans _ _ _ h k
        · rw [compareM_l hb hc] at k
          cases k
      · rw [compareM_l ha hb] at h
        cases h
    · by_cases hc : okP c
      · exact compareM_r ha hc
      · by_cases hb : okP b
        · rw [compareM_l hb hc] at k
          cases k
        · rw [compareM_no ha hb] at h
          rw [compareM_no hb hc] at k
          rw [compareM_no ha hc]
          exact bytesM_ord.trans _ _ _ h k
theorem OrdF.le {α : Type} {f : α → α → Int} (h : OrdF f) {a b c : α} (h1 : ¬ 0 < f a b) (h2 : ¬ 0 < f b c) : f a c ≤ 0 := by
  rcases h.rng a b with e | e | e
  · rcases h.rng b c with k | k | k
    · rw [h.trans a b c e k]; omega
    · rw [← (h.zero b c).1 k, e]; omega
    · omega
  · rw [(h.zero a b).1 e]; omega
  · omega
theorem OrdF.ge {α : Type} {f : α → α → Int} (h : OrdF f) {a b c : α} (h1 : ¬ f a b < 0) (h2 : ¬ f b c < 0) : 0 ≤ f a c := by
  have e1 := h.anti a b
  have e2 := h.anti b c
  have e3 := h.anti a c
  have := h.le (a := c) (b := b) (c := a) (by omega) (by omega)
  omega
/-! the laws of PathUnder -/
theorem cmpL_pre : ∀ (D : List (List UInt8)) {T : List (List UInt8)}, T ≠ [] → cmpL D (D ++ T) = -1
  | [], T, h => by
    cases T with
    | nil => exact absurd rfl h
    | cons _ _ => rfl
  | x :: D, T, h => by
    rw [List.cons_append, cmpL_cons_eq]
    exact cmpL_pre D h
theorem under_ahead {s d : List UInt8} (h : underM s d) : compareM d s = -1 := by
  obtain ⟨h1, h2, T, hT, e⟩ := under_iff.1 h
  rw [compareM_ok h2 h1, e]
  exact cmpL_pre _ hT
theorem under_trans {s p d : List UInt8} (h : underM s p) (k : underM p d) : underM s d := by
  obtain ⟨h1, h2, T, hT, e⟩ := under_iff.1 h
  obtain ⟨k1, k2, U, hU, e2⟩ := under_iff.1 k
  exact under_iff.2 ⟨h1, k2, U ++ T, by simp [hU], by rw [e, e2, List.append_assoc]⟩
theorem under_asymm {s d : List UInt8} (h : underM s d) : ¬ underM d s := fun k => by
  have h1 := under_ahead h
  have h2 := under_ahead k
  have := compareM_ord.anti s d
  omega
theorem parent_under {s : List UInt8} (h : (parentM s).2 = true) : underM s (parentM s).1 := by
  obtain ⟨hs, ini, p, hi, e⟩ := parent_yes h
  rw [parent_some hs e hi]
  obtain ⟨_, _, e3⟩ := last_some e hi
  exact under_iff.2 ⟨hs, ini_ok hs e hi, [p], by simp, by rw [e, e3]⟩
theorem under_parent {s d : List UInt8} (h : underM s d) : (parentM s).2 = true ∧ ((parentM s).1 ≠ d → underM (parentM s).1 d) := by
  obtain ⟨hs, hd, T, hT, e⟩ := under_iff.1 h
  obtain ⟨T0, q, hq⟩ : ∃ T0 q, T = T0 ++ [q] := ⟨_, _, (List.dropLast_concat_getLast hT).symm⟩
  subst hq
  have e' : splitM s = (splitM d ++ T0) ++ [q] := by rw [e, List.append_assoc]
  have hi : splitM d ++ T0 ≠ [] := by simp [splitM_ne d]
  rw [parent_some hs e' hi]
  refine ⟨rfl, fun hne => ?_⟩
  obtain ⟨_, _, e3⟩ := last_some e' hi
  refine under_iff.2 ⟨ini_ok hs e' hi, hd, T0, fun h0 => ?_, e3⟩
  subst h0
  rw [List.append_nil] at hne e3
  exact hne (split_inj (by rw [e3]))
theorem cmpL_behind : ∀ {D T O : List (List UInt8)}, cmpL O D = 1 → (¬ ∃ R, R ≠ [] ∧ O = D ++ R) → cmpL O (D ++ T) = 1
  | [], T, [], h, _ => by cases h
  | [], T, o :: O, _, hn => absurd ⟨o :: O, by simp, rfl⟩ hn
  | x :: D, T, [], h, _ => by cases h
  | x :: D, T, o :: O, h, hn => by
    rw [List.cons_append]
    by_cases e : o = x
    · subst e
      rw [cmpL_cons_eq] at h ⊢
      exact cmpL_behind h fun ⟨R, h1, h2⟩ => hn ⟨R, h1, by rw [h2]; rfl⟩
    · rw [cmpL_cons_ne e] at h ⊢
      exact h
theorem under_behind {s d o : List UInt8} (h : underM s d) (ho : okP o) (h1 : ¬ underM o d) (h2 : ¬ compareM o d ≤ 0) : compareM o s = 1 := by
  obtain ⟨hs, hd, T, hT, e⟩ := under_iff.1 h
  rw [compareM_ok ho hd] at h2
  have h3 : cmpL (splitM o) (splitM d) = 1 := by
    rcases cmpL_rng (splitM o) (splitM d) with k | k | k <;> omega
  rw [compareM_ok ho hs, e]
  exact cmpL_behind h3 fun ⟨R, hR, e2⟩ => h1 (under_iff.2 ⟨ho, hd, R, hR, e2⟩)
end Go.Proofs.YtkhffndeomihhaaDoor
