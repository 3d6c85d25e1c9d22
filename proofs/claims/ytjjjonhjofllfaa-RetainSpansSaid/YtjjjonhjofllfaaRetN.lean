/- Sets of numbers as maps in memory, and how many of a list's different numbers a test takes. Conditions: none. -/
import Derived.Test.YtjjjonhjofllfaaRetM
import Derived.Maps.OwnSet
import Derived.Maps.RangeWalk
set_option linter.unusedVariables false
set_option linter.unusedSimpArgs false
namespace Go.Proofs.Ytjjjonhjofllfaa
open Go.RowKit Go.Maps

theorem dcountFrom_congr {p q : Int → Bool} : ∀ (xs seen : List Int), (∀ x ∈ xs, p x = q x) → dcountFrom p seen xs = dcountFrom q seen xs := by
  intro xs
  induction xs with
  | nil => intro seen _; rfl
  | cons x r ih =>
    intro seen h
    simp only [dcountFrom]
    rw [h x (by simp), ih _ fun y hy => h y (by simp [hy])]
theorem dcount_congr {p q : Int → Bool} (xs : List Int) (h : ∀ x ∈ xs, p x = q x) : dcount p xs = dcount q xs := dcountFrom_congr xs [] h

theorem dcountFrom_step {p q : Int → Bool} (x : Int) (hp : p x = false) (hq : q x = true) (hpq : ∀ y, y ≠ x → p y = q y) : ∀ (xs seen : List Int),
    dcountFrom q seen xs = dcountFrom p seen xs + if xs.contains x && !seen.contains x then 1 else 0 := by
  intro xs
  induction xs with
  | nil => intro seen; simp [dcountFrom]
  | cons y r ih =>
    intro seen
    simp only [dcountFrom]
    rw [ih (seen ++ [y])]
    by_cases hy : y = x
    · subst hy
      by_cases hs : seen.contains y = true
      · simp_all
      · simp_all; omega
    · rw [hpq y hy]
      have e1 : (y :: r).contains x = r.contains x := by
        rw [Bool.eq_iff_iff]; simp only [List.contains_iff_mem, List.mem_cons]; exact ⟨fun h => h.resolve_left (fun e => hy e.symm), .inr⟩
      have e2 : (seen ++ [y]).contains x = seen.contains x := by
        rw [Bool.eq_iff_iff]; simp only [List.contains_iff_mem, List.mem_append, List.mem_singleton]; exact ⟨fun h => h.resolve_right (fun e => hy e.symm), .inl⟩
      rw [e1, e2]; omega
theorem dcount_step {p q : Int → Bool} (x : Int) (xs : List Int) (hx : hasB xs x = true) (hp : p x = false) (hq : q x = true) (hpq : ∀ y, y ≠ x → p y = q y) : dcount q xs = dcount p xs + 1 := by
  have := dcountFrom_step x hp hq hpq xs []
  unfold hasB at hx
  rw [hx] at this
  simpa [dcount] using this

/-- block b is a set of numbers (a map of at most n entries): just those on the list -/
def SetIs (P : Program) (kt : TypeId) (w : World) (b n : Nat) (xs : List Int) : Prop := ∃ D : DataW Unit, w.ownsMap P kt unitElem b n D ∧ ∀ x : Int, Maps.has D (.int .i64 x) = hasB xs x

theorem isKey_int (x : Int) : WideAt.IsKeyLit (.int .i64 x) := trivial
theorem sameKey_int (x y : Int) : (Lit.int .i64 y).sameKey (.int .i64 x) = decide (y = x) := by
  by_cases h : y = x
  · subst h; rw [WideAt.sameKey_self (isKey_int y)]; simp
  · rw [sameKey_ne (by intro e; cases e; exact h rfl)]; simp [h]

theorem SetIs.put {P : Program} {kt : TypeId} {w : World} {b m : Nat} {xs : List Int} {D : DataW Unit} {x : Int} (hD : IsMap D) (h : ∀ x : Int, Maps.has D (.int .i64 x) = hasB xs x)
    (h' : w.ownsMap P kt unitElem b m (D.put (.int .i64 x) (.agg []))) : SetIs P kt w b m (x :: xs) := by
  refine ⟨_, h', fun y => ?_⟩
  by_cases e : y = x
  · subst e
    rw [has_put_same hD (isKey_int y)]; simp [hasB]
  · rw [has_put_other (by intro e'; cases e'; exact e rfl), h]
    unfold hasB
    rw [Bool.eq_iff_iff]; simp only [List.contains_iff_mem, List.mem_cons]
    exact ⟨.inr, fun h => h.resolve_left e⟩
theorem SetIs.congr {P : Program} {kt : TypeId} {w : World} {b n : Nat} {xs ys : List Int} (h : SetIs P kt w b n xs) (e : ∀ x, hasB xs x = hasB ys x) : SetIs P kt w b n ys := by
  obtain ⟨D, h1, h2⟩ := h
  exact ⟨D, h1, fun x => (h2 x).trans (e x)⟩
theorem owns_mapBelow {H : Type} {P : Program} {kt : TypeId} {R : Value → Option (DataW H × List MemPlace)} {w w' : World} {b n B : Nat} {D : DataW H} (h : w.ownsMap P kt R b n D) (hb : Below B w w') (hB : b < B) : w'.ownsMap P kt R b n D := by
  obtain ⟨es, clock, hh, r⟩ := h
  exact ⟨es, clock, by rw [hb.block b hB]; exact hh, r⟩
theorem owns_lt {H : Type} {P : Program} {kt : TypeId} {R : Value → Option (DataW H × List MemPlace)} {w : World} {b n : Nat} {D : DataW H} (h : w.ownsMap P kt R b n D) : b < w.heap.size := by
  obtain ⟨es, clock, hh, r⟩ := h
  rcases Nat.lt_or_ge b w.heap.size with h1 | h1
  · exact h1
  · simp [Array.getElem?_eq_none h1] at hh
theorem SetIs.below {P : Program} {kt : TypeId} {w w' : World} {b n B : Nat} {xs : List Int} (h : SetIs P kt w b n xs) (hb : Below B w w') (hB : b < B) : SetIs P kt w' b n xs := by
  obtain ⟨D, h1, h2⟩ := h
  exact ⟨D, owns_mapBelow h1 hb hB, h2⟩
theorem SetIs.lt {P : Program} {kt : TypeId} {w : World} {b n : Nat} {xs : List Int} (h : SetIs P kt w b n xs) : b < w.heap.size := by
  obtain ⟨D, h1, h2⟩ := h
  exact owns_lt h1
theorem dcount_false (xs : List Int) : dcount (fun _ => false) xs = 0 := by
  have : ∀ seen, dcountFrom (fun _ => false) seen xs = 0 := by
    induction xs with
    | nil => intro seen; rfl
    | cons x r ih => intro seen; simp [dcountFrom, ih]
  exact this []
theorem later_start {at_ : Int} {xs : List Int} {D : DataW Unit} (h : ∀ x : Int, Maps.has D (.int .i64 x) = hasB xs x) : dcount (fun x => decide (at_ < x) && !Maps.has D (.int .i64 x)) xs = 0 := by
  rw [dcount_congr (q := fun _ => false) xs ?_, dcount_false]
  intro x hx
  have : hasB xs x = true := by unfold hasB; rw [List.contains_iff_mem]; exact hx
  simp [h, this]
theorem later_end {at_ : Int} {xs : List Int} {left : Lit → Bool} (h : ∀ kl, left kl = false) : dcount (fun x => decide (at_ < x) && !left (.int .i64 x)) xs = dcount (fun x => decide (at_ < x)) xs :=
  dcount_congr xs fun x _ => by simp [h]
theorem later_step {at_ x : Int} {xs : List Int} {D : DataW Unit} {left : Lit → Bool} {y : DataW Unit} (h : ∀ x : Int, Maps.has D (.int .i64 x) = hasB xs x) (hl : left (.int .i64 x) = true) (hat : ∀ zd, D.atKey (.int .i64 x) zd = y) :
    dcount (fun z => decide (at_ < z) && !(left (.int .i64 z) && !(Lit.int .i64 z).sameKey (.int .i64 x))) xs = dcount (fun z => decide (at_ < z) && !left (.int .i64 z)) xs + if at_ < x then 1 else 0 := by
  have hx : hasB xs x = true := by rw [← h]; exact Maps.has_true_of_atKey hat
  by_cases hlt : at_ < x
  · rw [if_pos hlt]
    refine dcount_step x xs hx (by simp [hl]) (by simp [hlt, sameKey_int]) fun z hz => ?_
    simp [sameKey_int, hz]
  · rw [if_neg hlt]
    refine dcount_congr xs fun z _ => ?_
    by_cases hz : z = x
    · subst hz; simp [hlt]
    · simp [sameKey_int, hz]
/-- which snapshots are kept by spans, of those from the place len - c on: their numbers -/
def keepB (l : List Snap) (span spans : Int) (i : Nat) : Bool := lastOf l span i && decide ((laterM l span ((l.getD i (0, 0)).2 / span) : Int) < spans)
def outsTo (l : List Snap) (span spans : Int) : Nat → List Int
  | 0 => []
  | c + 1 => if keepB l span spans (l.length - (c + 1)) then (l.getD (l.length - (c + 1)) (0, 0)).1 :: outsTo l span spans c else outsTo l span spans c
def outsM (l : List Snap) (span spans : Int) : List Int := if span = 0 then [] else outsTo l span spans l.length

/-- what stands in memory while layer 22 looks for the spans' ends -/
structure EndsAt (P : Program) (kt : TypeId) (w0 w : World) (B : Nat) (last span spans : Int) (n : Nat) (outs seen sps : List Int) : Prop where
  below : Below B w0 w
  room : B + 5 ≤ w.heap.size
  c0 : w.cell? ⟨B, 0, none⟩ = some (.int .i64 last)
  c1 : w.cell? ⟨B, 1, none⟩ = some (.int .i64 span)
  c2 : w.cell? ⟨B, 2, none⟩ = some (.int .i64 spans)
  box : w.cell? ⟨B + 1 + 1 + 1 + 1, 0, none⟩ = some (.map (some (B + 1 + 1 + 1)))
  outs : SetIs P kt w (B + 1) n outs
  seen : SetIs P kt w (B + 1 + 1) n seen
  sps : SetIs P kt w (B + 1 + 1 + 1) n sps

theorem cell_grown {w w' : World} {row : Option Nat} (hg : w.grownBy w' row) {a : Addr} {v : Value} (h : w.cell? a = some v) (hne : some a.block ≠ row) : w'.cell? a = some v := hg.cell h hne
theorem SetIs.grown {P : Program} {kt : TypeId} {w w' : World} {b n n' : Nat} {xs : List Int} {row : Option Nat} (h : SetIs P kt w b n xs) (hg : w.grownBy w' row) (hne : some b ≠ row) (hn : n ≤ n') : SetIs P kt w' b n' xs := by
  obtain ⟨D, h1, h2⟩ := h
  exact ⟨D, (h1.kept hg hne).mono hn, h2⟩
theorem EndsAt.grown {P : Program} {kt : TypeId} {w0 w w' : World} {B : Nat} {last span spans : Int} {n : Nat} {outs seen sps : List Int} (h : EndsAt P kt w0 w B last span spans n outs seen sps) (hg : w.grownBy w' none) : EndsAt P kt w0 w' B last span spans n outs seen sps :=
  ⟨h.below.grown hg (by have := h.room; omega) (fun _ hk => by cases hk), Nat.le_trans h.room hg.size, cell_grown hg h.c0 (by simp), cell_grown hg h.c1 (by simp), cell_grown hg h.c2 (by simp), cell_grown hg h.box (by simp),
    h.outs.grown hg (by simp) (Nat.le_refl _), h.seen.grown hg (by simp) (Nat.le_refl _), h.sps.grown hg (by simp) (Nat.le_refl _)⟩
theorem EndsAt.drewN {P : Program} {kt : TypeId} {w0 w : World} {B : Nat} {last span spans : Int} {n : Nat} {outs seen sps : List Int} (h : EndsAt P kt w0 w B last span spans n outs seen sps) (k : Nat) : EndsAt P kt w0 (w.drewN k) B last span spans n outs seen sps :=
  h.grown ⟨rfl, rfl, rfl, Nat.le_refl _, fun _ _ _ => rfl⟩
theorem EndsAt.drew {P : Program} {kt : TypeId} {w0 w : World} {B : Nat} {last span spans : Int} {n : Nat} {outs seen sps : List Int} (h : EndsAt P kt w0 w B last span spans n outs seen sps) : EndsAt P kt w0 w.drew B last span spans n outs seen sps :=
  h.grown ⟨rfl, rfl, rfl, Nat.le_refl _, fun _ _ _ => rfl⟩
theorem EndsAt.alloc {P : Program} {kt : TypeId} {w0 w : World} {B : Nat} {last span spans : Int} {n : Nat} {outs seen sps : List Int} (h : EndsAt P kt w0 w B last span spans n outs seen sps) (o : Obj) : EndsAt P kt w0 (w.alloc o) B last span spans n outs seen sps :=
  h.grown (World.grownBy_alloc w o none)
theorem EndsAt.later {P : Program} {kt : TypeId} {w0 w w' : World} {B : Nat} {last span spans : Int} {n : Nat} {outs seen sps : List Int} (h : EndsAt P kt w0 w B last span spans n outs seen sps) (hb : Below w.heap.size w w') : EndsAt P kt w0 w' B last span spans n outs seen sps :=
  h.grown ⟨hb.os, hb.tape, hb.output, hb.size, fun k hk _ => hb.block k hk⟩
theorem hasB_cons (x : Int) (xs : List Int) (y : Int) : hasB (x :: xs) y = (decide (y = x) || hasB xs y) := by
  unfold hasB
  rw [Bool.eq_iff_iff]
  simp [List.contains_iff_mem]
theorem hasB_take_cons {xs : List Int} {m : Nat} (h : m < xs.length) {x : Int} (hx : xs[m] = x) (y : Int) : hasB (x :: xs.take m) y = hasB (xs.take (m + 1)) y := by
  rw [hasB_cons, hasB_take_succ _ _ _ h, hx, Bool.or_comm]
  congr 1
  rw [Bool.eq_iff_iff]; simp; exact eq_comm
theorem hasB_drop_cons {xs : List Int} {m : Nat} (h : m < xs.length) {x : Int} (hx : xs[m] = x) (y : Int) : hasB (x :: xs.drop (m + 1)) y = hasB (xs.drop m) y := by
  rw [List.drop_eq_getElem_cons h, hx]
theorem EndsAt.putSps {P : Program} {kt : TypeId} {w0 w w' : World} {B : Nat} {last span spans : Int} {n : Nat} {outs seen sps sps' : List Int} (h : EndsAt P kt w0 w B last span spans n outs seen sps) {x : Int} {D : DataW Unit} (hD : w.ownsMap P kt unitElem (B + 1 + 1 + 1) n D) (hh : ∀ x : Int, Maps.has D (.int .i64 x) = hasB sps x)
    (h' : w'.ownsMap P kt unitElem (B + 1 + 1 + 1) (n + 1) (D.put (.int .i64 x) (.agg []))) (hg : w.grownBy w' (some (B + 1 + 1 + 1))) (he : ∀ y, hasB (x :: sps) y = hasB sps' y) : EndsAt P kt w0 w' B last span spans (n + 1) outs seen sps' :=
  ⟨h.below.grown hg (by have := h.room; omega) (fun _ hk => by cases hk; omega), Nat.le_trans h.room hg.size, cell_grown hg h.c0 (by first | (simp; done) | (simp; omega)), cell_grown hg h.c1 (by first | (simp; done) | (simp; omega)), cell_grown hg h.c2 (by first | (simp; done) | (simp; omega)), cell_grown hg h.box (by simp),
    h.outs.grown hg (by first | (simp; done) | (simp; omega)) (by omega), h.seen.grown hg (by simp) (by omega), (SetIs.put hD.isMap hh h').congr he⟩
theorem EndsAt.putSeen {P : Program} {kt : TypeId} {w0 w w' : World} {B : Nat} {last span spans : Int} {n : Nat} {outs seen seen' sps : List Int} (h : EndsAt P kt w0 w B last span spans n outs seen sps) {x : Int} {D : DataW Unit} (hD : w.ownsMap P kt unitElem (B + 1 + 1) n D) (hh : ∀ x : Int, Maps.has D (.int .i64 x) = hasB seen x)
    (h' : w'.ownsMap P kt unitElem (B + 1 + 1) (n + 1) (D.put (.int .i64 x) (.agg []))) (hg : w.grownBy w' (some (B + 1 + 1))) (he : ∀ y, hasB (x :: seen) y = hasB seen' y) : EndsAt P kt w0 w' B last span spans (n + 1) outs seen' sps :=
  ⟨h.below.grown hg (by have := h.room; omega) (fun _ hk => by cases hk; omega), Nat.le_trans h.room hg.size, cell_grown hg h.c0 (by first | (simp; done) | (simp; omega)), cell_grown hg h.c1 (by first | (simp; done) | (simp; omega)), cell_grown hg h.c2 (by first | (simp; done) | (simp; omega)), cell_grown hg h.box (by first | (simp; done) | (simp; omega)),
    h.outs.grown hg (by simp) (by omega), (SetIs.put hD.isMap hh h').congr he, h.sps.grown hg (by simp) (by omega)⟩
theorem EndsAt.putOuts {P : Program} {kt : TypeId} {w0 w w' : World} {B : Nat} {last span spans : Int} {n : Nat} {outs seen sps : List Int} (h : EndsAt P kt w0 w B last span spans n outs seen sps) {x : Int} {D : DataW Unit} (hD : w.ownsMap P kt unitElem (B + 1) n D) (hh : ∀ x : Int, Maps.has D (.int .i64 x) = hasB outs x)
    (h' : w'.ownsMap P kt unitElem (B + 1) (n + 1) (D.put (.int .i64 x) (.agg []))) (hg : w.grownBy w' (some (B + 1))) : EndsAt P kt w0 w' B last span spans (n + 1) (x :: outs) seen sps :=
  ⟨h.below.grown hg (by have := h.room; omega) (fun _ hk => by cases hk; omega), Nat.le_trans h.room hg.size, cell_grown hg h.c0 (by first | (simp; done) | (simp; omega)), cell_grown hg h.c1 (by first | (simp; done) | (simp; omega)), cell_grown hg h.c2 (by first | (simp; done) | (simp; omega)), cell_grown hg h.box (by first | (simp; done) | (simp; omega)),
    SetIs.put hD.isMap hh h', h.seen.grown hg (by simp) (by omega), h.sps.grown hg (by first | (simp; done) | (simp; omega)) (by omega)⟩
theorem SetIs.none (P : Program) (kt : TypeId) (w : World) : SetIs P kt (w.alloc (.map #[] 0)) w.heap.size 0 [] := ⟨_, World.ownsMap_made w P kt _, fun _ => rfl⟩
theorem EndsAt.start (P : Program) (kt tp tm : TypeId) (w : World) (last span spans : Int) :
    EndsAt P kt w (((((w.alloc (.cells #[.int .i64 last, .int .i64 span, .int .i64 spans] tp)).alloc (.map #[] 0)).alloc (.map #[] 0)).alloc (.map #[] 0)).alloc (.cells #[.map (some (w.heap.size + 1 + 1 + 1))] tm)) w.heap.size last span spans 0 [] [] [] where
  below := (((((Below.refl _ _).alloc (Nat.le_refl _) _).alloc (by simp) _).alloc (by first | (simp; done) | (simp; omega)) _).alloc (by first | (simp; done) | (simp; omega)) _).alloc (by first | (simp; done) | (simp; omega)) _
  room := by simp
  c0 := by go_simp
  c1 := by go_simp
  c2 := by go_simp
  box := by go_simp
  outs := by
    have h := SetIs.none P kt (w.alloc (.cells #[.int .i64 last, .int .i64 span, .int .i64 spans] tp))
    simp only [World.size_alloc] at h
    exact ((h.grown (World.grownBy_alloc _ _ none) (by simp) (Nat.le_refl _)).grown (World.grownBy_alloc _ _ none) (by simp) (Nat.le_refl _)).grown (World.grownBy_alloc _ _ none) (by simp) (Nat.le_refl _)
  seen := by
    have h := SetIs.none P kt ((w.alloc (.cells #[.int .i64 last, .int .i64 span, .int .i64 spans] tp)).alloc (.map #[] 0))
    simp only [World.size_alloc] at h
    exact (h.grown (World.grownBy_alloc _ _ none) (by simp) (Nat.le_refl _)).grown (World.grownBy_alloc _ _ none) (by simp) (Nat.le_refl _)
  sps := by
    have h := SetIs.none P kt (((w.alloc (.cells #[.int .i64 last, .int .i64 span, .int .i64 spans] tp)).alloc (.map #[] 0)).alloc (.map #[] 0))
    simp only [World.size_alloc] at h
    exact h.grown (World.grownBy_alloc _ _ none) (by simp) (Nat.le_refl _)
theorem getD_snap {l : List Snap} {i : Nat} (h : i < l.length) : l.getD i (0, 0) = l[i] := by simp [h]
def outsAt (l : List Snap) (span spans : Int) (j : Nat) : List Int := outsTo l span spans (l.length - j)
theorem outsAt_step (l : List Snap) (span spans : Int) (m : Nat) (h : m < l.length) : outsAt l span spans m = if keepB l span spans m then l[m].1 :: outsAt l span spans (m + 1) else outsAt l span spans (m + 1) := by
  unfold outsAt
  have e : l.length - m = (l.length - (m + 1)) + 1 := by omega
  have e2 : l.length - (l.length - (m + 1) + 1) = m := by omega
  rw [e]
  simp only [outsTo, e2]
  simp [h]
theorem EndsAt.seenAs {P : Program} {kt : TypeId} {w0 w : World} {B : Nat} {last span spans : Int} {n : Nat} {outs seen seen' sps : List Int} (h : EndsAt P kt w0 w B last span spans n outs seen sps) (he : ∀ y, hasB seen y = hasB seen' y) : EndsAt P kt w0 w B last span spans n outs seen' sps :=
  { h with seen := h.seen.congr he }
theorem EndsAt.mono {P : Program} {kt : TypeId} {w0 w : World} {B : Nat} {last span spans : Int} {n n' : Nat} {outs seen sps : List Int} (h : EndsAt P kt w0 w B last span spans n outs seen sps) (hn : n ≤ n') : EndsAt P kt w0 w B last span spans n' outs seen sps :=
  { h with outs := h.outs.grown ⟨rfl, rfl, rfl, Nat.le_refl _, fun _ _ _ => rfl⟩ (by simp : _ ≠ none) hn, seen := h.seen.grown ⟨rfl, rfl, rfl, Nat.le_refl _, fun _ _ _ => rfl⟩ (by simp : _ ≠ none) hn, sps := h.sps.grown ⟨rfl, rfl, rfl, Nat.le_refl _, fun _ _ _ => rfl⟩ (by simp : _ ≠ none) hn }
theorem hasB_drop_seen {xs : List Int} {m : Nat} (h : m < xs.length) {x : Int} (hx : xs[m] = x) (hs : hasB (xs.drop (m + 1)) x = true) (y : Int) : hasB (xs.drop (m + 1)) y = hasB (xs.drop m) y := by
  rw [← hasB_drop_cons h hx, hasB_cons]
  by_cases e : y = x
  · subst e; simp [hs]
  · simp [e]
end Go.Proofs.Ytjjjonhjofllfaa
