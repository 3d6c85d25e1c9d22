/- Base notions of this seat's proofs, free of any program: slices in memory, read as lists; what stays as it was. Conditions: none. -/
import Derived.WalkKit
import Derived.WalkSpells
import Derived.WalkLawsBesides
import Derived.Lib.Hide
import Derived.Deep.QuietTactic
import Derived.BigQuiet
import Derived.Laws.AppendOwnNone
set_option linter.unusedVariables false
set_option linter.unusedSimpArgs false
set_option maxRecDepth 100000
namespace Go.Proofs.YtkhffndeomihhaaDoor
open Go.RowKit

theorem ret_eq {a b : Value} (h : a = b) : Ending.returned a = Ending.returned b := by rw [h]
theorem ret_bool {a b : Bool} (h : a = b) : Ending.returned (.bool a) = Ending.returned (.bool b) := by rw [h]
theorem ret_int {k : IntKind} {a b : Int} (h : a = b) : Ending.returned (.int k a) = Ending.returned (.int k b) := by rw [h]

theorem ret2 {a b c d : Value} (h1 : a = c) (h2 : b = d) : Ending.returned (.tuple #[a, b]) = Ending.returned (.tuple #[c, d]) := by rw [h1, h2]
theorem ret3 {a b c d e f : Value} (h1 : a = d) (h2 : b = e) (h3 : c = f) : Ending.returned (.tuple #[a, b, c]) = Ending.returned (.tuple #[d, e, f]) := by rw [h1, h2, h3]
theorem int_eq {k : IntKind} {a b : Int} (h : a = b) : Value.int k a = Value.int k b := by rw [h]
theorem bool_eq {a b : Bool} (h : a = b) : Value.bool a = Value.bool b := by rw [h]

/-- an int within the kind int -/
def I64 (x : Int) : Prop := -9223372036854775808 ≤ x ∧ x ≤ 9223372036854775807
theorem I64.wf {x : Int} (h : I64 x) : (Lit.int .i64 x).wf = true := WalkArith.wf_i64 h

/-- A slice value: xs.length elements of sz cells; element i's cells, from block b's cell off + i * sz on, hold what R says; b lies below B. -/
def Sl {α : Type} (R : World → Nat → Nat → α → Prop) (sz : Nat) (B : Nat) (w : World) (v : Value) (xs : List α) : Prop :=
  ∃ (a : Option Addr) (b off cap : Nat), v = .slice a xs.length cap ∧ xs.length ≤ cap ∧ cap ≤ maxLen ∧ (a = none → cap = 0) ∧ (0 < xs.length → a = some ⟨b, off, none⟩ ∧ b < B) ∧ ∀ i (h : i < xs.length), R w b (off + i * sz) xs[i]

/-- an int's cell -/
def RInt (w : World) (b o : Nat) (x : Int) : Prop := w.cell? ⟨b, o, none⟩ = some (.int .i64 x) ∧ I64 x
/-- a byte's cell -/
def RByte (w : World) (b o : Nat) (x : UInt8) : Prop := w.cell? ⟨b, o, none⟩ = some (.int .u8 x.toNat)
/-- two ints' cells -/
def RPair (w : World) (b o : Nat) (x : Int × Int) : Prop := RInt w b o x.1 ∧ RInt w b (o + 1) x.2

abbrev SlInt := Sl RInt 1
abbrev SlByte := Sl RByte 1
abbrev SlPair := Sl RPair 2

theorem Below.drewN {B : Nat} {W w : World} (h : Below B W w) (n : Nat) : Below B W (w.drewN n) := ⟨h.os, h.tape, h.output, h.size, h.block⟩
theorem Below.after {W w w' : World} {B : Nat} (hb : Below B W w) (h : Below w.heap.size w w') (hs : B ≤ w.heap.size) : Below B W w' := hb.trans (h.mono hs)

/-- A callee that leaves the world alone, met in a region behind n draws. -/
theorem quiet_sum {P : Program} {f : FuncId} {args : Array Value} {W : World} {n x : Nat} {v : Value}
    (h : Calls P f args (W.drewN (n + x)) fun e w' => e = .returned v ∧ w' = W.drewN (n + x)) : Calls P f args (W.drewN (n + x)) fun e w'' => e = .returned v ∧ ∃ m, w'' = W.drewN (n + m) :=
  h.mono fun _ _ ⟨he, hm⟩ => ⟨he, x, hm⟩
/-- .. one that draws. -/
theorem quiet_sum' {P : Program} {f : FuncId} {args : Array Value} {W : World} {n x : Nat} {v : Value}
    (h : Calls P f args (W.drewN (n + x)) fun e w' => e = .returned v ∧ ∃ m, w' = (W.drewN (n + x)).drewN m) : Calls P f args (W.drewN (n + x)) fun e w'' => e = .returned v ∧ ∃ m, w'' = W.drewN (n + m) :=
  h.mono fun _ _ ⟨he, m, hm⟩ => ⟨he, x + m, by rw [hm, World.drewN_drewN, Nat.add_assoc]⟩

theorem wrap_i64 {x : Int} (h : I64 x) : IntKind.i64.wrap x = x := by
  exact IntWalk.i64_in x h
theorem wrap_tdiv {x y : Int} (h0 : 0 ≤ x) (h1 : 1 ≤ y) (hx : x ≤ 9223372036854775807) : IntKind.i64.wrap (x.tdiv y) = x / y := by
  rw [Int.tdiv_eq_ediv_of_nonneg h0]
  have h2 := Int.ediv_nonneg h0 (show 0 ≤ y by omega)
  have h3 := Int.ediv_le_self y h0
  exact wrap_i64 ⟨by omega, by omega⟩

theorem cell_lt {w : World} {a : Addr} {v : Value} (h : w.cell? a = some v) : a.block < w.heap.size := by
  unfold World.cell? at h
  split at h
  · rename_i hh
    rcases Nat.lt_or_ge a.block w.heap.size with h1 | h1
    · exact h1
    · simp [Array.getElem?_eq_none h1] at hh
  · cases h

theorem RInt.below {B : Nat} {w w' : World} {b o : Nat} {x : Int} (h : RInt w b o x) (hb : b < B) (hw : Below B w w') : RInt w' b o x := ⟨(hw.cell (by exact hb)).trans h.1, h.2⟩
theorem RByte.below {B : Nat} {w w' : World} {b o : Nat} {x : UInt8} (h : RByte w b o x) (hb : b < B) (hw : Below B w w') : RByte w' b o x := (hw.cell (by exact hb)).trans h
theorem RPair.below {B : Nat} {w w' : World} {b o : Nat} {x : Int × Int} (h : RPair w b o x) (hb : b < B) (hw : Below B w w') : RPair w' b o x := ⟨h.1.below hb hw, h.2.below hb hw⟩

theorem Sl.below {α : Type} {R : World → Nat → Nat → α → Prop} {sz B B' : Nat} {w w' : World} {v : Value} {xs : List α} (h : Sl R sz B w v xs)
    (hR : ∀ b o x, b < B → R w b o x → R w' b o x) (hB : B ≤ B') : Sl R sz B' w' v xs := by
  obtain ⟨a, b, off, cap, h1, h2, h3, h6, h4, h5⟩ := h
  refine ⟨a, b, off, cap, h1, h2, h3, h6, fun h => ⟨(h4 h).1, Nat.lt_of_lt_of_le (h4 h).2 hB⟩, fun i hi => hR _ _ _ ?_ (h5 i hi)⟩
  exact (h4 (by omega)).2

theorem SlInt.below {B B' : Nat} {w w' : World} {v : Value} {xs : List Int} (h : SlInt B w v xs) (hw : Below B w w') (hB : B ≤ B') : SlInt B' w' v xs :=
  Sl.below h (fun _ _ _ hb hr => hr.below hb hw) hB
theorem SlByte.below {B B' : Nat} {w w' : World} {v : Value} {xs : List UInt8} (h : SlByte B w v xs) (hw : Below B w w') (hB : B ≤ B') : SlByte B' w' v xs :=
  Sl.below h (fun _ _ _ hb hr => hr.below hb hw) hB
theorem SlPair.below {B B' : Nat} {w w' : World} {v : Value} {xs : List (Int × Int)} (h : SlPair B w v xs) (hw : Below B w w') (hB : B ≤ B') : SlPair B' w' v xs :=
  Sl.below h (fun _ _ _ hb hr => hr.below hb hw) hB

theorem Sl.nil {α : Type} (R : World → Nat → Nat → α → Prop) (sz B : Nat) (w : World) : Sl R sz B w (.slice none 0 0) ([] : List α) :=
  ⟨none, 0, 0, 0, rfl, Nat.le_refl _, by unfold maxLen; omega, fun _ => rfl, fun h => absurd h (by simp), fun i h => absurd h (by simp)⟩

theorem flatMap_length {α β : Type} (f : α → List β) (sz : Nat) (hf : ∀ x, (f x).length = sz) (xs : List α) : (xs.flatMap f).length = xs.length * sz := by
  induction xs with
  | nil => simp
  | cons x r ih => simp [ih, hf, Nat.succ_mul, Nat.add_comm]

theorem flatMap_get {α β : Type} (f : α → List β) (sz : Nat) (hf : ∀ x, (f x).length = sz) : ∀ (xs : List α) (i j : Nat) (hi : i < xs.length), j < sz → (xs.flatMap f)[i * sz + j]? = (f xs[i])[j]? := by
  intro xs
  induction xs with
  | nil => intro i j hi; simp at hi
  | cons x r ih =>
    intro i j hi hj
    rw [List.flatMap_cons]
    cases i with
    | zero =>
      rw [Nat.zero_mul, Nat.zero_add, List.getElem?_append_left (by rw [hf]; exact hj)]
      rfl
    | succ i =>
      rw [List.getElem?_append_right (by rw [hf, Nat.succ_mul]; omega)]
      have e : (i + 1) * sz + j - (f x).length = i * sz + j := by rw [hf, Nat.succ_mul]; omega
      rw [e, ih i j (by simpa using hi) hj]
      rfl

/-- what a call owns is a slice in memory -/
theorem Sl.of_owns {α : Type} {R : World → Nat → Nat → α → Prop} (f : α → List Value) {sz : Nat} (hf : ∀ x, (f x).length = sz) {w : World} {base e n : Nat} {v : Value} {xs : List α} (h : w.ownsRow base e sz v n (xs.flatMap f)) (hn : n = xs.length)
    (hR : ∀ g i (hi : i < xs.length), (∀ j, j < sz → w.cell? ⟨g, i * sz + j, none⟩ = (f xs[i])[j]?) → R w g (0 + i * sz) xs[i]) : Sl R sz w.heap.size w v xs := by
  subst hn
  have hc := h
  rcases h with ⟨h1, h2⟩
  rcases h2 with ⟨rfl, h2⟩ | ⟨g, cap, cur, rfl, hg, hh, hcap, hm, hsz, hcur⟩
  · have : xs = [] := List.length_eq_zero_iff.1 h2
    subst this
    exact Sl.nil _ _ _ _
  · refine ⟨some ⟨g, 0, none⟩, g, 0, cap, rfl, hcap, hm, by simp, fun _ => ⟨rfl, ?_⟩, fun i hi => hR g i hi ?_⟩
    · rcases Nat.lt_or_ge g w.heap.size with h3 | h3
      · exact h3
      · simp [Array.getElem?_eq_none h3] at hh
    · intro j hj
      have hlt : i * sz + j < xs.length * sz := by
        have : (i + 1) * sz ≤ xs.length * sz := Nat.mul_le_mul_right _ hi
        rw [Nat.succ_mul] at this
        omega
      rw [hc.cellAt _ hlt, flatMap_get f sz hf xs i j hi hj]

/-- what is owned stays owned where nothing that was there has changed -/
theorem owns_below {w w' : World} {base e sz n : Nat} {v : Value} {xs : List Value} (h : w.ownsRow base e sz v n xs) (hb : Below w.heap.size w w') : w'.ownsRow base e sz v n xs := by
  obtain ⟨h1, h2⟩ := h
  refine ⟨h1, ?_⟩
  rcases h2 with h2 | ⟨g, cap, cur, hv, hg, hh, r⟩
  · exact Or.inl h2
  · refine Or.inr ⟨g, cap, cur, hv, hg, ?_, r⟩
    rw [hb.block g]
    · exact hh
    · rcases Nat.lt_or_ge g w.heap.size with h3 | h3
      · exact h3
      · simp [Array.getElem?_eq_none h3] at hh

def encInt (x : Int) : List Value := [.int .i64 x]
def encByte (x : UInt8) : List Value := [.int .u8 x.toNat]
def encPair (x : Int × Int) : List Value := [.int .i64 x.1, .int .i64 x.2]

theorem SlInt.of_owns {w : World} {base e n : Nat} {v : Value} {xs : List Int} (h : w.ownsRow base e 1 v n (xs.flatMap encInt)) (hn : n = xs.length) (hx : ∀ x ∈ xs, I64 x) : SlInt w.heap.size w v xs :=
  Sl.of_owns encInt (fun _ => rfl) h hn fun g i hi hc => by
    refine ⟨?_, hx _ (List.getElem_mem hi)⟩
    have := hc 0 Nat.one_pos
    rw [Nat.zero_add]
    exact this
theorem SlByte.of_owns {w : World} {base e n : Nat} {v : Value} {xs : List UInt8} (h : w.ownsRow base e 1 v n (xs.flatMap encByte)) (hn : n = xs.length) : SlByte w.heap.size w v xs :=
  Sl.of_owns encByte (fun _ => rfl) h hn fun g i hi hc => by
    have := hc 0 Nat.one_pos
    unfold RByte
    rw [Nat.zero_add]
    exact this
theorem SlPair.of_owns {w : World} {base e n : Nat} {v : Value} {xs : List (Int × Int)} (h : w.ownsRow base e 2 v n (xs.flatMap encPair)) (hn : n = xs.length) (hx : ∀ x ∈ xs, I64 x.1 ∧ I64 x.2) : SlPair w.heap.size w v xs :=
  Sl.of_owns encPair (fun _ => rfl) h hn fun g i hi hc => by
    have h0 := hc 0 (by omega)
    have h1 := hc 1 (by omega)
    rw [Nat.zero_add]
    exact ⟨⟨h0, (hx _ (List.getElem_mem hi)).1⟩, ⟨h1, (hx _ (List.getElem_mem hi)).2⟩⟩

/-- behind an append to what is owned from base on: below base all is as it was -/
theorem below_append {B base e sz n : Nat} {W w w' : World} {o : Obj} {v : Value} {xs : List Value} (h : Below B W w) (hown : w.ownsRow base e sz v n xs) (hg : (w.alloc o).grownBy w' v.ownBlock) (hB : B ≤ base) (hs : B ≤ w.heap.size) : Below B W w' :=
  (h.alloc hs o).grown hg (by simp; omega) fun k hk => Nat.le_trans hB (hown.lt k hk).1
/-- the cells of a block that has just been laid -/
theorem news_new (w : World) (cs : List Value) (t : TypeId) : ∀ j u, cs[j]? = some u → (w.alloc (.cells cs.toArray t)).cell? ((⟨w.heap.size, 0, none⟩ : Addr).add j) = some u := by
  intro j u hj
  have e : (⟨w.heap.size, 0, none⟩ : Addr).add j = ⟨w.heap.size, j, none⟩ := by
    unfold Addr.add
    split
    · subst_vars; rfl
    · simp
  rw [e]
  go_simp
theorem oneCell_ints (k : IntKind) (xs : List Int) : ∀ u ∈ xs.map (Value.int k), u.oneCell' = true := ints_oneCell k xs
theorem oneCell_int (k : IntKind) (x : Int) : ∀ u ∈ [Value.int k x], u.oneCell' = true := by intro u hu; simp at hu; subst hu; rfl

theorem flat_snoc {α β : Type} (f : α → List β) (xs : List α) (x : α) : (xs ++ [x]).flatMap f = xs.flatMap f ++ f x := by simp
/-- a slice over a block that has just been laid -/
theorem Sl.lit {α : Type} {R : World → Nat → Nat → α → Prop} {sz : Nat} (w : World) (cs : Array Value) (t : TypeId) (xs : List α) (hm : xs.length ≤ maxLen) (hR : ∀ i (h : i < xs.length), R (w.alloc (.cells cs t)) w.heap.size (0 + i * sz) xs[i]) :
    Sl R sz (w.alloc (.cells cs t)).heap.size (w.alloc (.cells cs t)) (.slice (some ⟨w.heap.size, 0, none⟩) xs.length xs.length) xs :=
  ⟨_, w.heap.size, 0, xs.length, rfl, Nat.le_refl _, hm, by simp, fun _ => ⟨rfl, by simp⟩, hR⟩
theorem cell_new (w : World) (cs : Array Value) (t : TypeId) (j : Nat) : (w.alloc (.cells cs t)).cell? ⟨w.heap.size, j, none⟩ = cs[j]? := by go_simp
theorem SlInt.lit (w : World) (xs : List Int) (t : TypeId) (hm : xs.length ≤ maxLen) (hx : ∀ x ∈ xs, I64 x) :
    SlInt (w.alloc (.cells (xs.map (Value.int .i64)).toArray t)).heap.size (w.alloc (.cells (xs.map (Value.int .i64)).toArray t)) (.slice (some ⟨w.heap.size, 0, none⟩) xs.length xs.length) xs :=
  Sl.lit w _ t xs hm fun i h => ⟨by rw [cell_new]; simp [h], hx _ (List.getElem_mem h)⟩
/-- the length of a slice's list fits -/
theorem Sl.len {α : Type} {R : World → Nat → Nat → α → Prop} {sz B : Nat} {w : World} {v : Value} {xs : List α} (h : Sl R sz B w v xs) : ∃ a cap, v = .slice a xs.length cap ∧ xs.length ≤ 9223372036854775807 := by
  obtain ⟨a, b, off, cap, h1, h2, h3, _, _, _⟩ := h
  unfold maxLen at h3
  exact ⟨a, cap, h1, by omega⟩

/-- 'append(s, x...)', s the call's own, x any slice that lies in memory (nil, too): at the operation. -/
theorem wpList_append_slice {P : Program} {w : World} {ops : Array Oper} {rest : List Oper} {o : Oper} {a : Act} {Q : Exit → Act → World → Prop} (hgd : o.guard = none) (s x : Operand) (t : TypeId)
    (ho : o.op = .call { callee := .builtin .append, args := #[s, x], argTypes := #[t, t] })
    (base : Nat) (e : TypeId) (i : TypeInfo) (z : Value) (size bytes : Nat) (ht : P.underlying t = some (.slice e)) (hi : P.info? e = some i) (hz : i.zero = some z)
    (hsize : i.size = size) (hby : i.bytes = bytes) (hzs : z.cells.size = size) (hsz : 0 < size)
    (v : Value) (n : Nat) (xs : List Value) (hs : a.eval s = v) (hown : w.ownsRow base e size v n xs)
    {α : Type} {R : World → Nat → Nat → α → Prop} {B : Nat} (f : α → List Value) (ys : List α) (u : Value) (hx : a.eval x = u) (hsl : Sl R size B w u ys) (hf : ∀ y, (f y).length = size) (hfR : ∀ b o y, R w b o y → ∀ j (h : j < (f y).length), w.cell? ⟨b, o + j, none⟩ = some (f y)[j])
    (h1 : ∀ u ∈ ys.flatMap f, u.oneCell' = true) (h63 : n + ys.length ≤ maxLen) (hbytes : (n + ys.length) * bytes ≤ 140737488355328) (hbase : base ≤ w.heap.size)
    (h : ∀ v' w', w'.ownsRow base e size v' (n + ys.length) (xs ++ ys.flatMap f) → w.grownBy w' v.ownBlock → wpList P ops Q rest (a.put o.dst v') w') : wpList P ops Q (o :: rest) a w := by
  obtain ⟨ao, b, off, cap, rfl, hcap, hm, hn, ha, hc⟩ := hsl
  cases ao with
  | none =>
    have hc0 := hn rfl
    have h0 : ys.length = 0 := by omega
    have hy : ys = [] := List.length_eq_zero_iff.1 h0
    subst hy; subst hc0
    refine wpList_append_own_none hgd s x t ho base e i size ht hi v n xs hs hown (by simpa using hx) ?_
    exact h v w (by simpa using hown) (World.grownBy.refl _ _)
  | some ad =>
    refine wpList_append_own w hgd s x t ho base e i z size bytes ht hi hz hsize hby hzs hsz v n xs hs hown ad ys.length cap (ys.flatMap f) hx (flatMap_length f size hf ys) ?_ h1 h63 hbytes hbase fun v' w' k1 k2 _ => h v' w' k1 k2
    intro j u hj
    have hjl : j < (ys.flatMap f).length := by
      rcases Nat.lt_or_ge j (ys.flatMap f).length with h | h
      · exact h
      · rw [List.getElem?_eq_none h] at hj; cases hj
    rw [flatMap_length f size hf] at hjl
    have hpos : 0 < ys.length := by
      rcases Nat.eq_zero_or_pos ys.length with h | h
      · rw [h] at hjl; simp at hjl
      · exact h
    have had : ad = ⟨b, off, none⟩ := Option.some.inj (ha hpos).1
    subst had
    have hdiv : j / size < ys.length := Nat.div_lt_of_lt_mul (by rw [Nat.mul_comm]; exact hjl)
    have hmod : j % size < size := Nat.mod_lt _ hsz
    have hsplit : j / size * size + j % size = j := by rw [Nat.mul_comm]; exact Nat.div_add_mod j size
    have e1 := flatMap_get f size hf ys (j / size) (j % size) hdiv hmod
    rw [hsplit, hj] at e1
    have hlt : j % size < (f ys[j / size]).length := by rw [hf]; exact hmod
    have e2 := hfR _ _ _ (hc (j / size) hdiv) (j % size) hlt
    rw [List.getElem?_eq_getElem hlt] at e1
    have e3 := Option.some.inj e1
    have e4 : (⟨b, off, none⟩ : Addr).add j = ⟨b, off + j, none⟩ := by
      unfold Addr.add
      split
      · subst_vars; rfl
      · rfl
    rw [e4, e3, ← e2, Nat.add_assoc, hsplit]

theorem RInt.enc {w : World} {b o : Nat} {y : Int} (h : RInt w b o y) : ∀ j (hj : j < (encInt y).length), w.cell? ⟨b, o + j, none⟩ = some (encInt y)[j] := by
  intro j hj
  have : j = 0 := by simp [encInt] at hj; omega
  subst this
  exact h.1
theorem RByte.enc {w : World} {b o : Nat} {y : UInt8} (h : RByte w b o y) : ∀ j (hj : j < (encByte y).length), w.cell? ⟨b, o + j, none⟩ = some (encByte y)[j] := by
  intro j hj
  have : j = 0 := by simp [encByte] at hj; omega
  subst this
  exact h
theorem RPair.enc {w : World} {b o : Nat} {y : Int × Int} (h : RPair w b o y) : ∀ j (hj : j < (encPair y).length), w.cell? ⟨b, o + j, none⟩ = some (encPair y)[j] := by
  intro j hj
  have : j = 0 ∨ j = 1 := by simp [encPair] at hj; omega
  rcases this with rfl | rfl
  · exact h.1.1
  · exact h.2.1
theorem oneCell_flat {α : Type} (f : α → List Value) (h : ∀ y, ∀ u ∈ f y, u.oneCell' = true) (ys : List α) : ∀ u ∈ ys.flatMap f, u.oneCell' = true := by
  intro u hu
  obtain ⟨y, _, h2⟩ := List.mem_flatMap.1 hu
  exact h y u h2
theorem encInt_one (y : Int) : ∀ u ∈ encInt y, u.oneCell' = true := by intro u hu; simp [encInt] at hu; subst hu; rfl
theorem encByte_one (y : UInt8) : ∀ u ∈ encByte y, u.oneCell' = true := by intro u hu; simp [encByte] at hu; subst hu; rfl
theorem encPair_one (y : Int × Int) : ∀ u ∈ encPair y, u.oneCell' = true := by intro u hu; simp [encPair] at hu; rcases hu with rfl | rfl <;> rfl
end Go.Proofs.YtkhffndeomihhaaDoor
