/- Merged of Base, Chg, W1, W2, W3, W4, W5, W6, W7, W8, W9, WA, WB, WC, WT, WU. Conditions: none. -/
import Derived.WalkKit
import Derived.WalkSpells
import Derived.WalkLawsBesides
import Derived.Lib.Hide
import Derived.Deep.QuietTactic
import Derived.BigQuiet
import Derived.Laws.AppendOwnNone
import Derived.Deep.OwnRows
import Derived.Laws.Rows
import Derived.Laws.Tables
import Derived.Laws.CopyOwn
import Derived.Laws.MakeOwn
import Derived.Laws.OwnMore
import Derived.OrdersHeld
import Derived.Laws.BytesArg
import Derived.Laws.IdiomStrings
import Derived.Deep.MidRow
import Derived.Great.BuildSlice
import Derived.Recover
import Derived.Laws.StructEq
import Derived.ChangeKeysEq
import Derived.Scope
set_option linter.unusedVariables false
set_option linter.unusedSimpArgs false
namespace Go.Proofs.YtcgacpmippdkeaaGreat
open Go.RowKit
set_option maxRecDepth 100000
theorem ret_int {k : IntKind} {a b : Int} (h : a = b) : Ending.returned (.int k a) = Ending.returned (.int k b) := by rw [h]
theorem int_eq {k : IntKind} {a b : Int} (h : a = b) : Value.int k a = Value.int k b := by rw [h]
def I64 (x : Int) : Prop := -9223372036854775808 ≤ x ∧ x ≤ 9223372036854775807
def Sl {α : Type} (R : World → Nat → Nat → α → Prop) (sz : Nat) (B : Nat) (w : World) (v : Value) (xs : List α) : Prop :=
 ∃ (a : Option Addr) (b off cap : Nat), v = .slice a xs.length cap ∧ xs.length ≤ cap ∧ cap ≤ maxLen ∧ (a = none → cap = 0) ∧ (0 < xs.length → a = some ⟨b, off, none⟩ ∧ b < B) ∧ ∀ i (h : i < xs.length), R w b (off + i * sz) xs[i]
def RByte (w : World) (b o : Nat) (x : UInt8) : Prop := w.cell? ⟨b, o, none⟩ = some (.int .u8 x.toNat)
abbrev SlByte := Sl RByte 1
theorem Below.drewN {B : Nat} {W w : World} (h : Below B W w) (n : Nat) : Below B W (w.drewN n) := ⟨h.os, h.tape, h.output, h.size, h.block⟩
theorem Below.after {W w w' : World} {B : Nat} (hb : Below B W w) (h : Below w.heap.size w w') (hs : B ≤ w.heap.size) : Below B W w' := hb.trans (h.mono hs)
theorem wrap_i64 {x : Int} (h : I64 x) : IntKind.i64.wrap x = x := by
 exact IntWalk.i64_in x h
theorem wrap_tdiv {x y : Int} (h0 : 0 ≤ x) (h1 : 1 ≤ y) (hx : x ≤ 9223372036854775807) : IntKind.i64.wrap (x.tdiv y) = x / y := by
 rw [Int.tdiv_eq_ediv_of_nonneg h0]
 have h2 := Int.ediv_nonneg h0 (show 0 ≤ y by omega)
 have h3 := Int.ediv_le_self y h0
 exact wrap_i64 ⟨by omega, by omega⟩
theorem cell_lt {w : World} {a : Addr} {v : Value} (h : w.cell? a = some v) : a.block < w.heap.size := by
 unfold World.cell? at h
 split at h
 ·rename_i hh
  rcases Nat.lt_or_ge a.block w.heap.size with h1 | h1
  ·exact h1
  ·simp [Array.getElem?_eq_none h1] at hh
 ·cases h
theorem RByte.below {B : Nat} {w w' : World} {b o : Nat} {x : UInt8} (h : RByte w b o x) (hb : b < B) (hw : Below B w w') : RByte w' b o x := (hw.cell (by exact hb)).trans h
theorem Sl.below {α : Type} {R : World → Nat → Nat → α → Prop} {sz B B' : Nat} {w w' : World} {v : Value} {xs : List α} (h : Sl R sz B w v xs)
 (hR : ∀ b o x, b < B → R w b o x → R w' b o x) (hB : B ≤ B') : Sl R sz B' w' v xs := by
 obtain ⟨a, b, off, cap, h1, h2, h3, h6, h4, h5⟩ := h
 refine ⟨a, b, off, cap, h1, h2, h3, h6, fun h => ⟨(h4 h).1, Nat.lt_of_lt_of_le (h4 h).2 hB⟩, fun i hi => hR _ _ _ ?_ (h5 i hi)⟩
 exact (h4 (by omega)).2
theorem SlByte.below {B B' : Nat} {w w' : World} {v : Value} {xs : List UInt8} (h : SlByte B w v xs) (hw : Below B w w') (hB : B ≤ B') : SlByte B' w' v xs :=
 Sl.below h (fun _ _ _ hb hr => hr.below hb hw) hB
theorem Sl.nil {α : Type} (R : World → Nat → Nat → α → Prop) (sz B : Nat) (w : World) : Sl R sz B w (.slice none 0 0) ([] : List α) :=
 ⟨none, 0, 0, 0, rfl, Nat.le_refl _, by unfold maxLen; omega, fun _ => rfl, fun h => absurd h (by simp), fun i h => absurd h (by simp)⟩
theorem flatMap_length {α β : Type} (f : α → List β) (sz : Nat) (hf : ∀ x, (f x).length = sz) (xs : List α) : (xs.flatMap f).length = xs.length * sz := by
 induction xs with
 | nil => simp
 | cons x r ih => simp [ih, hf, Nat.succ_mul, Nat.add_comm]
theorem flatMap_get {α β : Type} (f : α → List β) (sz : Nat) (hf : ∀ x, (f x).length = sz) : ∀ (xs : List α) (i j : Nat) (hi : i < xs.length), j < sz → (xs.flatMap f)[i * sz + j]? = (f xs[i])[j]? := by
 intro xs
 induction xs with
 | nil => intro i j hi; simp at hi
 | cons x r ih =>
  intro i j hi hj
  rw [List.flatMap_cons]
  cases i with
  | zero =>
   rw [Nat.zero_mul, Nat.zero_add, List.getElem?_append_left (by rw [hf]; exact hj)]
   rfl
  | succ i =>
   rw [List.getElem?_append_right (by rw [hf, Nat.succ_mul]; omega)]
   have e : (i + 1) * sz + j - (f x).length = i * sz + j := by rw [hf, Nat.succ_mul]; omega
   rw [e, ih i j (by simpa using hi) hj]
   rfl
theorem Sl.of_owns {α : Type} {R : World → Nat → Nat → α → Prop} (f : α → List Value) {sz : Nat} (hf : ∀ x, (f x).length = sz) {w : World} {base e n : Nat} {v : Value} {xs : List α} (h : w.ownsRow base e sz v n (xs.flatMap f)) (hn : n = xs.length)
 (hR : ∀ g i (hi : i < xs.length), (∀ j, j < sz → w.cell? ⟨g, i * sz + j, none⟩ = (f xs[i])[j]?) → R w g (0 + i * sz) xs[i]) : Sl R sz w.heap.size w v xs := by
 subst hn
 have hc := h
 rcases h with ⟨h1, h2⟩
 rcases h2 with ⟨rfl, h2⟩ | ⟨g, cap, cur, rfl, hg, hh, hcap, hm, hsz, hcur⟩
 ·have : xs = [] := List.length_eq_zero_iff.1 h2
  subst this
  exact Sl.nil _ _ _ _
 ·refine ⟨some ⟨g, 0, none⟩, g, 0, cap, rfl, hcap, hm, by simp, fun _ => ⟨rfl, ?_⟩, fun i hi => hR g i hi ?_⟩
  ·rcases Nat.lt_or_ge g w.heap.size with h3 | h3
   ·exact h3
   ·simp [Array.getElem?_eq_none h3] at hh
  ·intro j hj
   have hlt : i * sz + j < xs.length * sz := by
    have : (i + 1) * sz ≤ xs.length * sz := Nat.mul_le_mul_right _ hi
    rw [Nat.succ_mul] at this
    omega
   rw [hc.cellAt _ hlt, flatMap_get f sz hf xs i j hi hj]
def encByte (x : UInt8) : List Value := [.int .u8 x.toNat]
theorem SlByte.of_owns {w : World} {base e n : Nat} {v : Value} {xs : List UInt8} (h : w.ownsRow base e 1 v n (xs.flatMap encByte)) (hn : n = xs.length) : SlByte w.heap.size w v xs :=
 Sl.of_owns encByte (fun _ => rfl) h hn fun g i hi hc => by
  have := hc 0 Nat.one_pos
  unfold RByte
  rw [Nat.zero_add]
  exact this
theorem below_append {B base e sz n : Nat} {W w w' : World} {o : Obj} {v : Value} {xs : List Value} (h : Below B W w) (hown : w.ownsRow base e sz v n xs) (hg : (w.alloc o).grownBy w' v.ownBlock) (hB : B ≤ base) (hs : B ≤ w.heap.size) : Below B W w' :=
 (h.alloc hs o).grown hg (by simp; omega) fun k hk => Nat.le_trans hB (hown.lt k hk).1
theorem news_new (w : World) (cs : List Value) (t : TypeId) : ∀ j u, cs[j]? = some u → (w.alloc (.cells cs.toArray t)).cell? ((⟨w.heap.size, 0, none⟩ : Addr).add j) = some u := by
 intro j u hj
 have e : (⟨w.heap.size, 0, none⟩ : Addr).add j = ⟨w.heap.size, j, none⟩ := by
  unfold Addr.add
  split
  ·subst_vars; rfl
  ·simp
 rw [e]
 go_simp
theorem oneCell_ints (k : IntKind) (xs : List Int) : ∀ u ∈ xs.map (Value.int k), u.oneCell' = true := ints_oneCell k xs
theorem oneCell_int (k : IntKind) (x : Int) : ∀ u ∈ [Value.int k x], u.oneCell' = true := by intro u hu; simp at hu; subst hu; rfl
theorem flat_snoc {α β : Type} (f : α → List β) (xs : List α) (x : α) : (xs ++ [x]).flatMap f = xs.flatMap f ++ f x := by simp
theorem oneCell_flat {α : Type} (f : α → List Value) (h : ∀ y, ∀ u ∈ f y, u.oneCell' = true) (ys : List α) : ∀ u ∈ ys.flatMap f, u.oneCell' = true := by
 intro u hu
 obtain ⟨y, _, h2⟩ := List.mem_flatMap.1 hu
 exact h y u h2
theorem encByte_one (y : UInt8) : ∀ u ∈ encByte y, u.oneCell' = true := by intro u hu; simp [encByte] at hu; subst hu; rfl
end Go.Proofs.YtcgacpmippdkeaaGreat
set_option maxRecDepth 100000
namespace Go.Proofs.YtcgacpmippdkeaaGreat
open Go.RowKit
structure Chg (S : Nat → Prop) (w w' : World) : Prop where
 os : w'.os = w.os
 tape : w'.tape = w.tape
 output : w'.output = w.output
 size : w.heap.size ≤ w'.heap.size
 block : ∀ k, k < w.heap.size → ¬ S k → w'.heap[k]? = w.heap[k]?
namespace Chg
variable {S T : Nat → Prop} {a b c w w' : World}
theorem refl (S : Nat → Prop) (w : World) : Chg S w w := ⟨rfl, rfl, rfl, Nat.le_refl _, fun _ _ _ => rfl⟩
theorem trans' (h : Chg S a b) (k : Chg T b c) (hT : ∀ x, x < a.heap.size → T x → S x) : Chg S a c :=
 ⟨k.os.trans h.os, k.tape.trans h.tape, k.output.trans h.output, Nat.le_trans h.size k.size,
  fun i hi hS => (k.block i (Nat.lt_of_lt_of_le hi h.size) fun t => hS (hT i hi t)).trans (h.block i hi hS)⟩
theorem trans (h : Chg S a b) (k : Chg S b c) : Chg S a c := h.trans' k fun _ _ h => h
theorem mono (h : Chg S a b) (hS : ∀ x, S x → T x) : Chg T a b := ⟨h.os, h.tape, h.output, h.size, fun k hk hT => h.block k hk fun s => hT (hS k s)⟩
theorem of_below {B : Nat} (h : Below B w w') (hB : ∀ k, k < w.heap.size → ¬ S k → k < B) : Chg S w w' :=
 ⟨h.os, h.tape, h.output, h.size, fun k hk hS => h.block k (hB k hk hS)⟩
theorem below {B : Nat} (h : Chg S w w') (hS : ∀ k, k < B → ¬ S k) (hB : B ≤ w.heap.size) : Below B w w' :=
 ⟨h.os, h.tape, h.output, h.size, fun k hk => h.block k (Nat.lt_of_lt_of_le hk hB) (hS k hk)⟩
theorem after (h : Chg S a b) (k : Below b.heap.size b c) : Chg S a c := h.trans' (of_below k fun x hx _ => hx) fun x _ t => t
theorem drew (h : Chg S w w') : Chg S w w'.drew := ⟨h.os, h.tape, h.output, h.size, h.block⟩
theorem alloc (h : Chg S w w') (o : Obj) : Chg S w (w'.alloc o) :=
 h.after (((Below.refl _ _).alloc (Nat.le_refl _) _))
theorem setCell (h : Chg S w w') {p : Addr} (hp : S p.block) (v : Value) : Chg S w (w'.setCell p v) :=
 ⟨h.os, h.tape, h.output, by simpa [World.setCell] using h.size, fun k hk hS => (heap_setCell_other w' p k v (fun e => hS (e ▸ hp))).trans (h.block k hk hS)⟩
theorem setRow (h : Chg S w w') {g : Nat} (hp : S g) (cs : Array Value) : Chg S w (w'.setRow g cs) :=
 ⟨h.os, h.tape, h.output, by simpa using h.size, fun k hk hS => (setRow_other w' g k cs (fun e => hS (e ▸ hp))).trans (h.block k hk hS)⟩
theorem cell (h : Chg S w w') {p : Addr} {v : Value} (hc : w.cell? p = some v) (hS : ¬ S p.block) : w'.cell? p = some v :=
 (World.cell?_of_block (h.block _ (cell_lt hc) hS)).trans hc
theorem row (h : Chg S w w') {g n : Nat} {T : TypeId} {f : Nat → Value} (hr : w.rowIs g T n f) (hS : ¬ S g) : w'.rowIs g T n f := hr.of_block (h.block g hr.lt hS)
end Chg
def SlP {α : Type} (R : World → Nat → Nat → α → Prop) (sz : Nat) (P : Nat → Prop) (w : World) (v : Value) (xs : List α) : Prop :=
 ∃ (a : Option Addr) (b off cap : Nat), v = .slice a xs.length cap ∧ xs.length ≤ cap ∧ cap ≤ maxLen ∧ (a = none → cap = 0) ∧ (0 < xs.length → a = some ⟨b, off, none⟩ ∧ P b) ∧ ∀ i (h : i < xs.length), R w b (off + i * sz) xs[i]
theorem SlP.of {α : Type} {R : World → Nat → Nat → α → Prop} {sz B : Nat} {P : Nat → Prop} {w : World} {v : Value} {xs : List α} (h : Sl R sz B w v xs) (hP : ∀ b, b < B → P b) : SlP R sz P w v xs := by
 obtain ⟨a, b, off, cap, h1, h2, h3, h4, h5, h6⟩ := h
 exact ⟨a, b, off, cap, h1, h2, h3, h4, fun h => ⟨(h5 h).1, hP _ (h5 h).2⟩, h6⟩
theorem SlP.imp {α : Type} {R : World → Nat → Nat → α → Prop} {sz : Nat} {P Q : Nat → Prop} {w : World} {v : Value} {xs : List α} (h : SlP R sz P w v xs) (hP : ∀ b, P b → Q b) : SlP R sz Q w v xs := by
 obtain ⟨a, b, off, cap, h1, h2, h3, h4, h5, h6⟩ := h
 exact ⟨a, b, off, cap, h1, h2, h3, h4, fun h => ⟨(h5 h).1, hP _ (h5 h).2⟩, h6⟩
theorem SlP.chg {α : Type} {R : World → Nat → Nat → α → Prop} {sz : Nat} {P S : Nat → Prop} {w w' : World} {v : Value} {xs : List α} (h : SlP R sz P w v xs)
 (hR : ∀ b o x, P b → R w b o x → R w' b o x) : SlP R sz P w' v xs := by
 obtain ⟨a, b, off, cap, h1, h2, h3, h4, h5, h6⟩ := h
 exact ⟨a, b, off, cap, h1, h2, h3, h4, h5, fun i hi => hR _ _ _ (h5 (by omega)).2 (h6 i hi)⟩
theorem SlP.bytes {P S : Nat → Prop} {w w' : World} {v : Value} {xs : List UInt8} (h : SlP RByte 1 P w v xs) (hc : Chg S w w') (hS : ∀ b, P b → ¬ S b) : SlP RByte 1 P w' v xs :=
 h.chg (S := S) fun b o x hP hr => hc.cell hr (hS b hP)
def lenOf : Value → Nat
 | .slice _ n _ => n
 | _ => 0
def rowArr (n : Nat) (f : Nat → Value) : Array Value := ((List.range n).map f).toArray
theorem rowIs_heap {w : World} {g n : Nat} {T : TypeId} {f : Nat → Value} (h : w.rowIs g T n f) : w.heap[g]? = some (.cells (rowArr n f) T (0, 0)) := by
 obtain ⟨c, hc, hn, hh⟩ := h
 have : c = rowArr n f := by
  apply Array.ext_getElem?
  intro i
  rcases Nat.lt_or_ge i n with h1 | h1
  ·rw [hh i h1]; simp [rowArr, h1]
  ·rw [Array.getElem?_eq_none (by omega), Array.getElem?_eq_none (by simp [rowArr]; omega)]
 rw [hc, this]
theorem rowIs_setRow {w : World} {g n : Nat} {T : TypeId} {f : Nat → Value} (h : w.rowIs g T n f) (cs : Array Value) (f' : Nat → Value) (hn : cs.size = n) (hf : ∀ i, i < n → cs[i]? = some (f' i)) : (w.setRow g cs).rowIs g T n f' :=
 ⟨cs, setRow_heap _ _ _ _ _ (0, 0) (rowIs_heap h), hn, hf⟩
theorem splice_get {α : Type} (L cs : List α) (off i : Nat) (h : off + cs.length ≤ L.length) : (L.take off ++ (cs ++ L.drop (off + cs.length)))[i]? = if off ≤ i ∧ i < off + cs.length then cs[i - off]? else L[i]? := by
 rcases Nat.lt_or_ge i off with h1 | h1
 ·rw [List.getElem?_append_left (by simp; omega), if_neg (by omega), List.getElem?_take_of_lt h1]
 ·rw [List.getElem?_append_right (by simp; omega)]
  have e : i - (L.take off).length = i - off := by simp; omega
  rw [e]
  rcases Nat.lt_or_ge i (off + cs.length) with h2 | h2
  ·rw [List.getElem?_append_left (by omega), if_pos ⟨h1, h2⟩]
  ·rw [List.getElem?_append_right (by omega), if_neg (by omega), List.getElem?_drop]
   congr 1
   omega
def subV (sz : Nat) (a : Option Addr) (l h m : Nat) : Value := .slice (if m = l then a else a.map (·.add (l * sz))) (h - l) (m - l)
section
variable {P : Program} {T E sz : Nat}
theorem run_sub_lo (hu : P.underlying T = some (.slice E)) (hz : ∀ w, (sizeOf E).run P w = .ok sz w) (a : Option Addr) (len cap l : Nat) (k : IntKind) (h1 : l ≤ len) (w : World) :
 (Instr.slice T (.slice a len cap) (some (.int k (l : Int))) none none).run P w = .ok (subV sz a l len cap) w := by
 have h2 : (l : Int) ≤ len := by omega
 simp [Instr.slice, Instr.sliceBounds, Instr.sliceBound, go_sem, run_underlying hu, hz, h1, subV]
 try omega
theorem run_sub_hi (hu : P.underlying T = some (.slice E)) (hz : ∀ w, (sizeOf E).run P w = .ok sz w) (a : Option Addr) (len cap h : Nat) (k : IntKind) (h1 : h ≤ cap) (w : World) :
 (Instr.slice T (.slice a len cap) none (some (.int k (h : Int))) none).run P w = .ok (subV sz a 0 h cap) w := by
 have h2 : (h : Int) ≤ cap := by omega
 simp [Instr.slice, Instr.sliceBounds, Instr.sliceBound, go_sem, run_underlying hu, hz, h1, subV]
 try omega
theorem run_sub (hu : P.underlying T = some (.slice E)) (hz : ∀ w, (sizeOf E).run P w = .ok sz w) (a : Option Addr) (len cap l h : Nat) (k k' : IntKind) (h1 : l ≤ h) (h2 : h ≤ cap) (w : World) :
 (Instr.slice T (.slice a len cap) (some (.int k (l : Int))) (some (.int k' (h : Int))) none).run P w = .ok (subV sz a l h cap) w := by
 have h3 : (h : Int) ≤ cap := by omega
 have h4 : (l : Int) ≤ h := by omega
 simp [Instr.slice, Instr.sliceBounds, Instr.sliceBound, go_sem, run_underlying hu, hz, h1, h2, subV]
end
theorem SlP.sub {α : Type} {R : World → Nat → Nat → α → Prop} {sz : Nat} {P : Nat → Prop} {w : World} {a : Option Addr} {len cap l h : Nat} {xs : List α} (hs : SlP R sz P w (.slice a len cap) xs) (h1 : l ≤ h) (h2 : h ≤ xs.length) :
 SlP R sz P w (subV sz a l h cap) ((xs.take h).drop l) := by
 obtain ⟨a', b, off, cap', he, h3, h4, h5, h6, h7⟩ := hs
 injection he with e1 e2 e3
 subst e1 e2 e3
 have hl : ((xs.take h).drop l).length = h - l := by simp; omega
 by_cases hc : cap = l
 ·have hlen : h - l = 0 := by omega
  refine ⟨a, b, off + l * sz, cap - l, ?_, by omega, by omega, fun _ => by omega, fun hp => by omega, fun i hi => by omega⟩
  unfold subV
  rw [if_pos hc, hl]
 ·refine ⟨a.map (·.add (l * sz)), b, off + l * sz, cap - l, ?_, by omega, by omega, ?_, ?_, ?_⟩
  ·unfold subV
   rw [if_neg hc, hl]
  ·intro hn
   have := h5 (by cases a <;> simp at hn ⊢)
   omega
  ·intro hp
   obtain ⟨rfl, hP⟩ := h6 (by omega)
   exact ⟨by simp [Addr.add], hP⟩
  ·intro i hi
   have := h7 (l + i) (by omega)
   rw [Nat.add_mul, ← Nat.add_assoc] at this
   simpa using this
theorem wpList_copy_at {P : Program} {w : World} {ops : Array Oper} {rest : List Oper} {o : Oper} {a : Act} {Q : Exit → Act → World → Prop} (hgd : o.guard = none) (d s : Operand) (dT sT : TypeId)
 (ho : o.op = .call { callee := .builtin .copy, args := #[d, s], argTypes := #[dT, sT] }) (elem : TypeId) (hu : P.underlying dT = some (.slice elem)) (hsz : (P.info? elem).map (·.size) = some 1)
 (g off dLen dCap : Nat) (ad : Addr) (sLen sCap : Nat) (hd : a.eval d = .slice (some ⟨g, off, none⟩) dLen dCap) (hs : a.eval s = .slice (some ad) sLen sCap)
 (cur : Array Value) (t : TypeId) (hg : w.heap[g]? = some (.cells cur t (0, 0))) (cs : List Value) (k : Nat) (hk : cs.length = k) (hn : k = Nat.min sLen dLen)
 (hsrc : ∀ j v, cs[j]? = some v → w.cell? (ad.add j) = some v) (hfit : off + k ≤ cur.size) (h1 : ∀ v ∈ cs, v.oneCell' = true)
 (h : ∀ w', Hid (w' = w.setRow g (cur.toList.take off ++ (cs ++ cur.toList.drop (off + cs.length))).toArray) → wpList P ops Q rest (a.put o.dst (.int .i64 (k : Int))) w') : wpList P ops Q (o :: rest) a w := by
 subst hk
 exact wpList_copy_own hgd d s dT sT ho elem hu hsz g off dLen dCap ad sLen sCap hd hs cur t hg cs hn hsrc hfit h1 (h _ (Lib.hid rfl))
theorem wpList_make_at {P : Program} {w : World} {ops : Array Oper} {rest : List Oper} {o : Oper} {a : Act} {Q : Exit → Act → World → Prop} (hgd : o.guard = none) (x y : Operand) (t : TypeId) (hop : o.op = Op.makeSlice t x y)
 (e : TypeId) (i : TypeInfo) (z : Value) (ht : P.underlying t = some (.slice e)) (hi : P.info? e = some i) (hz : i.zero = some z) (hsize : i.size = 1) (hz1 : z.cells = #[z])
 (kl kc : IntKind) (l c : Nat) (hl : a.eval x = .int kl (l : Int)) (hc : a.eval y = .int kc (c : Int)) (hlc : l ≤ c) (hbytes : i.bytes * c ≤ 281474976710656) (h63 : c ≤ 9223372036854775807)
 (h : ∀ w', Hid (w' = w.alloc (.cells (madeCells #[z] c) e)) → wpList P ops Q rest (a.put o.dst (.slice (some ⟨w.heap.size, 0, none⟩) l c)) w') : wpList P ops Q (o :: rest) a w := by
 refine wpList_plain hgd fun K hK => ?_
 have hb' : (i.bytes : Int) * (c : Int) ≤ 281474976710656 := by
  have h : ((i.bytes * c : Nat) : Int) ≤ 281474976710656 := by omega
  rwa [Int.natCast_mul] at h
 have hr := run_make (P := P) w t e i z ht hi hz kl kc l c (by omega) (by omega) hb' (by omega)
 simp only [Int.toNat_natCast, hsize, Nat.mul_one, hz1] at hr
 unfold Oper.wp
 simp [execOp, hop, hl, hc, hr, Result.andThen]
 exact hK _ _ (h _ (Lib.hid rfl))
theorem owns_made {w : World} {e l c base : Nat} {z : Value} (hlc : l ≤ c) (hc : c ≤ maxLen) (hb : base ≤ w.heap.size) :
 (w.alloc (.cells (madeCells #[z] c) e)).ownsRow base e 1 (.slice (some ⟨w.heap.size, 0, none⟩) l c) l (List.replicate l z) := by
 refine ⟨by simp, .inr ⟨w.heap.size, c, madeCells #[z] c, rfl, hb, heap_alloc_new _ _, hlc, hc, by simp [size_madeCells], ?_⟩⟩
 apply List.ext_getElem?
 intro i
 rw [List.getElem?_take]
 by_cases hi : i < l
 ·rw [if_pos (by omega)]
  have : (madeCells #[z] c).toList[i]? = some z := by
   simp [madeCells, show i < c by omega, Nat.mod_one]
  rw [this]
  simp [hi]
 ·rw [if_neg (by omega)]
  simp [hi]
theorem wpList_build_at {P : Program} {ops : Array Oper} {rest : List Oper} {o : Oper} {a : Act} {w : World} {Q : Exit → Act → World → Prop} (cells : Array Value) (hg : o.guard = none) (t : TypeId) (parts : Array (Nat × Operand)) (ho : o.op = .build t parts)
 (hf : P.built t (parts.map fun (i, x) => (i, a.eval x)).toList = some cells)
 (h : wpList P ops Q rest (a.put o.dst (.agg cells)) w) : wpList P ops Q (o :: rest) a w :=
 wpList_build hg t parts ho (by rw [hf]; rfl) (by rw [hf]; exact h)
end Go.Proofs.YtcgacpmippdkeaaGreat
namespace Go.Proofs.YtcgacpmippdkeaaGreat
open Go.RowKit
set_option maxRecDepth 100000
abbrev Fr := List (Nat × Value)
def Fr.get : List (Nat × Value) → Nat → Option Value
 | [], _ => none
 | (k, v) :: l, t => match Nat.beq k t with
  | true => some v
  | false => Fr.get l t
structure At (a : Act) (n : Nat) (l : Fr) : Prop where
 size : a.tmps.size = n
 defs : a.defers = []
 get : ∀ t v, Fr.get l t = some v → a.tmps[t]? = some v
def ev (l : Fr) : Operand → Option Value
 | .tmp t => Fr.get l t
 | .const v => some v
 | .global g => some (.pointer (some ⟨g, 0, none⟩))
 | .func f => some (.func (.func f) #[] #[])
theorem At.eval {a : Act} {n : Nat} {l : Fr} (h : At a n l) {x : Operand} {v : Value} (hx : ev l x = some v) : a.eval x = v := by
 cases x with
 | tmp t =>
  have := h.get t v hx
  simp [Act.eval, this]
 | const c => exact Option.some.inj hx
 | global g => exact Option.some.inj hx
 | func f => exact Option.some.inj hx
theorem At.put {a : Act} {n d : Nat} {l : Fr} (h : At a n l) (hd : Nat.blt d n = true) (v : Value) : At (a.put (some d) v) n ((d, v) :: l) := by
 have hd' : d < n := by simpa using hd
 refine ⟨by simp [Act.put, h.size], h.defs, fun t u ht => ?_⟩
 unfold Fr.get at ht
 show (a.tmps.setIfInBounds d v)[t]? = some u
 split at ht
 ·rename_i e
  have e' : d = t := Nat.eq_of_beq_eq_true e
  subst e'
  injection ht with ht
  subst ht
  rw [Array.getElem?_setIfInBounds_self_of_lt (by rw [h.size]; exact hd')]
 ·rename_i e
  have e' : d ≠ t := fun he => by subst he; simp at e
  rw [Array.getElem?_setIfInBounds_ne e']
  exact h.get t u ht
inductive Fw (l : Fr) : Fr → Prop
 | nil : Fw l []
 | cons {t : Nat} {v : Value} {l' : Fr} (h : Fr.get l t = some v) (r : Fw l l') : Fw l ((t, v) :: l')
theorem Fw.consE {l l' : Fr} {t : Nat} {u v : Value} (h : Fr.get l t = some u) (e : u = v) (r : Fw l l') : Fw l ((t, v) :: l') := .cons (e ▸ h) r
theorem At.weak {a : Act} {n : Nat} {l l' : Fr} (h : At a n l) (hw : Fw l l') : At a n l' := by
 refine ⟨h.size, h.defs, ?_⟩
 induction hw with
 | nil => intro t v ht; cases ht
 | cons hx _ ih =>
  intro t v ht
  unfold Fr.get at ht
  split at ht
  ·rename_i e
   have e' := Nat.eq_of_beq_eq_true e
   subst e'
   injection ht with ht
   subst ht
   exact h.get _ _ hx
  ·exact ih t v ht
structure Ck where
 S : Nat → Prop
 φ : World → Prop
 loc : ∀ w w' : World, (∀ b, S b → w'.heap[b]? = w.heap[b]?) → φ w → φ w'
structure Hp (w0 : World) (S : Nat → Prop) (w : World) (m : List Ck) : Prop where
 chg : Chg S w0 w
 holds : ∀ c ∈ m, c.φ w
 own : ∀ c ∈ m, ∀ b, c.S b → (S b ∨ w0.heap.size ≤ b) ∧ b < w.heap.size
 dis : m.Pairwise fun c d => ∀ b, c.S b → ¬ d.S b
theorem Hp.perm {w0 w : World} {S : Nat → Prop} {m m' : List Ck} (h : Hp w0 S w m) (p : m.Perm m') : Hp w0 S w m' :=
 ⟨h.chg, fun c hc => h.holds c (p.mem_iff.2 hc), fun c hc => h.own c (p.mem_iff.2 hc), p.pairwise h.dis fun hab b h1 h2 => hab b h2 h1⟩
theorem Hp.tail {w0 w : World} {S : Nat → Prop} {c : Ck} {m : List Ck} (h : Hp w0 S w (c :: m)) : Hp w0 S w m :=
 ⟨h.chg, fun d hd => h.holds d (List.mem_cons_of_mem _ hd), fun d hd => h.own d (List.mem_cons_of_mem _ hd), (List.pairwise_cons.1 h.dis).2⟩
theorem Hp.sub {w0 w : World} {S : Nat → Prop} {m m' : List Ck} (h : Hp w0 S w m) (p : m'.Sublist m) : Hp w0 S w m' :=
 ⟨h.chg, fun c hc => h.holds c (p.subset hc), fun c hc => h.own c (p.subset hc), h.dis.sublist p⟩
theorem Chg.none_of_below {w w' : World} (h : Below w.heap.size w w') : Chg (fun _ => False) w w' := Chg.of_below h fun k hk _ => hk
theorem Chg.below_of_none {w w' : World} (h : Chg (fun _ => False) w w') : Below w.heap.size w w' := h.below (fun _ _ h => h) (Nat.le_refl _)
theorem Hp.keep {w0 w w' : World} {S : Nat → Prop} {m : List Ck} (h : Hp w0 S w m) (hb : Below w.heap.size w w') : Hp w0 S w' m :=
 ⟨h.chg.after hb, fun c hc => c.loc w w' (fun b hb' => hb.block b (h.own c hc b hb').2) (h.holds c hc), fun c hc b hb' => ⟨(h.own c hc b hb').1, Nat.lt_of_lt_of_le (h.own c hc b hb').2 hb.size⟩, h.dis⟩
theorem Hp.drew {w0 w : World} {S : Nat → Prop} {m : List Ck} (h : Hp w0 S w m) : Hp w0 S w.drew m := h.keep (Below.refl _ _).drew
theorem Hp.adds {w0 w w' : World} {S : Nat → Prop} {m m' : List Ck} (h : Hp w0 S w m) (hn : Hp w (fun _ => False) w' m') : Hp w0 S w' (m' ++ m) := by
 have k := h.keep hn.chg.below_of_none
 have new : ∀ c ∈ m', ∀ b, c.S b → w.heap.size ≤ b := fun c hc b hb => (hn.own c hc b hb).1.resolve_left id
 refine ⟨k.chg, fun c hc => ?_, fun c hc b hb => ?_, List.pairwise_append.2 ⟨hn.dis, h.dis, fun c hc d hd b h1 h2 => ?_⟩⟩
 ·rcases List.mem_append.1 hc with hc | hc
  ·exact hn.holds c hc
  ·exact k.holds c hc
 ·rcases List.mem_append.1 hc with hc | hc
  ·exact ⟨.inr (Nat.le_trans h.chg.size (new c hc b hb)), (hn.own c hc b hb).2⟩
  ·exact k.own c hc b hb
 ·have := new c hc b h1
  have := (h.own d hd b h2).2
  omega
def U (m : List Ck) (b : Nat) : Prop := ∃ c ∈ m, c.S b
theorem Hp.turn {w0 w w' : World} {S : Nat → Prop} {p r p' : List Ck} (h : Hp w0 S w (p ++ r)) (hn : Hp w (U p) w' p') : Hp w0 S w' (p' ++ r) := by
 have hpr := List.pairwise_append.1 h.dis
 have keep : ∀ c ∈ r, ∀ b, c.S b → ¬ U p b := fun c hc b hb ⟨d, hd, hdb⟩ => hpr.2.2 d hd c hc b hdb hb
 have inS : ∀ b, U p b → S b ∨ w0.heap.size ≤ b := fun b ⟨d, hd, hdb⟩ => (h.own d (List.mem_append_left _ hd) b hdb).1
 refine ⟨h.chg.trans' hn.chg fun x hx hu => (inS x hu).resolve_right (by omega), fun c hc => ?_, fun c hc b hb => ?_, List.pairwise_append.2 ⟨hn.dis, hpr.2.1, fun c hc d hd b h1 h2 => ?_⟩⟩
 ·rcases List.mem_append.1 hc with hc | hc
  ·exact hn.holds c hc
  ·exact c.loc w w' (fun b hb => hn.chg.block b (h.own c (List.mem_append_right _ hc) b hb).2 (keep c hc b hb)) (h.holds c (List.mem_append_right _ hc))
 ·rcases List.mem_append.1 hc with hc | hc
  ·have := hn.own c hc b hb
   refine ⟨?_, this.2⟩
   rcases this.1 with hu | hu
   ·exact inS b hu
   ·exact .inr (Nat.le_trans h.chg.size hu)
  ·have := h.own c (List.mem_append_right _ hc) b hb
   exact ⟨this.1, Nat.lt_of_lt_of_le this.2 hn.chg.size⟩
 ·rcases (hn.own c hc b h1).1 with hu | hu
  ·exact keep d hd b h2 hu
  ·have := (h.own d (List.mem_append_right _ hd) b h2).2
   omega
inductive Sel : List Ck → Ck → List Ck → Prop
 | here {c : Ck} {m : List Ck} : Sel (c :: m) c m
 | there {c d : Ck} {m r : List Ck} (h : Sel m c r) : Sel (d :: m) c (d :: r)
theorem Sel.perm {m r : List Ck} {c : Ck} (h : Sel m c r) : m.Perm (c :: r) := by
 induction h with
 | here => exact List.Perm.refl _
 | there _ ih => exact (List.Perm.cons _ ih).trans (List.Perm.swap _ _ _)
inductive Sub : List Ck → List Ck → List Ck → Prop
 | nil {m : List Ck} : Sub m [] m
 | cons {c : Ck} {m r p r' : List Ck} (h : Sel m c r) (k : Sub r p r') : Sub m (c :: p) r'
theorem Sub.perm {m p r : List Ck} (h : Sub m p r) : m.Perm (p ++ r) := by
 induction h with
 | nil => exact List.Perm.refl _
 | cons h _ ih => exact h.perm.trans (List.Perm.cons _ ih)
def G (n : Nat) (w0 : World) (S : Nat → Prop) (l : Fr) (m : List Ck) (K : Act → World → Prop) : Prop := ∀ a w, At a n l → Hp w0 S w m → K a w
section
variable {P : Program} {n : Nat} {w0 : World} {S : Nat → Prop} {l : Fr} {m : List Ck} {Q : Exit → Act → World → Prop}
theorem G.mem {K : Act → World → Prop} {m' : List Ck} (hm : ∀ w, Hp w0 S w m → Hp w0 S w m') (h : G n w0 S l m' K) : G n w0 S l m K := fun a w ha hw => h a w ha (hm w hw)
theorem G.fact {K : Act → World → Prop} {p : Prop} (hp : ∀ w, Hp w0 S w m → p) (h : p → G n w0 S l m K) : G n w0 S l m K := fun a w ha hw => h (hp w hw) a w ha hw
theorem G.seq {x y : Code} (h : G n w0 S l m (x.wp P (Exit.then (y.wp P Q) Q))) : G n w0 S l m ((Code.seq x y).wp P Q) := fun a w ha hw => wp_seq (h a w ha hw)
theorem G.skip (h : G n w0 S l m (Q .normal)) : G n w0 S l m (Code.skip.wp P Q) := fun a w ha hw => wp_skip (h a w ha hw)
theorem G.ret (h : G n w0 S l m (Q .ret)) : G n w0 S l m (Code.ret.wp P Q) := fun a w ha hw => wp_ret (h a w ha hw)
theorem G.exit {id : Nat} (h : G n w0 S l m (Q (.exit id))) : G n w0 S l m ((Code.exit id).wp P Q) := fun a w ha hw => wp_exit (h a w ha hw)
theorem G.block {id : Nat} {c : Code} (h : G n w0 S l m (c.wp P (Exit.inBlock id Q))) : G n w0 S l m ((Code.block id c).wp P Q) := fun a w ha hw => wp_block (h a w ha hw)
theorem G.cond {c : Operand} {x y : Code} {b : Bool} (hc : ev l c = some (.bool b)) (ht : b = true → G n w0 S l m (x.wp P Q)) (hf : b = false → G n w0 S l m (y.wp P Q)) : G n w0 S l m ((Code.cond c x y).wp P Q) := fun a w ha hw =>
 wp_cond_split (ha.eval hc) (fun h => ht h a w ha hw) fun h => hf h a w ha hw
theorem G.condP {c : Operand} {x y : Code} {p : Prop} [Decidable p] (hc : ev l c = some (.bool (decide p))) (ht : p → G n w0 S l m (x.wp P Q)) (hf : ¬ p → G n w0 S l m (y.wp P Q)) : G n w0 S l m ((Code.cond c x y).wp P Q) :=
 G.cond hc (fun h => ht (of_decide_eq_true h)) fun h => hf (of_decide_eq_false h)
theorem G.condT {c : Operand} {x y : Code} {b : Bool} (hc : ev l c = some (.bool b)) (hb : b = true) (h : G n w0 S l m (x.wp P Q)) : G n w0 S l m ((Code.cond c x y).wp P Q) :=
 G.cond hc (fun _ => h) fun h => by rw [hb] at h; cases h
theorem G.condF {c : Operand} {x y : Code} {b : Bool} (hc : ev l c = some (.bool b)) (hb : b = false) (h : G n w0 S l m (y.wp P Q)) : G n w0 S l m ((Code.cond c x y).wp P Q) :=
 G.cond hc (fun h => by rw [hb] at h; cases h) fun _ => h
theorem G.part {K : Act → World → Prop} {t : Nat} {b : Bool} (hc : Fr.get l t = some (.bool b)) (ht : b = true → G n w0 S ((t, .bool true) :: l) m K) (hf : b = false → G n w0 S ((t, .bool false) :: l) m K) : G n w0 S l m K := fun a w ha hw => by
 have key : ∀ c, b = c → At a n ((t, .bool c) :: l) := fun c e => ⟨ha.size, ha.defs, fun u v hu => by
  unfold Fr.get at hu
  split at hu
  ·rename_i e2
   have e3 := Nat.eq_of_beq_eq_true e2
   injection hu with hu
   subst hu
   subst e3
   rw [← e]
   exact ha.get _ _ hc
  ·exact ha.get _ _ hu⟩
 cases hb : b with
 | true => exact ht hb a w (key true hb) hw
 | false => exact hf hb a w (key false hb) hw
theorem G.partP {K : Act → World → Prop} {t : Nat} {p : Prop} [Decidable p] (hc : Fr.get l t = some (.bool (decide p))) (ht : p → G n w0 S ((t, .bool true) :: l) m K) (hf : ¬ p → G n w0 S ((t, .bool false) :: l) m K) : G n w0 S l m K :=
 G.part hc (fun h => ht (of_decide_eq_true h)) fun h => hf (of_decide_eq_false h)
theorem G.nThen {K : Act → World → Prop} (h : G n w0 S l m K) : G n w0 S l m (Exit.then K Q .normal) := h
theorem G.nBlock {id : Nat} (h : G n w0 S l m (Q .normal)) : G n w0 S l m (Exit.inBlock id Q .normal) := h
theorem G.eThen {K : Act → World → Prop} {id : Nat} (h : G n w0 S l m (Q (.exit id))) : G n w0 S l m (Exit.then K Q (.exit id)) := h
theorem G.eBlock {id : Nat} (h : G n w0 S l m (Q .normal)) : G n w0 S l m (Exit.inBlock id Q (.exit id)) := fun a w ha hw => by
 show (if id = id then Q .normal a w else _)
 rw [if_pos rfl]
 exact h a w ha hw
theorem G.ePass {id id' : Nat} (hne : Nat.beq id' id = false) (h : G n w0 S l m (Q (.exit id'))) : G n w0 S l m (Exit.inBlock id Q (.exit id')) := fun a w ha hw => by
 show (if id' = id then _ else Q (.exit id') a w)
 rw [if_neg (fun e => by subst e; simp at hne)]
 exact h a w ha hw
theorem G.rThen {K : Act → World → Prop} (h : G n w0 S l m (Q .ret)) : G n w0 S l m (Exit.then K Q .ret) := h
theorem G.rBlock {id : Nat} (h : G n w0 S l m (Q .ret)) : G n w0 S l m (Exit.inBlock id Q .ret) := h
theorem G.loop {X : Type} (J : X → Prop) (L : X → Fr) (M : X → List Ck) (μ : X → Nat) {c : Code} {x0 : X} {r : List Ck} (h0 : J x0) (hl : Fw l (L x0)) (hm : Sub m (M x0) r)
 (round : ∀ x, J x → G n w0 S (L x) (M x) (c.wp P (Exit.then (fun a w => ∃ y, J y ∧ μ y < μ x ∧ At a n (L y) ∧ Hp w0 S w (M y)) Q))) : G n w0 S l m ((Code.loop c).wp P Q) := fun a w ha hw => by
 let I : Nat → Act → World → Prop := fun k a w => ∃ x, J x ∧ μ x = k ∧ At a n (L x) ∧ Hp w0 S w (M x)
 have least : ∀ k a w, I k a w → ∃ k0, I k0 a w ∧ ∀ j, I j a w → k0 ≤ j := by
  intro k
  induction k using Nat.strongRecOn with
  | _ k ih =>
   intro a w h
   by_cases hh : ∃ j, j < k ∧ I j a w
   ·obtain ⟨j, hj, hI⟩ := hh
    exact ih j hj a w hI
   ·exact ⟨k, h, fun j hj => Nat.le_of_not_lt fun hlt => hh ⟨j, hlt, hj⟩⟩
 let ν : Act → World → Nat := fun a w => open Classical in if h : ∃ k, I k a w then (Classical.choose (least _ a w (Classical.choose_spec h))) else 0
 have hν : ∀ a w k, I k a w → I (ν a w) a w ∧ ν a w ≤ k := by
  intro a w k h
  have hex : ∃ k, I k a w := ⟨k, h⟩
  have hs := Classical.choose_spec (least _ a w (Classical.choose_spec hex))
  have e : ν a w = Classical.choose (least _ a w (Classical.choose_spec hex)) := dif_pos hex
  rw [e]
  exact ⟨hs.1, hs.2 k h⟩
 refine wp_loop (fun a w => ∃ k, I k a w) ν ⟨μ x0, x0, h0, rfl, ha.weak hl, (hw.perm hm.perm).sub (List.sublist_append_left _ _)⟩ ?_
 rintro a w ⟨k, hk⟩
 obtain ⟨⟨x, hJ, hμ, hx, hM⟩, _⟩ := hν a w k hk
 refine wp_mono (round x hJ a w hx hM) ?_
 intro e a' w' hq
 cases e with
 | normal =>
  obtain ⟨y, hJy, hlt, hy, hMy⟩ := hq
  have hI : I (μ y) a' w' := ⟨y, hJy, rfl, hy, hMy⟩
  have := (hν a' w' _ hI).2
  exact ⟨⟨_, hI⟩, by omega⟩
 | exit id => exact hq
 | goto g => exact hq
 | ret => exact hq
 | panic ch => exact hq
 | outgrown => exact hq
theorem G.next {X : Type} {J : X → Prop} {L : X → Fr} {M : X → List Ck} {μ : X → Nat} {k : Nat} {r : List Ck} (y : X) (hJ : J y) (hμ : μ y < k) (hl : Fw l (L y)) (hm : Sub m (M y) r) :
 G n w0 S l m (Exit.then (fun a w => ∃ y, J y ∧ μ y < k ∧ At a n (L y) ∧ Hp w0 S w (M y)) Q .normal) := fun a w ha hw =>
 ⟨y, hJ, hμ, ha.weak hl, (hw.perm hm.perm).sub (List.sublist_append_left _ _)⟩
theorem G.cut {X : Type} (J : X → Prop) (L : X → Fr) (M : X → List Ck) {c : Code} {K : Act → World → Prop}
 (first : G n w0 S l m (c.wp P (Exit.then (fun a w => ∃ x, J x ∧ At a n (L x) ∧ Hp w0 S w (M x)) Q))) (rest : ∀ x, J x → G n w0 S (L x) (M x) K) : G n w0 S l m (c.wp P (Exit.then K Q)) := fun a w ha hw =>
 wp_mono (first a w ha hw) fun e a' w' hq => by
  cases e with
  | normal =>
   obtain ⟨x, hJ, hx, hM⟩ := hq
   exact rest x hJ a' w' hx hM
  | exit id => exact hq
  | goto g => exact hq
  | ret => exact hq
  | panic ch => exact hq
  | outgrown => exact hq
theorem G.meet {X : Type} {J : X → Prop} {L : X → Fr} {M : X → List Ck} {r : List Ck} (y : X) (hJ : J y) (hl : Fw l (L y)) (hm : Sub m (M y) r) :
 G n w0 S l m (Exit.then (fun a w => ∃ x, J x ∧ At a n (L x) ∧ Hp w0 S w (M x)) Q .normal) := fun a w ha hw =>
 ⟨y, hJ, ha.weak hl, (hw.perm hm.perm).sub (List.sublist_append_left _ _)⟩
theorem G.region {id : Nat} {ops : List Oper} (h : G n w0 S l m (wpList P ops.toArray Q ops)) : G n w0 S l m ((Code.region id ops.toArray false).wp P Q) := fun a w ha hw => wp_region_lit (h a w ha hw)
theorem G.nil {ops : Array Oper} (h : G n w0 S l m (Q .normal)) : G n w0 S l m (wpList P ops Q []) := h
theorem G.op {ops : Array Oper} {o : Oper} {rest : List Oper} (hg : o.guard = none) (h : G n w0 S l m (fun a w => o.wp P a w (wpList P ops Q rest) Q)) : G n w0 S l m (wpList P ops Q (o :: rest)) := fun a w ha hw =>
 wpList_plain hg fun K hK => Oper.wp_mono hK (h a w ha hw)
theorem At.yielded {a : Act} {ops : Array Oper} {j t : Nat} {b : Bool} (ha : At a n l) (hj : (ops[j]?).bind (·.dst) = some t) (ht : Fr.get l t = some (.bool b)) : yielded ops a.tmps j = some b := by
 unfold Go.yielded
 rw [hj]
 simp [ha.get t _ ht]
theorem G.want {ops : Array Oper} {o : Oper} {rest : List Oper} {j t : Nat} {b : Bool} (hg : o.guard = some (j, b)) (hj : (ops[j]?).bind (·.dst) = some t) (ht : Fr.get l t = some (.bool b))
 (h : G n w0 S l m (fun a w => o.wp P a w (wpList P ops Q rest) Q)) : G n w0 S l m (wpList P ops Q (o :: rest)) := fun a w ha hw =>
 wpList_step fun K hK => by
  have e : Region.wanted o (yielded ops a.tmps) = true := by simp [Region.wanted, hg, ha.yielded hj ht]
  rw [if_pos e]
  exact Oper.wp_mono hK (h a w ha hw)
theorem G.pass {ops : Array Oper} {o : Oper} {rest : List Oper} {j t d : Nat} {b c : Bool} (hg : o.guard = some (j, b)) (hj : (ops[j]?).bind (·.dst) = some t) (ht : Fr.get l t = some (.bool c)) (hbc : Bool.xor b c = true) (hd : o.dst = some d) (hn : Nat.blt d n = true)
 (h : G n w0 S ((d, undef) :: l) m (wpList P ops Q rest)) : G n w0 S l m (wpList P ops Q (o :: rest)) := fun a w ha hw =>
 wpList_step fun K hK => by
  have e : Region.wanted o (yielded ops a.tmps) = false := by
   simp only [Region.wanted, hg, ha.yielded hj ht]
   cases b <;> cases c <;> simp at hbc ⊢
  rw [if_neg (by rw [e]; simp), hd]
  exact hK _ _ (h _ _ (ha.put hn undef) hw)
theorem calls_of_G {f : FuncId} {fn : Func} {c : Code} {args : Array Value} {w : World} {R : Ending → World → Prop} {n : Nat} {l : Fr} {m : List Ck} {S : Nat → Prop} (hf : P.funcs[f]? = some fn) (hb : fn.body = some c)
 (hn : args.size + (fn.ntmps - args.size) = n) (hl : ∀ t v, Fr.get l t = some v → args[t]? = some v) (hw : Hp w S w m) (h : G n w S l m (c.wp P (bodyPost P fn R))) : Calls P f args w R :=
 calls_of_wp hf hb (h _ _ ⟨by simp [hn], rfl, fun t v ht => by
  have := hl t v ht
  rw [Array.getElem?_append_left]
  ·exact this
  ·exact (Array.getElem?_eq_some_iff.1 this).1⟩ hw)
theorem G.ret1 {fn : Func} {R : Ending → World → Prop} {t : Nat} {v : Value} (hr : fn.results = #[.tmp t]) (ht : Fr.get l t = some v) (h : ∀ w, Hp w0 S w m → R (.returned v) w) : G n w0 S l m (bodyPost P fn R .ret) := fun a w ha hw =>
 ⟨ha.defs, v, by rw [results_tmp hr]; simp [ha.get t v ht], h w hw⟩
theorem G.ret2 {fn : Func} {R : Ending → World → Prop} {t u : Nat} {v x : Value} (hr : fn.results = #[.tmp t, .tmp u]) (ht : Fr.get l t = some v) (hu : Fr.get l u = some x) (h : ∀ w, Hp w0 S w m → R (.returned (.tuple #[v, x])) w) : G n w0 S l m (bodyPost P fn R .ret) := fun a w ha hw =>
 ⟨ha.defs, _, by rw [results_tmp2 hr]; simp [ha.get t v ht, ha.get u x hu], h w hw⟩
theorem G.ret3 {fn : Func} {R : Ending → World → Prop} {t u s : Nat} {v x y : Value} (hr : fn.results = #[.tmp t, .tmp u, .tmp s]) (ht : Fr.get l t = some v) (hu : Fr.get l u = some x) (hs : Fr.get l s = some y) (h : ∀ w, Hp w0 S w m → R (.returned (.tuple #[v, x, y])) w) : G n w0 S l m (bodyPost P fn R .ret) := fun a w ha hw =>
 ⟨ha.defs, .tuple #[v, x, y], by simp [results, hr, ha.get t v ht, ha.get u x hu, ha.get s y hs], h w hw⟩
theorem G.ret0 {fn : Func} {R : Ending → World → Prop} (hr : fn.results = #[]) (h : ∀ w, Hp w0 S w m → R (.returned (.tuple #[])) w) : G n w0 S l m (bodyPost P fn R .ret) := fun a w ha hw =>
 ⟨ha.defs, _, results_none hr _ _ _, h w hw⟩
theorem G.end0 {fn : Func} {R : Ending → World → Prop} (hr : fn.results = #[]) (h : ∀ w, Hp w0 S w m → R (.returned (.tuple #[])) w) : G n w0 S l m (bodyPost P fn R .normal) := fun a w ha hw =>
 ⟨ha.defs, _, results_none hr _ _ _, h w hw⟩
theorem G.retBy {fn : Func} {R : Ending → World → Prop} {v : Value} (hr : ∀ a w, At a n l → Hp w0 S w m → (results fn a.tmps).run P w = .ok v w) (h : ∀ w, Hp w0 S w m → R (.returned v) w) : G n w0 S l m (bodyPost P fn R .ret) := fun a w ha hw =>
 ⟨ha.defs, v, hr a w ha hw, h w hw⟩
def PV (P : Program) (n : Nat) (w0 : World) (S : Nat → Prop) (l : Fr) (m : List Ck) (o : Oper) (v : Value) : Prop := ∀ a w, At a n l → Hp w0 S w m → (execOp a.eval o).run P w = .ok (.value v) w
theorem G.val {K : Act → World → Prop} {o : Oper} {d : Nat} {v : Value} (hd : o.dst = some d) (hn : Nat.blt d n = true) (hv : PV P n w0 S l m o v) (h : G n w0 S ((d, v) :: l) m K) : G n w0 S l m (fun a w => o.wp P a w K Q) := fun a w ha hw => by
 show Oper.wp P o a w K Q
 unfold Oper.wp
 rw [hv a w ha hw, Oper.upon_value, hd]
 exact h _ _ (ha.put hn v) hw
theorem G.eff {K : Act → World → Prop} {o : Oper} {d : Nat} (hd : o.dst = some d) (hn : Nat.blt d n = true)
 (he : ∀ a w, At a n l → Hp w0 S w m → ∃ v w' m', (execOp a.eval o).run P w = .ok (.value v) w' ∧ Hp w0 S w' m' ∧ G n w0 S ((d, v) :: l) m' K) : G n w0 S l m (fun a w => o.wp P a w K Q) := fun a w ha hw => by
 obtain ⟨v, w', m', hr, hw', hk⟩ := he a w ha hw
 show Oper.wp P o a w K Q
 unfold Oper.wp
 rw [hr, Oper.upon_value, hd]
 exact hk _ _ (ha.put hn v) hw'
theorem G.act {K : Act → World → Prop} {o : Oper} (hd : o.dst = none)
 (he : ∀ a w, At a n l → Hp w0 S w m → ∃ w' m', (execOp a.eval o).run P w = .ok .skip w' ∧ Hp w0 S w' m' ∧ G n w0 S l m' K) : G n w0 S l m (fun a w => o.wp P a w K Q) := fun a w ha hw => by
 obtain ⟨w', m', hr, hw', hk⟩ := he a w ha hw
 show Oper.wp P o a w K Q
 unfold Oper.wp
 rw [hr, Oper.upon_skip, hd]
 exact hk _ _ ha hw'
def Ro (w0 : World) (S : Nat → Prop) (c : Ck) : Prop := c.φ w0 ∧ ∀ b, c.S b → b < w0.heap.size ∧ ¬ S b
theorem Ro.at {c : Ck} (h : Ro w0 S c) {w : World} (hw : Hp w0 S w m) : c.φ w := c.loc w0 w (fun b hb => hw.chg.block b (h.2 b hb).1 (h.2 b hb).2) h.1
def Tr (P : Program) (f : FuncId) (args : Array Value) (ro pre : List Ck) (post : Value → List Ck → Prop) : Prop :=
 ∀ w, (∀ c ∈ ro, Ro w (U pre) c) → Hp w (U pre) w pre → Calls P f args w fun e w' => ∃ v m', e = .returned v ∧ post v m' ∧ Hp w (U pre) w' m'
def evs (l : Fr) : List Operand → Option (List Value)
 | [] => some []
 | x :: xs => match ev l x, evs l xs with
  | some v, some vs => some (v :: vs)
  | _, _ => none
theorem At.evs {a : Act} (ha : At a n l) : ∀ {xs : List Operand} {vs : List Value}, Go.Proofs.YtcgacpmippdkeaaGreat.evs l xs = some vs → xs.map a.eval = vs
 | [], vs, h => by simp [Go.Proofs.YtcgacpmippdkeaaGreat.evs] at h; subst h; rfl
 | x :: xs, vs, h => by
  unfold Go.Proofs.YtcgacpmippdkeaaGreat.evs at h
  split at h
  ·rename_i v us h1 h2
   injection h with h
   subst h
   rw [List.map_cons, ha.eval h1, ha.evs h2]
  ·cases h
inductive May (w0 : World) (S : Nat → Prop) (r : List Ck) (c : Ck) : Prop
 | old (h : Ro w0 S c)
 | own (h : c ∈ r)
 | view {d : Ck} (h : d ∈ r) (hφ : ∀ w, d.φ w → c.φ w) (hS : ∀ b, c.S b → d.S b)
 | mix (hφ : ∀ w, Hp w0 S w r → c.φ w) (hS : ∀ b, c.S b → (b < w0.heap.size ∧ ¬ S b) ∨ ∃ d ∈ r, d.S b)
theorem May.ro {p r : List Ck} {c : Ck} {w : World} (h : May w0 S r c) (hw : Hp w0 S w (p ++ r)) : Ro w (U p) c := by
 have hpr := List.pairwise_append.1 hw.dis
 have key : ∀ d ∈ r, d.φ w ∧ ∀ b, d.S b → b < w.heap.size ∧ ¬ U p b := fun d hd => ⟨hw.holds d (List.mem_append_right _ hd), fun b hb => ⟨(hw.own d (List.mem_append_right _ hd) b hb).2, fun ⟨e, he, heb⟩ => hpr.2.2 e he d hd b heb hb⟩⟩
 cases h with
 | old h =>
  refine ⟨h.at hw, fun b hb => ⟨Nat.lt_of_lt_of_le (h.2 b hb).1 hw.chg.size, fun ⟨d, hd, hdb⟩ => ?_⟩⟩
  have := (hw.own d (List.mem_append_left _ hd) b hdb).1
  have := h.2 b hb
  rcases ‹S b ∨ _› with h1 | h1
  ·exact this.2 h1
  ·omega
 | own h => exact key c h
 | view h hφ hS => exact ⟨hφ w (key _ h).1, fun b hb => (key _ h).2 b (hS b hb)⟩
 | mix hφ hS =>
  refine ⟨hφ w (hw.sub (List.sublist_append_right _ _)), fun b hb => ?_⟩
  rcases hS b hb with ⟨h1, h2⟩ | ⟨d, hd, hdb⟩
  ·refine ⟨Nat.lt_of_lt_of_le h1 hw.chg.size, fun ⟨e, he, heb⟩ => ?_⟩
   rcases (hw.own e (List.mem_append_left _ he) b heb).1 with h3 | h3
   ·exact h2 h3
   ·omega
  ·exact (key d hd).2 b hdb
theorem G.tr {K : Act → World → Prop} {o : Oper} {d : Nat} {f : FuncId} {xs : List Operand} {ts : Array TypeId} {vs : List Value} {ro pre r : List Ck} {post : Value → List Ck → Prop} (hd : o.dst = some d) (hn : Nat.blt d n = true)
 (ho : o.op = .call { callee := .value (.func f), args := xs.toArray, argTypes := ts }) (hx : evs l xs = some vs) {fn : Func} {c : Code} (hf : P.funcs[f]? = some fn) (hb : fn.body = some c) (hnm : (fn.name == "runtime.NumGoroutine") = false)
 (ht : Tr P f vs.toArray ro pre post) (hm : Sub m pre r) (hro : ∀ c ∈ ro, May w0 S r c) (h : ∀ v m', post v m' → G n w0 S ((d, v) :: l) (m' ++ r) K) : G n w0 S l m (fun a w => o.wp P a w K Q) := fun a w ha hw => by
 have hw' := hw.perm hm.perm
 have hp : Hp w (U pre) w pre := ⟨Chg.refl _ _, fun c hc => hw'.holds c (List.mem_append_left _ hc), fun c hc b hb => ⟨.inl ⟨c, hc, hb⟩, (hw'.own c (List.mem_append_left _ hc) b hb).2⟩, (List.pairwise_append.1 hw'.dis).1⟩
 have hc := ht w (fun c hc => (hro c hc).ro hw') hp
 have hrun : (execOp a.eval o).run P w = .ok (.enter f vs.toArray) w := by
  have e1 : xs.toArray.map a.eval = vs.toArray := by rw [← ha.evs hx]; simp
  have e2 : a.eval (.func f) = .func (.func f) #[] #[] := rfl
  have hnm' : ¬ fn.name = "runtime.NumGoroutine" := by simpa using hnm
  simp [execOp, ho, resolve, Deferred.ofValue, e1, e2, invoke, callFunc, program, Sem.run, Sem.run_bind, Sem.run_pure, Result.andThen, hf, hnm', hb]
 show Oper.wp P o a w K Q
 unfold Oper.wp
 rw [hrun, Oper.upon_enter]
 refine hc.mono ?_
 rintro e w2 ⟨v, m', rfl, hpost, hm'⟩
 show K (a.put o.dst v) w2
 rw [hd]
 exact h v m' hpost _ _ (ha.put hn v) (hw'.turn hm')
end
def sB (l : List UInt8) : ByteArray := ⟨l.toArray⟩
theorem sB_toList (a : List UInt8) : (sB a).toList = a := by rw [ByteArray.toList_eq]; simp [sB]
theorem sB_size (a : List UInt8) : (sB a).size = a.length := by show a.toArray.size = _; simp
theorem sB_inj {a b : List UInt8} (h : sB a = sB b) : a = b := by rw [← sB_toList a, h, sB_toList]
section
variable {P : Program} {n : Nat} {w0 : World} {S : Nat → Prop} {l : Fr} {m : List Ck} {Q : Exit → Act → World → Prop} {K : Act → World → Prop}
 {dst : Option Tmp} {ty : TypeId} {pos : String} {after : Array Edge} {g : Option (Nat × Bool)}
theorem run_v {s : Sem Value} {w w' : World} {v : Value} (h : s.run P w = .ok v w') : (s >>= fun x => pure (Next.value x)).run P w = .ok (.value v) w' := by
 simp [Sem.run_bind, h, Result.andThen, Sem.run_pure]
theorem run_u {s : Sem Unit} {w w' : World} (h : s.run P w = .ok () w') : (s >>= fun _ => pure Next.skip).run P w = .ok .skip w' := by
 simp [Sem.run_bind, h, Result.andThen, Sem.run_pure]
theorem pv_move {x : Operand} {v : Value} (hx : ev l x = some v) : PV P n w0 S l m ⟨dst, .move x, ty, pos, after, g⟩ v := fun a w ha _ => by
 show (Sem.pure (Next.value (a.eval x))).run P w = _
 rw [ha.eval hx]; rfl
theorem pv_assign {x : Operand} {v : Value} (hx : ev l x = some v) : PV P n w0 S l m ⟨dst, .assign x, ty, pos, after, g⟩ v := fun a w ha _ => by
 show (Sem.pure (Next.value (a.eval x))).run P w = _
 rw [ha.eval hx]; rfl
theorem pv_pick {c x y : Operand} {b : Bool} {v : Value} (hc : ev l c = some (.bool b)) (hv : ev l (if b then x else y) = some v) : PV P n w0 S l m ⟨dst, .pick c x y, ty, pos, after, g⟩ v := fun a w ha _ => by
 have e := ha.eval hv
 simp only [execOp, ha.eval hc, asBool]
 cases b
 ·simp only [Bool.false_eq_true, if_false] at e ⊢
  rw [← e]; rfl
 ·simp only [if_true] at e ⊢
  rw [← e]; rfl
theorem pv_bin {op : BinOp} {t u : TypeId} {x y : Operand} {vx vy v : Value} (hx : ev l x = some vx) (hy : ev l y = some vy) (hg : eqGuard op t x y vx vy = pure ()) (hr : ∀ w, (binOp op t vx vy).run P w = .ok v w) :
 PV P n w0 S l m ⟨dst, .binOp op t x y u, ty, pos, after, g⟩ v := fun a w ha _ => by
 show (((eqGuard op t x y (a.eval x) (a.eval y)) >>= fun _ => binOp op t (a.eval x) (a.eval y)) >>= fun x => pure (Next.value x)).run P w = _
 rw [ha.eval hx, ha.eval hy, hg]
 exact run_v (hr w)
theorem pv_addk {k : IntKind} {a b : Int} {t u : TypeId} {x y : Operand} (hx : ev l x = some (.int k a)) (hy : ev l y = some (.int k b)) : PV P n w0 S l m ⟨dst, .binOp .add t x y u, ty, pos, after, g⟩ (.int k (k.wrap (a + b))) :=
 pv_bin hx hy rfl fun w => by rw [binOp_add]; rfl
theorem pv_subk {k : IntKind} {a b : Int} {t u : TypeId} {x y : Operand} (hx : ev l x = some (.int k a)) (hy : ev l y = some (.int k b)) : PV P n w0 S l m ⟨dst, .binOp .sub t x y u, ty, pos, after, g⟩ (.int k (k.wrap (a - b))) :=
 pv_bin hx hy rfl fun w => by rw [binOp_sub]; rfl
theorem pv_mulk {k : IntKind} {a b : Int} {t u : TypeId} {x y : Operand} (hx : ev l x = some (.int k a)) (hy : ev l y = some (.int k b)) : PV P n w0 S l m ⟨dst, .binOp .mul t x y u, ty, pos, after, g⟩ (.int k (k.wrap (a * b))) :=
 pv_bin hx hy rfl fun w => by rw [binOp_mul]; rfl
theorem PV.cast {o : Oper} {v v' : Value} (h : PV P n w0 S l m o v) (e : v = v') : PV P n w0 S l m o v' := e ▸ h
theorem PV.int {o : Oper} {k : IntKind} {a b : Int} (h : PV P n w0 S l m o (.int k a)) (e : a = b) : PV P n w0 S l m o (.int k b) := e ▸ h
theorem pv_add64 {a b : Int} {t u : TypeId} {x y : Operand} (hx : ev l x = some (.int .i64 a)) (hy : ev l y = some (.int .i64 b)) (h : -9223372036854775808 ≤ a + b ∧ a + b ≤ 9223372036854775807) : PV P n w0 S l m ⟨dst, .binOp .add t x y u, ty, pos, after, g⟩ (.int .i64 (a + b)) :=
 (pv_addk hx hy).int (wrap_i64 h)
theorem pv_sub64 {a b : Int} {t u : TypeId} {x y : Operand} (hx : ev l x = some (.int .i64 a)) (hy : ev l y = some (.int .i64 b)) (h : -9223372036854775808 ≤ a - b ∧ a - b ≤ 9223372036854775807) : PV P n w0 S l m ⟨dst, .binOp .sub t x y u, ty, pos, after, g⟩ (.int .i64 (a - b)) :=
 (pv_subk hx hy).int (wrap_i64 h)
theorem pv_mul64 {a b : Int} {t u : TypeId} {x y : Operand} (hx : ev l x = some (.int .i64 a)) (hy : ev l y = some (.int .i64 b)) (h : -9223372036854775808 ≤ a * b ∧ a * b ≤ 9223372036854775807) : PV P n w0 S l m ⟨dst, .binOp .mul t x y u, ty, pos, after, g⟩ (.int .i64 (a * b)) :=
 (pv_mulk hx hy).int (wrap_i64 h)
theorem pv_quo64 {a b : Int} {t u : TypeId} {x y : Operand} (hx : ev l x = some (.int .i64 a)) (hy : ev l y = some (.int .i64 b)) (h : 0 ≤ a ∧ a ≤ 9223372036854775807) (h1 : 1 ≤ b) : PV P n w0 S l m ⟨dst, .binOp .quo t x y u, ty, pos, after, g⟩ (.int .i64 (a / b)) :=
 pv_bin hx hy rfl fun w => by
  rw [binOp_quo]
  unfold Op.intDiv
  rw [if_neg (by omega)]
  show Result.ok (Value.int .i64 (IntKind.i64.wrap (a.tdiv b))) w = _
  rw [wrap_tdiv h.1 h1 h.2]
theorem pv_rem64 {a b : Int} {t u : TypeId} {x y : Operand} (hx : ev l x = some (.int .i64 a)) (hy : ev l y = some (.int .i64 b)) (h : 0 ≤ a) (h1 : 1 ≤ b) : PV P n w0 S l m ⟨dst, .binOp .rem t x y u, ty, pos, after, g⟩ (.int .i64 (a % b)) :=
 pv_bin hx hy rfl fun w => by
  rw [binOp_rem]
  unfold Op.intDiv
  rw [if_neg (by omega)]
  show Result.ok (Value.int .i64 (a.tmod b)) w = _
  rw [Int.tmod_eq_emod_of_nonneg h]
theorem pv_shr {k k' : IntKind} {a : Int} {s : Nat} {t u : TypeId} {x y : Operand} (hx : ev l x = some (.int k a)) (hy : ev l y = some (.int k' (s : Int))) (hs : s ≤ k.bits) : PV P n w0 S l m ⟨dst, .binOp .shr t x y u, ty, pos, after, g⟩ (.int k (a / 2 ^ s)) :=
 pv_bin hx hy rfl fun w => by
  rw [binOp_shr]
  unfold Op.shift
  rw [if_neg (by omega)]
  show Result.ok (Value.int k (a.fdiv (2 ^ min (s : Int).toNat k.bits))) w = _
  have e : min (s : Int).toNat k.bits = s := by simp; omega
  rw [e, Int.fdiv_eq_ediv_of_nonneg _ (Int.le_of_lt (Int.pow_pos (by omega)))]
theorem pv_shl {k k' : IntKind} {a : Int} {s : Nat} {t u : TypeId} {x y : Operand} (hx : ev l x = some (.int k a)) (hy : ev l y = some (.int k' (s : Int))) (hs : s ≤ k.bits) : PV P n w0 S l m ⟨dst, .binOp .shl t x y u, ty, pos, after, g⟩ (.int k (k.wrap (a * 2 ^ s))) :=
 pv_bin hx hy rfl fun w => by
  rw [binOp_shl]
  unfold Op.shift
  rw [if_neg (by omega)]
  show Result.ok (Value.int k (k.wrap (a * 2 ^ min (s : Int).toNat k.bits))) w = _
  have e : min (s : Int).toNat k.bits = s := by simp; omega
  rw [e]
theorem pv_and {k : IntKind} {a b : Int} {t u : TypeId} {x y : Operand} (hx : ev l x = some (.int k a)) (hy : ev l y = some (.int k b)) : PV P n w0 S l m ⟨dst, .binOp .and t x y u, ty, pos, after, g⟩ (.int k (bits .and k a b)) :=
 pv_bin hx hy rfl fun w => by rw [binOp_and]; rfl
theorem pv_or {k : IntKind} {a b : Int} {t u : TypeId} {x y : Operand} (hx : ev l x = some (.int k a)) (hy : ev l y = some (.int k b)) : PV P n w0 S l m ⟨dst, .binOp .or t x y u, ty, pos, after, g⟩ (.int k (bits .or k a b)) :=
 pv_bin hx hy rfl fun w => by rw [binOp_or]; rfl
theorem pv_lss {k : IntKind} {a b : Int} {t u : TypeId} {x y : Operand} (hx : ev l x = some (.int k a)) (hy : ev l y = some (.int k b)) : PV P n w0 S l m ⟨dst, .binOp .lss t x y u, ty, pos, after, g⟩ (.bool (decide (a < b))) :=
 pv_bin hx hy rfl fun w => by rw [binOp_lss]; rfl
theorem pv_leq {k : IntKind} {a b : Int} {t u : TypeId} {x y : Operand} (hx : ev l x = some (.int k a)) (hy : ev l y = some (.int k b)) : PV P n w0 S l m ⟨dst, .binOp .leq t x y u, ty, pos, after, g⟩ (.bool (decide (a ≤ b))) :=
 pv_bin hx hy rfl fun w => by rw [binOp_leq]; rfl
theorem pv_gtr {k : IntKind} {a b : Int} {t u : TypeId} {x y : Operand} (hx : ev l x = some (.int k a)) (hy : ev l y = some (.int k b)) : PV P n w0 S l m ⟨dst, .binOp .gtr t x y u, ty, pos, after, g⟩ (.bool (decide (b < a))) :=
 pv_bin hx hy rfl fun w => by rw [binOp_gtr]; rfl
theorem pv_geq {k : IntKind} {a b : Int} {t u : TypeId} {x y : Operand} (hx : ev l x = some (.int k a)) (hy : ev l y = some (.int k b)) : PV P n w0 S l m ⟨dst, .binOp .geq t x y u, ty, pos, after, g⟩ (.bool (decide (b ≤ a))) :=
 pv_bin hx hy rfl fun w => by rw [binOp_geq]; rfl
theorem pv_eql {k : IntKind} {a b : Int} {t u : TypeId} {x y : Operand} (hx : ev l x = some (.int k a)) (hy : ev l y = some (.int k b)) : PV P n w0 S l m ⟨dst, .binOp .eql t x y u, ty, pos, after, g⟩ (.bool (decide (a = b))) :=
 pv_bin hx hy (by rw [eqGuard_at_int]) fun w => by rw [binOp_eql]; rfl
theorem pv_neq {k : IntKind} {a b : Int} {t u : TypeId} {x y : Operand} (hx : ev l x = some (.int k a)) (hy : ev l y = some (.int k b)) : PV P n w0 S l m ⟨dst, .binOp .neq t x y u, ty, pos, after, g⟩ (.bool (decide (a ≠ b))) :=
 pv_bin hx hy (by rw [eqGuard_at_int]) fun w => by
  rw [binOp_neq]
  show Result.ok (Value.bool (!(decide (a = b)))) w = _
  rw [decide_not]
theorem pv_eqlS {a b : List UInt8} {t u : TypeId} {x y : Operand} (hx : ev l x = some (.string (sB a))) (hy : ev l y = some (.string (sB b))) : PV P n w0 S l m ⟨dst, .binOp .eql t x y u, ty, pos, after, g⟩ (.bool (decide (a = b))) :=
 pv_bin hx hy (by rw [eqGuard_at_string]) fun w => by
  show Result.ok (Value.bool ((sB a).toList == (sB b).toList)) w = _
  rw [sB_toList, sB_toList]
  congr 2
  rw [Bool.eq_iff_iff]
  simp
theorem pv_neqS {a b : List UInt8} {t u : TypeId} {x y : Operand} (hx : ev l x = some (.string (sB a))) (hy : ev l y = some (.string (sB b))) : PV P n w0 S l m ⟨dst, .binOp .neq t x y u, ty, pos, after, g⟩ (.bool (decide (a ≠ b))) :=
 pv_bin hx hy (by rw [eqGuard_at_string]) fun w => by
  show Result.ok (Value.bool (!((sB a).toList == (sB b).toList))) w = _
  rw [sB_toList, sB_toList]
  congr 2
  rw [Bool.eq_iff_iff]
  simp
theorem pv_lssS {a b : List UInt8} {t u : TypeId} {x y : Operand} (hx : ev l x = some (.string (sB a))) (hy : ev l y = some (.string (sB b))) : PV P n w0 S l m ⟨dst, .binOp .lss t x y u, ty, pos, after, g⟩ (.bool (Op.bytesLess a b)) :=
 pv_bin hx hy rfl fun w => by
  show Result.ok (Value.bool (Op.bytesLess (sB a).toList (sB b).toList)) w = _
  rw [sB_toList, sB_toList]
theorem pv_gtrS {a b : List UInt8} {t u : TypeId} {x y : Operand} (hx : ev l x = some (.string (sB a))) (hy : ev l y = some (.string (sB b))) : PV P n w0 S l m ⟨dst, .binOp .gtr t x y u, ty, pos, after, g⟩ (.bool (!(Op.bytesLess a b || decide (a = b)))) :=
 pv_bin hx hy rfl fun w => by
  show Result.ok (Value.bool (!(Op.bytesLess (sB a).toList (sB b).toList || (sB a).toList == (sB b).toList))) w = _
  rw [sB_toList, sB_toList]
  congr 4
  rw [Bool.eq_iff_iff]
  simp
theorem run_eqB (ht : P.underlying ty = some .bool) (a b : Bool) (w : World) : ∀ d, (Op.equalIn (d + 1) ty (.bool a) (.bool b)).run P w = .ok (a == b) w := fun d => by
 simp [Op.equalIn, Sem.run_bind, run_underlying ht, Result.andThen, Sem.run_pure]
theorem run_eqP {e : TypeId} (ht : P.underlying ty = some (.pointer e)) (a : Option Addr) (w : World) : ∀ d, (Op.equalIn (d + 1) ty (.pointer a) (.pointer none)).run P w = .ok a.isNone w := fun d => by
 cases a <;> simp [Op.equalIn, Sem.run_bind, run_underlying ht, Result.andThen, Sem.run_pure]
theorem pv_neqB {a b : Bool} {t u : TypeId} {x y : Operand} (ht : P.underlying t = some .bool) (hx : ev l x = some (.bool a)) (hy : ev l y = some (.bool b)) : PV P n w0 S l m ⟨dst, .binOp .neq t x y u, ty, pos, after, g⟩ (.bool (!(a == b))) :=
 pv_bin hx hy (by rw [eqGuard_at_bool]) fun w => by
  show ((Op.equalIn Op.maxDepth t (.bool a) (.bool b)) >>= fun x => pure (Value.bool (!x))).run P w = _
  have h := run_eqB ht a b w 9999
  simp only [Sem.run_bind, show Op.maxDepth = 9999 + 1 from rfl, h, Result.andThen, Sem.run_pure]
theorem pv_eqlP0 {a : Option Addr} {t u e : TypeId} {x y : Operand} (ht : P.underlying t = some (.pointer e)) (hx : ev l x = some (.pointer a)) (hy : ev l y = some (.pointer none)) : PV P n w0 S l m ⟨dst, .binOp .eql t x y u, ty, pos, after, g⟩ (.bool a.isNone) :=
 pv_bin hx hy (by rw [eqGuard_at_pointer]) fun w => by
  show ((Op.equalIn Op.maxDepth t (.pointer a) (.pointer none)) >>= fun x => pure (Value.bool x)).run P w = _
  have h := run_eqP ht a w 9999
  simp only [Sem.run_bind, show Op.maxDepth = 9999 + 1 from rfl, h, Result.andThen, Sem.run_pure]
theorem pv_neqP0 {a : Option Addr} {t u e : TypeId} {x y : Operand} (ht : P.underlying t = some (.pointer e)) (hx : ev l x = some (.pointer a)) (hy : ev l y = some (.pointer none)) : PV P n w0 S l m ⟨dst, .binOp .neq t x y u, ty, pos, after, g⟩ (.bool a.isSome) :=
 pv_bin hx hy (by rw [eqGuard_at_pointer]) fun w => by
  show ((Op.equalIn Op.maxDepth t (.pointer a) (.pointer none)) >>= fun x => pure (Value.bool (!x))).run P w = _
  have h := run_eqP ht a w 9999
  simp only [Sem.run_bind, show Op.maxDepth = 9999 + 1 from rfl, h, Result.andThen, Sem.run_pure]
  cases a <;> rfl
theorem pv_un {op : UnOp} {t : TypeId} {x : Operand} {vx v : Value} (hx : ev l x = some vx) (hr : ∀ w, (Op.unary op vx).run P w = .ok v w) : PV P n w0 S l m ⟨dst, .unOp op t x, ty, pos, after, g⟩ v := fun a w ha _ => by
 show ((Op.unary op (a.eval x)) >>= fun x => pure (Next.value x)).run P w = _
 rw [ha.eval hx]
 exact run_v (hr w)
theorem pv_not {b : Bool} {t : TypeId} {x : Operand} (hx : ev l x = some (.bool b)) : PV P n w0 S l m ⟨dst, .unOp .not t x, ty, pos, after, g⟩ (.bool (!b)) := pv_un hx fun w => rfl
theorem pv_conv {t t' : TypeId} {x : Operand} {k k' : IntKind} {a : Int} (hs : (P.underlying t).isSome = true) (hd : P.underlying t' = some (.int k)) (hx : ev l x = some (.int k' a)) : PV P n w0 S l m ⟨dst, .convert t t' x, ty, pos, after, g⟩ (.int k (k.wrap a)) := fun act w ha _ => by
 show ((convert t t' (act.eval x)) >>= fun x => pure (Next.value x)).run P w = _
 rw [ha.eval hx]
 refine run_v ?_
 obtain ⟨d, hd'⟩ := Option.isSome_iff_exists.1 hs
 simp [convert, Sem.run_bind, run_underlying hd', run_underlying hd, Result.andThen, Conv.intToInt, Sem.run_pure]
theorem pv_extract {x : Operand} {i : Nat} {vs : Array Value} {v : Value} (hx : ev l x = some (.tuple vs)) (hi : vs[i]? = some v) : PV P n w0 S l m ⟨dst, .extract x i, ty, pos, after, g⟩ v := fun act w ha _ => by
 show ((Instr.extract (act.eval x) i) >>= fun x => pure (Next.value x)).run P w = _
 rw [ha.eval hx]
 refine run_v ?_
 simp [Instr.extract, hi, Sem.run_pure]
theorem pv_nilCheck {x : Operand} {ad : Addr} (hx : ev l x = some (.pointer (some ad))) : PV P n w0 S l m ⟨dst, .nilCheck x, ty, pos, after, g⟩ (.pointer (some ad)) := fun act w ha _ => by
 simp only [execOp, ha.eval hx]
 rfl
theorem pv_makeFunc {fn : Fn} {first captured : Array Operand} {vs us : List Value} (h1 : evs l first.toList = some vs) (h2 : evs l captured.toList = some us) : PV P n w0 S l m ⟨dst, .makeFunc fn first captured, ty, pos, after, g⟩ (.func fn vs.toArray us.toArray) := fun act w ha _ => by
 have e1 : first.map act.eval = vs.toArray := by rw [← ha.evs h1, ← Array.toList_map, Array.toArray_toList]
 have e2 : captured.map act.eval = us.toArray := by rw [← ha.evs h2, ← Array.toList_map, Array.toArray_toList]
 simp only [execOp, e1, e2, Instr.makeFunc]
 rfl
theorem pv_blt {b : Builtin} {xs : List Operand} {ts : Array TypeId} {vs : List Value} {v : Value} (hx : evs l xs = some vs) (hr : ∀ w cs, (builtin b ts ty cs vs.toArray).run P w = .ok (.value v) w) : PV P n w0 S l m ⟨dst, .call ⟨.builtin b, xs.toArray, ts⟩, ty, pos, after, g⟩ v := fun act w ha _ => by
 have e1 : xs.toArray.map act.eval = vs.toArray := by rw [← ha.evs hx]; simp
 simp only [execOp, resolve, e1]
 simp only [Sem.run_bind, Sem.run_pure, Result.andThen, invoke]
 exact hr w _
theorem pv_lenS {a : List UInt8} {t : TypeId} {x : Operand} (hu : P.underlying t = some .string) (hx : ev l x = some (.string (sB a))) : PV P n w0 S l m ⟨dst, .call ⟨.builtin .len, #[x], #[t]⟩, ty, pos, after, g⟩ (.int .i64 a.length) :=
 pv_blt (xs := [x]) (vs := [.string (sB a)]) (by simp [evs, hx]) fun w cs => run_v (by
  simp [Builtin.len_, Sem.run_bind, run_underlying hu, Result.andThen, Sem.run_pure, goInt, sB_size])
theorem pv_lenSl {ad : Option Addr} {len cap : Nat} {t e : TypeId} {x : Operand} (hu : P.underlying t = some (.slice e)) (hx : ev l x = some (.slice ad len cap)) : PV P n w0 S l m ⟨dst, .call ⟨.builtin .len, #[x], #[t]⟩, ty, pos, after, g⟩ (.int .i64 len) :=
 pv_blt (xs := [x]) (vs := [.slice ad len cap]) (by simp [evs, hx]) fun w cs => run_v (by
  simp [Builtin.len_, Sem.run_bind, run_underlying hu, Result.andThen, Sem.run_pure, goInt])
theorem pv_min {k : IntKind} {a b : Int} {ts : Array TypeId} {x y : Operand} (hx : ev l x = some (.int k a)) (hy : ev l y = some (.int k b)) : PV P n w0 S l m ⟨dst, .call ⟨.builtin .min, #[x, y], ts⟩, ty, pos, after, g⟩ (.int k (if b < a then b else a)) :=
 pv_blt (xs := [x, y]) (vs := [.int k a, .int k b]) (by simp [evs, hx, hy]) fun w cs => run_v (by
  simp [Builtin.min_, Builtin.min2, Sem.run_pure])
theorem pv_ixS {a : List UInt8} {k : Nat} {j : Int} {kd : IntKind} {t : TypeId} {x i : Operand} (hu : P.underlying t = some .string) (hx : ev l x = some (.string (sB a))) (hi : ev l i = some (.int kd j)) (hj : j = (k : Int)) (hk : k < a.length) : PV P n w0 S l m ⟨dst, .index t x i, ty, pos, after, g⟩ (.int .u8 (a[k].toNat : Int)) := fun act w ha _ => by
 show ((Instr.index t (act.eval x) (act.eval i)) >>= fun x => pure (Next.value x)).run P w = _
 rw [ha.eval hx, ha.eval hi]
 refine run_v ?_
 subst hj
 have h1 : (0 : Int) ≤ (k : Int) := by omega
 have h2 : (sB a)[k]? = some a[k] := by
  show (if h : k < (sB a).size then some (sB a)[k] else none) = _
  rw [dif_pos (by rw [sB_size]; exact hk)]
  congr 1
 simp [Instr.index, Sem.run_bind, asIntOf, run_underlying hu, Result.andThen, Sem.run_pure, h1, h2]
theorem pv_ixSl {b off len cap sz k : Nat} {ad : Option Addr} {j : Int} {kd : IntKind} {t e : TypeId} {x i : Operand} (hu : P.underlying t = some (.slice e)) (hsz : (P.info? e).map (·.size) = some sz) (hx : ev l x = some (.slice ad len cap)) (hi : ev l i = some (.int kd j))
 (ha' : 0 < len → ad = some ⟨b, off, none⟩) (hj : j = (k : Int)) (hk : k < len) : PV P n w0 S l m ⟨dst, .indexAddr t x i, ty, pos, after, g⟩ (.pointer (some ⟨b, off + k * sz, none⟩)) := fun act w ha _ => by
 show ((Instr.indexAt t (act.eval x) (act.eval i)) >>= fun x => pure (Next.value x)).run P w = _
 rw [ha.eval hx, ha.eval hi]
 refine run_v ?_
 subst hj
 obtain rfl := ha' (by omega)
 obtain ⟨ie, hie, hie2⟩ := Option.map_eq_some_iff.1 hsz
 have h1 : (0 : Int) ≤ (k : Int) := by omega
 have h2 : (k : Int) < (len : Int) := by omega
 have hs : ∀ w, (sizeOf e).run P w = .ok sz w := fun w => by
  simp [sizeOf, typeInfo, program, Sem.run, Sem.run_bind, hie, hie2, Result.andThen, Sem.run_pure]
 simp [Instr.indexAt, Sem.run_bind, asIntOf, run_underlying hu, Result.andThen, Sem.run_pure, h1, h2, hk, hs, Addr.add_mid]
theorem pv_ixA {b off len sz k : Nat} {j : Int} {kd : IntKind} {t e : TypeId} {x i : Operand} (hu : P.underlying t = some (.array len e)) (hsz : (P.info? e).map (·.size) = some sz) (hx : ev l x = some (.pointer (some ⟨b, off, none⟩))) (hi : ev l i = some (.int kd j))
 (hj : j = (k : Int)) (hk : k < len) : PV P n w0 S l m ⟨dst, .indexAddr t x i, ty, pos, after, g⟩ (.pointer (some ⟨b, off + k * sz, none⟩)) := fun act w ha _ => by
 show ((Instr.indexAt t (act.eval x) (act.eval i)) >>= fun x => pure (Next.value x)).run P w = _
 rw [ha.eval hx, ha.eval hi]
 refine run_v ?_
 subst hj
 obtain ⟨ie, hie, hie2⟩ := Option.map_eq_some_iff.1 hsz
 have h1 : (0 : Int) ≤ (k : Int) := by omega
 have h2 : (k : Int) < (len : Int) := by omega
 have hs : ∀ w, (sizeOf e).run P w = .ok sz w := fun w => by
  simp [sizeOf, typeInfo, program, Sem.run, Sem.run_bind, hie, hie2, Result.andThen, Sem.run_pure]
 simp [Instr.indexAt, Instr.sureAddr, Sem.run_bind, asIntOf, run_underlying hu, Result.andThen, Sem.run_pure, h1, h2, hk, hs, Addr.add_mid]
theorem pv_fieldAddr {b o i : Nat} {t : TypeId} {x : Operand} {fs : Array Field} {f : Field} {sz : Nat} (hu : P.underlying t = some (.struct fs)) (hf : fs[i]? = some f) (hsz : (P.info? f.type).map (·.size) = some (sz + 1)) (hx : ev l x = some (.pointer (some ⟨b, o, none⟩))) :
 PV P n w0 S l m ⟨dst, .fieldAddr t x i, ty, pos, after, g⟩ (.pointer (some ⟨b, o + f.offset, none⟩)) := fun act w ha _ => by
 show ((Instr.fieldAt t (act.eval x) i) >>= fun x => pure (Next.value x)).run P w = _
 rw [ha.eval hx]
 refine run_v ?_
 obtain ⟨ie, hie, hie2⟩ := Option.map_eq_some_iff.1 hsz
 have hs : ∀ w, (sizeOf f.type).run P w = .ok (sz + 1) w := fun w => by
  simp [sizeOf, typeInfo, program, Sem.run, Sem.run_bind, hie, hie2, Result.andThen, Sem.run_pure]
 simp [Instr.fieldAt, fieldPlace, Instr.sureAddr, Sem.run_bind, run_underlying hu, Result.andThen, Sem.run_pure, hf, hs, Addr.add_mid]
theorem pv_field1 {i : Nat} {t : TypeId} {x : Operand} {fs : Array Field} {f : Field} {d : TypeDesc} {cs : Array Value} {v : Value} (hu : P.underlying t = some (.struct fs)) (hf : fs[i]? = some f) (hd : P.underlying f.type = some d) (hr : d.isRow = false) (hx : ev l x = some (.agg cs)) (hv : cs[f.offset]? = some v) :
 PV P n w0 S l m ⟨dst, .field t x i, ty, pos, after, g⟩ v := fun act w ha _ => by
 show ((Instr.field t (act.eval x) i) >>= fun x => pure (Next.value x)).run P w = _
 rw [ha.eval hx]
 refine run_v ?_
 have hag : ∀ w, (isAgg f.type).run P w = .ok false w := fun w => by
  unfold isAgg
  simp only [Sem.run_bind, run_underlying hd, Result.andThen]
  cases d <;> first | rfl | cases hr
 simp [Instr.field, part, asAgg, Sem.run_bind, run_underlying hu, Result.andThen, Sem.run_pure, hf, hag, hv]
theorem pv_build {t : TypeId} {xs : Array (Nat × Operand)} {ps : List (Nat × Value)} {cells : Array Value} (hp : ∀ a : Act, At a n l → (xs.map fun (i, x) => (i, a.eval x)).toList = ps) (hb : P.built t ps = some cells) : PV P n w0 S l m ⟨dst, .build t xs, ty, pos, after, g⟩ (.agg cells) := fun act w ha _ => by
 show ((Instr.build t (xs.map fun (i, x) => (i, act.eval x))) >>= fun x => pure (Next.value x)).run P w = _
 exact run_v (run_build w _ _ cells (by rw [hp act ha]; exact hb))
end
def blk (b : Nat) (T : TypeId) (cs : List Value) : Ck := ⟨(· = b), fun w => w.heap[b]? = some (.cells cs.toArray T (0, 0)), fun w w' h hw => (h b rfl).trans hw⟩
def own (e : TypeId) (sz : Nat) (v : Value) (k : Nat) (cs : List Value) : Ck := ⟨fun b => v.ownBlock = some b, fun w => w.ownsRow 0 e sz v k cs, fun w w' h hw => by
 refine ⟨hw.1, ?_⟩
 rcases hw.2 with h1 | ⟨g, cap, cur, rfl, hb, hg, r⟩
 ·exact .inl h1
 ·exact .inr ⟨g, cap, cur, rfl, hb, (h g rfl).trans hg, r⟩⟩
structure Rdr (α : Type) where
 sz : Nat
 R : (Nat → Prop) → World → Nat → Nat → α → Prop
 loc : ∀ {Ps : Nat → Prop} {w w' : World} {b o : Nat} {x : α}, (∀ k, Ps k → w'.heap[k]? = w.heap[k]?) → R Ps w b o x → R Ps w' b o x
 mono : ∀ {Ps Qs : Nat → Prop} {w : World} {b o : Nat} {x : α}, (∀ k, Ps k → Qs k) → R Ps w b o x → R Qs w b o x
def r1 {α : Type} (f : α → Value) (p : α → Prop) : Rdr α where
 sz := 1
 R := fun Ps w b o x => Ps b ∧ w.cell? ⟨b, o, none⟩ = some (f x) ∧ p x
 loc := fun h ⟨h1, h2, h3⟩ => ⟨h1, (World.cell?_of_block (h _ h1)).trans h2, h3⟩
 mono := fun h ⟨h1, h2⟩ => ⟨h _ h1, h2⟩
def vInt (x : Int) : Value := .int .i64 x
def vByte (x : UInt8) : Value := .int .u8 (x.toNat : Int)
def vStr (x : List UInt8) : Value := .string (sB x)
def rInt : Rdr Int := r1 vInt I64
def rByte : Rdr UInt8 := r1 vByte fun _ => True
def rStr : Rdr (List UInt8) := r1 vStr fun x => x.length ≤ 9223372036854775807
structure SlV {α : Type} (E : Rdr α) (Ps : Nat → Prop) (w : World) (ad : Option Addr) (cap b off : Nat) (xs : List α) : Prop where
 hcap : xs.length ≤ cap
 hmax : cap ≤ 9223372036854775807
 hnil : ad = none → cap = 0
 had : 0 < xs.length → ad = some ⟨b, off, none⟩
 cell : ∀ i (h : i < xs.length), E.R Ps w b (off + i * E.sz) xs[i]
theorem SlV.loc {α : Type} {E : Rdr α} {Ps : Nat → Prop} {w w' : World} {ad : Option Addr} {cap b off : Nat} {xs : List α} (h : SlV E Ps w ad cap b off xs) (hk : ∀ k, Ps k → w'.heap[k]? = w.heap[k]?) : SlV E Ps w' ad cap b off xs :=
 ⟨h.hcap, h.hmax, h.hnil, h.had, fun i hi => E.loc hk (h.cell i hi)⟩
theorem SlV.mono {α : Type} {E : Rdr α} {Ps Qs : Nat → Prop} {w : World} {ad : Option Addr} {cap b off : Nat} {xs : List α} (h : SlV E Ps w ad cap b off xs) (hk : ∀ k, Ps k → Qs k) : SlV E Qs w ad cap b off xs :=
 ⟨h.hcap, h.hmax, h.hnil, h.had, fun i hi => E.mono hk (h.cell i hi)⟩
def IsSl {α : Type} (E : Rdr α) (Ps : Nat → Prop) (w : World) (v : Value) (xs : List α) : Prop := ∃ ad cap b off, v = .slice ad xs.length cap ∧ SlV E Ps w ad cap b off xs
theorem IsSl.loc {α : Type} {E : Rdr α} {Ps : Nat → Prop} {w w' : World} {v : Value} {xs : List α} (h : IsSl E Ps w v xs) (hk : ∀ k, Ps k → w'.heap[k]? = w.heap[k]?) : IsSl E Ps w' v xs :=
 let ⟨ad, cap, b, off, e, hs⟩ := h; ⟨ad, cap, b, off, e, hs.loc hk⟩
theorem IsSl.mono {α : Type} {E : Rdr α} {Ps Qs : Nat → Prop} {w : World} {v : Value} {xs : List α} (h : IsSl E Ps w v xs) (hk : ∀ k, Ps k → Qs k) : IsSl E Qs w v xs :=
 let ⟨ad, cap, b, off, e, hs⟩ := h; ⟨ad, cap, b, off, e, hs.mono hk⟩
def slc {α : Type} (E : Rdr α) (Ps : Nat → Prop) (v : Value) (xs : List α) : Ck := ⟨Ps, fun w => IsSl E Ps w v xs, fun w w' h hw => hw.loc h⟩
def elc {α : Type} (E : Rdr α) (Ps : Nat → Prop) (b o : Nat) (x : α) : Ck := ⟨Ps, fun w => E.R Ps w b o x, fun w w' h hw => E.loc h hw⟩
section
variable {P : Program} {n : Nat} {w0 : World} {S : Nat → Prop} {l : Fr} {m : List Ck} {Q : Exit → Act → World → Prop} {K : Act → World → Prop}
 {dst : Option Tmp} {ty : TypeId} {pos : String} {after : Array Edge} {g : Option (Nat × Bool)}
theorem Ro.open {α : Type} {E : Rdr α} {Ps : Nat → Prop} {v : Value} {xs : List α} (h : Ro w0 S (slc E Ps v xs)) : ∃ ad cap b off, v = .slice ad xs.length cap ∧ xs.length ≤ cap ∧ cap ≤ 9223372036854775807 ∧ (ad = none → cap = 0) ∧ (0 < xs.length → ad = some ⟨b, off, none⟩) ∧ ∀ i (hi : i < xs.length), Ro w0 S (elc E Ps b (off + i * E.sz) xs[i]) := by
 obtain ⟨⟨ad, cap, b, off, e, hs⟩, hP⟩ := h
 exact ⟨ad, cap, b, off, e, hs.hcap, hs.hmax, hs.hnil, hs.had, fun i hi => ⟨hs.cell i hi, hP⟩⟩
theorem Sel.mem {r : List Ck} {c : Ck} (h : Sel m c r) : c ∈ m := h.perm.mem_iff.2 (List.mem_cons_self ..)
theorem Hp.sel {w : World} {r : List Ck} {c : Ck} (hw : Hp w0 S w m) (h : Sel m c r) : Hp w0 S w (c :: r) := hw.perm h.perm
theorem isAgg_false {t : TypeId} {d : TypeDesc} (hu : P.underlying t = some d) (hd : d.isRow = false) (w : World) : (isAgg t).run P w = .ok false w := by
 unfold isAgg
 simp only [Sem.run_bind, run_underlying hu, Result.andThen]
 cases d <;> first | rfl | cases hd
theorem run_sizeOf {t : TypeId} {k : Nat} (h : (P.info? t).map (·.size) = some k) (w : World) : (sizeOf t).run P w = .ok k w := by
 obtain ⟨ie, hie, hie2⟩ := Option.map_eq_some_iff.1 h
 simp [sizeOf, typeInfo, program, Sem.run, Sem.run_bind, hie, hie2, Result.andThen, Sem.run_pure]
theorem pv_load {t : TypeId} {x : Operand} {b o : Nat} {d : TypeDesc} {v : Value} (hu : P.underlying t = some d) (hd : d.isRow = false) (hx : ev l x = some (.pointer (some ⟨b, o, none⟩))) (hc : ∀ w, Hp w0 S w m → w.cell? ⟨b, o, none⟩ = some v) : PV P n w0 S l m ⟨dst, .load t x, ty, pos, after, g⟩ v := fun act w ha hw => by
 show ((Instr.loadAt t (act.eval x)) >>= fun x => pure (Next.value x)).run P w = _
 rw [ha.eval hx]
 refine run_v ?_
 simp [Instr.loadAt, Instr.sureAddr, loadVar, load, Sem.run_bind, isAgg_false hu hd, Result.andThen, Sem.run_pure, Sem.run, hc w hw]
theorem pv_loadN {t : TypeId} {x : Operand} {b o : Nat} {d : TypeDesc} {cs : List Value} (hu : P.underlying t = some d) (hd : d.isRow = true) (hi : (P.info? t).map (·.size) = some cs.length) (hx : ev l x = some (.pointer (some ⟨b, o, none⟩))) (hc : ∀ w, Hp w0 S w m → w.rangeAt b o cs) : PV P n w0 S l m ⟨dst, .load t x, ty, pos, after, g⟩ (.agg cs.toArray) := fun act w ha hw => by
 show ((Instr.loadAt t (act.eval x)) >>= fun x => pure (Next.value x)).run P w = _
 rw [ha.eval hx]
 exact run_v (run_loadAt_mid w b o t cs d (hc w hw) hu hd hi)
theorem blk_cell {b o : Nat} {T : TypeId} {cs : List Value} {r : List Ck} {v : Value} (h : Sel m (blk b T cs) r) (hv : cs[o]? = some v) : ∀ w, Hp w0 S w m → w.cell? ⟨b, o, none⟩ = some v := fun w hw => by
 have := (hw.sel h).holds _ (List.mem_cons_self ..)
 rw [cell_of_row _ _ _ _ _ _ this, List.getElem?_toArray, hv]
theorem blk_range {b o k : Nat} {T : TypeId} {cs xs : List Value} {r : List Ck} (h : Sel m (blk b T cs) r) (hv : (cs.drop o).take k = xs) : ∀ w, Hp w0 S w m → w.rangeAt b o xs := fun w hw j v hj => by
 have := (hw.sel h).holds _ (List.mem_cons_self ..)
 rw [cell_of_row _ _ _ _ _ _ this, List.getElem?_toArray]
 rw [← hv, List.getElem?_take] at hj
 split at hj
 ·rwa [List.getElem?_drop] at hj
 ·cases hj
theorem ro_cell {α : Type} {f : α → Value} {p : α → Prop} {Ps : Nat → Prop} {b o : Nat} {x : α} (h : Ro w0 S (elc (r1 f p) Ps b o x)) : ∀ w, Hp w0 S w m → w.cell? ⟨b, o, none⟩ = some (f x) := fun w hw => (h.at hw).2.1
theorem ro_int {Ps : Nat → Prop} {b o : Nat} {x : Int} (h : Ro w0 S (elc rInt Ps b o x)) : ∀ w, Hp w0 S w m → w.cell? ⟨b, o, none⟩ = some (.int .i64 x) := ro_cell (f := vInt) h
theorem ro_byte {Ps : Nat → Prop} {b o : Nat} {x : UInt8} (h : Ro w0 S (elc rByte Ps b o x)) : ∀ w, Hp w0 S w m → w.cell? ⟨b, o, none⟩ = some (.int .u8 (x.toNat : Int)) := ro_cell (f := vByte) h
theorem ro_str {Ps : Nat → Prop} {b o : Nat} {x : List UInt8} (h : Ro w0 S (elc rStr Ps b o x)) : ∀ w, Hp w0 S w m → w.cell? ⟨b, o, none⟩ = some (.string (sB x)) := ro_cell (f := vStr) h
theorem Hp.alloc {w : World} (hw : Hp w0 S w m) (cs : List Value) (T : TypeId) : Hp w0 S (w.alloc (.cells cs.toArray T)) (blk w.heap.size T cs :: m) := by
 refine hw.adds (m' := [blk w.heap.size T cs]) ⟨(Chg.refl _ _).alloc _, fun c hc => ?_, fun c hc b hb => ?_, by simp⟩
 ·obtain rfl : c = _ := by simpa using hc
  exact heap_alloc_new _ _
 ·obtain rfl : c = _ := by simpa using hc
  obtain rfl : b = _ := hb
  exact ⟨.inr (Nat.le_refl _), by simp⟩
theorem G.alloc {T d : Nat} {z : Value} (hn : Nat.blt d n = true) (hz : (P.info? T).bind (·.zero) = some z) {cs : List Value} (hcs : z.cells.toList = cs) (h : ∀ b, G n w0 S ((d, .pointer (some ⟨b, 0, none⟩)) :: l) (blk b T cs :: m) K) :
 G n w0 S l m (fun a w => Oper.wp P ⟨some d, .alloc T, ty, pos, after, g⟩ a w K Q) := G.eff rfl hn fun a w ha hw => by
 obtain ⟨i, hi, hi2⟩ := Option.bind_eq_some_iff.1 hz
 refine ⟨_, _, _, run_v (s := Instr.alloc T true (.tuple #[])) (v := .pointer (some ⟨w.heap.size, 0, none⟩)) (w' := w.alloc (.cells cs.toArray T)) ?_, hw.alloc cs T, h _⟩
 have e : z.cells = cs.toArray := by rw [← hcs]
 simp [Instr.alloc, zeroValue, typeInfo, program, newVar, newRow, newObj, Sem.run_bind, Sem.run, hi, hi2, Result.andThen, Sem.run_pure, e]
theorem G.box {T d : Nat} {x : Operand} {v : Value} (hn : Nat.blt d n = true) (hx : ev l x = some v) {cs : List Value} (hcs : v.cells = cs.toArray) (h : ∀ b, G n w0 S ((d, .pointer (some ⟨b, 0, none⟩)) :: l) (blk b T cs :: m) K) :
 G n w0 S l m (fun a w => Oper.wp P ⟨some d, .box T x, ty, pos, after, g⟩ a w K Q) := G.eff rfl hn fun a w ha hw => by
 refine ⟨_, _, _, run_v (s := Instr.box T (a.eval x)) (v := .pointer (some ⟨w.heap.size, 0, none⟩)) (w' := w.alloc (.cells cs.toArray T)) ?_, hw.alloc cs T, h _⟩
 rw [ha.eval hx]
 simp [Instr.box, newVar, newRow, newObj, Sem.run_bind, Sem.run, Result.andThen, Sem.run_pure, hcs]
def pevs (l : Fr) : List (Nat × Operand) → Option (List (Nat × Value))
 | [] => some []
 | (i, x) :: xs => match ev l x, pevs l xs with
  | some v, some vs => some ((i, v) :: vs)
  | _, _ => none
theorem At.pevs {a : Act} (ha : At a n l) : ∀ {xs : List (Nat × Operand)} {vs : List (Nat × Value)}, Go.Proofs.YtcgacpmippdkeaaGreat.pevs l xs = some vs → (xs.toArray.map fun (i, x) => (i, a.eval x)).toList = vs
 | [], vs, h => by simp [Go.Proofs.YtcgacpmippdkeaaGreat.pevs] at h; subst h; simp
 | (i, x) :: xs, vs, h => by
  unfold Go.Proofs.YtcgacpmippdkeaaGreat.pevs at h
  split at h
  ·rename_i v us h1 h2
   injection h with h
   subst h
   have := ha.pevs h2
   rw [Array.toList_map] at this ⊢
   rw [show ((i, x) :: xs).toArray.toList = (i, x) :: xs.toArray.toList from rfl, List.map_cons, this]
   show (i, a.eval x) :: us = _
   rw [ha.eval h1]
  ·cases h
theorem G.buildSlice {t e d len sz : Nat} {xs : List (Nat × Operand)} {ps : List (Nat × Value)} {z : Value} {cs : List Value} (hn : Nat.blt d n = true) (hu : P.underlying t = some (.slice e)) (hz : (P.info? e).map (fun i => (i.zero, i.size)) = some (some z, sz)) (hsm : len * sz ≤ 2 ^ 24) (hpos : 0 < len * sz)
 (hp : pevs l xs = some ps) (hf : Instr.fill (fun i => some (i * sz, sz)) ((Array.range (len * sz)).map (z.cells[· % z.cells.size]!)) ps = some cs.toArray)
 (h : ∀ b, G n w0 S ((d, .slice (some ⟨b, 0, none⟩) len len) :: l) (blk b e cs :: m) K) :
 G n w0 S l m (fun a w => Oper.wp P ⟨some d, .buildSlice t len xs.toArray, ty, pos, after, g⟩ a w K Q) := G.eff rfl hn fun a w ha hw => by
 obtain ⟨i, hi, hi2⟩ := Option.map_eq_some_iff.1 hz
 have hi3 : i.zero = some z := congrArg Prod.fst hi2
 have hi4 : i.size = sz := congrArg Prod.snd hi2
 subst hi4
 exact ⟨_, _, _, run_v (run_buildSlice w t e len _ cs.toArray i z hu hi hi3 (by omega) (by omega) (by rw [ha.pevs hp]; exact hf)), hw.alloc cs e, h _⟩
theorem G.lit1 {t e d : Nat} {len : Nat} {xs : List (Nat × Operand)} {vs : List Value} (hn : Nat.blt d n = true) (hu : P.underlying t = some (.slice e)) (hz : (P.info? e).map (fun i => (i.zero.isSome, i.size)) = some (true, 1)) (hlen : vs.length = len) (hpos : 0 < len) (hsm : len ≤ 2 ^ 24)
 (hp : pevs l xs = some ((vs.zipIdx 0).map fun x => (x.2, x.1))) (hv : vs.all (·.oneCell') = true)
 (h : ∀ b, G n w0 S ((d, .slice (some ⟨b, 0, none⟩) len len) :: l) (blk b e vs :: m) K) :
 G n w0 S l m (fun a w => Oper.wp P ⟨some d, .buildSlice t len xs.toArray, ty, pos, after, g⟩ a w K Q) := by
 obtain ⟨i, hi, hi2⟩ := Option.map_eq_some_iff.1 hz
 have hi3 : i.zero.isSome = true := congrArg Prod.fst hi2
 have hi4 : i.size = 1 := congrArg Prod.snd hi2
 obtain ⟨z, hzz⟩ := Option.isSome_iff_exists.1 hi3
 refine G.buildSlice (z := z) (sz := 1) (ps := _) hn hu (by rw [hi]; simp [hzz, hi4]) (by omega) (by omega) hp ?_ h
 exact Great.fill_flat _ _ (fun v hv' => by have := List.all_eq_true.1 hv v hv'; cases v <;> first | rfl | cases this) (by simp [hlen])
theorem G.lit0 {t e d : Nat} {xs : Array (Nat × Operand)} (hn : Nat.blt d n = true) (hu : P.underlying t = some (.slice e)) (hz : ((P.info? e).map (·.size)).isSome = true) (hx : xs = #[])
 (h : ∀ b, G n w0 S ((d, .slice (some ⟨b, 0, none⟩) 0 0) :: l) (blk b e [] :: m) K) :
 G n w0 S l m (fun a w => Oper.wp P ⟨some d, .buildSlice t 0 xs, ty, pos, after, g⟩ a w K Q) := G.eff rfl hn fun a w ha hw => by
 obtain ⟨k, hk⟩ := Option.isSome_iff_exists.1 hz
 obtain ⟨i, hi, hi2⟩ := Option.map_eq_some_iff.1 hk
 have key : ∀ ps : Array (Nat × Value), ps = #[] → (Instr.buildSlice t 0 ps).run P w = .ok (.slice (some ⟨w.heap.size, 0, none⟩) 0 0) (w.alloc (.cells #[] e)) := fun ps hp => by
  subst hp
  simp [Instr.buildSlice, run_underlying hu, sizeOf, typeInfo, hi, newRow, Instr.fill]
  rw [show Array.range 0 = #[] from rfl]
  simp
 exact ⟨_, _, _, run_v (key _ (by rw [hx]; simp)), hw.alloc [] e, h _⟩
theorem Hp.put {w : World} {b o : Nat} {T : TypeId} {cs : List Value} {r : List Ck} (hw : Hp w0 S w (blk b T cs :: r)) (v : Value) : Hp w0 S (w.setCell ⟨b, o, none⟩ v) (blk b T (cs.set o v) :: r) := by
 have hh := hw.holds _ (List.mem_cons_self ..)
 refine Hp.turn (p := [blk b T cs]) (p' := [blk b T (cs.set o v)]) hw ⟨(Chg.refl _ _).setCell ⟨_, List.mem_cons_self .., rfl⟩ v, fun c hc => ?_, fun c hc k hk => ?_, by simp⟩
 ·obtain rfl : c = _ := by simpa using hc
  have := heap_setCell_same w b o cs.toArray T v hh
  show (w.setCell ⟨b, o, none⟩ v).heap[b]? = _
  rw [this]
  simp
 ·obtain rfl : c = _ := by simpa using hc
  obtain rfl : k = b := hk
  refine ⟨.inl ⟨_, List.mem_cons_self .., rfl⟩, ?_⟩
  have := (hw.own _ (List.mem_cons_self ..) k rfl).2
  simpa [World.setCell] using this
theorem G.store {t : TypeId} {x y : Operand} {b o : Nat} {T : TypeId} {cs : List Value} {r : List Ck} {v : Value} (hi : (P.info? t).map (·.size) = some 1) (hx : ev l x = some (.pointer (some ⟨b, o, none⟩))) (hy : ev l y = some v) (hv : v.oneCell' = true) (hs : Sel m (blk b T cs) r) (ho : o < cs.length)
 (h : G n w0 S l (blk b T (cs.set o v) :: r) K) : G n w0 S l m (fun a w => Oper.wp P ⟨none, .store t x y, ty, pos, after, g⟩ a w K Q) := G.act rfl fun a w ha hw => by
 have hw' := hw.sel hs
 have hh := hw'.holds _ (List.mem_cons_self ..)
 refine ⟨_, _, run_u (s := Instr.storeAt t (a.eval x) (a.eval y)) (w' := w.setCell ⟨b, o, none⟩ v) ?_, hw'.put v, h⟩
 rw [ha.eval hx, ha.eval hy]
 have h1 : v.cells = #[v] := by cases v <;> first | rfl | cases hv
 have hc : w.cell? ⟨b, o, none⟩ = some cs[o] := by rw [cell_of_row _ _ _ _ _ _ hh, List.getElem?_toArray, List.getElem?_eq_getElem ho]
 have hf : w.frozen? ⟨b, o, none⟩ = false := frozen_of_row _ _ _ _ _ hh
 have hst : (Go.store ⟨b, o, none⟩ v).run P w = .ok () (w.setCell ⟨b, o, none⟩ v) := by
  cases v <;> first | (simp [Go.store, Sem.run, hc, hf]; done) | cases hv
 have e0 : (⟨b, o, none⟩ : Addr).add 0 = ⟨b, o, none⟩ := by simp [Addr.add]
 simp [Instr.storeAt, Instr.sureAddr, storeVar, storeCells, Sem.run_bind, run_sizeOf hi, Result.andThen, Sem.run_pure, h1, e0, hst]
def putN (cs : List Value) (o : Nat) : List Value → List Value
 | [] => cs
 | v :: vs => putN (cs.set o v) (o + 1) vs
theorem setCells_blk {b : Nat} {T : TypeId} : ∀ (vs cs : List Value) (o : Nat) {w : World} {r : List Ck}, Hp w0 S w (blk b T cs :: r) → Hp w0 S (w.setCells b o vs) (blk b T (putN cs o vs) :: r)
 | [], cs, o, w, r, hw => hw
 | v :: vs, cs, o, w, r, hw => setCells_blk vs (cs.set o v) (o + 1) (hw.put (o := o) v)
theorem putN_all (vs : List Value) : ∀ (cs pre : List Value), cs.length = vs.length → putN (pre ++ cs) pre.length vs = pre ++ vs := by
 induction vs with
 | nil => intro cs pre h; simp at h; subst h; rfl
 | cons v vs ih =>
  intro cs pre h
  cases cs with
  | nil => cases h
  | cons c cs =>
   have e : (pre ++ c :: cs).set pre.length v = (pre ++ [v]) ++ cs := by simp
   have := ih cs (pre ++ [v]) (by simpa using h)
   rw [List.length_append] at this
   unfold putN
   rw [e]
   simpa using this
theorem putN_whole (vs cs : List Value) (h : cs.length = vs.length) : putN cs 0 vs = vs := putN_all vs cs [] h
theorem G.storeN {t : TypeId} {x y : Operand} {b o : Nat} {T : TypeId} {cs vs : List Value} {r : List Ck} (hi : (P.info? t).map (·.size) = some vs.length) (hx : ev l x = some (.pointer (some ⟨b, o, none⟩))) (hy : ev l y = some (.agg vs.toArray)) (hv : vs.all (·.oneCell') = true) (hs : Sel m (blk b T cs) r) (ho : o + vs.length ≤ cs.length)
 (h : G n w0 S l (blk b T (putN cs o vs) :: r) K) : G n w0 S l m (fun a w => Oper.wp P ⟨none, .store t x y, ty, pos, after, g⟩ a w K Q) := G.act rfl fun a w ha hw => by
 have hw' := hw.sel hs
 have hh := hw'.holds _ (List.mem_cons_self ..)
 refine ⟨_, _, run_u (s := Instr.storeAt t (a.eval x) (a.eval y)) (w' := w.setCells b o vs) ?_, setCells_blk vs cs o hw', h⟩
 rw [ha.eval hx, ha.eval hy]
 exact run_storeAt_mid w b o t vs.toArray (fun j hj => by
  have hj' : j < vs.length := by simpa using hj
  refine ⟨?_, frozen_of_row _ _ _ _ _ hh⟩
  rw [cell_of_row _ _ _ _ _ _ hh, List.getElem?_toArray, List.getElem?_eq_getElem (by omega)]
  rfl) (by simpa using hi) (by simpa using hv)
end
section
variable {P : Program} {n : Nat} {w0 : World} {S : Nat → Prop} {l : Fr} {m : List Ck} {Q : Exit → Act → World → Prop} {K : Act → World → Prop}
 {dst : Option Tmp} {ty : TypeId} {pos : String} {after : Array Edge} {g : Option (Nat × Bool)}
inductive Fa (args : Array Value) : Fr → Prop
 | nil : Fa args []
 | cons {t : Nat} {v : Value} {l : Fr} (h : args[t]? = some v) (r : Fa args l) : Fa args ((t, v) :: l)
theorem Fa.get {args : Array Value} {l : Fr} (h : Fa args l) : ∀ t v, Fr.get l t = some v → args[t]? = some v := by
 induction h with
 | nil => intro t v ht; cases ht
 | cons hx _ ih =>
  intro t v ht
  unfold Fr.get at ht
  split at ht
  ·rename_i e
   have e' := Nat.eq_of_beq_eq_true e
   subst e'
   injection ht with ht
   subst ht
   exact hx
  ·exact ih t v ht
def TrR (w0 : World) (pre : List Ck) (post : Value → List Ck → Prop) (e : Ending) (w' : World) : Prop := ∃ v m', e = .returned v ∧ post v m' ∧ Hp w0 (U pre) w' m'
theorem Tr.of {f : FuncId} {args : Array Value} {ro pre : List Ck} {post : Value → List Ck → Prop} {fn : Func} {c : Code} {n : Nat} {l : Fr} (hf : P.funcs[f]? = some fn) (hb : fn.body = some c) (hn : args.size + (fn.ntmps - args.size) = n) (hl : Fa args l)
 (h : ∀ w0, (∀ c ∈ ro, Ro w0 (U pre) c) → G n w0 (U pre) l pre (c.wp P (bodyPost P fn (TrR w0 pre post)))) : Tr P f args ro pre post := fun w hro hp =>
 calls_of_G hf hb hn hl.get hp (h w hro)
theorem G.done1 {fn : Func} {pre : List Ck} {post : Value → List Ck → Prop} {t : Nat} {v : Value} {m' r : List Ck} (hr : fn.results = #[.tmp t]) (ht : Fr.get l t = some v) (hs : Sub m m' r) (hp : post v m') : G n w0 (U pre) l m (bodyPost P fn (TrR w0 pre post) .ret) :=
 G.ret1 hr ht fun w hw => ⟨v, m', rfl, hp, (hw.perm hs.perm).sub (List.sublist_append_left _ _)⟩
theorem G.done2 {fn : Func} {pre : List Ck} {post : Value → List Ck → Prop} {t u : Nat} {v x : Value} {m' r : List Ck} (hr : fn.results = #[.tmp t, .tmp u]) (ht : Fr.get l t = some v) (hu : Fr.get l u = some x) (hs : Sub m m' r) (hp : post (.tuple #[v, x]) m') : G n w0 (U pre) l m (bodyPost P fn (TrR w0 pre post) .ret) :=
 G.ret2 hr ht hu fun w hw => ⟨_, m', rfl, hp, (hw.perm hs.perm).sub (List.sublist_append_left _ _)⟩
theorem G.done3 {fn : Func} {pre : List Ck} {post : Value → List Ck → Prop} {t u s : Nat} {v x y : Value} {m' r : List Ck} (hr : fn.results = #[.tmp t, .tmp u, .tmp s]) (ht : Fr.get l t = some v) (hu : Fr.get l u = some x) (hy : Fr.get l s = some y) (hs : Sub m m' r) (hp : post (.tuple #[v, x, y]) m') : G n w0 (U pre) l m (bodyPost P fn (TrR w0 pre post) .ret) :=
 G.ret3 hr ht hu hy fun w hw => ⟨_, m', rfl, hp, (hw.perm hs.perm).sub (List.sublist_append_left _ _)⟩
theorem G.done0 {fn : Func} {pre : List Ck} {post : Value → List Ck → Prop} {m' r : List Ck} (hr : fn.results = #[]) (hs : Sub m m' r) (hp : post (.tuple #[]) m') : G n w0 (U pre) l m (bodyPost P fn (TrR w0 pre post) .ret) :=
 G.ret0 hr fun w hw => ⟨_, m', rfl, hp, (hw.perm hs.perm).sub (List.sublist_append_left _ _)⟩
theorem G.doneE {fn : Func} {pre : List Ck} {post : Value → List Ck → Prop} {m' r : List Ck} (hr : fn.results = #[]) (hs : Sub m m' r) (hp : post (.tuple #[]) m') : G n w0 (U pre) l m (bodyPost P fn (TrR w0 pre post) .normal) :=
 G.end0 hr fun w hw => ⟨_, m', rfl, hp, (hw.perm hs.perm).sub (List.sublist_append_left _ _)⟩
theorem G.doneBy {fn : Func} {pre : List Ck} {post : Value → List Ck → Prop} {v : Value} {m' r : List Ck} (hr : ∀ a w, At a n l → Hp w0 (U pre) w m → (results fn a.tmps).run P w = .ok v w) (hs : Sub m m' r) (hp : post v m') : G n w0 (U pre) l m (bodyPost P fn (TrR w0 pre post) .ret) :=
 G.retBy hr fun w hw => ⟨_, m', rfl, hp, (hw.perm hs.perm).sub (List.sublist_append_left _ _)⟩
def T0 (v : Value) : Value → List Ck → Prop := fun x m => x = v ∧ m = []
theorem G.call0 {o : Oper} {d : Nat} {f : FuncId} {xs : List Operand} {ts : Array TypeId} {vs : List Value} {ro : List Ck} {v : Value} (hd : o.dst = some d) (hn : Nat.blt d n = true)
 (ho : o.op = .call { callee := .value (.func f), args := xs.toArray, argTypes := ts }) (hx : evs l xs = some vs) {fn : Func} {c : Code} (hf : P.funcs[f]? = some fn) (hb : fn.body = some c) (hnm : (fn.name == "runtime.NumGoroutine") = false)
 (ht : Tr P f vs.toArray ro [] (T0 v)) (hro : ∀ c ∈ ro, May w0 S m c) (h : G n w0 S ((d, v) :: l) m K) : G n w0 S l m (fun a w => o.wp P a w K Q) :=
 G.tr hd hn ho hx hf hb hnm ht .nil hro fun x m' ⟨hx, hm⟩ => by subst hx; subst hm; exact h
theorem may0 : ∀ c ∈ ([] : List Ck), May w0 S m c := fun c hc => by cases hc
theorem may1 {c : Ck} (h : May w0 S m c) : ∀ d ∈ [c], May w0 S m d := fun d hd => by obtain rfl : d = c := (by simpa using hd); exact h
theorem may2 {c d : Ck} (h : May w0 S m c) (k : May w0 S m d) : ∀ x ∈ [c, d], May w0 S m x := fun x hx => by
 rcases List.mem_cons.1 hx with rfl | hx
 ·exact h
 ·obtain rfl : x = d := (by simpa using hx); exact k
theorem may3 {c d e : Ck} (h : May w0 S m c) (k : May w0 S m d) (i : May w0 S m e) : ∀ x ∈ [c, d, e], May w0 S m x := fun x hx => by
 rcases List.mem_cons.1 hx with rfl | hx
 ·exact h
 ·exact may2 k i x hx
theorem ro1 {c : Ck} (h : ∀ d ∈ [c], Ro w0 S d) : Ro w0 S c := h c (List.mem_cons_self ..)
theorem ro2 {c d : Ck} (h : ∀ x ∈ [c, d], Ro w0 S x) : Ro w0 S c ∧ Ro w0 S d := ⟨h c (List.mem_cons_self ..), h d (List.mem_cons_of_mem _ (List.mem_cons_self ..))⟩
theorem ro3 {c d e : Ck} (h : ∀ x ∈ [c, d, e], Ro w0 S x) : Ro w0 S c ∧ Ro w0 S d ∧ Ro w0 S e := ⟨h c (List.mem_cons_self ..), ro2 fun x hx => h x (List.mem_cons_of_mem _ hx)⟩
theorem Sel.may {r : List Ck} {c : Ck} (h : Sel m c r) : May w0 S m c := .own h.mem
def wantB (ops : Array Oper) (l : Fr) (o : Oper) : Option Bool :=
 match o.guard with
 | none => some true
 | some (j, b) => match (ops[j]?).bind (·.dst) with
  | some t => match Fr.get l t with
   | some (.bool c) => some (!(Bool.xor b c))
   | _ => none
  | none => none
theorem At.wanted {a : Act} {ops : Array Oper} {o : Oper} {b : Bool} (ha : At a n l) (h : wantB ops l o = some b) : Region.wanted o (Go.yielded ops a.tmps) = b := by
 unfold wantB at h
 unfold Region.wanted
 split at h
 ·rename_i hg
  rw [hg]
  injection h
 ·rename_i j b' hg
  rw [hg]
  split at h
  ·rename_i t ht
   split at h
   ·rename_i c hc
    injection h with h
    subst h
    simp only
    rw [ha.yielded ht hc]
    cases b' <;> cases c <;> rfl
   ·cases h
  ·cases h
section
variable {ops : Array Oper} {mS r : List Ck} {fuel i d : Nat} {listed : Array Bool} {oi : Oper} {v : Value}
theorem G.drawn {id k : Nat} (hm : P.follows .mixedOrders = true) (hk : ops.size = k) (mS : List Ck) (h : G n w0 S l m (wpAnyH P .any ops Q (fun w => Hp w0 S w mS) k (Array.replicate k false))) : G n w0 S l m ((Code.region id ops true).wp P Q) := fun a w ha hw => by
 subst hk
 exact wp_region_held hm (h a w.drew ha hw.drew)
theorem G.take (hi : ops[i]? = some oi) (hd : oi.dst = some d) (hn : Nat.blt d n = true) (hns : Region.noSelect ops = true) (hf : Region.free .any ops listed i = true) (hr : (Region.ready .any ops listed).contains i = true)
 (hQ : ∀ c a w, Q (.panic c) (a.put oi.dst v) w → Q (.panic c) a w) (hw : wantB ops l oi = some true) (hv : PV P n w0 S l mS oi v) (hs : Sub m mS r)
 (h : G n w0 S ((d, v) :: l) m (wpAnyH P .any ops Q (fun w => Hp w0 S w mS) fuel (listed.setIfInBounds i true))) : G n w0 S l m (wpAnyH P .any ops Q (fun w => Hp w0 S w mS) (fuel + 1) listed) := fun a w ha hw' =>
 wpAnyH_take hi hns hf hr hQ (.inl ⟨ha.wanted hw, fun w hS => hv a w ha hS⟩) ((hw'.perm hs.perm).sub (List.sublist_append_left _ _)) (by
  rw [hd]
  exact h _ _ (ha.put hn v) hw')
theorem G.turnOp {K' : Act → World → Prop} (hi : ops[i]? = some oi) (hw : wantB ops l oi = some true) (h : G n w0 S l m (fun a w => oi.wp P a w K' Q)) : G n w0 S l m (wpOp P ops Q i K') := fun a w ha hw' => by
 unfold wpOp
 rw [hi]
 simp only
 rw [if_pos (ha.wanted hw)]
 exact .inl (h a w ha hw')
theorem G.all {rs : List Nat} {Sx : World → Prop} (hr : Region.ready .any ops listed = rs) (hne : rs.isEmpty = false) (h : ∀ i ∈ rs, G n w0 S l m (wpOp P ops Q i (fun a w => Sx w ∧ wpAnyH P .any ops Q Sx fuel (listed.setIfInBounds i true) a w))) : G n w0 S l m (wpAnyH P .any ops Q Sx (fuel + 1) listed) := fun a w ha hw =>
 wpAnyH_all hr (fun e => by rw [e] at hne; cases hne) fun i hi => h i hi a w ha hw
theorem G.one {i : Nat} {Sx : World → Prop} (hr : Region.ready .any ops listed = [i]) (h : G n w0 S l m (wpOp P ops Q i (fun a w => Sx w ∧ wpAnyH P .any ops Q Sx fuel (listed.setIfInBounds i true) a w))) : G n w0 S l m (wpAnyH P .any ops Q Sx (fuel + 1) listed) :=
 G.all hr rfl fun j hj => by obtain rfl : j = i := (by simpa using hj); exact h
theorem G.back {K' : Act → World → Prop} (hs : Sub m mS r) (h : G n w0 S l m K') : G n w0 S l m (fun a w => Hp w0 S w mS ∧ K' a w) := fun a w ha hw => ⟨(hw.perm hs.perm).sub (List.sublist_append_left _ _), h a w ha hw⟩
theorem G.over {Sx : World → Prop} (hr : Region.ready .any ops listed = []) (h : G n w0 S l m (Q .normal)) : G n w0 S l m (wpAnyH P .any ops Q Sx fuel listed) := fun a w ha hw => wpAnyH_done hr (h a w ha hw) fuel
end
end
def TX {X : Type} (J : X → Prop) (V : X → Value) (M : X → List Ck) : Value → List Ck → Prop := fun v m => ∃ x, J x ∧ v = V x ∧ m = M x
section
variable {P : Program} {n : Nat} {w0 : World} {S : Nat → Prop} {l : Fr} {m : List Ck} {Q : Exit → Act → World → Prop} {K : Act → World → Prop}
 {dst : Option Tmp} {ty : TypeId} {pos : String} {after : Array Edge} {g : Option (Nat × Bool)}
section
variable {o : Oper} {d : Nat} {f : FuncId} {xs : List Operand} {ts : Array TypeId} {vs : List Value} {ro pre r : List Ck} {X : Type} {J : X → Prop} {V : X → Value} {A B C : X → Ck} {fn : Func} {c : Code}
theorem G.c2 (hd : o.dst = some d) (hn : Nat.blt d n = true) (ho : o.op = .call { callee := .value (.func f), args := xs.toArray, argTypes := ts }) (hx : evs l xs = some vs) (hf : P.funcs[f]? = some fn) (hb : fn.body = some c) (hnm : (fn.name == "runtime.NumGoroutine") = false)
 (ht : Tr P f vs.toArray ro pre (TX J V fun x => [A x, B x])) (hs : Sub m pre r) (hro : ∀ c ∈ ro, May w0 S r c) (h : ∀ x, J x → G n w0 S ((d, V x) :: l) (A x :: B x :: r) K) : G n w0 S l m (fun a w => o.wp P a w K Q) :=
 G.tr hd hn ho hx hf hb hnm ht hs hro fun v m' ⟨x, hJ, hv, hm⟩ => by subst hv; subst hm; exact h x hJ
end
theorem pv_slice {t : TypeId} {x : Operand} {lo hi : Option Operand} {v r : Value} {vl vh : Option Value} (hx : ev l x = some v) (hl : ∀ a : Act, At a n l → lo.map a.eval = vl) (hh : ∀ a : Act, At a n l → hi.map a.eval = vh) (hs : ∀ w, (Instr.sliceAt t v vl vh none).run P w = .ok r w) :
 PV P n w0 S l m ⟨dst, .slice t x lo hi none, ty, pos, after, g⟩ r := fun act w ha _ => by
 show ((Instr.sliceAt t (act.eval x) (lo.map act.eval) (hi.map act.eval) none) >>= fun x => pure (Next.value x)).run P w = _
 rw [ha.eval hx, hl act ha, hh act ha]
 exact run_v (hs w)
theorem sliceAt_sl {t e : TypeId} {v : Value} {lo hi : Option Value} {w : World} (hu : P.underlying t = some (.slice e)) : (Instr.sliceAt t v lo hi none).run P w = (Instr.slice t v lo hi none).run P w := by
 simp [Instr.sliceAt, Sem.run_bind, run_underlying hu, Result.andThen]
theorem sliceAt_str {t : TypeId} {v : Value} {lo hi : Option Value} {w : World} (hu : P.underlying t = some .string) : (Instr.sliceAt t v lo hi none).run P w = (Instr.slice t v lo hi none).run P w := by
 simp [Instr.sliceAt, Sem.run_bind, run_underlying hu, Result.andThen]
theorem pv_subL {t e : TypeId} {x i : Operand} {ad : Option Addr} {len cap sz k : Nat} {kd : IntKind} {j : Int} (hu : P.underlying t = some (.slice e)) (hsz : (P.info? e).map (·.size) = some sz) (hx : ev l x = some (.slice ad len cap)) (hi : ev l i = some (.int kd j)) (hj : j = (k : Int)) (hk : k ≤ len) :
 PV P n w0 S l m ⟨dst, .slice t x (some i) none none, ty, pos, after, g⟩ (subV sz ad k len cap) :=
 pv_slice hx (vl := some (.int kd (k : Int))) (vh := none) (fun a ha => by rw [Option.map_some, ha.eval hi, hj]) (fun a ha => rfl) fun w => by
  rw [sliceAt_sl hu]
  exact run_sub_lo hu (run_sizeOf hsz) ad len cap k kd hk w
theorem pv_subH {t e : TypeId} {x i : Operand} {ad : Option Addr} {len cap sz k : Nat} {kd : IntKind} {j : Int} (hu : P.underlying t = some (.slice e)) (hsz : (P.info? e).map (·.size) = some sz) (hx : ev l x = some (.slice ad len cap)) (hi : ev l i = some (.int kd j)) (hj : j = (k : Int)) (hk : k ≤ cap) :
 PV P n w0 S l m ⟨dst, .slice t x none (some i) none, ty, pos, after, g⟩ (.slice ad k cap) :=
 pv_slice hx (vl := none) (vh := some (.int kd (k : Int))) (fun a ha => rfl) (fun a ha => by rw [Option.map_some, ha.eval hi, hj]) fun w => by
  rw [sliceAt_sl hu, run_sub_hi hu (run_sizeOf hsz) ad len cap k kd hk w]
  unfold subV
  simp
  intro h
  cases ad <;> simp [Addr.add]
theorem pv_subLH {t e : TypeId} {x i i' : Operand} {ad : Option Addr} {len cap sz k k' : Nat} {kd kd' : IntKind} {j j' : Int} (hu : P.underlying t = some (.slice e)) (hsz : (P.info? e).map (·.size) = some sz) (hx : ev l x = some (.slice ad len cap)) (hi : ev l i = some (.int kd j)) (hi' : ev l i' = some (.int kd' j')) (hj : j = (k : Int)) (hj' : j' = (k' : Int)) (hk : k ≤ k') (hk' : k' ≤ cap) :
 PV P n w0 S l m ⟨dst, .slice t x (some i) (some i') none, ty, pos, after, g⟩ (subV sz ad k k' cap) :=
 pv_slice hx (vl := some (.int kd (k : Int))) (vh := some (.int kd' (k' : Int))) (fun a ha => by rw [Option.map_some, ha.eval hi, hj]) (fun a ha => by rw [Option.map_some, ha.eval hi', hj']) fun w => by
  rw [sliceAt_sl hu]
  exact run_sub hu (run_sizeOf hsz) ad len cap k k' kd kd' hk hk' w
theorem pv_subAr {t e : TypeId} {x : Operand} {b off len : Nat} (hu : P.underlying t = some (.array len e)) (hsz : ((P.info? e).map (·.size)).isSome = true) (hx : ev l x = some (.pointer (some ⟨b, off, none⟩))) :
 PV P n w0 S l m ⟨dst, .slice t x none none none, ty, pos, after, g⟩ (.slice (some ⟨b, off, none⟩) len len) :=
 pv_slice hx (vl := none) (vh := none) (fun a ha => rfl) (fun a ha => rfl) fun w => by
  obtain ⟨k, hk⟩ := Option.isSome_iff_exists.1 hsz
  simp [Instr.sliceAt, Instr.sliceBounds, Instr.sureAddr, Sem.run_bind, run_underlying hu, Result.andThen, Sem.run_pure, run_sizeOf hk, Addr.add]
theorem pv_subArL {t e : TypeId} {x i : Operand} {b off len sz k : Nat} {kd : IntKind} {j : Int} (hu : P.underlying t = some (.array len e)) (hsz : (P.info? e).map (·.size) = some sz) (hx : ev l x = some (.pointer (some ⟨b, off, none⟩))) (hi : ev l i = some (.int kd j)) (hj : j = (k : Int)) (hk : k ≤ len) :
 PV P n w0 S l m ⟨dst, .slice t x (some i) none none, ty, pos, after, g⟩ (.slice (some ⟨b, if len = k then off else off + k * sz, none⟩) (len - k) (len - k)) :=
 pv_slice hx (vl := some (.int kd (k : Int))) (vh := none) (fun a ha => by rw [Option.map_some, ha.eval hi, hj]) (fun a ha => rfl) fun w => by
  have h1 : (0 : Int) ≤ (k : Int) := by omega
  have h2 : (k : Int) ≤ (len : Int) := by omega
  simp [Instr.sliceAt, Instr.sliceBounds, Instr.sliceBound, asIntOf, Instr.sureAddr, Sem.run_bind, run_underlying hu, Result.andThen, Sem.run_pure, run_sizeOf hsz, hk]
  split
  ·rfl
  ·simp [Addr.add_mid]
def subOff (len k off sz : Nat) : Nat := if len = k then off else off + k * sz
theorem subOff_lt {len k off sz : Nat} (h : k < len) : subOff len k off sz = off + k * sz := if_neg (by omega)
theorem pv_subArO {t e : TypeId} {x i : Operand} {b off len sz k k' : Nat} {kd : IntKind} {j : Int} (hu : P.underlying t = some (.array len e)) (hsz : (P.info? e).map (·.size) = some sz) (hx : ev l x = some (.pointer (some ⟨b, off, none⟩))) (hi : ev l i = some (.int kd j)) (hj : j = (k : Int)) (hk : k + k' = len) :
 PV P n w0 S l m ⟨dst, .slice t x (some i) none none, ty, pos, after, g⟩ (.slice (some ⟨b, subOff len k off sz, none⟩) k' k') := by
 have := pv_subArL (P := P) (n := n) (w0 := w0) (S := S) (m := m) (dst := dst) (ty := ty) (pos := pos) (after := after) (g := g) hu hsz hx hi hj (by omega)
 rwa [show len - k = k' by omega] at this
theorem sB_extract (a : List UInt8) (i j : Nat) : (sB a).extract i j = sB ((a.take j).drop i) := by
 apply ByteArray.ext
 simp [sB]
 rw [List.take_drop]
 by_cases h : i ≤ j
 ·rw [Nat.add_sub_cancel' h]
 ·rw [List.drop_eq_nil_of_le (by simp; omega), List.drop_eq_nil_of_le (by simp; omega)]
theorem pv_strL {t : TypeId} {x i : Operand} {a : List UInt8} {k : Nat} {kd : IntKind} {j : Int} (hu : P.underlying t = some .string) (hx : ev l x = some (.string (sB a))) (hi : ev l i = some (.int kd j)) (hj : j = (k : Int)) (hk : k ≤ a.length) :
 PV P n w0 S l m ⟨dst, .slice t x (some i) none none, ty, pos, after, g⟩ (.string (sB (a.drop k))) :=
 pv_slice hx (vl := some (.int kd (k : Int))) (vh := none) (fun a ha => by rw [Option.map_some, ha.eval hi, hj]) (fun a ha => rfl) fun w => by
  rw [sliceAt_str hu]
  simp [Instr.slice, Instr.sliceBounds, Instr.sliceBound, asIntOf, Sem.run_bind, run_underlying hu, Result.andThen, Sem.run_pure, sB_size, hk, sB_extract]
theorem pv_strH {t : TypeId} {x i : Operand} {a : List UInt8} {k : Nat} {kd : IntKind} {j : Int} (hu : P.underlying t = some .string) (hx : ev l x = some (.string (sB a))) (hi : ev l i = some (.int kd j)) (hj : j = (k : Int)) (hk : k ≤ a.length) :
 PV P n w0 S l m ⟨dst, .slice t x none (some i) none, ty, pos, after, g⟩ (.string (sB (a.take k))) :=
 pv_slice hx (vl := none) (vh := some (.int kd (k : Int))) (fun a ha => rfl) (fun a ha => by rw [Option.map_some, ha.eval hi, hj]) fun w => by
  rw [sliceAt_str hu]
  simp [Instr.slice, Instr.sliceBounds, Instr.sliceBound, asIntOf, Sem.run_bind, run_underlying hu, Result.andThen, Sem.run_pure, sB_size, hk, sB_extract]
theorem addr_mid (b off j : Nat) : (⟨b, off, none⟩ : Addr).add j = ⟨b, off + j, none⟩ := Addr.add_mid b off j
def News (w : World) (b off : Nat) (cs : List Value) : Prop := ∀ j u, cs[j]? = some u → w.cell? ⟨b, off + j, none⟩ = some u
theorem blk_news {b off k : Nat} {T : TypeId} {cs xs : List Value} {r : List Ck} (h : Sel m (blk b T cs) r) (hx : (cs.drop off).take k = xs) : ∀ w, Hp w0 S w m → News w b off xs := fun w hw => blk_range h hx w hw
theorem IsSl.news {α : Type} {f : α → Value} {p : α → Prop} {Ps : Nat → Prop} {w : World} {v : Value} {xs : List α} (h : IsSl (r1 f p) Ps w v xs) : ∃ ad cap b off, v = .slice ad xs.length cap ∧ (0 < xs.length → ad = some ⟨b, off, none⟩) ∧ News w b off (xs.map f) := by
 obtain ⟨ad, cap, b, off, e, hs⟩ := h
 refine ⟨ad, cap, b, off, e, hs.had, fun j u hj => ?_⟩
 rw [List.getElem?_map] at hj
 obtain ⟨x, hx, rfl⟩ := Option.map_eq_some_iff.1 hj
 obtain ⟨hi, rfl⟩ := List.getElem?_eq_some_iff.1 hx
 have := (hs.cell j hi).2.1
 rwa [show off + j * (r1 f p).sz = off + j from by show off + j * 1 = _; omega] at this
theorem own_isSl' {α : Type} {f : α → Value} {p : α → Prop} {e k : Nat} {v : Value} {xs : List α} {w : World} (h : w.ownsRow 0 e 1 v k (xs.map f)) (hk : k = xs.length) (hp : ∀ x ∈ xs, p x) : IsSl (r1 f p) (fun b => v.ownBlock = some b) w v xs := by
 subst hk
 have h0 := h
 rcases h.2 with ⟨rfl, h2⟩ | ⟨g', cap, cur, rfl, _, hg, hc, hm, hs, ht⟩
 ·obtain rfl : xs = [] := List.length_eq_zero_iff.1 h2
  exact ⟨none, 0, 0, 0, rfl, Nat.le_refl _, by omega, fun _ => rfl, fun h => absurd h (by simp), fun i hi => absurd hi (by simp)⟩
 ·refine ⟨_, cap, g', 0, rfl, hc, by unfold maxLen at hm; omega, (fun h => by cases h), fun _ => rfl, fun i hi => ⟨rfl, ?_, hp _ (List.getElem_mem hi)⟩⟩
  have := h0.cellAt i (by omega)
  rw [show 0 + i * (r1 f p).sz = i from by show 0 + i * 1 = _; omega, this]
  simp [hi]
theorem own_isSl {α : Type} {f : α → Value} {p : α → Prop} {e k : Nat} {v : Value} {xs : List α} {r : List Ck} (h : Sel m (own e 1 v k (xs.map f)) r) (hk : k = xs.length) (hp : ∀ x ∈ xs, p x) : ∀ w, Hp w0 S w m → IsSl (r1 f p) (fun b => v.ownBlock = some b) w v xs := fun w hw =>
 own_isSl' (hw.holds _ h.mem) hk hp
theorem own_len {e sz k : Nat} {v : Value} {cs : List Value} {r : List Ck} (h : Sel m (own e sz v k cs) r) : ∀ w, Hp w0 S w m → ∃ ad cap, v = .slice ad k cap ∧ cs.length = k * sz ∧ k ≤ cap ∧ cap ≤ 9223372036854775807 := fun w hw => by
 have := hw.holds _ h.mem
 obtain ⟨h1, h2⟩ : w.ownsRow 0 e sz v k cs := this
 rcases h2 with ⟨rfl, rfl⟩ | ⟨g', cap, cur, rfl, _, hg, hc, hm, hs, ht⟩
 ·exact ⟨none, 0, rfl, h1, Nat.le_refl _, by omega⟩
 ·exact ⟨_, cap, rfl, h1, hc, by unfold maxLen at hm; omega⟩
theorem ro_sl {α : Type} {E : Rdr α} {Ps : Nat → Prop} {v : Value} {xs : List α} (h : Ro w0 S (slc E Ps v xs)) : ∀ w, Hp w0 S w m → IsSl E Ps w v xs := fun w hw => h.at hw
theorem may_own {α : Type} {f : α → Value} {p : α → Prop} {e k : Nat} {v : Value} {xs : List α} {r : List Ck} (h : Sel m (own e 1 v k (xs.map f)) r) (hk : k = xs.length) (hp : ∀ x ∈ xs, p x) : May w0 S m (slc (r1 f p) (fun b => v.ownBlock = some b) v xs) :=
 .view h.mem (fun w hw => own_isSl' hw hk hp) fun b h => h
theorem run_toStr {t e t' : TypeId} {Ps : Nat → Prop} {v : Value} {xs : List UInt8} {w : World} (hu : P.underlying t = some (.slice e)) (he : P.underlying e = some (.int .u8)) (hd : P.underlying t' = some .string) (h : IsSl rByte Ps w v xs) : (convert t t' v).run P w = .ok (.string (sB xs)) w := by
 obtain ⟨ad, cap, b, off, rfl, had, hn⟩ := h.news
 rcases Nat.eq_zero_or_pos xs.length with h0 | hp
 ·have : xs = [] := List.length_eq_zero_iff.1 h0
  subst this
  cases ad with
  | none => exact run_convert_bytes_nil w _ _ hu he _ _ _ hd
  | some a => exact run_convert_bytes_back w _ _ _ a cap [] hu he hd (fun j hj => by simp at hj)
 ·obtain rfl := had hp
  refine run_convert_bytes_back w _ _ _ _ cap xs hu he hd (fun j hj => ?_)
  rw [addr_mid]
  exact hn j _ (by simp [hj]; rfl)
theorem pv_toStr {t e t' : TypeId} {x : Operand} {Ps : Nat → Prop} {v : Value} {xs : List UInt8} (hu : P.underlying t = some (.slice e)) (he : P.underlying e = some (.int .u8)) (hd : P.underlying t' = some .string) (hx : ev l x = some v) (h : ∀ w, Hp w0 S w m → IsSl rByte Ps w v xs) :
 PV P n w0 S l m ⟨dst, .convert t t' x, ty, pos, after, g⟩ (.string (sB xs)) := fun act w ha hw => by
 show ((convert t t' (act.eval x)) >>= fun x => pure (Next.value x)).run P w = _
 rw [ha.eval hx]
 exact run_v (run_toStr hu he hd (h w hw))
theorem G.toBytes {t e t' d : Nat} {x : Operand} {a : List UInt8} (hn : Nat.blt d n = true) (hs : P.underlying t = some .string) (hu : P.underlying t' = some (.slice e)) (he : P.underlying e = some (.int .u8)) (hx : ev l x = some (.string (sB a))) (ha' : a.length ≤ 9223372036854775807)
 (h : ∀ b v, G n w0 S ((d, v) :: l) (slc rByte (· = b) v a :: m) K) : G n w0 S l m (fun act w => Oper.wp P ⟨some d, .convert t t' x, ty, pos, after, g⟩ act w K Q) := G.eff rfl hn fun act w ha hw => by
 have hr := run_bytes_of_string (P := P) w t t' e (sB a) hs hu he
 rw [← ha.eval hx] at hr
 have hb : Below w.heap.size w (w.drew.alloc (.cells (bytesRow (sB a) (grownCap w (sB a).size 0 e)) e ((bytesRow (sB a) (grownCap w (sB a).size 0 e)).size, (bytesRow (sB a) (grownCap w (sB a).size 0 e)).size + 1))) := (Below.refl _ _).drew.alloc (Nat.le_refl _) _
 refine ⟨_, _, _, run_v hr, hw.adds (m' := [slc rByte (· = w.heap.size) _ a]) ⟨Chg.none_of_below hb, fun c hc => ?_, fun c hc b hb' => ?_, by simp⟩, h w.heap.size _⟩
 ·obtain rfl : c = _ := by simpa using hc
  have hc := grownCap_ge w (sB a).size 0 e
  have hm := grownCap_le_maxLen w (sB a).size 0 e (by rw [sB_size]; unfold maxLen; omega)
  rw [sB_size] at hc
  refine ⟨_, grownCap w (sB a).size 0 e, w.heap.size, 0, by rw [sB_size], by rw [sB_size]; rw [sB_size] at hm; exact hc, by unfold maxLen at hm; omega, (fun h => by cases h), (fun _ => rfl), fun i hi => ⟨rfl, ?_, trivial⟩⟩
  rw [show 0 + i * rByte.sz = i from by show 0 + i * 1 = _; omega]
  refine (World.cell?_alloc_mark w.drew _ e _ i).trans ?_
  rw [bytesRow_at _ _ _ (by show i < (sB a).data.size; simpa [sB] using hi)]
  simp [sB, vByte]
 ·obtain rfl : c = _ := by simpa using hc
  obtain rfl : b = _ := hb'
  exact ⟨.inr (Nat.le_refl _), by simp⟩
theorem run_append_own' {w : World} (t ty e : TypeId) (i : TypeInfo) (z : Value) (size bytes : Nat) (ht : P.underlying t = some (.slice e)) (hi : P.info? e = some i) (hz : i.zero = some z)
 (hsize : i.size = size) (hby : i.bytes = bytes) (hzs : z.cells.size = size) (hsz : 0 < size)
 (v : Value) (n : Nat) (xs : List Value) (hown : w.ownsRow 0 e size v n xs)
 (a : Addr) (m c : Nat) (news : List Value) (hl : news.length = m * size) (hnews : ∀ j u, news[j]? = some u → w.cell? (a.add j) = some u) (h1 : ∀ u ∈ news, u.oneCell' = true)
 (h63 : n + m ≤ maxLen) (hbytes : (n + m) * bytes ≤ 140737488355328) :
 ∃ v' w', (Builtin.append_ #[t, t] ty #[v, .slice (some a) m c]).run P w = .ok v' w' ∧ w'.ownsRow 0 e size v' (n + m) (xs ++ news) ∧ w.grownBy w' v.ownBlock ∧ ∀ k, v'.ownBlock = some k → v.ownBlock = some k ∨ w.heap.size ≤ k := by
 obtain ⟨v', w', hr, h2, h3, h4⟩ := run_append_own (P := P) w 0 t ty e i z size bytes ht hi hz hsize hby hzs hsz v n xs hown a m c news hl hnews h1 h63 hbytes (Nat.zero_le _)
 refine ⟨v', w', hr, h2, h3, fun k hk => ?_⟩
 rcases hown.2 with ⟨rfl, rfl⟩ | ⟨g', cap, cur, rfl, hbg, hg, hnc, hcm, hcs, htake⟩
 ·have hx : xs = [] := List.eq_nil_of_length_eq_zero (by simpa using hown.1)
  subst hx
  have hown' : w.ownsRow w.heap.size e size (.slice none 0 0) 0 [] := World.ownsRow_nil w _ e size
  obtain ⟨v2, w2, hr2, k2, _, _⟩ := run_append_own (P := P) w w.heap.size t ty e i z size bytes ht hi hz hsize hby hzs hsz _ 0 [] hown' a m c news hl hnews h1 h63 hbytes (Nat.le_refl _)
  rw [hr] at hr2
  injection hr2 with e1 e2
  subst e1 e2
  exact .inr (k2.lt k hk).1
 ·by_cases hroom : n + m ≤ cap
  ·subst hsize
   have hfit : n * i.size + news.length ≤ cur.size := by rw [hl, hcs, ← Nat.add_mul]; exact Nat.mul_le_mul_right _ hroom
   have hr2 := run_append_room (P := P) w t ty e i ht hi g' n cap cur hg a m c news hl hnews h1 hroom hfit
   rw [hr] at hr2
   injection hr2 with e1 e2
   subst e1
   exact .inl hk
  ·subst hsize hby
   have holds : ∀ j u, xs[j]? = some u → w.cell? ((⟨g', 0, none⟩ : Addr).add j) = some u := hown.cells (g := g') rfl
   have h63' : n + m ≤ 9223372036854775807 := by simp only [maxLen] at h63; omega
   have hr2 := run_append_grow (P := P) w t ty e i z ht hi hz ⟨g', 0, none⟩ n cap xs hown.1 holds a m c news hl hnews (by omega) (by omega) (growslice_fits (by omega) hbytes)
   rw [hr] at hr2
   injection hr2 with e1 e2
   subst e1
   simp [Value.ownBlock] at hk
   exact .inr (by omega)
theorem Chg.of_grown {w w' : World} {v : Value} (h : w.grownBy w' v.ownBlock) : Chg (fun b => v.ownBlock = some b) w w' :=
 ⟨h.os, h.tape, h.output, h.size, fun k hk hS => h.block k hk fun e => hS e.symm⟩
theorem hp_append {w w' : World} {e sz k k' : Nat} {v v' : Value} {cs cs' : List Value} {r : List Ck} (hw : Hp w0 S w (own e sz v k cs :: r)) (ho : w'.ownsRow 0 e sz v' k' cs') (hg : w.grownBy w' v.ownBlock) (hk : ∀ k, v'.ownBlock = some k → v.ownBlock = some k ∨ w.heap.size ≤ k) :
 Hp w0 S w' (own e sz v' k' cs' :: r) := by
 refine Hp.turn (p := [own e sz v k cs]) (p' := [own e sz v' k' cs']) hw ⟨(Chg.of_grown hg).mono fun b hb => ⟨_, List.mem_cons_self .., hb⟩, fun c hc => ?_, fun c hc b hb => ?_, by simp⟩
 ·obtain rfl : c = _ := by simpa using hc
  exact ho
 ·obtain rfl : c = _ := by simpa using hc
  refine ⟨?_, (ho.lt b hb).2⟩
  rcases hk b hb with h | h
  ·exact .inl ⟨_, List.mem_cons_self .., h⟩
  ·exact .inr h
theorem G.ownNil (e sz : Nat) (h : G n w0 S l (own e sz (.slice none 0 0) 0 [] :: m) K) : G n w0 S l m K := G.mem (fun w hw => by
 refine hw.adds (m' := [own e sz (.slice none 0 0) 0 []]) ⟨Chg.refl _ _, fun c hc => ?_, fun c hc b hb => ?_, by simp⟩
 ·obtain rfl : c = _ := by simpa using hc
  exact World.ownsRow_nil w 0 e sz
 ·obtain rfl : c = _ := by simpa using hc
  cases hb) h
theorem G.ownBlk {b e sz k : Nat} {cs : List Value} {r : List Ck} (hs : Sel m (blk b e cs) r) (hk : cs.length = k * sz) (hm : k ≤ 9223372036854775807) (h : G n w0 S l (own e sz (.slice (some ⟨b, 0, none⟩) k k) k cs :: r) K) : G n w0 S l m K := G.mem (fun w hw => by
 have hw' := hw.sel hs
 have hh := hw'.holds _ (List.mem_cons_self ..)
 have hlt := (hw'.own _ (List.mem_cons_self ..) b rfl).2
 refine Hp.turn (p := [blk b e cs]) (p' := [own e sz (.slice (some ⟨b, 0, none⟩) k k) k cs]) hw' ⟨Chg.refl _ _, fun c hc => ?_, fun c hc j hj => ?_, by simp⟩
 ·obtain rfl : c = _ := by simpa using hc
  exact ⟨hk, .inr ⟨b, k, cs.toArray, rfl, Nat.zero_le _, hh, Nat.le_refl _, by unfold maxLen; omega, by simpa using hk, by rw [← hk]; simp⟩⟩
 ·obtain rfl : c = _ := by simpa using hc
  have hj' : j = b := by
   have : some b = some j := hj
   injection this with h
   exact h.symm
  subst hj'
  exact ⟨.inl ⟨_, List.mem_cons_self .., rfl⟩, hlt⟩) h
theorem G.append {t e d sz bytes k j cap b off : Nat} {s x : Operand} {v : Value} {ad : Option Addr} {cs news : List Value} {r : List Ck} (hn : Nat.blt d n = true) (hu : P.underlying t = some (.slice e)) (hi : (P.info? e).map (fun i => (i.zero.map (·.cells.size), i.size, i.bytes)) = some (some sz, sz, bytes)) (hsz : Nat.blt 0 sz = true)
 (hs : ev l s = some v) (hx : ev l x = some (.slice ad j cap)) (hsel : Sel m (own e sz v k cs) r) (had : 0 < j → ad = some ⟨b, off, none⟩) (hnil : ad = none → cap = 0) (hl : news.length = j * sz) (hnews : ∀ w, Hp w0 S w m → News w b off news) (h1 : ∀ u ∈ news, u.oneCell' = true)
 (hbig : (k + j) * bytes ≤ 140737488355328) (h63 : k + j ≤ 9223372036854775807)
 (h : ∀ v', G n w0 S ((d, v') :: l) (own e sz v' (k + j) (cs ++ news) :: r) K) : G n w0 S l m (fun a w => Oper.wp P ⟨some d, .call ⟨.builtin .append, #[s, x], #[t, t]⟩, ty, pos, after, g⟩ a w K Q) := G.eff rfl hn fun a w ha hw => by
 obtain ⟨i, hi1, hi2⟩ := Option.map_eq_some_iff.1 hi
 have hi3 : i.zero.map (·.cells.size) = some sz := congrArg Prod.fst hi2
 have hi4 : i.size = sz := congrArg (fun p => p.2.1) hi2
 have hi5 : i.bytes = bytes := congrArg (fun p => p.2.2) hi2
 obtain ⟨z, hz, hz2⟩ := Option.map_eq_some_iff.1 hi3
 have hsz' : 0 < sz := by simpa using hsz
 have hw' := hw.sel hsel
 have hown : w.ownsRow 0 e sz v k cs := hw'.holds _ (List.mem_cons_self ..)
 have run : ∀ v' w', (Builtin.append_ #[t, t] ty #[v, .slice ad j cap]).run P w = .ok v' w' → (execOp a.eval ⟨some d, .call ⟨.builtin .append, #[s, x], #[t, t]⟩, ty, pos, after, g⟩).run P w = .ok (.value v') w' := fun v' w' hr => by
  simp only [execOp, resolve, invoke, builtin, Sem.run_bind, Sem.run_pure, Result.andThen_ok, List.map_toArray, List.map_cons, List.map_nil, ha.eval hs, ha.eval hx, hr]
 cases ad with
 | none =>
  have hj : j = 0 := by
   rcases Nat.eq_zero_or_pos j with h | h
   ·exact h
   ·cases had h
  subst hj
  have hnw : news = [] := List.eq_nil_of_length_eq_zero (by simpa using hl)
  subst hnw
  have := hnil rfl
  subst this
  have hr := run_append_owned_none (P := P) w 0 t ty e i sz hu hi1 v k cs hown
  refine ⟨_, _, _, run _ _ hr, hw', ?_⟩
  have := h v
  simpa using this
 | some ad =>
  obtain ⟨v', w', hr, h2, h3, h4⟩ := run_append_own' (P := P) (w := w) t ty e i z sz bytes hu hi1 hz hi4 hi5 hz2 hsz' v k cs hown ad j cap news hl (fun i u hu => by
   have hj : 0 < j := by
    rcases Nat.eq_zero_or_pos j with h | h
    ·subst h
     have : news = [] := List.eq_nil_of_length_eq_zero (by simpa using hl)
     subst this
     simp at hu
    ·exact h
   have e1 := Option.some.inj (had hj)
   rw [e1, addr_mid]
   exact hnews w hw i u hu) h1 (by unfold maxLen; omega) hbig
  exact ⟨_, _, _, run _ _ hr, hp_append hw' h2 h3 h4, h v'⟩
end
section
variable {P : Program} {n : Nat} {w0 : World} {S : Nat → Prop} {l : Fr} {m : List Ck} {Q : Exit → Act → World → Prop} {K : Act → World → Prop}
 {dst : Option Tmp} {ty : TypeId} {pos : String} {after : Array Edge} {g : Option (Nat × Bool)}
theorem Hp.row {w : World} {b : Nat} {T : TypeId} {cs cs' : List Value} {r : List Ck} (hw : Hp w0 S w (blk b T cs :: r)) : Hp w0 S (w.setRow b cs'.toArray) (blk b T cs' :: r) := by
 have hh := hw.holds _ (List.mem_cons_self ..)
 refine Hp.turn (p := [blk b T cs]) (p' := [blk b T cs']) hw ⟨(Chg.refl _ _).setRow ⟨_, List.mem_cons_self .., rfl⟩ _, fun c hc => ?_, fun c hc k hk => ?_, by simp⟩
 ·obtain rfl : c = _ := by simpa using hc
  exact setRow_heap w b _ _ T (0, 0) hh
 ·obtain rfl : c = _ := by simpa using hc
  obtain rfl : k = b := hk
  refine ⟨.inl ⟨_, List.mem_cons_self .., rfl⟩, ?_⟩
  have := (hw.own _ (List.mem_cons_self ..) k rfl).2
  simpa using this
theorem G.copy {dT sT e d b o dLen dCap j cap b' off : Nat} {xd xs : Operand} {T : TypeId} {ad : Option Addr} {cs news cs' : List Value} {r : List Ck} (hn : Nat.blt d n = true) (hu : P.underlying dT = some (.slice e)) (hsz : (P.info? e).map (·.size) = some 1)
 (hd : ev l xd = some (.slice (some ⟨b, o, none⟩) dLen dCap)) (hs : ev l xs = some (.slice ad j cap)) (hsel : Sel m (blk b T cs) r) (had : 0 < j → ad = some ⟨b', off, none⟩) (hnews : ∀ w, Hp w0 S w m → News w b' off news) (hl : news.length = min j dLen) (h1 : ∀ u ∈ news, u.oneCell' = true) (hfit : o + news.length ≤ cs.length)
 (hcs : cs.take o ++ news ++ cs.drop (o + news.length) = cs')
 (h : G n w0 S ((d, .int .i64 (news.length : Int)) :: l) (blk b T cs' :: r) K) : G n w0 S l m (fun a w => Oper.wp P ⟨some d, .call ⟨.builtin .copy, #[xd, xs], #[dT, sT]⟩, ty, pos, after, g⟩ a w K Q) := G.eff rfl hn fun a w ha hw => by
 have hw' := hw.sel hsel
 have hh := hw'.holds _ (List.mem_cons_self ..)
 have run : ∀ v' w', (Builtin.copy_ #[dT, sT] ty #[.slice (some ⟨b, o, none⟩) dLen dCap, .slice ad j cap]).run P w = .ok v' w' → (execOp a.eval ⟨some d, .call ⟨.builtin .copy, #[xd, xs], #[dT, sT]⟩, ty, pos, after, g⟩).run P w = .ok (.value v') w' := fun v' w' hr => by
  simp only [execOp, resolve, invoke, builtin, Sem.run_bind, Sem.run_pure, Result.andThen_ok, List.map_toArray, List.map_cons, List.map_nil, ha.eval hd, ha.eval hs, hr]
 by_cases h0 : news = []
 ·subst h0
  have e : cs' = cs := by rw [← hcs]; simp
  subst e
  exact ⟨_, _, _, run _ _ (run_copy_none w dT sT ty e _ _ dLen dCap j cap hu hsz (by simpa [Nat.min_def] using hl.symm)), hw', h⟩
 ·have hpos : 0 < news.length := List.length_pos_iff.2 h0
  obtain rfl := had (by omega)
  have hr := run_copy_row (P := P) w dT sT ty e b o dLen dCap ⟨b', off, none⟩ j cap cs.toArray T news hu hsz hh hl (fun i u hi => by rw [addr_mid]; exact hnews w hw i u hi) (by simpa using hfit) h1
  refine ⟨_, _, _, run _ _ hr, ?_, h⟩
  have := hw'.row (cs' := cs')
  rw [← hcs] at this
  simpa [hcs] using this
theorem vInt_one (xs : List Int) : ∀ u ∈ xs.map vInt, u.oneCell' = true := by
 intro u hu
 obtain ⟨x, _, rfl⟩ := List.mem_map.1 hu
 rfl
theorem vByte_one (xs : List UInt8) : ∀ u ∈ xs.map vByte, u.oneCell' = true := by
 intro u hu
 obtain ⟨x, _, rfl⟩ := List.mem_map.1 hu
 rfl
theorem own_cell1 {w : World} {e sz k : Nat} {v : Value} {cs : List Value} (h : w.ownsRow 0 e sz v k cs) : v.oneCell' = true := by
 rcases h.2 with ⟨rfl, _⟩ | ⟨g, cap, cur, rfl, _⟩ <;> rfl
theorem G.ownFact {e sz k : Nat} {v : Value} {cs : List Value} {r : List Ck} (hs : Sel m (own e sz v k cs) r) (h : v.oneCell' = true → cs.length = k * sz → G n w0 S l m K) : G n w0 S l m K :=
 G.fact (p := v.oneCell' = true ∧ cs.length = k * sz) (fun w hw => ⟨own_cell1 (hw.holds _ hs.mem), (hw.holds _ hs.mem : w.ownsRow 0 e sz v k cs).1⟩) fun h1 => h h1.1 h1.2
theorem G.ownOpen {e sz k : Nat} {v : Value} {cs : List Value} {r : List Ck} (hs : Sel m (own e sz v k cs) r) (h : ∀ ad cap, v = .slice ad k cap → k ≤ cap → cap ≤ 9223372036854775807 → G n w0 S l m K) : G n w0 S l m K := fun a w ha hw => by
 obtain ⟨ad, cap, e1, _, e3, e4⟩ := own_len hs w hw
 exact h ad cap e1 e3 e4 a w ha hw
theorem own_news {w : World} {e sz k : Nat} {v : Value} {cs : List Value} (h : w.ownsRow 0 e sz v k cs) : ∃ ad cap b, v = .slice ad k cap ∧ (0 < k → ad = some ⟨b, 0, none⟩) ∧ (ad = none → cap = 0) ∧ News w b 0 cs := by
 have h0 := h
 rcases h.2 with ⟨rfl, rfl⟩ | ⟨g', cap, cur, rfl, _, hg, _⟩
 ·have : cs = [] := List.eq_nil_of_length_eq_zero (by simpa using h.1)
  subst this
  exact ⟨none, 0, 0, rfl, (fun h => absurd h (by omega)), fun _ => rfl, fun j u hu => by simp at hu⟩
 ·exact ⟨_, cap, g', rfl, fun _ => rfl, (fun h => by cases h), fun j u hu => by
   have := h0.cells (g := g') rfl j u hu
   rw [addr_mid] at this
   exact this⟩
theorem G.appendS {α : Type} {f : α → Value} {p : α → Prop} {Ps : Nat → Prop} {t e d bytes k : Nat} {s x : Operand} {v u : Value} {cs : List Value} {xs : List α} {r : List Ck} (hn : Nat.blt d n = true) (hu : P.underlying t = some (.slice e)) (hi : (P.info? e).map (fun i => (i.zero.map (·.cells.size), i.size, i.bytes)) = some (some 1, 1, bytes))
 (hs : ev l s = some v) (hx : ev l x = some u) (hsel : Sel m (own e 1 v k cs) r) (hsl : ∀ w, Hp w0 S w m → IsSl (r1 f p) Ps w u xs) (h1 : ∀ u ∈ xs.map f, u.oneCell' = true)
 (hbig : (k + xs.length) * bytes ≤ 140737488355328) (h63 : k + xs.length ≤ 9223372036854775807)
 (h : ∀ v', G n w0 S ((d, v') :: l) (own e 1 v' (k + xs.length) (cs ++ xs.map f) :: r) K) : G n w0 S l m (fun a w => Oper.wp P ⟨some d, .call ⟨.builtin .append, #[s, x], #[t, t]⟩, ty, pos, after, g⟩ a w K Q) := fun a w ha hw => by
 obtain ⟨ad, cap, b, off, rfl, hsv⟩ := hsl w hw
 refine G.append (K := K) (Q := Q) (w0 := w0) (S := S) (m := m) (l := l) (off := off) (b := b) hn hu hi rfl hs hx hsel hsv.had hsv.hnil (by simp) (fun w2 hw2 => ?_) h1 hbig h63 h a w ha hw
 obtain ⟨ad2, cap2, b2, off2, e2, hs2⟩ := hsl w2 hw2
 injection e2 with e3 e4 e5
 subst e3
 intro i y hy
 rw [List.getElem?_map] at hy
 obtain ⟨z, hz, rfl⟩ := Option.map_eq_some_iff.1 hy
 obtain ⟨hi, rfl⟩ := List.getElem?_eq_some_iff.1 hz
 have hj : 0 < xs.length := by omega
 have := (hsv.had hj).symm.trans (hs2.had hj)
 injection this with this
 injection this with e6 e7
 subst e6 e7
 have := (hs2.cell i hi).2.1
 rwa [show off + i * (r1 f p).sz = off + i from by show off + i * 1 = _; omega] at this
theorem own_app {α : Type} (f : α → Value) (e : Nat) (v : Value) (xs ys : List α) : own e 1 v (xs.length + ys.length) (xs.map f ++ ys.map f) = own e 1 v (xs ++ ys).length ((xs ++ ys).map f) := by rw [List.length_append, List.map_append]
theorem G.ownNews {e sz k : Nat} {v : Value} {cs : List Value} {r : List Ck} (hs : Sel m (own e sz v k cs) r) (h : ∀ ad cap bb, v = .slice ad k cap → k ≤ cap → cap ≤ 9223372036854775807 → (0 < k → ad = some ⟨bb, 0, none⟩) → (ad = none → cap = 0) → (∀ {m' r' : List Ck}, Sel m' (own e sz v k cs) r' → ∀ w, Hp w0 S w m' → News w bb 0 cs) → G n w0 S l m K) : G n w0 S l m K := fun a w ha hw => by
 have ho : w.ownsRow 0 e sz v k cs := hw.holds _ hs.mem
 obtain ⟨ad, cap, b, hv, had, hnil, hnw⟩ := own_news ho
 obtain ⟨ad', cap', hv', _, hk1, hk2⟩ := own_len hs w hw
 rw [hv] at hv'
 injection hv' with e1 e2 e3
 subst e3
 refine h ad cap b hv hk1 hk2 had hnil (fun {m' r'} hs' w' hw' => ?_) a w ha hw
 have ho2 : w'.ownsRow 0 e sz v k cs := hw'.holds _ hs'.mem
 obtain ⟨ad2, cap2, b2, hv2, had2, _, hnw2⟩ := own_news ho2
 rw [hv] at hv2
 injection hv2 with e3 e4 e5
 intro i x hx
 have hj : 0 < k := by
  rcases Nat.eq_zero_or_pos k with h0 | h0
  ·subst h0
   have : cs = [] := List.eq_nil_of_length_eq_zero (by simpa using ho.1)
   subst this
   simp at hx
  ·exact h0
 have := (had hj).symm.trans (e3.trans (had2 hj))
 injection this with this
 injection this with e6
 subst e6
 exact hnw2 i x hx
theorem News.byte {w : World} {b off : Nat} {xs : List UInt8} (h : News w b off (xs.map vByte)) (i : Nat) (hi : i < xs.length) : w.cell? ⟨b, off + i * 1, none⟩ = some (.int .u8 (xs[i].toNat : Int)) := by
 rw [Nat.mul_one]
 exact h i _ (by simp [hi, vByte])
theorem and_mask (k : Nat) (hk : k ≤ 62) (x : Int) (h0 : 0 ≤ x) (h1 : x ≤ 9223372036854775807) : bits .and .i64 x ((2 : Int) ^ k - 1) = x % 2 ^ k := by
 obtain ⟨a, rfl⟩ : ∃ a : Nat, x = a := ⟨x.toNat, by omega⟩
 have hp : 1 ≤ 2 ^ k := Nat.one_le_two_pow
 have e1 : ((2 : Int) ^ k - 1) = ((2 ^ k - 1 : Nat) : Int) := by
  rw [Int.natCast_sub hp, Int.natCast_pow]; rfl
 have hlt : 2 ^ k ≤ 2 ^ 62 := Nat.pow_le_pow_right (by omega) hk
 have h64 : (2 : Nat) ^ 62 = 4611686018427387904 := rfl
 have ha : a < 18446744073709551616 := by omega
 unfold bits
 rw [e1]
 show IntKind.i64.wrap ((BitVec.ofInt 64 (a : Int) &&& BitVec.ofInt 64 ((2 ^ k - 1 : Nat) : Int)).toNat : Int) = _
 have e2 : (BitVec.ofInt 64 (a : Int) &&& BitVec.ofInt 64 ((2 ^ k - 1 : Nat) : Int)).toNat = a % 2 ^ k := by
  rw [BitVec.toNat_and, BitVec.ofInt_natCast, BitVec.ofInt_natCast, BitVec.toNat_ofNat, BitVec.toNat_ofNat, Nat.mod_eq_of_lt (by simpa using ha), Nat.mod_eq_of_lt (show 2 ^ k - 1 < 2 ^ 64 by have : (2 : Nat) ^ 64 = 18446744073709551616 := rfl; omega), Nat.and_two_pow_sub_one_eq_mod]
 rw [e2, wrap_i64 ⟨by omega, by have := Nat.mod_lt a (show 0 < 2 ^ k by omega); omega⟩, Int.natCast_emod, Int.natCast_pow]
 rfl
theorem or_add (k a c : Nat) (hk : k ≤ 62) (hc : c < 2 ^ k) (h : a * 2 ^ k + c ≤ 9223372036854775807) : bits .or .i64 ((a : Int) * 2 ^ k) (c : Int) = (a : Int) * 2 ^ k + c := by
 have e1 : ((a : Int) * 2 ^ k) = ((a * 2 ^ k : Nat) : Int) := by rw [Int.natCast_mul, Int.natCast_pow]; rfl
 unfold bits
 rw [e1]
 show IntKind.i64.wrap ((BitVec.ofInt 64 ((a * 2 ^ k : Nat) : Int) ||| BitVec.ofInt 64 (c : Int)).toNat : Int) = _
 have e2 : (BitVec.ofInt 64 ((a * 2 ^ k : Nat) : Int) ||| BitVec.ofInt 64 (c : Int)).toNat = a * 2 ^ k + c := by
  have h64 : (2 : Nat) ^ 64 = 18446744073709551616 := rfl
  rw [BitVec.toNat_or, BitVec.ofInt_natCast, BitVec.ofInt_natCast, BitVec.toNat_ofNat, BitVec.toNat_ofNat, Nat.mod_eq_of_lt (by omega), Nat.mod_eq_of_lt (by omega), Nat.mul_comm, Nat.two_pow_add_eq_or_of_lt hc]
 rw [e2, wrap_i64 ⟨by omega, by omega⟩, Int.natCast_add]
theorem wrap_u8 {x : Int} (h : 0 ≤ x ∧ x ≤ 255) : IntKind.u8.wrap x = x := by rw [IntKind.wrap_u8]; omega
end
section
variable {P : Program} {n : Nat} {w0 : World} {S : Nat → Prop} {l : Fr} {m : List Ck} {Q : Exit → Act → World → Prop} {K : Act → World → Prop}
 {dst : Option Tmp} {ty : TypeId} {pos : String} {after : Array Edge} {g : Option (Nat × Bool)}
def TrO (P : Program) (f : FuncId) (args : Array Value) (ro pre : List Ck) (R : Ending → List Ck → Prop) : Prop :=
 ∀ w, (∀ c ∈ ro, Ro w (U pre) c) → Hp w (U pre) w pre → Calls P f args w fun e w' => ∃ m', R e m' ∧ Hp w (U pre) w' m'
def TO {X Y : Type} (J : X → Prop) (V : X → Value) (M : X → List Ck) (J' : Y → Prop) (C : Y → List PanicEntry) (M' : Y → List Ck) : Ending → List Ck → Prop
 | .returned v, m => ∃ x, J x ∧ v = V x ∧ m = M x
 | .panicked c, m => ∃ y, J' y ∧ c = C y ∧ m = M' y
 | .outgrown, _ => False
def OutR (w0 : World) (pre : List Ck) (R : Ending → List Ck → Prop) (e : Ending) (w' : World) : Prop := ∃ m', R e m' ∧ Hp w0 (U pre) w' m'
theorem TrO.of {f : FuncId} {args : Array Value} {ro pre : List Ck} {R : Ending → List Ck → Prop} {fn : Func} {c : Code} {n : Nat} {l : Fr} (hf : P.funcs[f]? = some fn) (hb : fn.body = some c) (hn : args.size + (fn.ntmps - args.size) = n) (hl : Fa args l)
 (h : ∀ w0, (∀ c ∈ ro, Ro w0 (U pre) c) → G n w0 (U pre) l pre (c.wp P (bodyPost P fn (OutR w0 pre R)))) : TrO P f args ro pre R := fun w hro hp =>
 calls_of_G hf hb hn hl.get hp (h w hro)
theorem G.outE {fn : Func} {pre : List Ck} {R : Ending → List Ck → Prop} {m' r : List Ck} (hr : fn.results = #[]) (hs : Sub m m' r) (hp : R (.returned (.tuple #[])) m') : G n w0 (U pre) l m (bodyPost P fn (OutR w0 pre R) .normal) :=
 G.end0 hr fun w hw => ⟨m', hp, (hw.perm hs.perm).sub (List.sublist_append_left _ _)⟩
theorem G.out1 {fn : Func} {pre : List Ck} {R : Ending → List Ck → Prop} {t : Nat} {v : Value} {m' r : List Ck} (hr : fn.results = #[.tmp t]) (ht : Fr.get l t = some v) (hs : Sub m m' r) (hp : R (.returned v) m') : G n w0 (U pre) l m (bodyPost P fn (OutR w0 pre R) .ret) :=
 G.ret1 hr ht fun w hw => ⟨m', hp, (hw.perm hs.perm).sub (List.sublist_append_left _ _)⟩
theorem G.outP {fn : Func} {pre : List Ck} {R : Ending → List Ck → Prop} {c : List PanicEntry} {m' r : List Ck} (hs : Sub m m' r) (hp : R (.panicked c) m') : G n w0 (U pre) l m (bodyPost P fn (OutR w0 pre R) (.panic c)) := fun a w ha hw =>
 ⟨ha.defs, m', hp, (hw.perm hs.perm).sub (List.sublist_append_left _ _)⟩
theorem G.pThen {c : List PanicEntry} (h : G n w0 S l m (Q (.panic c))) : G n w0 S l m (Exit.then K Q (.panic c)) := h
theorem G.pBlock {id : Nat} {c : List PanicEntry} (h : G n w0 S l m (Q (.panic c))) : G n w0 S l m (Exit.inBlock id Q (.panic c)) := h
def PE (P : Program) (n : Nat) (w0 : World) (S : Nat → Prop) (l : Fr) (m : List Ck) (o : Oper) (f : FuncId) (args : Array Value) : Prop := ∀ a w, At a n l → Hp w0 S w m → (execOp a.eval o).run P w = .ok (.enter f args) w
theorem pe_fn {o : Oper} {f : FuncId} {xs : List Operand} {ts : Array TypeId} {vs : List Value} {fn : Func} {c : Code} (ho : o.op = .call { callee := .value (.func f), args := xs.toArray, argTypes := ts }) (hx : evs l xs = some vs) (hf : P.funcs[f]? = some fn) (hb : fn.body = some c) (hnm : (fn.name == "runtime.NumGoroutine") = false) :
 PE P n w0 S l m o f vs.toArray := fun a w ha hw => by
 have e1 : xs.toArray.map a.eval = vs.toArray := by rw [← ha.evs hx]; simp
 have e2 : a.eval (.func f) = .func (.func f) #[] #[] := rfl
 have hnm' : ¬ fn.name = "runtime.NumGoroutine" := by simpa using hnm
 simp [execOp, ho, resolve, Deferred.ofValue, e1, e2, invoke, callFunc, program, Sem.run, Sem.run_bind, Sem.run_pure, Result.andThen, hf, hnm', hb]
theorem run_callFunc {f : FuncId} {args : Array Value} {fn : Func} {c : Code} {w : World} (hf : P.funcs[f]? = some fn) (hb : fn.body = some c) (hnm : (fn.name == "runtime.NumGoroutine") = false) : (callFunc f args).run P w = .ok (.enter f args) w := by
 have hnm' : ¬ fn.name = "runtime.NumGoroutine" := by simpa using hnm
 simp [callFunc, program, Sem.run, Sem.run_bind, Sem.run_pure, Result.andThen, hf, hnm', hb]
theorem pe_val {o : Oper} {x : Operand} {f : FuncId} {first captured : Array Value} {xs : List Operand} {ts : Array TypeId} {vs : List Value} {fn : Func} {c : Code} (ho : o.op = .call { callee := .value x, args := xs.toArray, argTypes := ts }) (hv : ev l x = some (.func (.func f) first captured)) (hx : evs l xs = some vs) (hf : P.funcs[f]? = some fn) (hb : fn.body = some c) (hnm : (fn.name == "runtime.NumGoroutine") = false) :
 PE P n w0 S l m o f (first ++ vs.toArray ++ captured) := fun a w ha hw => by
 have e1 : xs.toArray.map a.eval = vs.toArray := by rw [← ha.evs hx]; simp
 simp only [execOp, ho, resolve, Deferred.ofValue, e1, ha.eval hv, invoke, Sem.run_bind, Sem.run_pure, Result.andThen]
 exact run_callFunc hf hb hnm
theorem G.callO {o : Oper} {d : Nat} {f : FuncId} {args : Array Value} {ro pre r : List Ck} {R : Ending → List Ck → Prop} (hd : o.dst = some d) (hn : Nat.blt d n = true) (he : PE P n w0 S l m o f args) (ht : TrO P f args ro pre R) (hs : Sub m pre r) (hro : ∀ c ∈ ro, May w0 S r c)
 (hret : ∀ v m', R (.returned v) m' → G n w0 S ((d, v) :: l) (m' ++ r) K) (hpan : ∀ c m', R (.panicked c) m' → G n w0 S l (m' ++ r) (Q (.panic c))) (hout : ∀ m', ¬ R .outgrown m') : G n w0 S l m (fun a w => o.wp P a w K Q) := fun a w ha hw => by
 have hw' := hw.perm hs.perm
 have hp : Hp w (U pre) w pre := ⟨Chg.refl _ _, fun c hc => hw'.holds c (List.mem_append_left _ hc), fun c hc b hb => ⟨.inl ⟨c, hc, hb⟩, (hw'.own c (List.mem_append_left _ hc) b hb).2⟩, (List.pairwise_append.1 hw'.dis).1⟩
 have hc := ht w (fun c hc => (hro c hc).ro hw') hp
 show Oper.wp P o a w K Q
 unfold Oper.wp
 rw [he a w ha hw, Oper.upon_enter]
 refine hc.mono ?_
 rintro e w2 ⟨m', hR, hm'⟩
 cases e with
 | returned v =>
  show K (a.put o.dst v) w2
  rw [hd]
  exact hret v m' hR _ _ (ha.put hn v) (hw'.turn hm')
 | panicked c => exact hpan c m' hR a w2 ha (hw'.turn hm')
 | outgrown => exact absurd hR (hout m')
theorem G.cO {X Y : Type} {J : X → Prop} {V : X → Value} {M : X → List Ck} {J' : Y → Prop} {C : Y → List PanicEntry} {M' : Y → List Ck} {o : Oper} {d : Nat} {f : FuncId} {args : Array Value} {ro pre r : List Ck} (hd : o.dst = some d) (hn : Nat.blt d n = true) (he : PE P n w0 S l m o f args)
 (ht : TrO P f args ro pre (TO J V M J' C M')) (hs : Sub m pre r) (hro : ∀ c ∈ ro, May w0 S r c) (hret : ∀ x, J x → G n w0 S ((d, V x) :: l) (M x ++ r) K) (hpan : ∀ y, J' y → G n w0 S l (M' y ++ r) (Q (.panic (C y)))) : G n w0 S l m (fun a w => o.wp P a w K Q) :=
 G.callO hd hn he ht hs hro (fun v m' ⟨x, hJ, hv, hm⟩ => by subst hv; subst hm; exact hret x hJ) (fun c m' ⟨y, hJ, hv, hm⟩ => by subst hv; subst hm; exact hpan y hJ) fun m' h => h
section
variable {X Y : Type} {J : X → Prop} {V : X → Value} {A B : X → Ck} {J' : Y → Prop} {C : Y → List PanicEntry} {A' B' : Y → Ck} {o : Oper} {d : Nat} {f : FuncId} {args : Array Value} {ro pre r : List Ck}
theorem G.cO2 (hd : o.dst = some d) (hn : Nat.blt d n = true) (he : PE P n w0 S l m o f args)
 (ht : TrO P f args ro pre (TO J V (fun x => [A x, B x]) J' C (fun y => [A' y, B' y]))) (hs : Sub m pre r) (hro : ∀ c ∈ ro, May w0 S r c) (hret : ∀ x, J x → G n w0 S ((d, V x) :: l) (A x :: B x :: r) K) (hpan : ∀ y, J' y → G n w0 S l (A' y :: B' y :: r) (Q (.panic (C y)))) : G n w0 S l m (fun a w => o.wp P a w K Q) :=
 G.cO hd hn he ht hs hro hret hpan
theorem G.cO3 {B3 : X → Ck} (hd : o.dst = some d) (hn : Nat.blt d n = true) (he : PE P n w0 S l m o f args)
 (ht : TrO P f args ro pre (TO J V (fun x => [A x, B x, B3 x]) J' C (fun y => [A' y, B' y]))) (hs : Sub m pre r) (hro : ∀ c ∈ ro, May w0 S r c) (hret : ∀ x, J x → G n w0 S ((d, V x) :: l) (A x :: B x :: B3 x :: r) K) (hpan : ∀ y, J' y → G n w0 S l (A' y :: B' y :: r) (Q (.panic (C y)))) : G n w0 S l m (fun a w => o.wp P a w K Q) :=
 G.cO hd hn he ht hs hro hret hpan
theorem G.cO0 (hd : o.dst = some d) (hn : Nat.blt d n = true) (he : PE P n w0 S l m o f args)
 (ht : TrO P f args ro pre (TO J V (fun _ => []) J' C (fun _ => []))) (hs : Sub m pre r) (hro : ∀ c ∈ ro, May w0 S r c) (hret : ∀ x, J x → G n w0 S ((d, V x) :: l) r K) (hpan : ∀ y, J' y → G n w0 S l r (Q (.panic (C y)))) : G n w0 S l m (fun a w => o.wp P a w K Q) :=
 G.cO hd hn he ht hs hro hret hpan
end
theorem G.panicOp {x : Operand} {t : TypeId} {v : Value} (hx : ev l x = some (.iface t v)) (h : G n w0 S l m (Q (.panic [{ v := .iface t v, recovered := false }]))) : G n w0 S l m (fun a w => Oper.wp P ⟨dst, .panic x, ty, pos, after, g⟩ a w K Q) := fun a w ha hw => by
 show Oper.wp P ⟨dst, .panic x, ty, pos, after, g⟩ a w K Q
 unfold Oper.wp
 have hr : (execOp a.eval ⟨dst, .panic x, ty, pos, after, g⟩).run P w = .halt (.panic (.iface t v)) w := by
  simp [execOp, ha.eval hx, Instr.panic, goPanic, Sem.run_bind, Sem.run, Result.andThen]
 rw [hr, Oper.upon_panic]
 exact h a w ha hw
theorem pv_iface {t : TypeId} {x : Operand} {v : Value} {d : TypeDesc} (hu : P.underlying t = some d) (hd : (match d with | .interface _ => true | _ => false) = false) (hx : ev l x = some v) : PV P n w0 S l m ⟨dst, .makeInterface t x, ty, pos, after, g⟩ (.iface t v) := fun act w ha _ => by
 show ((Instr.makeInterface t (act.eval x)) >>= fun x => pure (Next.value x)).run P w = _
 rw [ha.eval hx]
 refine run_v ?_
 unfold Instr.makeInterface
 simp only [Sem.run_bind, run_underlying hu, Result.andThen]
 cases d <;> first | rfl | cases hd
theorem run_eqI0 {ms : Array (String × TypeId)} (ht : P.underlying ty = some (.interface ms)) (w : World) : ∀ d, (Op.equalIn (d + 1) ty .nilIface .nilIface).run P w = .ok true w := fun d => by
 simp [Op.equalIn, Sem.run_bind, run_underlying ht, Result.andThen, Sem.run_pure]
theorem run_eqI1 {ms : Array (String × TypeId)} (ht : P.underlying ty = some (.interface ms)) (t : TypeId) (v : Value) (w : World) : ∀ d, (Op.equalIn (d + 1) ty (.iface t v) .nilIface).run P w = .ok false w := fun d => by
 simp [Op.equalIn, Sem.run_bind, run_underlying ht, Result.andThen, Sem.run_pure]
theorem pv_eqI0 {t u : TypeId} {ms : Array (String × TypeId)} {x : Operand} (ht : P.underlying t = some (.interface ms)) (hx : ev l x = some .nilIface) : PV P n w0 S l m ⟨dst, .binOp .eql t x (.const .nilIface) u, ty, pos, after, g⟩ (.bool true) :=
 pv_bin hx rfl (by rw [eqGuard_nil_constR]) fun w => by
  show ((Op.equalIn Op.maxDepth t .nilIface .nilIface) >>= fun x => pure (Value.bool x)).run P w = _
  have h := run_eqI0 ht w 9999
  simp only [Sem.run_bind, show Op.maxDepth = 9999 + 1 from rfl, h, Result.andThen, Sem.run_pure]
theorem pv_eqI1 {t u d : TypeId} {v : Value} {ms : Array (String × TypeId)} {x : Operand} (ht : P.underlying t = some (.interface ms)) (hx : ev l x = some (.iface d v)) : PV P n w0 S l m ⟨dst, .binOp .eql t x (.const .nilIface) u, ty, pos, after, g⟩ (.bool false) :=
 pv_bin hx rfl (by rw [eqGuard_at_iface]) fun w => by
  show ((Op.equalIn Op.maxDepth t (.iface d v) .nilIface) >>= fun x => pure (Value.bool x)).run P w = _
  have h := run_eqI1 ht d v w 9999
  simp only [Sem.run_bind, show Op.maxDepth = 9999 + 1 from rfl, h, Result.andThen, Sem.run_pure]
theorem pv_assertOk {xt t : TypeId} {x : Operand} {v : Value} {d : TypeDesc} (hu : P.underlying t = some d) (hd : (match d with | .interface _ => true | _ => false) = false) (hx : ev l x = some (.iface t v)) : PV P n w0 S l m ⟨dst, .typeAssert x xt t true, ty, pos, after, g⟩ (.tuple #[v, .bool true]) := fun act w ha _ => by
 show ((Instr.typeAssert (act.eval x) xt t true) >>= fun x => pure (Next.value x)).run P w = _
 rw [ha.eval hx]
 refine run_v ?_
 unfold Instr.typeAssert
 simp only [Sem.run_bind, run_underlying hu, Result.andThen]
 cases d <;> first | (simp [Sem.run_pure]; done) | cases hd
end
theorem SlV.sub {α : Type} {E : Rdr α} {Ps : Nat → Prop} {w : World} {ad : Option Addr} {cap b off : Nat} {xs : List α} (h : SlV E Ps w ad cap b off xs) {i j : Nat} (hij : i ≤ j) (hj : j ≤ xs.length) :
 IsSl E Ps w (subV E.sz ad i j cap) ((xs.take j).drop i) := by
 have hlen : ((xs.take j).drop i).length = j - i := by rw [List.length_drop, List.length_take, Nat.min_eq_left hj]
 have hc := h.hcap
 unfold subV
 refine ⟨_, cap - i, b, off + i * E.sz, by rw [hlen], by rw [hlen]; omega, by have := h.hmax; omega, fun hn => ?_, fun h0 => ?_, fun k hk => ?_⟩
 ·split at hn
  ·have := h.hnil hn; omega
  ·rw [Option.map_eq_none_iff] at hn
   have := h.hnil hn; omega
 ·rw [hlen] at h0
  rw [if_neg (by omega), h.had (by omega), Option.map_some, Addr.add_mid]
 ·rw [hlen] at hk
  have := h.cell (i + k) (by omega)
  rw [show off + (i + k) * E.sz = off + i * E.sz + k * E.sz by rw [Nat.add_mul, Nat.add_assoc]] at this
  have e : ((xs.take j).drop i)[k]'(by rw [hlen]; exact hk) = xs[i + k]'(by omega) := by simp
  rw [e]
  exact this
theorem IsSl.sub {α : Type} {E : Rdr α} {Ps : Nat → Prop} {w : World} {ad : Option Addr} {len cap : Nat} {xs : List α} (h : IsSl E Ps w (.slice ad len cap) xs) {i j : Nat} (hij : i ≤ j) (hj : j ≤ xs.length) :
 IsSl E Ps w (subV E.sz ad i j cap) ((xs.take j).drop i) := by
 obtain ⟨ad2, cap2, b, off, e, hs⟩ := h
 injection e with e1 e2 e3
 subst e1
 subst e3
 exact hs.sub hij hj
section
variable {P : Program} {n : Nat} {w0 : World} {S : Nat → Prop} {l : Fr} {m : List Ck} {Q : Exit → Act → World → Prop} {K : Act → World → Prop}
 {dst : Option Tmp} {ty : TypeId} {pos : String} {after : Array Edge} {g : Option (Nat × Bool)}
theorem Ro.sub {α : Type} {E : Rdr α} {Ps : Nat → Prop} {ad : Option Addr} {len cap : Nat} {xs : List α} (h : Ro w0 S (slc E Ps (.slice ad len cap) xs)) {i j : Nat} (hij : i ≤ j) (hj : j ≤ xs.length) :
 Ro w0 S (slc E Ps (subV E.sz ad i j cap) ((xs.take j).drop i)) := ⟨IsSl.sub h.1 hij hj, h.2⟩
def GD (n : Nat) (w0 : World) (S : Nat → Prop) (l : Fr) (m : List Ck) (ds : List Deferred) (K : Act → World → Prop) : Prop := ∀ a w, At { a with defers := [] } n l → a.defers = ds → Hp w0 S w m → K a w
theorem Act.eval_defers (a : Act) (ds : List Deferred) : Act.eval { a with defers := ds } = a.eval := by
 funext x
 cases x <;> rfl
theorem G.defer {o : Oper} {x : Operand} {fn : Fn} {first captured : Array Value} {ts : Array TypeId} (hd : o.dst = none) (ho : o.op = .defer { callee := .value x, args := #[], argTypes := ts }) (hx : ev l x = some (.func fn first captured))
 (h : GD n w0 S l m [{ target := .fn fn captured, args := first ++ #[] }] K) : G n w0 S l m (fun a w => o.wp P a w K Q) := fun a w ha hw => by
 show Oper.wp P o a w K Q
 unfold Oper.wp
 have hr : (execOp a.eval o).run P w = .ok (.defer { target := .fn fn captured, args := first ++ #[] }) w := by
  simp [execOp, ho, resolve, Deferred.ofValue, ha.eval hx, Sem.run, Sem.run_bind, Sem.run_pure, Result.andThen]
 rw [hr, Oper.upon_defer, hd]
 refine h _ _ ?_ (by show _ :: a.defers = _; rw [ha.defs]) hw
 have : ({ a with defers := [] } : Act) = a := by
  have := ha.defs
  cases a
  simp only at this
  rw [this]
 show At { a with defers := [] } n l
 rw [this]
 exact ha
theorem GD.region {id : Nat} {ops : List Oper} {ds : List Deferred} (h : GD n w0 S l m ds (wpList P ops.toArray Q ops)) : GD n w0 S l m ds ((Code.region id ops.toArray false).wp P Q) := fun a w ha hd hw => wp_region_lit (h a w ha hd hw)
theorem GD.nil {ops : Array Oper} {ds : List Deferred} (h : GD n w0 S l m ds (Q .normal)) : GD n w0 S l m ds (wpList P ops Q []) := h
theorem GD.op {ops : Array Oper} {o : Oper} {rest : List Oper} {ds : List Deferred} (hg : o.guard = none) (h : GD n w0 S l m ds (fun a w => o.wp P a w (wpList P ops Q rest) Q)) : GD n w0 S l m ds (wpList P ops Q (o :: rest)) := fun a w ha hd hw =>
 wpList_plain hg fun K hK => Oper.wp_mono hK (h a w ha hd hw)
theorem GD.val {o : Oper} {d : Nat} {v : Value} {ds : List Deferred} (hd : o.dst = some d) (hn : Nat.blt d n = true) (hv : PV P n w0 S l m o v) (h : GD n w0 S ((d, v) :: l) m ds K) : GD n w0 S l m ds (fun a w => o.wp P a w K Q) := fun a w ha hds hw => by
 show Oper.wp P o a w K Q
 unfold Oper.wp
 have := hv _ w ha hw
 rw [Act.eval_defers] at this
 rw [this, Oper.upon_value, hd]
 exact h _ _ (ha.put hn v) hds hw
theorem GD.callO {o : Oper} {d : Nat} {f : FuncId} {args : Array Value} {ro pre r : List Ck} {ds : List Deferred} {R : Ending → List Ck → Prop} (hd : o.dst = some d) (hn : Nat.blt d n = true) (he : PE P n w0 S l m o f args) (ht : TrO P f args ro pre R) (hs : Sub m pre r) (hro : ∀ c ∈ ro, May w0 S r c)
 (hret : ∀ v m', R (.returned v) m' → GD n w0 S ((d, v) :: l) (m' ++ r) ds K) (hpan : ∀ c m', R (.panicked c) m' → GD n w0 S l (m' ++ r) ds (Q (.panic c))) (hout : ∀ m', ¬ R .outgrown m') : GD n w0 S l m ds (fun a w => o.wp P a w K Q) := fun a w ha hds hw => by
 have hw' := hw.perm hs.perm
 have hp : Hp w (U pre) w pre := ⟨Chg.refl _ _, fun c hc => hw'.holds c (List.mem_append_left _ hc), fun c hc b hb => ⟨.inl ⟨c, hc, hb⟩, (hw'.own c (List.mem_append_left _ hc) b hb).2⟩, (List.pairwise_append.1 hw'.dis).1⟩
 have hc := ht w (fun c hc => (hro c hc).ro hw') hp
 show Oper.wp P o a w K Q
 unfold Oper.wp
 have hrun := he _ w ha hw
 rw [Act.eval_defers] at hrun
 rw [hrun, Oper.upon_enter]
 refine hc.mono ?_
 rintro e w2 ⟨m', hR, hm'⟩
 cases e with
 | returned v =>
  show K (a.put o.dst v) w2
  rw [hd]
  exact hret v m' hR _ _ (ha.put hn v) hds (hw'.turn hm')
 | panicked c => exact hpan c m' hR a w2 ha hds (hw'.turn hm')
 | outgrown => exact absurd hR (hout m')
theorem run_result1 {fn : Func} {t T b o : Nat} {v : Value} {d : TypeDesc} {tmps : Array Value} {w : World} (hr : fn.results = #[.cell t T]) (ht : tmps[t]? = some (.pointer (some ⟨b, o, none⟩))) (hu : P.underlying T = some d) (hd : d.isRow = false) (hc : w.cell? ⟨b, o, none⟩ = some v) : (results fn tmps).run P w = .ok v w := by
 have e : tmps.getD t undef = .pointer (some ⟨b, o, none⟩) := by simp [ht]
 have h1 : (loadVar T ⟨b, o, none⟩).run P w = .ok v w := by
  simp [loadVar, load, Sem.run_bind, isAgg_false hu hd, Result.andThen, Sem.run_pure, Sem.run, hc]
 simp only [results, hr]
 simp [Sem.run_bind, ht, asAddr, h1, Result.andThen, Sem.run_pure]
theorem run_resultN {fn : Func} {t T b o : Nat} {cs : List Value} {d : TypeDesc} {tmps : Array Value} {w : World} (hr : fn.results = #[.cell t T]) (ht : tmps[t]? = some (.pointer (some ⟨b, o, none⟩))) (hu : P.underlying T = some d) (hd : d.isRow = true) (hi : (P.info? T).map (·.size) = some cs.length) (hc : w.rangeAt b o cs) : (results fn tmps).run P w = .ok (.agg cs.toArray) w := by
 have e : tmps.getD t undef = .pointer (some ⟨b, o, none⟩) := by simp [ht]
 have h1 : (loadVar T ⟨b, o, none⟩).run P w = .ok (.agg cs.toArray) w := by
  have := run_loadAt_mid w b o T cs d hc hu hd hi
  simpa [Instr.loadAt, Instr.sureAddr, Sem.run_bind, Sem.run_pure, Result.andThen] using this
 simp only [results, hr]
 simp [Sem.run_bind, ht, asAddr, h1, Result.andThen, Sem.run_pure]
theorem G.doneC {fn : Func} {pre : List Ck} {post : Value → List Ck → Prop} {t T b o : Nat} {v : Value} {d : TypeDesc} {m' r : List Ck} (hr : fn.results = #[.cell t T]) (ht : Fr.get l t = some (.pointer (some ⟨b, o, none⟩))) (hu : P.underlying T = some d) (hd : d.isRow = false) (hc : ∀ w, Hp w0 (U pre) w m → w.cell? ⟨b, o, none⟩ = some v)
 (hs : Sub m m' r) (hp : post v m') : G n w0 (U pre) l m (bodyPost P fn (TrR w0 pre post) .ret) :=
 G.doneBy (fun a w ha hw => run_result1 hr (ha.get _ _ ht) hu hd (hc w hw)) hs hp
theorem G.doneCN {fn : Func} {pre : List Ck} {post : Value → List Ck → Prop} {t T b o : Nat} {cs : List Value} {d : TypeDesc} {m' r : List Ck} (hr : fn.results = #[.cell t T]) (ht : Fr.get l t = some (.pointer (some ⟨b, o, none⟩))) (hu : P.underlying T = some d) (hd : d.isRow = true) (hi : (P.info? T).map (·.size) = some cs.length) (hc : ∀ w, Hp w0 (U pre) w m → w.rangeAt b o cs)
 (hs : Sub m m' r) (hp : post (.agg cs.toArray) m') : G n w0 (U pre) l m (bodyPost P fn (TrR w0 pre post) .ret) :=
 G.doneBy (fun a w ha hw => run_resultN hr (ha.get _ _ ht) hu hd hi (hc w hw)) hs hp
theorem Tr.imp {f : FuncId} {args : Array Value} {ro pre : List Ck} {post post' : Value → List Ck → Prop} (h : Tr P f args ro pre post) (hp : ∀ v m, post v m → post' v m) : Tr P f args ro pre post' := fun w hro hw =>
 (h w hro hw).mono fun e w' ⟨v, m', he, hm, hw'⟩ => ⟨v, m', he, hp v m' hm, hw'⟩
theorem Tr.impH {f : FuncId} {args : Array Value} {ro pre : List Ck} {post post' : Value → List Ck → Prop} (h : Tr P f args ro pre post) (hp : ∀ v m, post v m → ∃ m', post' v m' ∧ ∀ w0 S w, Hp w0 S w m → Hp w0 S w m') : Tr P f args ro pre post' := fun w hro hw =>
 (h w hro hw).mono fun e w' ⟨v, m', he, hm, hw'⟩ => let ⟨m2, h2, h3⟩ := hp v m' hm; ⟨v, m2, he, h2, h3 _ _ _ hw'⟩
theorem hp_ownNil {w : World} (e sz : Nat) (hw : Hp w0 S w m) : Hp w0 S w (own e sz (.slice none 0 0) 0 [] :: m) := by
 refine hw.adds (m' := [own e sz (.slice none 0 0) 0 []]) ⟨Chg.refl _ _, fun c hc => ?_, fun c hc b hb => ?_, by simp⟩
 ·obtain rfl : c = _ := by simpa using hc
  exact World.ownsRow_nil w 0 e sz
 ·obtain rfl : c = _ := by simpa using hc
  cases hb
theorem G.cN {X : Type} {J : X → Prop} {V : X → Value} {M : X → List Ck} {o : Oper} {d : Nat} {f : FuncId} {xs : List Operand} {ts : Array TypeId} {vs : List Value} {ro pre r : List Ck} (hd : o.dst = some d) (hn : Nat.blt d n = true)
 (ho : o.op = .call { callee := .value (.func f), args := xs.toArray, argTypes := ts }) (hx : evs l xs = some vs) {fn : Func} {c : Code} (hf : P.funcs[f]? = some fn) (hb : fn.body = some c) (hnm : (fn.name == "runtime.NumGoroutine") = false)
 (ht : Tr P f vs.toArray ro pre (TX J V M)) (hm : Sub m pre r) (hro : ∀ c ∈ ro, May w0 S r c) (h : ∀ x, J x → G n w0 S ((d, V x) :: l) (M x ++ r) K) : G n w0 S l m (fun a w => o.wp P a w K Q) :=
 G.tr hd hn ho hx hf hb hnm ht hm hro fun v m' ⟨x, hJ, hv, hm⟩ => by subst hv; subst hm; exact h x hJ
theorem G.noDefers {fn : Func} {R : Ending → World → Prop} (hr : fn.results = #[]) (h : ∀ w, Hp w0 S w m → R (.returned (.tuple #[])) w) : G n w0 S l m (bodyPostD P fn R .ret) := fun a w ha hw => by
 show Leaves P fn a.tmps R a.defers .returning w
 rw [ha.defs]
 exact ⟨_, results_none hr _ _ _, h w hw⟩
theorem GD.nThen {ds : List Deferred} (h : GD n w0 S l m ds K) : GD n w0 S l m ds (Exit.then K Q .normal) := h
theorem Sel.mid (q p : List Ck) (c : Ck) : Sel (q ++ c :: p) c (q ++ p) := by
 induction q with
 | nil => exact .here
 | cons d q ih => exact .there ih
theorem Sub.right (q : List Ck) : ∀ p : List Ck, Sub (q ++ p) p q
 | [] => by rw [List.append_nil]; exact .nil
 | c :: p => .cons (Sel.mid q p c) (Sub.right q p)
theorem Tr.ofD {f : FuncId} {args : Array Value} {ro pre : List Ck} {post : Value → List Ck → Prop} {fn : Func} {c : Code} {n : Nat} {l : Fr} (hf : P.funcs[f]? = some fn) (hb : fn.body = some c) (hn : args.size + (fn.ntmps - args.size) = n) (hl : Fa args l)
 (h : ∀ w0, (∀ c ∈ ro, Ro w0 (U pre) c) → G n w0 (U pre) l pre (c.wp P (bodyPostD P fn (TrR w0 pre post)))) : Tr P f args ro pre post := fun w hro hp =>
 calls_of_wp_defers hf hb (h w hro _ _ ⟨by simp [hn], rfl, fun t v ht => by
  have := hl.get t v ht
  rw [Array.getElem?_append_left]
  ·exact this
  ·exact (Array.getElem?_eq_some_iff.1 this).1⟩ hp)
theorem G.doneD {fn : Func} {pre post r : List Ck} (hr : fn.results = #[]) (hs : Sub m post r) : G n w0 (U pre) l m (bodyPost P fn (fun e w' => (∃ v, e = .returned v) ∧ Hp w0 (U pre) w' post) .normal) :=
 G.end0 hr fun w hw => ⟨⟨_, rfl⟩, (hw.perm hs.perm).sub (List.sublist_append_left _ _)⟩
theorem run_invokeF {f : FuncId} {args cap : Array Value} {fn : Func} {c : Code} (hf : P.funcs[f]? = some fn) (hb : fn.body = some c) (hnm : (fn.name == "runtime.NumGoroutine") = false) (w : World) : (invoke (.fn (.func f) cap) args).run P w = .ok (.enter f (args ++ cap)) w := by
 simp only [invoke]
 exact run_callFunc hf hb hnm
def TrD (P : Program) (f : FuncId) (args : Array Value) (u u' : FrameMode) (pre post : List Ck) : Prop :=
 ∀ w, Hp w (U pre) w pre → CallsD P f args u w fun e u2 w' => (∃ v, e = .returned v) ∧ u2 = u' ∧ Hp w (U pre) w' post
theorem GD.leave {fn : Func} {R : Ending → World → Prop} {f : FuncId} {args dargs cap : Array Value} {fv : Fn} {u u' : FrameMode} {pre post r : List Ck} {e : Exit} (he : ∀ a w, bodyPostD P fn R e a w = Leaves P fn a.tmps R a.defers u w) (hu : u ≠ .run)
 (hi : ∀ w, (invoke (.fn fv cap) dargs).run P w = .ok (.enter f args) w) (ht : TrD P f args u u' pre post) (hs : Sub m pre r) (hset : settle u' = .returning) (hr : fn.results = #[])
 (h : ∀ w, Hp w0 S w (post ++ r) → R (.returned (.tuple #[])) w) : GD n w0 S l m [{ target := .fn fv cap, args := dargs }] (bodyPostD P fn R e) := fun a w ha hds hw => by
 rw [he, hds]
 have hw' := hw.perm hs.perm
 have hp : Hp w (U pre) w pre := ⟨Chg.refl _ _, fun c hc => hw'.holds c (List.mem_append_left _ hc), fun c hc b hb => ⟨.inl ⟨c, hc, hb⟩, (hw'.own c (List.mem_append_left _ hc) b hb).2⟩, (List.pairwise_append.1 hw'.dis).1⟩
 refine leaves_cons hu (hi w) ((ht w hp).mono ?_)
 rintro e u2 w2 ⟨⟨v, rfl⟩, rfl, hm⟩
 show Leaves P fn a.tmps R [] (settle u2) w2
 rw [hset]
 exact ⟨_, results_none hr _ _ _, h w2 (hw'.turn hm)⟩
theorem TrD.of {f : FuncId} {fn : Func} {c : Code} {id d : Nat} {o : Oper} {args : Array Value} {u u' : FrameMode} {v : Value} {pre post : List Ck} {n : Nat} {l : Fr} (hf : P.funcs[f]? = some fn) (hb : fn.body = some (.seq (.region id #[o] false) c)) (hr : fn.results = #[])
 (hn : args.size + (fn.ntmps - args.size) = n) (hl : Fa args l) (hd : o.dst = some d) (hdn : Nat.blt d n = true) (hg : o.guard = none) (ho : ∀ ρ w, (execOp ρ o).run P w = .ok .recover w)
 (hrec : (u = .returning ∧ v = .nilIface ∧ u' = u) ∨ ∃ x, u = .panicking [{ v := x, recovered := false }] ∧ v = x ∧ u' = .panicking [{ v := x, recovered := true }])
 (h : ∀ w, G n w (U pre) ((d, v) :: l) pre (c.wp P (bodyPost P fn (fun e w' => (∃ v, e = .returned v) ∧ Hp w (U pre) w' post)))) : TrD P f args u u' pre post := fun w hw => by
 refine callsD_of_wpS hf hb fun c0 cs hu => wpS_seq (wpS_region ?_)
 have hA : At { tmps := args ++ Array.replicate (fn.ntmps - args.size) undef, defers := [] } n l := ⟨by simp [hn], rfl, fun t v ht => by
  have := hl.get t v ht
  rw [Array.getElem?_append_left]
  ·exact this
  ·exact (Array.getElem?_eq_some_iff.1 this).1⟩
 have key : ∀ cs', (∃ c1 : Frame, cs' = { c1 with mode := u' } :: cs ∧ c1 = c0) → Exit.thenS (c.wpS P (bodyPostS P fn c0 cs fun e u2 w' => (∃ v, e = .returned v) ∧ u2 = u' ∧ Hp w (U pre) w' post)) (bodyPostS P fn c0 cs fun e u2 w' => (∃ v, e = .returned v) ∧ u2 = u' ∧ Hp w (U pre) w' post) .normal (Act.put { tmps := args ++ Array.replicate (fn.ntmps - args.size) undef, defers := [] } o.dst v) cs' w := by
  rintro cs' ⟨c1, rfl, rfl⟩
  show Code.wpS P c _ _ _ w
  rw [hd]
  refine wpS_of_wp (wp_mono (h w _ _ (hA.put hdn v) hw) ?_)
  intro e a' w' hq
  cases e with
  | normal =>
   obtain ⟨hd, v, hr, hR⟩ := hq
   exact ⟨hd, u', rfl, v, hr, hR.1, rfl, hR.2⟩
  | ret =>
   obtain ⟨hd, v, hr, hR⟩ := hq
   exact ⟨hd, u', rfl, v, hr, hR.1, rfl, hR.2⟩
  | panic chain =>
   obtain ⟨hd, ⟨v, hv⟩, hR⟩ := hq
   cases hv
  | exit id => exact hq.elim
  | goto l => exact hq.elim
  | outgrown =>
   obtain ⟨⟨v, hv⟩, hR⟩ := hq
   cases hv
 have hwant : ∀ ts, Region.wanted o (yielded #[o] ts) = true := fun ts => by simp [Region.wanted, hg]
 show wpOpsS P #[o] _ [0] _ _ _
 unfold wpOpsS
 simp only [List.getElem?_toArray, List.getElem?_cons_zero, hwant, if_true, ho]
 rcases hrec with ⟨rfl, rfl, rfl⟩ | ⟨x, rfl, rfl, rfl⟩
 ·have e : recoverD (c0 :: cs) = none := by unfold recoverD; simp only [hu]
  rw [e]
  exact key (c0 :: cs) ⟨c0, by rw [← hu], rfl⟩
 ·have e : recoverD (c0 :: cs) = some (v, { c0 with mode := .panicking [{ v := v, recovered := true }] } :: cs) := by unfold recoverD; simp only [hu]
  rw [e]
  exact key _ ⟨c0, rfl, rfl⟩
end
section
variable {P : Program} {n : Nat} {w0 : World} {S : Nat → Prop} {l : Fr} {m : List Ck} {Q : Exit → Act → World → Prop} {K : Act → World → Prop}
 {dst : Option Tmp} {ty : TypeId} {pos : String} {after : Array Edge} {g : Option (Nat × Bool)}
theorem At.yieldedU {a : Act} {ops : Array Oper} {j t : Nat} (ha : At a n l) (hj : (ops[j]?).bind (·.dst) = some t) (ht : Fr.get l t = some undef) : Go.yielded ops a.tmps j = none := by
 unfold Go.yielded
 rw [hj]
 simp [ha.get t _ ht, undef]
theorem G.passU {ops : Array Oper} {o : Oper} {rest : List Oper} {j t d : Nat} {b : Bool} (hg : o.guard = some (j, b)) (hj : (ops[j]?).bind (·.dst) = some t) (ht : Fr.get l t = some undef) (hd : o.dst = some d) (hn : Nat.blt d n = true)
 (h : G n w0 S ((d, undef) :: l) m (wpList P ops Q rest)) : G n w0 S l m (wpList P ops Q (o :: rest)) := fun a w ha hw =>
 wpList_step fun K hK => by
  have e : Region.wanted o (yielded ops a.tmps) = false := by
   simp only [Region.wanted, hg, ha.yieldedU hj ht]
   rfl
  rw [if_neg (by rw [e]; simp), hd]
  exact hK _ _ (h _ _ (ha.put hn undef) hw)
theorem subV_zero (sz : Nat) (ad : Option Addr) (j cap : Nat) : subV sz ad 0 j cap = .slice ad j cap := by
 unfold subV
 simp
 intro h
 cases ad <;> simp [Addr.add]
theorem run_partC {e : TypeId} {off : Nat} {xs : Array Value} {v : Value} {d : TypeDesc} (hu : P.underlying e = some d) (hd : d.isRow = false) (hv : xs[off]? = some v) (w : World) : (part e xs off).run P w = .ok v w := by
 simp only [part, Sem.run_bind, isAgg_false hu hd, Result.andThen_ok, Bool.false_eq_true, if_false, hv, Sem.run_pure]
theorem eqGuard_agg {op : BinOp} {t : TypeId} {x y : Operand} {xs ys : Array Value} (hg : P.eqGuardType P.depth t = false) (w : World) : (eqGuard op t x y (.agg xs) (.agg ys)).run P w = .ok () w := by
 cases op <;> (simp [eqGuard, Sem.run_bind, run_program, Result.andThen]) <;> (intro h; rw [hg] at h; cases h)
theorem pv_binA {op : BinOp} {t u : TypeId} {x y : Operand} {xs ys : Array Value} {v : Value} (hg : P.eqGuardType P.depth t = false) (hx : ev l x = some (.agg xs)) (hy : ev l y = some (.agg ys)) (hr : ∀ w, (binOp op t (.agg xs) (.agg ys)).run P w = .ok v w) :
 PV P n w0 S l m ⟨dst, .binOp op t x y u, ty, pos, after, g⟩ v := fun a w ha _ => by
 show ((do eqGuard op t x y (a.eval x) (a.eval y); binOp op t (a.eval x) (a.eval y)) >>= fun v => pure (Next.value v)).run P w = _
 rw [ha.eval hx, ha.eval hy]
 simp only [Sem.run_bind, eqGuard_agg hg, Result.andThen_ok, hr, Sem.run_pure]
theorem run_eqItems8 {e : TypeId} (hu : P.underlying e = some (.int .u8)) {a b : List UInt8} (k : Nat) (w : World) : ∀ (is : List Nat), (∀ i ∈ is, i < a.length ∧ i < b.length) →
 (Op.eqItems (k + 1) e 1 (a.map vByte).toArray (b.map vByte).toArray is).run P w = .ok (is.all fun i => decide (a[i]? = b[i]?)) w
 | [], _ => by simp [Op.eqItems]
 | i :: is, h => by
  obtain ⟨h1, h2⟩ := h i (List.mem_cons_self ..)
  have p1 := run_partC (xs := (a.map vByte).toArray) (off := i * 1) (v := vByte a[i]) hu rfl (by simp [h1]) w
  have p2 := run_partC (xs := (b.map vByte).toArray) (off := i * 1) (v := vByte b[i]) hu rfl (by simp [h2]) w
  have p3 : (Op.equalIn (k + 1) e (vByte a[i]) (vByte b[i])).run P w = .ok (decide (a[i]? = b[i]?)) w := by
   have : decide (a[i]? = b[i]?) = ((a[i].toNat : Int) == (b[i].toNat : Int)) := by
    rw [List.getElem?_eq_getElem h1, List.getElem?_eq_getElem h2]
    by_cases hx : a[i] = b[i]
    ·simp [hx]
    ·have : ¬ (a[i].toNat : Int) = (b[i].toNat : Int) := fun h3 => hx (UInt8.toNat_inj.1 (by omega))
     simp [hx, this]
   rw [this]
   exact run_equalIn_int w k e .u8 .u8 _ _ hu
  simp only [Op.eqItems, Sem.run_bind, p1, p2, p3, Result.andThen_ok, List.all_cons]
  cases hd : decide (a[i]? = b[i]?)
  ·simp
  ·simpa using run_eqItems8 hu k w is fun j hj => h j (List.mem_cons_of_mem _ hj)
theorem all_range_eq {a b : List UInt8} {n : Nat} (ha : a.length = n) (hb : b.length = n) : ((List.range n).all fun i => decide (a[i]? = b[i]?)) = decide (a = b) := by
 by_cases h : a = b
 ·subst h; simp
 ·rw [decide_eq_false h]
  rw [Bool.eq_false_iff]
  intro hall
  refine h (List.ext_getElem? fun i => ?_)
  rcases Nat.lt_or_ge i n with hi | hi
  ·exact of_decide_eq_true (List.all_eq_true.1 hall i (List.mem_range.2 hi))
  ·rw [List.getElem?_eq_none (by omega), List.getElem?_eq_none (by omega)]
theorem run_eqAr8 {t e : TypeId} {k : Nat} {i : TypeInfo} {a b : List UInt8} (hu : P.underlying t = some (.array k e)) (hi : P.info? e = some i) (hc : P.cellsOf e = 1) (he : P.underlying e = some (.int .u8)) (ha : a.length = k) (hb : b.length = k) (w : World) :
 (Op.equalIn Op.maxDepth t (.agg (a.map vByte).toArray) (.agg (b.map vByte).toArray)).run P w = .ok (decide (a = b)) w := by
 rw [show Op.maxDepth = 9999 + 1 from rfl, run_equalIn_array w 9999 _ _ hu hi, hc, run_eqItems8 he 9998 w _ fun j hj => by have := List.mem_range.1 hj; omega, all_range_eq ha hb]
theorem pv_neqAr8 {t u e : TypeId} {k : Nat} {i : TypeInfo} {x y : Operand} {a b : List UInt8} (hu : P.underlying t = some (.array k e)) (hi : P.info? e = some i) (hc : P.cellsOf e = 1) (he : P.underlying e = some (.int .u8)) (hg : P.eqGuardType P.depth t = false) (hx : ev l x = some (.agg (a.map vByte).toArray)) (hy : ev l y = some (.agg (b.map vByte).toArray)) (ha : a.length = k) (hb : b.length = k) :
 PV P n w0 S l m ⟨dst, .binOp .neq t x y u, ty, pos, after, g⟩ (.bool (!decide (a = b))) :=
 pv_binA hg hx hy fun w => by
  show ((Op.equalIn Op.maxDepth t _ _) >>= fun x => pure (Value.bool (!x))).run P w = _
  simp only [Sem.run_bind, run_eqAr8 hu hi hc he ha hb, Result.andThen_ok, Sem.run_pure]
end
def OwnB (w : World) (e : TypeId) (v : Value) (xs : List UInt8) : Prop := (v = .slice none 0 0 ∧ xs = []) ∨ ∃ (g : Nat) (sp : List UInt8), v = .slice (some ⟨g, 0, none⟩) xs.length (xs.length + sp.length) ∧ xs.length + sp.length ≤ 9223372036854775807 ∧ w.heap[g]? = some (.cells ((xs ++ sp).map vByte).toArray e (0, 0))
def ownB (e : TypeId) (v : Value) (xs : List UInt8) : Ck := ⟨fun b => v.ownBlock = some b, fun w => OwnB w e v xs, fun w w' h hw => by
 rcases hw with h1 | ⟨g, sp, rfl, hm, hg⟩
 ·exact .inl h1
 ·exact .inr ⟨g, sp, rfl, hm, (h g rfl).trans hg⟩⟩
theorem OwnB.own {w : World} {e : TypeId} {v : Value} {xs : List UInt8} (h : OwnB w e v xs) : w.ownsRow 0 e 1 v xs.length (xs.map vByte) := by
 rcases h with ⟨rfl, rfl⟩ | ⟨g, sp, rfl, hm, hg⟩
 ·exact World.ownsRow_nil w 0 e 1
 ·refine ⟨by simp, .inr ⟨g, _, _, rfl, Nat.zero_le _, hg, by omega, by unfold maxLen; omega, by simp, ?_⟩⟩
  simp [List.map_append]
theorem zeroB (k : Nat) : Builtin.zeroCells (Value.int .u8 0).cells k = ((List.replicate k (0 : UInt8)).map vByte).toArray := by
 unfold Builtin.zeroCells
 apply Array.ext
 ·simp [Value.cells]
 ·intro i h1 h2
  simp [Value.cells, vByte, Nat.mod_one]
section
variable {P : Program} {n : Nat} {w0 : World} {S : Nat → Prop} {l : Fr} {m : List Ck} {Q : Exit → Act → World → Prop} {K : Act → World → Prop}
 {dst : Option Tmp} {ty : TypeId} {pos : String} {after : Array Edge} {g : Option (Nat × Bool)}
theorem run_append_ownB {w : World} {t ty e : TypeId} {i : TypeInfo} {bytes : Nat} (ht : P.underlying t = some (.slice e)) (hi : P.info? e = some i) (hz : i.zero = some (.int .u8 0)) (hsize : i.size = 1) (hby : i.bytes = bytes) {v : Value} {xs ys : List UInt8} (h : OwnB w e v xs)
 (a : Addr) (c : Nat) (hnews : ∀ j u, (ys.map vByte)[j]? = some u → w.cell? (a.add j) = some u) (h63 : xs.length + ys.length ≤ 9223372036854775807) (hbytes : (xs.length + ys.length) * bytes ≤ 140737488355328) :
 ∃ v' w', (Builtin.append_ #[t, t] ty #[v, .slice (some a) ys.length c]).run P w = .ok v' w' ∧ OwnB w' e v' (xs ++ ys) ∧ w.grownBy w' v.ownBlock ∧ ∀ k, v'.ownBlock = some k → v.ownBlock = some k ∨ w.heap.size ≤ k := by
 subst hby
 have hl : (ys.map vByte).length = ys.length * i.size := by rw [hsize]; simp
 have hlx : (xs.map vByte).length = xs.length * i.size := by rw [hsize]; simp
 rcases h with ⟨rfl, rfl⟩ | ⟨g, sp, rfl, hm, hg⟩
 ·by_cases hy : ys = []
  ·subst hy
   refine ⟨.slice none 0 0, w, ?_, .inl ⟨rfl, rfl⟩, ⟨rfl, rfl, rfl, Nat.le_refl _, fun _ _ _ => rfl⟩, fun k hk => by cases hk⟩
   simp [Builtin.append_, run_underlying ht, sizeOf, typeInfo, hi, Builtin.lenOf, Builtin.firstCells, loadCells, loadCellsFrom]
  ·have h0 : 0 < ys.length := List.length_pos_iff.2 hy
   have hr := run_append_nil (P := P) w t ty e i _ ht hi hz a ys.length c _ hl hnews h0 (by simp at h63; omega) (by simp at hbytes; omega)
   have hge := grownCap_ge w ys.length 0 e
   have hcm : grownCap w ys.length 0 e ≤ maxLen := grownCap_le_maxLen w ys.length 0 e (by unfold maxLen; simp at h63; omega)
   refine ⟨_, _, hr, .inr ⟨w.heap.size, List.replicate (grownCap w ys.length 0 e - ys.length) 0, ?_, ?_, ?_⟩, ⟨rfl, rfl, rfl, by simp, fun k hk _ => heap_alloc_old w.drew _ hk⟩, fun k hk => ?_⟩
   ·simp; omega
   ·unfold maxLen at hcm; simp; omega
   ·rw [zeroB, show ((ys.map vByte).toArray ++ ((List.replicate (grownCap w ys.length 0 e - ys.length) (0 : UInt8)).map vByte).toArray) = (([] ++ ys ++ List.replicate (grownCap w ys.length 0 e - ys.length) (0 : UInt8)).map vByte).toArray by apply Array.ext'; simp]
    exact heap_alloc_new w.drew _
   ·simp [Value.ownBlock] at hk
    exact .inr (by omega)
 ·by_cases hroom : xs.length + ys.length ≤ xs.length + sp.length
  ·have hr := run_append_room (P := P) w t ty e i ht hi g xs.length (xs.length + sp.length) _ hg a ys.length c _ hl hnews (fun u hu => vByte_one ys u hu) hroom (by rw [hsize]; simp; omega)
   refine ⟨_, _, hr, .inr ⟨g, sp.drop ys.length, ?_, ?_, ?_⟩, ⟨rfl, rfl, rfl, by simp, fun k _ hk => setRow_other w g k _ (fun e => hk (by simp [Value.ownBlock, e]))⟩, fun k hk => .inl hk⟩
   ·simp; omega
   ·simp; omega
   ·have := setRow_heap w g _ (((xs ++ sp).map vByte).toArray.toList.take (xs.length * i.size) ++ ys.map vByte ++ ((xs ++ sp).map vByte).toArray.toList.drop (xs.length * i.size + (ys.map vByte).length)).toArray e _ hg
    rw [this]
    congr 3
    rw [hsize]
    simp [List.map_append, List.take_append, List.drop_append]
  ·have holds : ∀ j u, (xs.map vByte)[j]? = some u → w.cell? ((⟨g, 0, none⟩ : Addr).add j) = some u := fun j u hu => by
    rw [addr_mid, cell_of_row _ _ _ _ _ _ hg]
    simp only [List.getElem?_toArray, List.map_append]
    rw [Nat.zero_add, List.getElem?_append_left (List.getElem?_eq_some_iff.1 hu).1]
    exact hu
   have hr := run_append_grow (P := P) w t ty e i _ ht hi hz ⟨g, 0, none⟩ xs.length (xs.length + sp.length) _ hlx holds a ys.length c _ hl hnews (by omega) (by omega) (growslice_fits (by omega) hbytes)
   have hge := grownCap_ge w (xs.length + ys.length) (xs.length + sp.length) e
   have hcm : grownCap w (xs.length + ys.length) (xs.length + sp.length) e ≤ maxLen := grownCap_le_maxLen w _ _ e (by unfold maxLen; omega)
   generalize hcap : grownCap w (xs.length + ys.length) (xs.length + sp.length) e = cp at hr hge hcm
   refine ⟨_, _, hr, .inr ⟨w.heap.size, List.replicate (cp - (xs.length + ys.length)) 0, ?_, ?_, ?_⟩, ⟨rfl, rfl, rfl, by simp, fun k hk _ => heap_alloc_old w.drew _ hk⟩, fun k hk => ?_⟩
   ·simp; omega
   ·unfold maxLen at hcm; simp; omega
   ·rw [zeroB, show ((xs.map vByte).toArray ++ (ys.map vByte).toArray ++ ((List.replicate (cp - (xs.length + ys.length)) (0 : UInt8)).map vByte).toArray) = ((xs ++ ys ++ List.replicate (cp - (xs.length + ys.length)) (0 : UInt8)).map vByte).toArray by apply Array.ext'; simp]
    exact heap_alloc_new w.drew _
   ·simp [Value.ownBlock] at hk
    exact .inr (by omega)
theorem OwnB.lt {w : World} {e : TypeId} {v : Value} {xs : List UInt8} (h : OwnB w e v xs) {b : Nat} (hb : v.ownBlock = some b) : b < w.heap.size := by
 rcases h with ⟨rfl, rfl⟩ | ⟨g, sp, rfl, hm, hg⟩
 ·cases hb
 ·simp [Value.ownBlock] at hb
  subst hb
  exact (Array.getElem?_eq_some_iff.1 hg).1
theorem hp_appendB {w w' : World} {e : TypeId} {v v' : Value} {xs ys : List UInt8} {r : List Ck} (hw : Hp w0 S w (ownB e v xs :: r)) (ho : OwnB w' e v' ys) (hg : w.grownBy w' v.ownBlock) (hk : ∀ k, v'.ownBlock = some k → v.ownBlock = some k ∨ w.heap.size ≤ k) :
 Hp w0 S w' (ownB e v' ys :: r) := by
 refine Hp.turn (p := [ownB e v xs]) (p' := [ownB e v' ys]) hw ⟨(Chg.of_grown hg).mono fun b hb => ⟨_, List.mem_cons_self .., hb⟩, fun c hc => ?_, fun c hc b hb => ?_, by simp⟩
 ·obtain rfl : c = _ := by simpa using hc
  exact ho
 ·obtain rfl : c = _ := by simpa using hc
  refine ⟨?_, ho.lt hb⟩
  rcases hk b hb with h | h
  ·exact .inl ⟨_, List.mem_cons_self .., h⟩
  ·exact .inr h
theorem G.ownBNil (e : TypeId) (h : G n w0 S l (ownB e (.slice none 0 0) [] :: m) K) : G n w0 S l m K := G.mem (fun w hw => by
 refine hw.adds (m' := [ownB e (.slice none 0 0) []]) ⟨Chg.refl _ _, fun c hc => ?_, fun c hc b hb => ?_, by simp⟩
 ·obtain rfl : c = _ := by simpa using hc
  exact .inl ⟨rfl, rfl⟩
 ·obtain rfl : c = _ := by simpa using hc
  cases hb) h
theorem hp_view {c d : Ck} {r : List Ck} {w : World} (hw : Hp w0 S w (c :: r)) (hφ : c.φ w → d.φ w) (hS : ∀ b, d.S b → c.S b) : Hp w0 S w (d :: r) := by
 refine ⟨hw.chg, fun x hx => ?_, fun x hx b hb => ?_, List.pairwise_cons.2 ⟨fun x hx b h1 h2 => (List.pairwise_cons.1 hw.dis).1 x hx b (hS b h1) h2, (List.pairwise_cons.1 hw.dis).2⟩⟩
 ·rcases List.mem_cons.1 hx with rfl | hx
  ·exact hφ (hw.holds _ (List.mem_cons_self ..))
  ·exact hw.holds x (List.mem_cons_of_mem _ hx)
 ·rcases List.mem_cons.1 hx with rfl | hx
  ·exact hw.own _ (List.mem_cons_self ..) b (hS b hb)
  ·exact hw.own x (List.mem_cons_of_mem _ hx) b hb
theorem G.ownBOwn {e : TypeId} {v : Value} {xs : List UInt8} {r : List Ck} (hs : Sel m (ownB e v xs) r) (h : G n w0 S l (own e 1 v xs.length (xs.map vByte) :: r) K) : G n w0 S l m K := G.mem (fun w hw => hp_view (c := ownB e v xs) (d := own e 1 v xs.length (xs.map vByte)) (hw.sel hs) OwnB.own fun b hb => hb) h
theorem may_ownB {e : TypeId} {v : Value} {xs : List UInt8} {r : List Ck} (h : Sel m (ownB e v xs) r) : May w0 S m (slc rByte (fun b => v.ownBlock = some b) v xs) :=
 .view h.mem (fun w hw => own_isSl' (OwnB.own hw) rfl fun _ _ => trivial) fun b h => h
theorem G.appendB {Ps : Nat → Prop} {t e d bytes : Nat} {s x : Operand} {v u : Value} {xs ys : List UInt8} {r : List Ck} (hn : Nat.blt d n = true) (hu : P.underlying t = some (.slice e)) (hi : (P.info? e).map (fun i => (i.zero, i.size, i.bytes)) = some (some (.int .u8 0), 1, bytes))
 (hs : ev l s = some v) (hx : ev l x = some u) (hsel : Sel m (ownB e v xs) r) (hsl : ∀ w, Hp w0 S w m → IsSl rByte Ps w u ys) (hbig : (xs.length + ys.length) * bytes ≤ 140737488355328) (h63 : xs.length + ys.length ≤ 9223372036854775807)
 (h : ∀ v', G n w0 S ((d, v') :: l) (ownB e v' (xs ++ ys) :: r) K) : G n w0 S l m (fun a w => Oper.wp P ⟨some d, .call ⟨.builtin .append, #[s, x], #[t, t]⟩, ty, pos, after, g⟩ a w K Q) := G.eff rfl hn fun a w ha hw => by
 obtain ⟨i, hi1, hi2⟩ := Option.map_eq_some_iff.1 hi
 have hz : i.zero = some (.int .u8 0) := congrArg Prod.fst hi2
 have hi4 : i.size = 1 := congrArg (fun p => p.2.1) hi2
 have hi5 : i.bytes = bytes := congrArg (fun p => p.2.2) hi2
 have hw' := hw.sel hsel
 have hown : OwnB w e v xs := hw'.holds _ (List.mem_cons_self ..)
 obtain ⟨ad, cap, b, off, rfl, hsv⟩ := hsl w hw
 have run : ∀ v' w', (Builtin.append_ #[t, t] ty #[v, .slice ad ys.length cap]).run P w = .ok v' w' → (execOp a.eval ⟨some d, .call ⟨.builtin .append, #[s, x], #[t, t]⟩, ty, pos, after, g⟩).run P w = .ok (.value v') w' := fun v' w' hr => by
  simp only [execOp, resolve, invoke, builtin, Sem.run_bind, Sem.run_pure, Result.andThen_ok, List.map_toArray, List.map_cons, List.map_nil, ha.eval hs, ha.eval hx, hr]
 cases ad with
 | none =>
  have hj : ys.length = 0 := by
   rcases Nat.eq_zero_or_pos ys.length with h | h
   ·exact h
   ·cases hsv.had h
  have hnw : ys = [] := List.eq_nil_of_length_eq_zero hj
  subst hnw
  have := hsv.hnil rfl
  subst this
  have hr := run_append_owned_none (P := P) w 0 t ty e i 1 hu hi1 v _ _ hown.own
  refine ⟨_, _, _, run _ _ hr, hw', ?_⟩
  have := h v
  simpa using this
 | some ad =>
  obtain ⟨v', w', hr, h2, h3, h4⟩ := run_append_ownB (P := P) (w := w) (t := t) (ty := ty) (ys := ys) hu hi1 hz hi4 hi5 hown ad cap (fun j u hj => by
   rw [List.getElem?_map] at hj
   obtain ⟨z, hzz, rfl⟩ := Option.map_eq_some_iff.1 hj
   obtain ⟨hlt, rfl⟩ := List.getElem?_eq_some_iff.1 hzz
   have e1 := Option.some.inj (hsv.had (by omega))
   rw [e1, addr_mid]
   have := (hsv.cell j hlt).2.1
   rwa [show off + j * rByte.sz = off + j from by show off + j * 1 = _; omega] at this) h63 hbig
  exact ⟨_, _, _, run _ _ hr, hp_appendB hw' h2 h3 h4, h v'⟩
end
section
variable {P : Program} {n : Nat} {w0 : World} {S : Nat → Prop} {l : Fr} {m : List Ck} {Q : Exit → Act → World → Prop} {K : Act → World → Prop}
 {dst : Option Tmp} {ty : TypeId} {pos : String} {after : Array Edge} {g : Option (Nat × Bool)}
inductive Kp (l : Fr) : List Nat → Fr → Prop
 | nil : Kp l [] []
 | cons {t : Nat} {v : Value} {ts : List Nat} {l' : Fr} (h : Fr.get l t = some v) (r : Kp l ts l') : Kp l (t :: ts) ((t, v) :: l')
theorem Kp.fw {ts : List Nat} {l' : Fr} (h : Kp l ts l') : Fw l l' := by
 induction h with
 | nil => exact .nil
 | cons h _ ih => exact .cons h ih
inductive Ap {X α : Type} : (X → List α) → List α → (X → List α) → Prop
 | nil {b : List α} : Ap (fun _ => []) b (fun _ => b)
 | cons {f : X → α} {a c : X → List α} {b : List α} (h : Ap a b c) : Ap (fun x => f x :: a x) b (fun x => f x :: c x)
theorem Ap.eq {X α : Type} {a c : X → List α} {b : List α} (h : Ap a b c) (x : X) : a x ++ b = c x := by
 induction h with
 | nil => rfl
 | cons _ ih => rw [List.cons_append, ih]
theorem Fw.app {a b : Fr} (h : Fw l a) (k : Fw l b) : Fw l (a ++ b) := by
 induction h with
 | nil => exact k
 | cons h _ ih => exact .cons h ih
theorem Sub.all : ∀ m : List Ck, Sub m m []
 | [] => .nil
 | _ :: m => .cons .here (Sub.all m)
theorem Sub.app {p q r s : List Ck} (h : Sub m p r) (k : Sub r q s) : Sub m (p ++ q) s := by
 induction h with
 | nil => exact k
 | cons h _ ih => exact .cons h (ih k)
theorem G.loopK {X : Type} (J : X → Prop) (A : X → Fr) (B : X → List Ck) (μ : X → Nat) {c : Code} {x0 : X} {r : List Ck} {ts : List Nat} {l1 : Fr} {L : X → Fr} {M : X → List Ck} (hk : Kp l ts l1) (hm : Sub m (B x0) r) (hL : Ap A l1 L) (hM : Ap B r M) (h0 : J x0) (hl : Fw l (A x0))
 (round : ∀ x, J x → G n w0 S (L x) (M x) (c.wp P (Exit.then (fun a w => ∃ y, J y ∧ μ y < μ x ∧ At a n (L y) ∧ Hp w0 S w (M y)) Q))) : G n w0 S l m ((Code.loop c).wp P Q) :=
 G.loop (r := []) J L M μ h0 (by rw [← hL.eq x0]; exact hl.app hk.fw) (by rw [← hM.eq x0]; exact hm.app (Sub.all r)) round
theorem G.cutK {X : Type} (J : X → Prop) (A : X → Fr) (B : X → List Ck) {c : Code} {p r : List Ck} {ts : List Nat} {l1 : Fr} {L : X → Fr} {M : X → List Ck} (hk : Kp l ts l1) (hm : Sub m p r) (hL : Ap A l1 L) (hM : Ap B r M)
 (first : G n w0 S l m (c.wp P (Exit.then (fun a w => ∃ x, J x ∧ At a n (L x) ∧ Hp w0 S w (M x)) Q))) (rest : ∀ x, J x → G n w0 S (L x) (M x) K) : G n w0 S l m (c.wp P (Exit.then K Q)) := G.cut J L M first rest
theorem G.cS {X : Type} {J : X → Prop} {V : X → Value} {M M' : X → List Ck} {o : Oper} {d : Nat} {f : FuncId} {xs : List Operand} {ts : Array TypeId} {vs : List Value} {ro pre r : List Ck} (hd : o.dst = some d) (hn : Nat.blt d n = true)
 (ho : o.op = .call { callee := .value (.func f), args := xs.toArray, argTypes := ts }) (hx : evs l xs = some vs) {fn : Func} {c : Code} (hf : P.funcs[f]? = some fn) (hb : fn.body = some c) (hnm : (fn.name == "runtime.NumGoroutine") = false)
 (hm : Sub m pre r) (hro : ∀ c ∈ ro, May w0 S r c) (ht : Tr P f vs.toArray ro pre (TX J V M)) (hM : Ap M r M') (h : ∀ x, J x → G n w0 S ((d, V x) :: l) (M' x) K) : G n w0 S l m (fun a w => o.wp P a w K Q) :=
 G.cN hd hn ho hx hf hb hnm ht hm hro fun x hJ => by rw [hM.eq x]; exact h x hJ
theorem G.cR {o : Oper} {d : Nat} {f : FuncId} {xs : List Operand} {ts : Array TypeId} {vs : List Value} {ro : List Ck} {v : Value} (hd : o.dst = some d) (hn : Nat.blt d n = true)
 (ho : o.op = .call { callee := .value (.func f), args := xs.toArray, argTypes := ts }) (hx : evs l xs = some vs) {fn : Func} {c : Code} (hf : P.funcs[f]? = some fn) (hb : fn.body = some c) (hnm : (fn.name == "runtime.NumGoroutine") = false)
 (hro : ∀ c ∈ ro, May w0 S m c) (ht : Tr P f vs.toArray ro [] (T0 v)) (h : G n w0 S ((d, v) :: l) m K) : G n w0 S l m (fun a w => o.wp P a w K Q) :=
 G.call0 hd hn ho hx hf hb hnm ht hro h
section
variable {X : Type} {J : X → Prop} {V : X → Value} {M : X → List Ck} {fn : Func} {pre r : List Ck} {t u s : Nat} {v y z : Value}
theorem G.doneX0 (x : X) (hJ : J x) (hr : fn.results = #[]) (hv : .tuple #[] = V x) (hs : Sub m (M x) r) : G n w0 (U pre) l m (bodyPost P fn (TrR w0 pre (TX J V M)) .ret) := G.done0 hr hs ⟨x, hJ, hv, rfl⟩
theorem G.doneXE (x : X) (hJ : J x) (hr : fn.results = #[]) (hv : .tuple #[] = V x) (hs : Sub m (M x) r) : G n w0 (U pre) l m (bodyPost P fn (TrR w0 pre (TX J V M)) .normal) := G.doneE hr hs ⟨x, hJ, hv, rfl⟩
theorem G.doneX1 (x : X) (hJ : J x) (hr : fn.results = #[.tmp t]) (ht : Fr.get l t = some v) (hv : v = V x) (hs : Sub m (M x) r) : G n w0 (U pre) l m (bodyPost P fn (TrR w0 pre (TX J V M)) .ret) := G.done1 hr ht hs ⟨x, hJ, hv, rfl⟩
theorem G.doneX2 (x : X) (hJ : J x) (hr : fn.results = #[.tmp t, .tmp u]) (ht : Fr.get l t = some v) (hu : Fr.get l u = some y) (hv : .tuple #[v, y] = V x) (hs : Sub m (M x) r) : G n w0 (U pre) l m (bodyPost P fn (TrR w0 pre (TX J V M)) .ret) := G.done2 hr ht hu hs ⟨x, hJ, hv, rfl⟩
theorem G.doneX3 (x : X) (hJ : J x) (hr : fn.results = #[.tmp t, .tmp u, .tmp s]) (ht : Fr.get l t = some v) (hu : Fr.get l u = some y) (hz : Fr.get l s = some z) (hv : .tuple #[v, y, z] = V x) (hs : Sub m (M x) r) : G n w0 (U pre) l m (bodyPost P fn (TrR w0 pre (TX J V M)) .ret) := G.done3 hr ht hu hz hs ⟨x, hJ, hv, rfl⟩
end
def rng (b o : Nat) (cs : List Value) : Ck := ⟨(· = b), fun w => w.rangeAt b o cs, fun w w' h hw j v hj => (World.cell?_of_block (h b rfl)).trans (hw j v hj)⟩
theorem rng_cell {b o j : Nat} {cs : List Value} {r : List Ck} {v : Value} (h : Sel m (rng b o cs) r) (hv : cs[j]? = some v) : ∀ w, Hp w0 S w m → w.cell? ⟨b, o + j, none⟩ = some v := fun w hw => by
 have : w.rangeAt b o cs := hw.holds _ h.mem
 exact this j v hv
theorem ro_rngC {b o j : Nat} {cs : List Value} {v : Value} (h : Ro w0 S (rng b o cs)) (hv : cs[j]? = some v) : ∀ w, Hp w0 S w m → w.cell? ⟨b, o + j, none⟩ = some v := fun w hw => by
 have : w.rangeAt b o cs := h.at hw
 exact this j v hv
theorem rangeAt_sub {w : World} {b o j k : Nat} {cs xs : List Value} (h : w.rangeAt b o cs) (hv : (cs.drop j).take k = xs) : w.rangeAt b (o + j) xs := fun i v hi => by
 rw [← hv, List.getElem?_take] at hi
 split at hi
 ·rw [List.getElem?_drop] at hi
  have := h _ v hi
  rwa [← Nat.add_assoc] at this
 ·cases hi
theorem rng_range {b o j k : Nat} {cs xs : List Value} {r : List Ck} (h : Sel m (rng b o cs) r) (hv : (cs.drop j).take k = xs) : ∀ w, Hp w0 S w m → w.rangeAt b (o + j) xs := fun w hw => rangeAt_sub (hw.holds _ h.mem : w.rangeAt b o cs) hv
theorem ro_rngR {b o j k : Nat} {cs xs : List Value} (h : Ro w0 S (rng b o cs)) (hv : (cs.drop j).take k = xs) : ∀ w, Hp w0 S w m → w.rangeAt b (o + j) xs := fun w hw => rangeAt_sub (h.at hw : w.rangeAt b o cs) hv
theorem G.see {c d : Ck} {r : List Ck} (hs : Sel m c r) (hφ : ∀ w, c.φ w → d.φ w) (hS : ∀ b, d.S b → c.S b) (h : G n w0 S l (d :: r) K) : G n w0 S l m K := G.mem (fun w hw => hp_view (c := c) (d := d) (hw.sel hs) (hφ w) hS) h
theorem blk_rngAt {w : World} {b o k : Nat} {T : TypeId} {cs xs : List Value} (h : (blk b T cs).φ w) (hv : (cs.drop o).take k = xs) : w.rangeAt b o xs := fun j v hj => by
 have h : w.heap[b]? = some (.cells cs.toArray T (0, 0)) := h
 rw [cell_of_row _ _ _ _ _ _ h, List.getElem?_toArray]
 rw [← hv, List.getElem?_take] at hj
 split at hj
 ·rwa [List.getElem?_drop] at hj
 ·cases hj
theorem G.blkRng {b o k : Nat} {T : TypeId} {cs xs : List Value} {r : List Ck} (hs : Sel m (blk b T cs) r) (hv : (cs.drop o).take k = xs) (h : G n w0 S l (rng b o xs :: r) K) : G n w0 S l m K := G.see (d := rng b o xs) hs (fun w hw => blk_rngAt hw hv) (fun b hb => hb) h
inductive St : List Value → Nat → Value → List Value → Prop
 | zero {x v : Value} {cs : List Value} : St (x :: cs) 0 v (v :: cs)
 | succ {x v : Value} {cs cs' : List Value} {o : Nat} (h : St cs o v cs') : St (x :: cs) (o + 1) v (x :: cs')
theorem St.eq {cs cs' : List Value} {o : Nat} {v : Value} (h : St cs o v cs') : cs.set o v = cs' ∧ o < cs.length := by
 induction h with
 | zero => exact ⟨rfl, by simp⟩
 | succ _ ih => exact ⟨by rw [List.set_cons_succ, ih.1], by have := ih.2; simp; omega⟩
inductive Sn : List Value → Nat → List Value → List Value → Prop
 | nil {cs : List Value} {o : Nat} : Sn cs o [] cs
 | cons {cs c1 c2 vs : List Value} {o : Nat} {v : Value} (h : St cs o v c1) (r : Sn c1 (o + 1) vs c2) : Sn cs o (v :: vs) c2
theorem Sn.len {cs cs' vs : List Value} {o : Nat} (h : Sn cs o vs cs') : cs'.length = cs.length ∧ (vs = [] ∨ o + vs.length ≤ cs.length) := by
 induction h with
 | nil => exact ⟨rfl, .inl rfl⟩
 | cons h _ ih =>
  have e := h.eq
  have l1 : _ = _ := congrArg List.length e.1
  rw [List.length_set] at l1
  refine ⟨by omega, .inr ?_⟩
  rcases ih.2 with rfl | h2
  ·simp; omega
  ·simp; omega
theorem Sn.fold {cs cs' vs : List Value} {o : Nat} (h : Sn cs o vs cs') : ∀ off k : Nat, o = off + k → (vs.zipIdx k).foldl (fun (a : Array Value) (x : Value × Nat) => a.setIfInBounds (off + x.2) x.1) cs.toArray = cs'.toArray := by
 induction h with
 | nil => intro off k _; rfl
 | cons h _ ih =>
  intro off k e
  rw [List.zipIdx_cons, List.foldl_cons]
  simp only
  rw [← e, List.setIfInBounds_toArray, h.eq.1]
  exact ih off (k + 1) (by omega)
inductive Fl (pl : List (Nat × Nat)) : List Value → List (Nat × Value) → List Value → Prop
 | nil {cs : List Value} : Fl pl cs [] cs
 | cons {cs c1 c2 xs : List Value} {i o sz : Nat} {v : Value} {ps : List (Nat × Value)} (h : pl[i]? = some (o, sz)) (hx : v.cells = xs.toArray) (hl : xs.length = sz) (hp : Nat.blt 0 sz = true) (hs : Sn cs o xs c1) (r : Fl pl c1 ps c2) : Fl pl cs ((i, v) :: ps) c2
theorem Fl.fill {pl : List (Nat × Nat)} {cs cs' : List Value} {ps : List (Nat × Value)} (h : Fl pl cs ps cs') : Instr.fill (pl.toArray[·]?) cs.toArray ps = some cs'.toArray := by
 induction h with
 | nil => rfl
 | cons h hx hl hp hs _ ih =>
  rename_i cs0 c1 c2 xs i o sz v ps hr
  unfold Instr.fill
  simp only [List.getElem?_toArray, h, hx]
  have hp' : 0 < sz := by simpa using hp
  have hb := hs.len.2
  rw [if_neg]
  ·have := hs.fold o 0 (by omega)
   have e2 : xs.toArray.zipIdx.foldl (fun (a : Array Value) (x : Value × Nat) => a.setIfInBounds (o + x.2) x.1) cs0.toArray = c1.toArray := by
    rw [← this, ← Array.foldl_toList]
    congr 1
    simp
   rw [e2]
   have := ih
   simp only [List.getElem?_toArray] at this
   exact this
  ·intro hc
   simp at hc
   rcases hc with hc | hc
   ·exact hc hl
   ·rcases hb with rfl | hb
    ·simp at hl; omega
    ·omega
theorem pv_buildSt {t : TypeId} {xs : List (Nat × Operand)} {ps : List (Nat × Value)} {fs : Array Field} {z cs : List Value} {pl : List (Nat × Nat)} (hu : P.underlying t = some (.struct fs)) (hz : ((P.info? t).bind (·.zero)).map (·.cells) = some z.toArray) (hpl : fs.toList.mapM (fun f => (P.info? f.type).map fun i => (f.offset, i.size)) = some pl) (hp : pevs l xs = some ps) (hf : Fl pl z ps cs) :
 PV P n w0 S l m ⟨dst, .build t xs.toArray, ty, pos, after, g⟩ (.agg cs.toArray) :=
 pv_build (fun a ha => ha.pevs hp) (by
  obtain ⟨zv, hz1, hz2⟩ := Option.map_eq_some_iff.1 hz
  obtain ⟨it, hi, hi2⟩ := Option.bind_eq_some_iff.1 hz1
  unfold Program.built
  simp only [hi, hu, hi2, hpl, hz2]
  exact hf.fill)
theorem cells_of {v : Value} (h : v.oneCell' = true) : v.cells = [v].toArray := by cases v <;> first | rfl | cases h
inductive Rv (P : Program) (w0 : World) (S : Nat → Prop) (l : Fr) (m : List Ck) : List ResultVar → List Value → Prop
 | nil : Rv P w0 S l m [] []
 | tmp {t : Nat} {v : Value} {rs : List ResultVar} {vs : List Value} (h : Fr.get l t = some v) (r : Rv P w0 S l m rs vs) : Rv P w0 S l m (.tmp t :: rs) (v :: vs)
 | cell1 {t T b o : Nat} {v : Value} {d : TypeDesc} {rs : List ResultVar} {vs : List Value} (h : Fr.get l t = some (.pointer (some ⟨b, o, none⟩))) (hu : P.underlying T = some d) (hd : d.isRow = false) (hc : ∀ w, Hp w0 S w m → w.cell? ⟨b, o, none⟩ = some v) (r : Rv P w0 S l m rs vs) : Rv P w0 S l m (.cell t T :: rs) (v :: vs)
 | cellN {t T b o : Nat} {cs : List Value} {d : TypeDesc} {rs : List ResultVar} {vs : List Value} (h : Fr.get l t = some (.pointer (some ⟨b, o, none⟩))) (hu : P.underlying T = some d) (hd : d.isRow = true) (hi : (P.info? T).map (·.size) = some cs.length) (hc : ∀ w, Hp w0 S w m → w.rangeAt b o cs) (r : Rv P w0 S l m rs vs) : Rv P w0 S l m (.cell t T :: rs) (.agg cs.toArray :: vs)
def resOf (ts : Array Value) : ResultVar → Sem Value
 | .tmp t => pure (ts.getD t undef)
 | .cell q t => do loadVar t (← asAddr (ts.getD q undef))
theorem Rv.run {a : Act} {w : World} {rs : List ResultVar} {vs : List Value} (h : Rv P w0 S l m rs vs) (ha : At a n l) (hw : Hp w0 S w m) : (rs.mapM (resOf a.tmps)).run P w = .ok vs w := by
 induction h with
 | nil => simp [Sem.run_pure]
 | tmp h _ ih =>
  have := ha.get _ _ h
  simp [List.mapM_cons, Sem.run_bind, Sem.run_pure, Result.andThen, ih, this, resOf]
 | cell1 h hu hd hc _ ih =>
  rename_i t T b o v d rs vs hrest
  have := ha.get _ _ h
  have h1 : (loadVar T ⟨b, o, none⟩).run P w = .ok v w := by
   simp [loadVar, load, Sem.run_bind, isAgg_false hu hd, Result.andThen, Sem.run_pure, Sem.run, hc w hw]
  simp [List.mapM_cons, Sem.run_bind, Sem.run_pure, Result.andThen, ih, this, asAddr, h1, resOf]
 | cellN h hu hd hi hc _ ih =>
  rename_i t T b o cs d rs vs hrest
  have := ha.get _ _ h
  have h1 : (loadVar T ⟨b, o, none⟩).run P w = .ok (.agg cs.toArray) w := by
   have := run_loadAt_mid w b o T cs d (hc w hw) hu hd hi
   simpa [Instr.loadAt, Instr.sureAddr, Sem.run_bind, Sem.run_pure, Result.andThen] using this
  simp [List.mapM_cons, Sem.run_bind, Sem.run_pure, Result.andThen, ih, this, asAddr, h1, resOf]
def retV : List Value → Value
 | [v] => v
 | vs => .tuple vs.toArray
theorem Rv.results {fn : Func} {a : Act} {w : World} {rs : List ResultVar} {vs : List Value} (h : Rv P w0 S l m rs vs) (hr : fn.results = rs.toArray) (ha : At a n l) (hw : Hp w0 S w m) : (results fn a.tmps).run P w = .ok (retV vs) w := by
 have h1 := h.run ha hw
 have key : ∀ x : Sem (Array Value), x.run P w = .ok vs.toArray w → (x >>= fun vs => pure (if h : vs.size = 1 then vs[0] else .tuple vs)).run P w = .ok (retV vs) w := fun x hx => by
  simp only [Sem.run_bind, hx, Result.andThen, Sem.run_pure]
  congr 1
  match vs with
  | [] => rfl
  | [v] => rfl
  | v :: u :: vs => simp [retV]
 have key2 : ∀ x : Sem (List Value), x.run P w = .ok vs w → (List.toArray <$> x).run P w = .ok vs.toArray w := fun x hx => by
  simp only [Sem.run_map, hx]
  rfl
 unfold Go.results
 refine key _ ?_
 rw [hr, Array.mapM_eq_mapM_toList]
 exact key2 _ h1
theorem G.doneG {X : Type} {J : X → Prop} {V : X → Value} {M : X → List Ck} {fn : Func} {pre r : List Ck} {rs : List ResultVar} {vs : List Value} (x : X) (hJ : J x) (hr : fn.results = rs.toArray) (hv : Rv P w0 (U pre) l m rs vs) (he : retV vs = V x) (hs : Sub m (M x) r) : G n w0 (U pre) l m (bodyPost P fn (TrR w0 pre (TX J V M)) .ret) :=
 G.doneBy (fun a w ha hw => hv.results hr ha hw) hs ⟨x, hJ, he, rfl⟩
theorem G.done0G {fn : Func} {v : Value} {pre : List Ck} {rs : List ResultVar} {vs : List Value} (hr : fn.results = rs.toArray) (hv : Rv P w0 (U pre) l m rs vs) (he : retV vs = v) : G n w0 (U pre) l m (bodyPost P fn (TrR w0 pre (T0 v)) .ret) :=
 G.doneBy (fun a w ha hw => hv.results hr ha hw) .nil ⟨he, rfl⟩
theorem Tr.keep {f : FuncId} {args : Array Value} {ro q : List Ck} {v : Value} (h : Tr P f args ro [] (T0 v)) (hq : ∀ c ∈ ro, c ∈ q) : Tr P f args [] q (TX (fun _ : Unit => True) (fun _ => v) fun _ => q) := fun w _ hp => by
 refine (h w (fun c hc => ⟨hp.holds c (hq c hc), fun b hb => ⟨(hp.own c (hq c hc) b hb).2, fun ⟨d, hd, _⟩ => by cases hd⟩⟩) (Hp.perm (m := []) ⟨Chg.refl _ _, by simp, by simp, .nil⟩ (List.Perm.refl _))).mono ?_
 rintro e w' ⟨v', m', rfl, ⟨rfl, rfl⟩, hw'⟩
 refine ⟨_, q, rfl, ⟨(), trivial, rfl, rfl⟩, hp.keep ?_⟩
 have : Chg (fun _ => False) w w' := hw'.chg.mono fun b ⟨d, hd, _⟩ => by cases hd
 exact Chg.below_of_none this
theorem ro4 {a b c d : Ck} (h : ∀ x ∈ [a, b, c, d], Ro w0 S x) : Ro w0 S a ∧ Ro w0 S b ∧ Ro w0 S c ∧ Ro w0 S d := ⟨h a (List.mem_cons_self ..), ro3 fun x hx => h x (List.mem_cons_of_mem _ hx)⟩
theorem ro5 {a b c d e : Ck} (h : ∀ x ∈ [a, b, c, d, e], Ro w0 S x) : Ro w0 S a ∧ Ro w0 S b ∧ Ro w0 S c ∧ Ro w0 S d ∧ Ro w0 S e := ⟨h a (List.mem_cons_self ..), ro4 fun x hx => h x (List.mem_cons_of_mem _ hx)⟩
theorem ro6 {a b c d e f : Ck} (h : ∀ x ∈ [a, b, c, d, e, f], Ro w0 S x) : Ro w0 S a ∧ Ro w0 S b ∧ Ro w0 S c ∧ Ro w0 S d ∧ Ro w0 S e ∧ Ro w0 S f := ⟨h a (List.mem_cons_self ..), ro5 fun x hx => h x (List.mem_cons_of_mem _ hx)⟩
theorem may4 {a b c d : Ck} (h1 : May w0 S m a) (h2 : May w0 S m b) (h3 : May w0 S m c) (h4 : May w0 S m d) : ∀ x ∈ [a, b, c, d], May w0 S m x := fun x hx => by
 rcases List.mem_cons.1 hx with rfl | hx
 ·exact h1
 ·exact may3 h2 h3 h4 x hx
theorem may5 {a b c d e : Ck} (h1 : May w0 S m a) (h2 : May w0 S m b) (h3 : May w0 S m c) (h4 : May w0 S m d) (h5 : May w0 S m e) : ∀ x ∈ [a, b, c, d, e], May w0 S m x := fun x hx => by
 rcases List.mem_cons.1 hx with rfl | hx
 ·exact h1
 ·exact may4 h2 h3 h4 h5 x hx
theorem may6 {a b c d e f : Ck} (h1 : May w0 S m a) (h2 : May w0 S m b) (h3 : May w0 S m c) (h4 : May w0 S m d) (h5 : May w0 S m e) (h6 : May w0 S m f) : ∀ x ∈ [a, b, c, d, e, f], May w0 S m x := fun x hx => by
 rcases List.mem_cons.1 hx with rfl | hx
 ·exact h1
 ·exact may5 h2 h3 h4 h5 h6 x hx
theorem all1_nil : ([] : List Value).all (·.oneCell') = true := rfl
theorem all1_cons {v : Value} {vs : List Value} (h : v.oneCell' = true) (r : vs.all (·.oneCell') = true) : (v :: vs).all (·.oneCell') = true := by rw [List.all_cons, h, r]; rfl
theorem pv_fieldAddrK {b o i k : Nat} {t : TypeId} {x : Operand} {fs : Array Field} {f : Field} {sz : Nat} (hu : P.underlying t = some (.struct fs)) (hf : fs[i]? = some f) (hsz : (P.info? f.type).map (·.size) = some (sz + 1)) (hx : ev l x = some (.pointer (some ⟨b, o, none⟩))) (hk : f.offset = k) :
 PV P n w0 S l m ⟨dst, .fieldAddr t x i, ty, pos, after, g⟩ (.pointer (some ⟨b, o + k, none⟩)) := by
 have := pv_fieldAddr (P := P) (n := n) (w0 := w0) (S := S) (m := m) (dst := dst) (ty := ty) (pos := pos) (after := after) (g := g) hu hf hsz hx
 rwa [hk] at this
end
structure Lst (listed : Array Bool) (rem n : Nat) : Prop where
 size : listed.size = n
 bit : ∀ j, j < n → listed[j]? = some (!rem.testBit j)
 small : rem < 2 ^ n
theorem Lst.start (n : Nat) : Lst (Array.replicate n false) (2 ^ n - 1) n := ⟨by simp, fun j hj => by
 rw [Array.getElem?_replicate, if_pos hj, Nat.testBit_two_pow_sub_one]
 simp [hj], by have := Nat.two_pow_pos n; omega⟩
theorem Lst.take {listed : Array Bool} {rem rem' n i : Nat} (h : Lst listed rem n) (hi : i < n) (hb : rem'.testBit i = false) (hr : rem' ||| 2 ^ i = rem) : Lst (listed.setIfInBounds i true) rem' n := by
 subst hr
 refine ⟨by simp [h.size], fun j hj => ?_, Nat.lt_of_le_of_lt Nat.left_le_or h.small⟩
 by_cases hij : i = j
 ·subst hij
  rw [Array.getElem?_setIfInBounds_self_of_lt (by rw [h.size]; exact hi), hb]
  rfl
 ·rw [Array.getElem?_setIfInBounds_ne hij, h.bit j hj, Nat.testBit_or, Nat.testBit_two_pow]
  simp [hij]
def maskOf : List Nat → Nat
 | [] => 0
 | k :: ks => Nat.lor (Nat.shiftLeft 1 k) (maskOf ks)
theorem maskOf_and (rem : Nat) : ∀ l : List Nat, (maskOf l &&& rem = 0) ↔ ∀ k ∈ l, rem.testBit k = false
 | [] => by simp [maskOf]
 | k :: l => by
  have ih := maskOf_and rem l
  have e : maskOf (k :: l) = (1 <<< k) ||| maskOf l := rfl
  have h1 : ((1 <<< k) &&& rem = 0) ↔ rem.testBit k = false := by
   rw [Nat.one_shiftLeft]
   constructor
   ·intro h
    have := congrArg (fun x => x.testBit k) h
    simpa [Nat.testBit_and, Nat.testBit_two_pow_self] using this
   ·intro h
    apply Nat.eq_of_testBit_eq
    intro j
    rw [Nat.testBit_and, Nat.zero_testBit, Nat.testBit_two_pow]
    by_cases hkj : k = j
    ·subst hkj; rw [h]; simp
    ·simp [hkj]
  rw [e, Nat.and_or_distrib_right, Nat.or_eq_zero_iff, h1, ih]
  simp
def depOf (ops : Array Oper) (o : Oper) : List Nat := (o.after.toList.filter (Region.binds .any)).map (·.on)
def conf (ops : Array Oper) (oi : Oper) (i j : Nat) (oj : Oper) : Bool := !(Nat.beq j i) && !(oj.after.any (fun e => Region.binds .any e && e.on == i) || oi.apart ops oj)
def confs (ops : Array Oper) (oi : Oper) (i : Nat) : Nat → List Oper → List Nat
 | _, [] => []
 | j, oj :: os => bif conf ops oi i j oj then j :: confs ops oi i (j + 1) os else confs ops oi i (j + 1) os
def tabGo (ops : Array Oper) (n : Nat) : Nat → List Oper → List Nat → List Nat → Bool
 | _, [], [], [] => true
 | i, o :: os, d :: ds, f :: fs => Nat.beq (maskOf (depOf ops o)) d && Nat.blt d (2 ^ n) && (Nat.beq (maskOf (confs ops o i 0 ops.toList)) f && tabGo ops n (i + 1) os ds fs)
 | _, _, _, _ => false
structure Tab (ops : Array Oper) (deps frs : List Nat) (n : Nat) : Prop where
 size : ops.size = n
 sel : Region.noSelect ops = true
 tab : tabGo ops n 0 ops.toList deps frs = true
theorem tabGo_at {ops : Array Oper} {n : Nat} : ∀ {i : Nat} {os : List Oper} {ds fs : List Nat}, tabGo ops n i os ds fs = true → ds.length = os.length ∧ ∀ k o, os[k]? = some o → ∃ d f, ds[k]? = some d ∧ fs[k]? = some f ∧ maskOf (depOf ops o) = d ∧ d < 2 ^ n ∧ maskOf (confs ops o (i + k) 0 ops.toList) = f
 | i, [], [], [], _ => ⟨rfl, fun k o h => by simp at h⟩
 | i, o :: os, d :: ds, f :: fs, h => by
  unfold tabGo at h
  simp only [Bool.and_eq_true] at h
  have ih := tabGo_at h.2.2
  refine ⟨by simp [ih.1], fun k o' hk => ?_⟩
  cases k with
  | zero =>
   obtain rfl : o = o' := by simpa using hk
   exact ⟨d, f, rfl, rfl, Nat.eq_of_beq_eq_true h.1.1, by simpa using h.1.2, Nat.eq_of_beq_eq_true h.2.1⟩
  | succ k =>
   obtain ⟨d', f', h1, h2, h3, h4, h5⟩ := ih.2 k o' (by simpa using hk)
   exact ⟨d', f', by simpa using h1, by simpa using h2, h3, h4, by rw [show i + (k + 1) = i + 1 + k by omega]; exact h5⟩
 | _, [], [], _ :: _, h => by cases h
 | _, [], _ :: _, _, h => by cases h
 | _, _ :: _, [], _, h => by cases h
 | _, _ :: _, _ :: _, [], h => by cases h
theorem mem_confs {ops : Array Oper} {oi : Oper} {i : Nat} (os : List Oper) : ∀ (j0 k : Nat) (oj : Oper), os[k]? = some oj → conf ops oi i (j0 + k) oj = true → (j0 + k) ∈ confs ops oi i j0 os := by
 induction os with
 | nil => intro j0 k oj h; simp at h
 | cons o os ih =>
  intro j0 k oj h hc
  have e : confs ops oi i j0 (o :: os) = bif conf ops oi i j0 o then j0 :: confs ops oi i (j0 + 1) os else confs ops oi i (j0 + 1) os := rfl
  rw [e]
  cases k with
  | zero =>
   obtain rfl : o = oj := by simpa using h
   rw [Nat.add_zero] at hc
   rw [hc, cond_true, Nat.add_zero]
   exact List.mem_cons_self ..
  | succ k =>
   have := ih (j0 + 1) k oj (by simpa using h) (by rw [show j0 + 1 + k = j0 + (k + 1) by omega]; exact hc)
   rw [show j0 + 1 + k = j0 + (k + 1) by omega] at this
   cases conf ops oi i j0 o
   ·exact this
   ·exact List.mem_cons_of_mem _ this
def readyGo (rem : Nat) : Nat → List Nat → List Nat
 | _, [] => []
 | i, d :: ds => match Nat.beq (Nat.land d rem) 0, Nat.beq (Nat.land (Nat.shiftRight rem i) 1) 1 with
  | true, true => i :: readyGo rem (i + 1) ds
  | _, _ => readyGo rem (i + 1) ds
theorem readyGo_cons (rem i d : Nat) (ds : List Nat) : readyGo rem i (d :: ds) = match Nat.beq (Nat.land d rem) 0, Nat.beq (Nat.land (Nat.shiftRight rem i) 1) 1 with
 | true, true => i :: readyGo rem (i + 1) ds
 | _, _ => readyGo rem (i + 1) ds := rfl
theorem bit_eq (rem i : Nat) : Nat.beq (Nat.land (Nat.shiftRight rem i) 1) 1 = rem.testBit i := by
 show Nat.beq ((rem >>> i) &&& 1) 1 = _
 rw [Nat.testBit, Nat.and_comm 1]
 have : (rem >>> i) &&& 1 = 0 ∨ (rem >>> i) &&& 1 = 1 := by rw [Nat.and_one_is_mod]; omega
 rcases this with h | h <;> rw [h] <;> rfl
section
variable {ops : Array Oper} {deps frs : List Nat} {nn : Nat} {listed : Array Bool} {rem : Nat}
theorem Tab.ready_iff (hT : Tab ops deps frs nn) (hl : Lst listed rem nn) {k d : Nat} {o : Oper} (ho : ops[k]? = some o) (hd : maskOf (depOf ops o) = d) (hdn : d < 2 ^ nn) :
 (!listed.getD k true && ((ops[k]?).map (·.after.all fun e => !Region.binds .any e || listed.getD e.on false)).getD false) = (Nat.beq (Nat.land d rem) 0 && rem.testBit k) := by
 have hk : k < nn := by rw [← hT.size]; exact (Array.getElem?_eq_some_iff.1 ho).1
 have h1 : (!listed.getD k true) = rem.testBit k := by simp [hl.bit k hk]
 rw [h1, ho, Bool.and_comm]
 simp only [Option.map_some, Option.getD_some]
 congr 1
 rw [Bool.eq_iff_iff, ← Array.all_toList, List.all_eq_true]
 have h2 : (Nat.beq (Nat.land d rem) 0 = true) ↔ ∀ q ∈ depOf ops o, rem.testBit q = false := by
  rw [← maskOf_and, hd]
  exact ⟨fun h => Nat.eq_of_beq_eq_true h, fun h => by show Nat.beq (d &&& rem) 0 = true; rw [h]; rfl⟩
 rw [h2]
 have hin : ∀ q ∈ depOf ops o, q < nn := fun q hq => by
  rcases Nat.lt_or_ge q nn with h | h
  ·exact h
  ·have hb : (maskOf (depOf ops o)).testBit q = true := by
    have key : ∀ l : List Nat, q ∈ l → (maskOf l).testBit q = true := by
     intro l
     induction l with
     | nil => intro h; cases h
     | cons x l ih =>
      intro h
      have e : maskOf (x :: l) = (1 <<< x) ||| maskOf l := rfl
      rw [e, Nat.testBit_or, Nat.one_shiftLeft, Nat.testBit_two_pow]
      rcases List.mem_cons.1 h with rfl | h
      ·simp
      ·rw [ih h]; simp
    exact key _ hq
   rw [hd] at hb
   have := Nat.testBit_lt_two_pow (x := d) (i := q) (Nat.lt_of_lt_of_le hdn (Nat.pow_le_pow_right (by omega) h))
   rw [this] at hb
   cases hb
 constructor
 ·intro h q hq
  have hq' := hq
  unfold depOf at hq
  obtain ⟨e, he, rfl⟩ := List.mem_map.1 hq
  obtain ⟨he1, he2⟩ := List.mem_filter.1 he
  have := h e he1
  rw [he2] at this
  simpa [hl.bit _ (hin _ hq')] using this
 ·intro h e he
  cases hb : Region.binds .any e with
  | false => rfl
  | true =>
   have hq : e.on ∈ depOf ops o := List.mem_map.2 ⟨e, List.mem_filter.2 ⟨he, hb⟩, rfl⟩
   have := h _ hq
   simp [hl.bit _ (hin _ hq), this]
theorem ready_go {f : Nat → Bool} : ∀ {ds : List Nat} {i : Nat}, (∀ k d, ds[k]? = some d → f (i + k) = (Nat.beq (Nat.land d rem) 0 && rem.testBit (i + k))) → (List.range' i ds.length).filter f = readyGo rem i ds
 | [], i, _ => rfl
 | d :: ds, i, h => by
  have h0 := h 0 d rfl
  rw [Nat.add_zero] at h0
  have ih := ready_go (f := f) (ds := ds) (i := i + 1) fun k d' hk => by
   have := h (k + 1) d' (by simpa using hk)
   rwa [show i + (k + 1) = i + 1 + k by omega] at this
  rw [List.length_cons, List.range'_succ, List.filter_cons, ih, h0, readyGo_cons, bit_eq]
  cases Nat.beq (Nat.land d rem) 0 <;> cases rem.testBit i <;> rfl
theorem Tab.ready (hT : Tab ops deps frs nn) (hl : Lst listed rem nn) : Region.ready .any ops listed = readyGo rem 0 deps := by
 have hh := tabGo_at hT.tab
 have hlen : deps.length = ops.size := by rw [hh.1]; simp
 unfold Region.ready
 rw [List.range_eq_range', ← hlen]
 refine ready_go fun k d hk => ?_
 have hlt : k < ops.size := by rw [← hlen]; exact (List.getElem?_eq_some_iff.1 hk).1
 obtain ⟨d', f', h1, h2, h3, h4, h5⟩ := hh.2 k ops[k] (by simp [hlt])
 rw [hk] at h1
 injection h1 with h1
 subst h1
 rw [Nat.zero_add]
 exact hT.ready_iff hl (Array.getElem?_eq_getElem hlt) h3 h4
theorem Tab.free (hT : Tab ops deps frs nn) (hl : Lst listed rem nn) {i f : Nat} {oi : Oper} (hi : ops[i]? = some oi) (hf : frs[i]? = some f) (h : Nat.beq (Nat.land f rem) 0 = true) : Region.free .any ops listed i = true := by
 have hh := tabGo_at hT.tab
 obtain ⟨d', f', h1, h2, h3, h4, h5⟩ := hh.2 i oi (by simpa using hi)
 rw [hf] at h2
 injection h2 with h2
 subst h2
 rw [Nat.zero_add] at h5
 have h6 : maskOf (confs ops oi i 0 ops.toList) &&& rem = 0 := by rw [h5]; exact Nat.eq_of_beq_eq_true h
 rw [maskOf_and] at h6
 unfold Region.free
 rw [hi]
 simp only [List.all_eq_true, List.mem_range]
 intro j hj
 rw [Array.getElem?_eq_getElem hj]
 simp only
 cases hc : conf ops oi i j ops[j] with
 | true =>
  have hm := mem_confs (ops := ops) (oi := oi) (i := i) ops.toList 0 j ops[j] (by simp [hj]) (by rw [Nat.zero_add]; exact hc)
  rw [Nat.zero_add] at hm
  have hb := h6 j hm
  have hl' := hl.bit j (by rw [← hT.size]; exact hj)
  simp [hl', hb]
 | false =>
  unfold conf at hc
  by_cases hji : j = i
  ·simp [hji]
  ·have : Nat.beq j i = false := by
    cases hbb : Nat.beq j i with
    | false => rfl
    | true => exact absurd (Nat.eq_of_beq_eq_true hbb) hji
   rw [this] at hc
   simp only [Bool.not_false, Bool.true_and, Bool.not_eq_false'] at hc
   rw [hc]
   simp
end
section
variable {P : Program} {n : Nat} {w0 : World} {S : Nat → Prop} {l : Fr} {m : List Ck} {Q : Exit → Act → World → Prop} {K : Act → World → Prop}
 {ops : Array Oper} {deps frs : List Nat} {nn rem rem' fuel i d : Nat} {oi : Oper} {v : Value} {mS r : List Ck}
theorem pv_notP {dst : Option Tmp} {ty : TypeId} {pos : String} {after : Array Edge} {g : Option (Nat × Bool)} {p : Prop} [Decidable p] {t : TypeId} {x : Operand} (hx : ev l x = some (.bool (decide p))) : PV P n w0 S l m ⟨dst, .unOp .not t x, ty, pos, after, g⟩ (.bool (decide (¬ p))) := by
 have := pv_not (P := P) (n := n) (w0 := w0) (S := S) (m := m) (dst := dst) (ty := ty) (pos := pos) (after := after) (g := g) (t := t) hx
 rwa [← decide_not] at this
def GA (P : Program) (ops : Array Oper) (Q : Exit → Act → World → Prop) (Sx : World → Prop) (nn fuel rem : Nat) : Act → World → Prop := fun a w => ∀ listed, Lst listed rem nn → wpAnyH P .any ops Q Sx fuel listed a w
theorem G.drawT {id : Nat} {p : List Ck} (deps frs : List Nat) (hm : P.follows .mixedOrders = true) (hT : Tab ops deps frs nn) (hs : Sub m p mS) (hr : Nat.beq rem (2 ^ nn - 1) = true) (h : Tab ops deps frs nn → G n w0 S l m (GA P ops Q (fun w => Hp w0 S w mS) nn nn rem)) : G n w0 S l m ((Code.region id ops true).wp P Q) :=
 G.drawn hm hT.size mS fun a w ha hw => h hT a w ha hw _ (by rw [Nat.eq_of_beq_eq_true hr]; exact Lst.start nn)
def bitB (rem i : Nat) : Bool := Nat.beq (Nat.land (Nat.shiftRight rem i) 1) 1
theorem Lst.tk {listed : Array Bool} (h : Lst listed rem nn) (hb : bitB rem' i = false) (hr : Nat.beq (Nat.lor rem' (Nat.shiftLeft 1 i)) rem = true) : Lst (listed.setIfInBounds i true) rem' nn := by
 have e : rem' ||| 2 ^ i = rem := by rw [← Nat.one_shiftLeft]; exact Nat.eq_of_beq_eq_true hr
 have hb' : rem.testBit i = true := by rw [← e, Nat.testBit_or, Nat.testBit_two_pow_self, Bool.or_true]
 have hi : i < nn := by
  rcases Nat.lt_or_ge i nn with hlt | hge
  ·exact hlt
  ·have := Nat.testBit_lt_two_pow (x := rem) (i := i) (Nat.lt_of_lt_of_le h.small (Nat.pow_le_pow_right (by omega) hge))
   rw [this] at hb'
   cases hb'
 exact h.take hi (by rw [← bit_eq]; exact hb) e
def rmB (rem i rem' : Nat) : Bool := !bitB rem' i && Nat.beq (Nat.lor rem' (Nat.shiftLeft 1 i)) rem
theorem Lst.tk' {listed : Array Bool} (h : Lst listed rem nn) (hb : rmB rem i rem' = true) : Lst (listed.setIfInBounds i true) rem' nn := by
 unfold rmB at hb
 rw [Bool.and_eq_true] at hb
 exact h.tk (by simpa using hb.1) hb.2
def tkB (deps frs : List Nat) (rem i rem' : Nat) : Bool := match deps[i]?, frs[i]? with
 | some dd, some f => Nat.beq (Nat.land dd rem) 0 && (Nat.beq (Nat.land f rem) 0 && (bitB rem i && rmB rem i rem'))
 | _, _ => false
theorem tkB_spec (h : tkB deps frs rem i rem' = true) : ∃ dd f, deps[i]? = some dd ∧ frs[i]? = some f ∧ Nat.beq (Nat.land dd rem) 0 = true ∧ Nat.beq (Nat.land f rem) 0 = true ∧ bitB rem i = true ∧ rmB rem i rem' = true := by
 unfold tkB at h
 split at h
 ·rename_i dd f h1 h2
  simp only [Bool.and_eq_true] at h
  exact ⟨dd, f, h1, h2, h.1, h.2.1, h.2.2.1, h.2.2.2⟩
 ·cases h
theorem mem_readyGo {dd : Nat} : ∀ {ds : List Nat} {k i : Nat}, ds[k]? = some dd → Nat.beq (Nat.land dd rem) 0 = true → bitB rem (i + k) = true → (i + k) ∈ readyGo rem i ds
 | x :: ds, 0, i, h, h1, h2 => by
  obtain rfl : x = dd := by simpa using h
  unfold readyGo
  rw [Nat.add_zero] at h2 ⊢
  unfold bitB at h2
  rw [h1, h2]
  exact List.mem_cons_self ..
 | x :: ds, k + 1, i, h, h1, h2 => by
  have := mem_readyGo (ds := ds) (k := k) (i := i + 1) (by simpa using h) h1 (by rwa [show i + 1 + k = i + (k + 1) by omega])
  rw [show i + 1 + k = i + (k + 1) by omega] at this
  unfold readyGo
  split
  ·exact List.mem_cons_of_mem _ this
  ·exact this
theorem G.takeT (hT : Tab ops deps frs nn) (hi : ops[i]? = some oi) (hd : oi.dst = some d) (hn : Nat.blt d n = true) (hk : tkB deps frs rem i rem' = true)
 (hQ : ∀ c a w, Q (.panic c) (a.put oi.dst v) w → Q (.panic c) a w) (hw : wantB ops l oi = some true) (hv : PV P n w0 S l mS oi v) (hs : Sub m mS r)
 (h : G n w0 S ((d, v) :: l) m (GA P ops Q (fun w => Hp w0 S w mS) nn fuel rem')) : G n w0 S l m (GA P ops Q (fun w => Hp w0 S w mS) nn (fuel + 1) rem) := fun a w ha hw' listed hl => by
 obtain ⟨dd, f, h1, h2, h3, h4, h5, h6⟩ := tkB_spec hk
 have hr : (Region.ready .any ops listed).contains i = true := by
  rw [hT.ready hl]
  have := mem_readyGo (i := 0) h1 h3 (by rw [Nat.zero_add]; exact h5)
  rw [Nat.zero_add] at this
  simpa using this
 refine wpAnyH_take hi hT.sel (hT.free hl hi h2 h4) hr hQ (.inl ⟨ha.wanted hw, fun w hS => hv a w ha hS⟩) ((hw'.perm hs.perm).sub (List.sublist_append_left _ _)) ?_
 rw [hd]
 exact h _ _ (ha.put hn v) hw' _ (hl.tk' h6)
theorem G.takeFT (hT : Tab ops deps frs nn) (hi : ops[i]? = some oi) (hd : oi.dst = some d) (hn : Nat.blt d n = true) (hk : tkB deps frs rem i rem' = true)
 (hQ : ∀ c a w, Q (.panic c) (a.put oi.dst undef) w → Q (.panic c) a w) (hw : wantB ops l oi = some false) (hs : Sub m mS r)
 (h : G n w0 S ((d, undef) :: l) m (GA P ops Q (fun w => Hp w0 S w mS) nn fuel rem')) : G n w0 S l m (GA P ops Q (fun w => Hp w0 S w mS) nn (fuel + 1) rem) := fun a w ha hw' listed hl => by
 obtain ⟨dd, f, h1, h2, h3, h4, h5, h6⟩ := tkB_spec hk
 have hr : (Region.ready .any ops listed).contains i = true := by
  rw [hT.ready hl]
  have := mem_readyGo (i := 0) h1 h3 (by rw [Nat.zero_add]; exact h5)
  rw [Nat.zero_add] at this
  simpa using this
 refine wpAnyH_take hi hT.sel (hT.free hl hi h2 h4) hr hQ (.inr ⟨ha.wanted hw, rfl⟩) ((hw'.perm hs.perm).sub (List.sublist_append_left _ _)) ?_
 rw [hd]
 exact h _ _ (ha.put hn undef) hw' _ (hl.tk' h6)
def rdB (deps : List Nat) (rem : Nat) (rs : List Nat) : Bool := readyGo rem 0 deps == rs
theorem rdB_spec {rs : List Nat} (h : rdB deps rem rs = true) : readyGo rem 0 deps = rs := by simpa [rdB] using h
theorem G.oneT {Sx : World → Prop} (hT : Tab ops deps frs nn) (hr : rdB deps rem [i] = true) (hb : rmB rem i rem' = true) (h : G n w0 S l m (wpOp P ops Q i (fun a w => Sx w ∧ GA P ops Q Sx nn fuel rem' a w))) : G n w0 S l m (GA P ops Q Sx nn (fuel + 1) rem) := fun a w ha hw listed hl => by
 refine wpAnyH_all (rs := [i]) (by rw [hT.ready hl, rdB_spec hr]) (by simp) fun j hj => ?_
 obtain rfl : j = i := (by simpa using hj)
 exact wpOp_mono (fun a' w' h' => ⟨h'.1, h'.2 _ (hl.tk' hb)⟩) (h a w ha hw)
theorem G.twoT {Sx : World → Prop} {j rem'' : Nat} (hT : Tab ops deps frs nn) (hr : rdB deps rem [i, j] = true) (hb : rmB rem i rem' = true) (hb2 : rmB rem j rem'' = true) (h : G n w0 S l m (wpOp P ops Q i (fun a w => Sx w ∧ GA P ops Q Sx nn fuel rem' a w))) (k : G n w0 S l m (wpOp P ops Q j (fun a w => Sx w ∧ GA P ops Q Sx nn fuel rem'' a w))) : G n w0 S l m (GA P ops Q Sx nn (fuel + 1) rem) := fun a w ha hw listed hl => by
 refine wpAnyH_all (rs := [i, j]) (by rw [hT.ready hl, rdB_spec hr]) (by simp) fun x hx => ?_
 rcases List.mem_cons.1 hx with rfl | hx
 ·exact wpOp_mono (fun a' w' h' => ⟨h'.1, h'.2 _ (hl.tk' hb)⟩) (h a w ha hw)
 ·obtain rfl : x = j := (by simpa using hx)
  exact wpOp_mono (fun a' w' h' => ⟨h'.1, h'.2 _ (hl.tk' hb2)⟩) (k a w ha hw)
theorem G.overT {Sx : World → Prop} (hT : Tab ops deps frs nn) (hr : rdB deps rem [] = true) (h : G n w0 S l m (Q .normal)) : G n w0 S l m (GA P ops Q Sx nn fuel rem) := fun a w ha hw listed hl => wpAnyH_done (by rw [hT.ready hl, rdB_spec hr]) (h a w ha hw) fuel
end
section
variable {P : Program} {n : Nat} {w0 : World} {S : Nat → Prop} {l : Fr} {m : List Ck} {Q : Exit → Act → World → Prop} {K : Act → World → Prop}
theorem own_blk {w : World} {e sz k : Nat} {v : Value} {cs : List Value} (hk : 0 < k) (h : w.ownsRow 0 e sz v k cs) : ∃ g cap sp, v = .slice (some ⟨g, 0, none⟩) k cap ∧ k ≤ cap ∧ cap ≤ 9223372036854775807 ∧ (cs ++ sp).length = cap * sz ∧ w.heap[g]? = some (.cells (cs ++ sp).toArray e (0, 0)) := by
 obtain ⟨h1, ⟨rfl, h2⟩ | ⟨g, cap, cur, rfl, _, hg, hc, hm, hs, ht⟩⟩ := h
 ·omega
 ·have e1 : cs ++ cur.toList.drop (k * sz) = cur.toList := by rw [← ht]; exact List.take_append_drop _ _
  refine ⟨g, cap, cur.toList.drop (k * sz), rfl, hc, by unfold maxLen at hm; omega, ?_, ?_⟩
  ·rw [e1]; simpa using hs
  ·rw [e1]; simpa using hg
theorem G.ownTo {e sz k : Nat} {v : Value} {cs : List Value} {r : List Ck} (hs : Sel m (own e sz v k cs) r) (hk : 0 < k)
 (h : ∀ g cap sp, v = .slice (some ⟨g, 0, none⟩) k cap → k ≤ cap → cap ≤ 9223372036854775807 → (cs ++ sp).length = cap * sz → cs.length = k * sz → G n w0 S l (blk g e (cs ++ sp) :: r) K) : G n w0 S l m K := fun a w ha hw => by
 have hw' := hw.sel hs
 have ho : w.ownsRow 0 e sz v k cs := hw'.holds _ (List.mem_cons_self ..)
 obtain ⟨g, cap, sp, rfl, hc, hm, hl, hg⟩ := own_blk hk ho
 refine h g cap sp rfl hc hm hl ho.1 a w ha (hp_view (c := own e sz (.slice (some ⟨g, 0, none⟩) k cap) k cs) (d := blk g e (cs ++ sp)) hw' (fun _ => hg) fun b hb => ?_)
 obtain rfl : b = g := hb
 rfl
theorem G.ownOf {e sz k g cap : Nat} {cs sp : List Value} {r : List Ck} (hs : Sel m (blk g e (cs ++ sp)) r) (hk : cs.length = k * sz) (hc : k ≤ cap) (hm : cap ≤ 9223372036854775807) (hl : (cs ++ sp).length = cap * sz)
 (h : G n w0 S l (own e sz (.slice (some ⟨g, 0, none⟩) k cap) k cs :: r) K) : G n w0 S l m K := fun a w ha hw => by
 have hw' := hw.sel hs
 refine h a w ha (hp_view (c := blk g e (cs ++ sp)) (d := own e sz (.slice (some ⟨g, 0, none⟩) k cap) k cs) hw' (fun hg => ?_) fun b hb => ?_)
 ·have hg : w.heap[g]? = some (.cells (cs ++ sp).toArray e (0, 0)) := hg
  exact ⟨hk, .inr ⟨g, cap, _, rfl, Nat.zero_le _, hg, hc, by unfold maxLen; omega, by simpa using hl, by rw [← hk]; simp⟩⟩
 ·have : some g = some b := hb
  injection this with this
  exact this.symm
theorem ro_rng0 {b o : Nat} {cs : List Value} (h : Ro w0 S (rng b o cs)) : ∀ w, Hp w0 S w m → w.rangeAt b o cs := fun w hw => h.at hw
theorem G.trP {o : Oper} {d : Nat} {f : FuncId} {args : Array Value} {ro pre r : List Ck} {post : Value → List Ck → Prop} (hd : o.dst = some d) (hn : Nat.blt d n = true) (he : PE P n w0 S l m o f args)
 (ht : Tr P f args ro pre post) (hm : Sub m pre r) (hro : ∀ c ∈ ro, May w0 S r c) (h : ∀ v m', post v m' → G n w0 S ((d, v) :: l) (m' ++ r) K) : G n w0 S l m (fun a w => o.wp P a w K Q) := fun a w ha hw => by
 have hw' := hw.perm hm.perm
 have hp : Hp w (U pre) w pre := ⟨Chg.refl _ _, fun c hc => hw'.holds c (List.mem_append_left _ hc), fun c hc b hb => ⟨.inl ⟨c, hc, hb⟩, (hw'.own c (List.mem_append_left _ hc) b hb).2⟩, (List.pairwise_append.1 hw'.dis).1⟩
 have hc := ht w (fun c hc => (hro c hc).ro hw') hp
 show Oper.wp P o a w K Q
 unfold Oper.wp
 rw [he a w ha hw, Oper.upon_enter]
 refine hc.mono ?_
 rintro e w2 ⟨v, m', rfl, hpost, hm'⟩
 show K (a.put o.dst v) w2
 rw [hd]
 exact h v m' hpost _ _ (ha.put hn v) (hw'.turn hm')
theorem G.cRv {o : Oper} {d : Nat} {x : Operand} {f : FuncId} {first captured args : Array Value} {xs : List Operand} {ts : Array TypeId} {vs : List Value} {ro : List Ck} {v : Value} (hd : o.dst = some d) (hn : Nat.blt d n = true)
 (ho : o.op = .call { callee := .value x, args := xs.toArray, argTypes := ts }) (hv : ev l x = some (.func (.func f) first captured)) (hx : evs l xs = some vs) {fn : Func} {c : Code} (hf : P.funcs[f]? = some fn) (hb : fn.body = some c) (hnm : (fn.name == "runtime.NumGoroutine") = false)
 (hargs : first ++ vs.toArray ++ captured = args) (hro : ∀ c ∈ ro, May w0 S m c) (ht : Tr P f args ro [] (T0 v)) (h : G n w0 S ((d, v) :: l) m K) : G n w0 S l m (fun a w => o.wp P a w K Q) :=
 G.trP hd hn (hargs ▸ pe_val ho hv hx hf hb hnm) ht .nil hro fun x m' ⟨hx, hm⟩ => by subst hx; subst hm; exact h
theorem OwnB.one {w : World} {e : TypeId} {v : Value} {xs : List UInt8} (h : OwnB w e v xs) : v.oneCell' = true ∧ ∃ ad cap, v = .slice ad xs.length cap := by
 rcases h with ⟨rfl, rfl⟩ | ⟨g, sp, rfl, _⟩
 ·exact ⟨rfl, _, _, rfl⟩
 ·exact ⟨rfl, _, _, rfl⟩
theorem G.ownBFact {e : TypeId} {v : Value} {xs : List UInt8} {r : List Ck} (hs : Sel m (ownB e v xs) r) (h : v.oneCell' = true → G n w0 S l m K) : G n w0 S l m K :=
 G.fact (p := v.oneCell' = true) (fun w hw => (OwnB.one (hw.holds _ hs.mem)).1) h
theorem G.ownBSl {e : TypeId} {v : Value} {xs : List UInt8} {r : List Ck} (hs : Sel m (ownB e v xs) r) (h : ∀ ad cap, v = .slice ad xs.length cap → G n w0 S l m K) : G n w0 S l m K := fun a w ha hw => by
 obtain ⟨_, ad, cap, hv⟩ := OwnB.one (hw.holds _ hs.mem)
 exact h ad cap hv a w ha hw
theorem run_eqSl {ty e : TypeId} (ht : P.underlying ty = some (.slice e)) (a : Option Addr) (len cap : Nat) (w : World) : ∀ d, (Op.equalIn (d + 1) ty (.slice a len cap) (.slice none 0 0)).run P w = .ok a.isNone w := fun d => by
 cases a <;> simp [Op.equalIn, Sem.run_bind, run_underlying ht, Result.andThen, Sem.run_pure]
section
variable {dst : Option Tmp} {ty : TypeId} {pos : String} {after : Array Edge} {g : Option (Nat × Bool)}
theorem pv_eqlSl0 {a : Option Addr} {len cap : Nat} {t u e : TypeId} {x y : Operand} (ht : P.underlying t = some (.slice e)) (hx : ev l x = some (.slice a len cap)) (hy : ev l y = some (.slice none 0 0)) : PV P n w0 S l m ⟨dst, .binOp .eql t x y u, ty, pos, after, g⟩ (.bool a.isNone) :=
 pv_bin hx hy (by unfold eqGuard; rfl) fun w => by
  show ((Op.equalIn Op.maxDepth t (.slice a len cap) (.slice none 0 0)) >>= fun x => pure (Value.bool x)).run P w = _
  have h := run_eqSl ht a len cap w 9999
  simp only [Sem.run_bind, show Op.maxDepth = 9999 + 1 from rfl, h, Result.andThen, Sem.run_pure]
end
end
theorem putN_get (vs : List Value) : ∀ (cs : List Value) (o j : Nat), o + vs.length ≤ cs.length → (putN cs o vs)[j]? = if o ≤ j ∧ j < o + vs.length then vs[j - o]? else cs[j]? := by
 induction vs with
 | nil => intro cs o j _; rw [if_neg (by rintro ⟨h1, h2⟩; rw [List.length_nil] at h2; omega)]; rfl
 | cons v vs ih =>
  intro cs o j hl
  show (putN (cs.set o v) (o + 1) vs)[j]? = _
  rw [List.length_cons] at hl
  rw [ih _ _ _ (by rw [List.length_set]; omega), List.length_cons]
  by_cases h1 : o + 1 ≤ j ∧ j < o + 1 + vs.length
  ·rw [if_pos h1, if_pos ⟨by omega, by omega⟩, show j - o = (j - (o + 1)) + 1 by omega, List.getElem?_cons_succ]
  ·rw [if_neg h1]
   by_cases h2 : o = j
   ·subst h2
    rw [if_pos ⟨by omega, by omega⟩, List.getElem?_set_self (by omega), Nat.sub_self]
    rfl
   ·rw [if_neg (by omega), List.getElem?_set_ne h2]
section
variable {P : Program} {n : Nat} {w0 : World} {S : Nat → Prop} {l : Fr} {m : List Ck} {Q : Exit → Act → World → Prop} {K : Act → World → Prop}
 {ty : TypeId} {pos : String} {after : Array Edge} {g : Option (Nat × Bool)}
theorem ro_blk {b o : Nat} {T : TypeId} {cs : List Value} {v : Value} (h : Ro w0 S (blk b T cs)) (hv : cs[o]? = some v) : ∀ w, Hp w0 S w m → w.cell? ⟨b, o, none⟩ = some v := fun w hw => by
 have hh : w.heap[b]? = some (.cells cs.toArray T (0, 0)) := h.at hw
 rw [cell_of_row _ _ _ _ _ _ hh, List.getElem?_toArray, hv]
theorem ro_range {b o k : Nat} {T : TypeId} {cs xs : List Value} (h : Ro w0 S (blk b T cs)) (hv : (cs.drop o).take k = xs) : ∀ w, Hp w0 S w m → w.rangeAt b o xs := fun w hw => blk_rngAt (h.at hw) hv
theorem G.constB {t e d b : Nat} {x : Operand} {xs : List UInt8} {r : List Ck} (hn : Nat.blt d n = true) (hu : P.underlying t = some (.slice e)) (he : P.underlying e = some (.int .u8)) (hx : ev l x = some (.slice (some ⟨b, 0, none⟩) xs.length xs.length)) (hm : xs.length ≤ 9223372036854775807)
 (hs : Sel m (blk b e (xs.map vByte)) r)
 (h : G n w0 S ((d, .slice (some ⟨b, 0, none⟩) xs.length xs.length) :: l) (slc rByte (· = b) (.slice (some ⟨b, 0, none⟩) xs.length xs.length) xs :: r) K) : G n w0 S l m (fun a w => Oper.wp P ⟨some d, .convert t t x, ty, pos, after, g⟩ a w K Q) := G.eff rfl hn fun a w ha hw => by
 have hw' := hw.sel hs
 have hh : w.heap[b]? = some (.cells (xs.map vByte).toArray e (0, 0)) := hw'.holds _ (List.mem_cons_self ..)
 have hlt : b < w.heap.size := by
  rcases Nat.lt_or_ge b w.heap.size with h | h
  ·exact h
  ·rw [Array.getElem?_eq_none h] at hh; cases hh
 have hsh : w.shape? b = some (e, (xs.map vByte).toArray.size) := by unfold World.shape?; rw [hh]
 have hr : (convert t t (a.eval x)).run P w = .ok (.slice (some ⟨b, 0, none⟩) xs.length xs.length) (w.freeze ⟨b, (xs.map vByte).toArray.size, none⟩ 1) := by
  rw [ha.eval hx]
  simp [convert, run_underlying hu, run_underlying he, markStringish, hsh]
 have hb : (w.freeze ⟨b, (xs.map vByte).toArray.size, none⟩ 1).heap[b]? = some (.cells (xs.map vByte).toArray e ((xs.map vByte).toArray.size, (xs.map vByte).toArray.size + 1)) := by
  unfold World.freeze
  rw [if_neg (by decide)]
  show (w.heap.modify b _)[b]? = _
  rw [Array.getElem?_modify, if_pos rfl, hh]
  rfl
 have hsz : (w.freeze ⟨b, (xs.map vByte).toArray.size, none⟩ 1).heap.size = w.heap.size := by
  unfold World.freeze
  rw [if_neg (by decide)]
  exact Array.size_modify
 refine ⟨_, _, _, run_v hr, Hp.turn (p := [blk b e (xs.map vByte)]) (p' := [slc rByte (· = b) (.slice (some ⟨b, 0, none⟩) xs.length xs.length) xs]) hw' ⟨⟨?_, ?_, ?_, ?_, fun k hk hS => ?_⟩, fun c hc => ?_, fun c hc k hk => ?_, by simp⟩, h⟩
 ·unfold World.freeze; rw [if_neg (by decide)]
 ·unfold World.freeze; rw [if_neg (by decide)]
 ·unfold World.freeze; rw [if_neg (by decide)]
 ·rw [hsz]; exact Nat.le_refl _
 ·unfold World.freeze
  rw [if_neg (by decide)]
  show (w.heap.modify b _)[k]? = _
  rw [Array.getElem?_modify, if_neg (fun e => hS ⟨_, List.mem_cons_self .., e.symm⟩)]
 ·obtain rfl : c = _ := by simpa using hc
  refine ⟨_, _, b, 0, rfl, Nat.le_refl _, hm, (fun h => by cases h), (fun _ => rfl), fun i hi => ⟨rfl, ?_, trivial⟩⟩
  unfold World.cell?
  show (match (w.freeze ⟨b, (xs.map vByte).toArray.size, none⟩ 1).heap[b]? with | some (.cells c _ _) => _ | _ => _) = _
  rw [hb]
  show (xs.map vByte).toArray[0 + i * 1]? = _
  simp [hi]
 ·obtain rfl : c = _ := by simpa using hc
  obtain rfl : k = b := hk
  exact ⟨.inl ⟨_, List.mem_cons_self .., rfl⟩, by rw [hsz]; exact hlt⟩
theorem G.takeUT {ops : Array Oper} {deps frs : List Nat} {nn rem rem' fuel i j d t : Nat} {b : Bool} {oi : Oper} {mS r : List Ck} (hT : Tab ops deps frs nn) (hi : ops[i]? = some oi) (hd : oi.dst = some d) (hn : Nat.blt d n = true) (hk : tkB deps frs rem i rem' = true)
 (hQ : ∀ c a w, Q (.panic c) (a.put oi.dst undef) w → Q (.panic c) a w) (hg : oi.guard = some (j, b)) (hj : (ops[j]?).bind (·.dst) = some t) (ht : Fr.get l t = some undef) (hs : Sub m mS r)
 (h : G n w0 S ((d, undef) :: l) m (GA P ops Q (fun w => Hp w0 S w mS) nn fuel rem')) : G n w0 S l m (GA P ops Q (fun w => Hp w0 S w mS) nn (fuel + 1) rem) := fun a w ha hw' listed hl => by
 obtain ⟨dd, f, h1, h2, h3, h4, h5, h6⟩ := tkB_spec hk
 have hr : (Region.ready .any ops listed).contains i = true := by
  rw [hT.ready hl]
  have := mem_readyGo (i := 0) h1 h3 (by rw [Nat.zero_add]; exact h5)
  rw [Nat.zero_add] at this
  simpa using this
 have hwn : Region.wanted oi (yielded ops a.tmps) = false := by
  simp only [Region.wanted, hg, ha.yieldedU hj ht]
  rfl
 refine wpAnyH_take hi hT.sel (hT.free hl hi h2 h4) hr hQ (.inr ⟨hwn, rfl⟩) ((hw'.perm hs.perm).sub (List.sublist_append_left _ _)) ?_
 rw [hd]
 exact h _ _ (ha.put hn undef) hw' _ (hl.tk' h6)
end
end Go.Proofs.YtcgacpmippdkeaaGreat
