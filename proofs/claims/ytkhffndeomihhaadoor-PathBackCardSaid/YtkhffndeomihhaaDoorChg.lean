/- What has changed between two worlds: only the blocks that a set names. Slices that lie in blocks that a set names. Conditions: none. -/
import Derived.Test.YtkhffndeomihhaaDoorBase
import Derived.Deep.OwnRows
import Derived.Laws.Rows
import Derived.Laws.Tables
import Derived.Laws.CopyOwn
import Derived.Laws.MakeOwn
import Derived.Laws.OwnMore
set_option linter.unusedVariables false
set_option linter.unusedSimpArgs false
set_option maxRecDepth 100000
namespace Go.Proofs.YtkhffndeomihhaaDoor
open Go.RowKit

/-- only blocks of S, and new ones, have changed -/
structure Chg (S : Nat → Prop) (w w' : World) : Prop where
  os : w'.os = w.os
  tape : w'.tape = w.tape
  output : w'.output = w.output
  size : w.heap.size ≤ w'.heap.size
  block : ∀ k, k < w.heap.size → ¬ S k → w'.heap[k]? = w.heap[k]?

namespace Chg
variable {S T : Nat → Prop} {a b c w w' : World}
theorem refl (S : Nat → Prop) (w : World) : Chg S w w := ⟨rfl, rfl, rfl, Nat.le_refl _, fun _ _ _ => rfl⟩
theorem trans' (h : Chg S a b) (k : Chg T b c) (hT : ∀ x, x < a.heap.size → T x → S x) : Chg S a c :=
  ⟨k.os.trans h.os, k.tape.trans h.tape, k.output.trans h.output, Nat.le_trans h.size k.size,
    fun i hi hS => (k.block i (Nat.lt_of_lt_of_le hi h.size) fun t => hS (hT i hi t)).trans (h.block i hi hS)⟩
theorem trans (h : Chg S a b) (k : Chg S b c) : Chg S a c := h.trans' k fun _ _ h => h
theorem mono (h : Chg S a b) (hS : ∀ x, S x → T x) : Chg T a b := ⟨h.os, h.tape, h.output, h.size, fun k hk hT => h.block k hk fun s => hT (hS k s)⟩
theorem of_below {B : Nat} (h : Below B w w') (hB : ∀ k, k < w.heap.size → ¬ S k → k < B) : Chg S w w' :=
  ⟨h.os, h.tape, h.output, h.size, fun k hk hS => h.block k (hB k hk hS)⟩
theorem below {B : Nat} (h : Chg S w w') (hS : ∀ k, k < B → ¬ S k) (hB : B ≤ w.heap.size) : Below B w w' :=
  ⟨h.os, h.tape, h.output, h.size, fun k hk => h.block k (Nat.lt_of_lt_of_le hk hB) (hS k hk)⟩
theorem after (h : Chg S a b) (k : Below b.heap.size b c) : Chg S a c := h.trans' (of_below k fun x hx _ => hx) fun x _ t => t
theorem drew (h : Chg S w w') : Chg S w w'.drew := ⟨h.os, h.tape, h.output, h.size, h.block⟩
theorem drewN (h : Chg S w w') (n : Nat) : Chg S w (w'.drewN n) := ⟨h.os, h.tape, h.output, h.size, h.block⟩
theorem alloc (h : Chg S w w') (o : Obj) : Chg S w (w'.alloc o) :=
  h.after (((Below.refl _ _).alloc (Nat.le_refl _) _))
theorem setCell (h : Chg S w w') {p : Addr} (hp : S p.block) (v : Value) : Chg S w (w'.setCell p v) :=
  ⟨h.os, h.tape, h.output, by simpa [World.setCell] using h.size, fun k hk hS => (heap_setCell_other w' p k v (fun e => hS (e ▸ hp))).trans (h.block k hk hS)⟩
theorem setRow (h : Chg S w w') {g : Nat} (hp : S g) (cs : Array Value) : Chg S w (w'.setRow g cs) :=
  ⟨h.os, h.tape, h.output, by simpa using h.size, fun k hk hS => (setRow_other w' g k cs (fun e => hS (e ▸ hp))).trans (h.block k hk hS)⟩
theorem cell (h : Chg S w w') {p : Addr} {v : Value} (hc : w.cell? p = some v) (hS : ¬ S p.block) : w'.cell? p = some v :=
  (World.cell?_of_block (h.block _ (cell_lt hc) hS)).trans hc
theorem row (h : Chg S w w') {g n : Nat} {T : TypeId} {f : Nat → Value} (hr : w.rowIs g T n f) (hS : ¬ S g) : w'.rowIs g T n f := hr.of_block (h.block g hr.lt hS)
end Chg

/-- a slice whose cells lie in a block of P -/
def SlP {α : Type} (R : World → Nat → Nat → α → Prop) (sz : Nat) (P : Nat → Prop) (w : World) (v : Value) (xs : List α) : Prop :=
  ∃ (a : Option Addr) (b off cap : Nat), v = .slice a xs.length cap ∧ xs.length ≤ cap ∧ cap ≤ maxLen ∧ (a = none → cap = 0) ∧ (0 < xs.length → a = some ⟨b, off, none⟩ ∧ P b) ∧ ∀ i (h : i < xs.length), R w b (off + i * sz) xs[i]
theorem SlP.of {α : Type} {R : World → Nat → Nat → α → Prop} {sz B : Nat} {P : Nat → Prop} {w : World} {v : Value} {xs : List α} (h : Sl R sz B w v xs) (hP : ∀ b, b < B → P b) : SlP R sz P w v xs := by
  obtain ⟨a, b, off, cap, h1, h2, h3, h4, h5, h6⟩ := h
  exact ⟨a, b, off, cap, h1, h2, h3, h4, fun h => ⟨(h5 h).1, hP _ (h5 h).2⟩, h6⟩
theorem SlP.to {α : Type} {R : World → Nat → Nat → α → Prop} {sz B : Nat} {P : Nat → Prop} {w : World} {v : Value} {xs : List α} (h : SlP R sz P w v xs) (hP : ∀ b, P b → b < B) : Sl R sz B w v xs := by
  obtain ⟨a, b, off, cap, h1, h2, h3, h4, h5, h6⟩ := h
  exact ⟨a, b, off, cap, h1, h2, h3, h4, fun h => ⟨(h5 h).1, hP _ (h5 h).2⟩, h6⟩
theorem SlP.imp {α : Type} {R : World → Nat → Nat → α → Prop} {sz : Nat} {P Q : Nat → Prop} {w : World} {v : Value} {xs : List α} (h : SlP R sz P w v xs) (hP : ∀ b, P b → Q b) : SlP R sz Q w v xs := by
  obtain ⟨a, b, off, cap, h1, h2, h3, h4, h5, h6⟩ := h
  exact ⟨a, b, off, cap, h1, h2, h3, h4, fun h => ⟨(h5 h).1, hP _ (h5 h).2⟩, h6⟩
theorem SlP.chg {α : Type} {R : World → Nat → Nat → α → Prop} {sz : Nat} {P S : Nat → Prop} {w w' : World} {v : Value} {xs : List α} (h : SlP R sz P w v xs)
    (hR : ∀ b o x, P b → R w b o x → R w' b o x) : SlP R sz P w' v xs := by
  obtain ⟨a, b, off, cap, h1, h2, h3, h4, h5, h6⟩ := h
  exact ⟨a, b, off, cap, h1, h2, h3, h4, h5, fun i hi => hR _ _ _ (h5 (by omega)).2 (h6 i hi)⟩
theorem SlP.bytes {P S : Nat → Prop} {w w' : World} {v : Value} {xs : List UInt8} (h : SlP RByte 1 P w v xs) (hc : Chg S w w') (hS : ∀ b, P b → ¬ S b) : SlP RByte 1 P w' v xs :=
  h.chg (S := S) fun b o x hP hr => hc.cell hr (hS b hP)
/-- the length of a slice -/
def lenOf : Value → Nat
  | .slice _ n _ => n
  | _ => 0
/-- a row's cells, as one array -/
def rowArr (n : Nat) (f : Nat → Value) : Array Value := ((List.range n).map f).toArray
theorem rowIs_heap {w : World} {g n : Nat} {T : TypeId} {f : Nat → Value} (h : w.rowIs g T n f) : w.heap[g]? = some (.cells (rowArr n f) T (0, 0)) := by
  obtain ⟨c, hc, hn, hh⟩ := h
  have : c = rowArr n f := by
    apply Array.ext_getElem?
    intro i
    rcases Nat.lt_or_ge i n with h1 | h1
    · rw [hh i h1]; simp [rowArr, h1]
    · rw [Array.getElem?_eq_none (by omega), Array.getElem?_eq_none (by simp [rowArr]; omega)]
  rw [hc, this]
theorem rowIs_setRow {w : World} {g n : Nat} {T : TypeId} {f : Nat → Value} (h : w.rowIs g T n f) (cs : Array Value) (f' : Nat → Value) (hn : cs.size = n) (hf : ∀ i, i < n → cs[i]? = some (f' i)) : (w.setRow g cs).rowIs g T n f' :=
  ⟨cs, setRow_heap _ _ _ _ _ (0, 0) (rowIs_heap h), hn, hf⟩
theorem splice_get {α : Type} (L cs : List α) (off i : Nat) (h : off + cs.length ≤ L.length) : (L.take off ++ (cs ++ L.drop (off + cs.length)))[i]? = if off ≤ i ∧ i < off + cs.length then cs[i - off]? else L[i]? := by
  rcases Nat.lt_or_ge i off with h1 | h1
  · rw [List.getElem?_append_left (by simp; omega), if_neg (by omega), List.getElem?_take_of_lt h1]
  · rw [List.getElem?_append_right (by simp; omega)]
    have e : i - (L.take off).length = i - off := by simp; omega
    rw [e]
    rcases Nat.lt_or_ge i (off + cs.length) with h2 | h2
    · rw [List.getElem?_append_left (by omega), if_pos ⟨h1, h2⟩]
    · rw [List.getElem?_append_right (by omega), if_neg (by omega), List.getElem?_drop]
      congr 1
      omega
/-- a slice of a slice: from place l up to place h, with room up to place m -/
def subV (sz : Nat) (a : Option Addr) (l h m : Nat) : Value := .slice (if m = l then a else a.map (·.add (l * sz))) (h - l) (m - l)
section
variable {P : Program} {T E sz : Nat}
theorem run_sub_lo (hu : P.underlying T = some (.slice E)) (hz : ∀ w, (sizeOf E).run P w = .ok sz w) (a : Option Addr) (len cap l : Nat) (k : IntKind) (h1 : l ≤ len) (w : World) :
    (Instr.slice T (.slice a len cap) (some (.int k (l : Int))) none none).run P w = .ok (subV sz a l len cap) w := by
  have h2 : (l : Int) ≤ len := by omega
  simp [Instr.slice, Instr.sliceBounds, Instr.sliceBound, go_sem, run_underlying hu, hz, h1, subV]
  try omega
theorem run_sub_hi (hu : P.underlying T = some (.slice E)) (hz : ∀ w, (sizeOf E).run P w = .ok sz w) (a : Option Addr) (len cap h : Nat) (k : IntKind) (h1 : h ≤ cap) (w : World) :
    (Instr.slice T (.slice a len cap) none (some (.int k (h : Int))) none).run P w = .ok (subV sz a 0 h cap) w := by
  have h2 : (h : Int) ≤ cap := by omega
  simp [Instr.slice, Instr.sliceBounds, Instr.sliceBound, go_sem, run_underlying hu, hz, h1, subV]
  try omega
theorem run_sub (hu : P.underlying T = some (.slice E)) (hz : ∀ w, (sizeOf E).run P w = .ok sz w) (a : Option Addr) (len cap l h : Nat) (k k' : IntKind) (h1 : l ≤ h) (h2 : h ≤ cap) (w : World) :
    (Instr.slice T (.slice a len cap) (some (.int k (l : Int))) (some (.int k' (h : Int))) none).run P w = .ok (subV sz a l h cap) w := by
  have h3 : (h : Int) ≤ cap := by omega
  have h4 : (l : Int) ≤ h := by omega
  simp [Instr.slice, Instr.sliceBounds, Instr.sliceBound, go_sem, run_underlying hu, hz, h1, h2, subV]
end
theorem SlP.sub {α : Type} {R : World → Nat → Nat → α → Prop} {sz : Nat} {P : Nat → Prop} {w : World} {a : Option Addr} {len cap l h : Nat} {xs : List α} (hs : SlP R sz P w (.slice a len cap) xs) (h1 : l ≤ h) (h2 : h ≤ xs.length) :
    SlP R sz P w (subV sz a l h cap) ((xs.take h).drop l) := by
  obtain ⟨a', b, off, cap', he, h3, h4, h5, h6, h7⟩ := hs
  injection he with e1 e2 e3
  subst e1 e2 e3
  have hl : ((xs.take h).drop l).length = h - l := by simp; omega
  by_cases hc : cap = l
  · have hlen : h - l = 0 := by omega
    refine ⟨a, b, off + l * sz, cap - l, ?_, by omega, by omega, fun _ => by omega, fun hp => by omega, fun i hi => by omega⟩
    unfold subV
    rw [if_pos hc, hl]
  · refine ⟨a.map (·.add (l * sz)), b, off + l * sz, cap - l, ?_, by omega, by omega, ?_, ?_, ?_⟩
    · unfold subV
      rw [if_neg hc, hl]
    · intro hn
      have := h5 (by cases a <;> simp at hn ⊢)
      omega
    · intro hp
      obtain ⟨rfl, hP⟩ := h6 (by omega)
      exact ⟨by simp [Addr.add], hP⟩
    · intro i hi
      have := h7 (l + i) (by omega)
      rw [Nat.add_mul, ← Nat.add_assoc] at this
      simpa using this
/-- 'copy' into a row that is known whole: the world behind it is a variable -/
theorem wpList_copy_at {P : Program} {w : World} {ops : Array Oper} {rest : List Oper} {o : Oper} {a : Act} {Q : Exit → Act → World → Prop} (hgd : o.guard = none) (d s : Operand) (dT sT : TypeId)
    (ho : o.op = .call { callee := .builtin .copy, args := #[d, s], argTypes := #[dT, sT] }) (elem : TypeId) (hu : P.underlying dT = some (.slice elem)) (hsz : (P.info? elem).map (·.size) = some 1)
    (g off dLen dCap : Nat) (ad : Addr) (sLen sCap : Nat) (hd : a.eval d = .slice (some ⟨g, off, none⟩) dLen dCap) (hs : a.eval s = .slice (some ad) sLen sCap)
    (cur : Array Value) (t : TypeId) (hg : w.heap[g]? = some (.cells cur t (0, 0))) (cs : List Value) (k : Nat) (hk : cs.length = k) (hn : k = Nat.min sLen dLen)
    (hsrc : ∀ j v, cs[j]? = some v → w.cell? (ad.add j) = some v) (hfit : off + k ≤ cur.size) (h1 : ∀ v ∈ cs, v.oneCell' = true)
    (h : ∀ w', Hid (w' = w.setRow g (cur.toList.take off ++ (cs ++ cur.toList.drop (off + cs.length))).toArray) → wpList P ops Q rest (a.put o.dst (.int .i64 (k : Int))) w') : wpList P ops Q (o :: rest) a w := by
  subst hk
  exact wpList_copy_own hgd d s dT sT ho elem hu hsz g off dLen dCap ad sLen sCap hd hs cur t hg cs hn hsrc hfit h1 (h _ (Lib.hid rfl))
/-- 'make([]T, l, c)', T of one cell: the world behind it is a variable -/
theorem wpList_make_at {P : Program} {w : World} {ops : Array Oper} {rest : List Oper} {o : Oper} {a : Act} {Q : Exit → Act → World → Prop} (hgd : o.guard = none) (x y : Operand) (t : TypeId) (hop : o.op = Op.makeSlice t x y)
    (e : TypeId) (i : TypeInfo) (z : Value) (ht : P.underlying t = some (.slice e)) (hi : P.info? e = some i) (hz : i.zero = some z) (hsize : i.size = 1) (hz1 : z.cells = #[z])
    (kl kc : IntKind) (l c : Nat) (hl : a.eval x = .int kl (l : Int)) (hc : a.eval y = .int kc (c : Int)) (hlc : l ≤ c) (hbytes : i.bytes * c ≤ 281474976710656) (h63 : c ≤ 9223372036854775807)
    (h : ∀ w', Hid (w' = w.alloc (.cells (madeCells #[z] c) e)) → wpList P ops Q rest (a.put o.dst (.slice (some ⟨w.heap.size, 0, none⟩) l c)) w') : wpList P ops Q (o :: rest) a w := by
  refine wpList_plain hgd fun K hK => ?_
  have hb' : (i.bytes : Int) * (c : Int) ≤ 281474976710656 := by
    have h : ((i.bytes * c : Nat) : Int) ≤ 281474976710656 := by omega
    rwa [Int.natCast_mul] at h
  have hr := run_make (P := P) w t e i z ht hi hz kl kc l c (by omega) (by omega) hb' (by omega)
  simp only [Int.toNat_natCast, hsize, Nat.mul_one, hz1] at hr
  unfold Oper.wp
  simp [execOp, hop, hl, hc, hr, Result.andThen]
  exact hK _ _ (h _ (Lib.hid rfl))
/-- what make has laid is the call's own -/
theorem owns_made {w : World} {e l c base : Nat} {z : Value} (hlc : l ≤ c) (hc : c ≤ maxLen) (hb : base ≤ w.heap.size) :
    (w.alloc (.cells (madeCells #[z] c) e)).ownsRow base e 1 (.slice (some ⟨w.heap.size, 0, none⟩) l c) l (List.replicate l z) := by
  refine ⟨by simp, .inr ⟨w.heap.size, c, madeCells #[z] c, rfl, hb, heap_alloc_new _ _, hlc, hc, by simp [size_madeCells], ?_⟩⟩
  apply List.ext_getElem?
  intro i
  rw [List.getElem?_take]
  by_cases hi : i < l
  · rw [if_pos (by omega)]
    have : (madeCells #[z] c).toList[i]? = some z := by
      simp [madeCells, show i < c by omega, Nat.mod_one]
    rw [this]
    simp [hi]
  · rw [if_neg (by omega)]
    simp [hi]
/-- a composite literal whose cells are given -/
theorem wpList_build_at {P : Program} {ops : Array Oper} {rest : List Oper} {o : Oper} {a : Act} {w : World} {Q : Exit → Act → World → Prop} (cells : Array Value) (hg : o.guard = none) (t : TypeId) (parts : Array (Nat × Operand)) (ho : o.op = .build t parts)
    (hf : P.built t (parts.map fun (i, x) => (i, a.eval x)).toList = some cells)
    (h : wpList P ops Q rest (a.put o.dst (.agg cells)) w) : wpList P ops Q (o :: rest) a w :=
  wpList_build hg t parts ho (by rw [hf]; rfl) (by rw [hf]; exact h)
theorem owns_empty (w : World) (e sz : Nat) : (w.alloc (.cells #[] e)).ownsRow w.heap.size e sz (.slice (some ⟨w.heap.size, 0, none⟩) 0 0) 0 [] :=
  ⟨by simp, .inr ⟨w.heap.size, 0, #[], rfl, Nat.le_refl _, heap_alloc_new _ _, Nat.le_refl _, by unfold maxLen; omega, by simp, by simp⟩⟩
end Go.Proofs.YtkhffndeomihhaaDoor
