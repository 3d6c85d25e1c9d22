/- A walk by chunks: memory. Conditions: none. -/
import Derived.Test.YtkhffndeomihhaaDoorW2
import Derived.Great.BuildSlice
set_option linter.unusedVariables false
set_option linter.unusedSimpArgs false
set_option maxRecDepth 100000
namespace Go.Proofs.YtkhffndeomihhaaDoor
open Go.RowKit

/-! chunks -/
/-- a block of the call's own, cell by cell -/
def blk (b : Nat) (T : TypeId) (cs : List Value) : Ck := ⟨(· = b), fun w => w.heap[b]? = some (.cells cs.toArray T (0, 0)), fun w w' h hw => (h b rfl).trans hw⟩
/-- a slice of the call's own, with all its room -/
def own (e : TypeId) (sz : Nat) (v : Value) (k : Nat) (cs : List Value) : Ck := ⟨fun b => v.ownBlock = some b, fun w => w.ownsRow 0 e sz v k cs, fun w w' h hw => by
  refine ⟨hw.1, ?_⟩
  rcases hw.2 with h1 | ⟨g, cap, cur, rfl, hb, hg, r⟩
  · exact .inl h1
  · exact .inr ⟨g, cap, cur, rfl, hb, (h g rfl).trans hg, r⟩⟩
/-- how a value of a type lies in memory: in which blocks at most, from which cell on -/
structure Rdr (α : Type) where
  sz : Nat
  R : (Nat → Prop) → World → Nat → Nat → α → Prop
  loc : ∀ {Ps : Nat → Prop} {w w' : World} {b o : Nat} {x : α}, (∀ k, Ps k → w'.heap[k]? = w.heap[k]?) → R Ps w b o x → R Ps w' b o x
  mono : ∀ {Ps Qs : Nat → Prop} {w : World} {b o : Nat} {x : α}, (∀ k, Ps k → Qs k) → R Ps w b o x → R Qs w b o x
/-- one cell whose value is told -/
def r1 {α : Type} (f : α → Value) (p : α → Prop) : Rdr α where
  sz := 1
  R := fun Ps w b o x => Ps b ∧ w.cell? ⟨b, o, none⟩ = some (f x) ∧ p x
  loc := fun h ⟨h1, h2, h3⟩ => ⟨h1, (World.cell?_of_block (h _ h1)).trans h2, h3⟩
  mono := fun h ⟨h1, h2⟩ => ⟨h _ h1, h2⟩
def vInt (x : Int) : Value := .int .i64 x
def vByte (x : UInt8) : Value := .int .u8 (x.toNat : Int)
def vStr (x : List UInt8) : Value := .string (sB x)
def rInt : Rdr Int := r1 vInt I64
def rByte : Rdr UInt8 := r1 vByte fun _ => True
def rStr : Rdr (List UInt8) := r1 vStr fun x => x.length ≤ 9223372036854775807
/-- a slice -/
structure SlV {α : Type} (E : Rdr α) (Ps : Nat → Prop) (w : World) (ad : Option Addr) (cap b off : Nat) (xs : List α) : Prop where
  hcap : xs.length ≤ cap
  hmax : cap ≤ 9223372036854775807
  hnil : ad = none → cap = 0
  had : 0 < xs.length → ad = some ⟨b, off, none⟩
  cell : ∀ i (h : i < xs.length), E.R Ps w b (off + i * E.sz) xs[i]
theorem SlV.loc {α : Type} {E : Rdr α} {Ps : Nat → Prop} {w w' : World} {ad : Option Addr} {cap b off : Nat} {xs : List α} (h : SlV E Ps w ad cap b off xs) (hk : ∀ k, Ps k → w'.heap[k]? = w.heap[k]?) : SlV E Ps w' ad cap b off xs :=
  ⟨h.hcap, h.hmax, h.hnil, h.had, fun i hi => E.loc hk (h.cell i hi)⟩
theorem SlV.mono {α : Type} {E : Rdr α} {Ps Qs : Nat → Prop} {w : World} {ad : Option Addr} {cap b off : Nat} {xs : List α} (h : SlV E Ps w ad cap b off xs) (hk : ∀ k, Ps k → Qs k) : SlV E Qs w ad cap b off xs :=
  ⟨h.hcap, h.hmax, h.hnil, h.had, fun i hi => E.mono hk (h.cell i hi)⟩
def IsSl {α : Type} (E : Rdr α) (Ps : Nat → Prop) (w : World) (v : Value) (xs : List α) : Prop := ∃ ad cap b off, v = .slice ad xs.length cap ∧ SlV E Ps w ad cap b off xs
theorem IsSl.loc {α : Type} {E : Rdr α} {Ps : Nat → Prop} {w w' : World} {v : Value} {xs : List α} (h : IsSl E Ps w v xs) (hk : ∀ k, Ps k → w'.heap[k]? = w.heap[k]?) : IsSl E Ps w' v xs :=
  let ⟨ad, cap, b, off, e, hs⟩ := h; ⟨ad, cap, b, off, e, hs.loc hk⟩
theorem IsSl.mono {α : Type} {E : Rdr α} {Ps Qs : Nat → Prop} {w : World} {v : Value} {xs : List α} (h : IsSl E Ps w v xs) (hk : ∀ k, Ps k → Qs k) : IsSl E Qs w v xs :=
  let ⟨ad, cap, b, off, e, hs⟩ := h; ⟨ad, cap, b, off, e, hs.mono hk⟩
def slc {α : Type} (E : Rdr α) (Ps : Nat → Prop) (v : Value) (xs : List α) : Ck := ⟨Ps, fun w => IsSl E Ps w v xs, fun w w' h hw => hw.loc h⟩
def elc {α : Type} (E : Rdr α) (Ps : Nat → Prop) (b o : Nat) (x : α) : Ck := ⟨Ps, fun w => E.R Ps w b o x, fun w w' h hw => E.loc h hw⟩
def rSl {α : Type} (E : Rdr α) : Rdr (List α) where
  sz := 1
  R := fun Ps w b o xs => Ps b ∧ ∃ v, w.cell? ⟨b, o, none⟩ = some v ∧ IsSl E Ps w v xs
  loc := fun h ⟨h1, v, h2, h3⟩ => ⟨h1, v, (World.cell?_of_block (h _ h1)).trans h2, h3.loc h⟩
  mono := fun h ⟨h1, v, h2, h3⟩ => ⟨h _ h1, v, h2, h3.mono h⟩
section
variable {P : Program} {n : Nat} {w0 : World} {S : Nat → Prop} {l : Fr} {m : List Ck} {Q : Exit → Act → World → Prop} {K : Act → World → Prop}
  {dst : Option Tmp} {ty : TypeId} {pos : String} {after : Array Edge} {g : Option (Nat × Bool)}
/-- a slice that is only read, opened -/
theorem Ro.open {α : Type} {E : Rdr α} {Ps : Nat → Prop} {v : Value} {xs : List α} (h : Ro w0 S (slc E Ps v xs)) : ∃ ad cap b off, v = .slice ad xs.length cap ∧ xs.length ≤ cap ∧ cap ≤ 9223372036854775807 ∧ (ad = none → cap = 0) ∧ (0 < xs.length → ad = some ⟨b, off, none⟩) ∧ ∀ i (hi : i < xs.length), Ro w0 S (elc E Ps b (off + i * E.sz) xs[i]) := by
  obtain ⟨⟨ad, cap, b, off, e, hs⟩, hP⟩ := h
  exact ⟨ad, cap, b, off, e, hs.hcap, hs.hmax, hs.hnil, hs.had, fun i hi => ⟨hs.cell i hi, hP⟩⟩
theorem Sel.mem {r : List Ck} {c : Ck} (h : Sel m c r) : c ∈ m := h.perm.mem_iff.2 (List.mem_cons_self ..)
theorem Hp.sel {w : World} {r : List Ck} {c : Ck} (hw : Hp w0 S w m) (h : Sel m c r) : Hp w0 S w (c :: r) := hw.perm h.perm
theorem isAgg_false {t : TypeId} {d : TypeDesc} (hu : P.underlying t = some d) (hd : d.isRow = false) (w : World) : (isAgg t).run P w = .ok false w := by
  unfold isAgg
  simp only [Sem.run_bind, run_underlying hu, Result.andThen]
  cases d <;> first | rfl | cases hd
theorem run_sizeOf {t : TypeId} {k : Nat} (h : (P.info? t).map (·.size) = some k) (w : World) : (sizeOf t).run P w = .ok k w := by
  obtain ⟨ie, hie, hie2⟩ := Option.map_eq_some_iff.1 h
  simp [sizeOf, typeInfo, program, Sem.run, Sem.run_bind, hie, hie2, Result.andThen, Sem.run_pure]
/-! loads -/
theorem pv_load {t : TypeId} {x : Operand} {b o : Nat} {d : TypeDesc} {v : Value} (hu : P.underlying t = some d) (hd : d.isRow = false) (hx : ev l x = some (.pointer (some ⟨b, o, none⟩))) (hc : ∀ w, Hp w0 S w m → w.cell? ⟨b, o, none⟩ = some v) : PV P n w0 S l m ⟨dst, .load t x, ty, pos, after, g⟩ v := fun act w ha hw => by
  show ((Instr.loadAt t (act.eval x)) >>= fun x => pure (Next.value x)).run P w = _
  rw [ha.eval hx]
  refine run_v ?_
  simp [Instr.loadAt, Instr.sureAddr, loadVar, load, Sem.run_bind, isAgg_false hu hd, Result.andThen, Sem.run_pure, Sem.run, hc w hw]
theorem pv_loadN {t : TypeId} {x : Operand} {b o : Nat} {d : TypeDesc} {cs : List Value} (hu : P.underlying t = some d) (hd : d.isRow = true) (hi : (P.info? t).map (·.size) = some cs.length) (hx : ev l x = some (.pointer (some ⟨b, o, none⟩))) (hc : ∀ w, Hp w0 S w m → w.rangeAt b o cs) : PV P n w0 S l m ⟨dst, .load t x, ty, pos, after, g⟩ (.agg cs.toArray) := fun act w ha hw => by
  show ((Instr.loadAt t (act.eval x)) >>= fun x => pure (Next.value x)).run P w = _
  rw [ha.eval hx]
  exact run_v (run_loadAt_mid w b o t cs d (hc w hw) hu hd hi)
theorem blk_cell {b o : Nat} {T : TypeId} {cs : List Value} {r : List Ck} {v : Value} (h : Sel m (blk b T cs) r) (hv : cs[o]? = some v) : ∀ w, Hp w0 S w m → w.cell? ⟨b, o, none⟩ = some v := fun w hw => by
  have := (hw.sel h).holds _ (List.mem_cons_self ..)
  rw [cell_of_row _ _ _ _ _ _ this, List.getElem?_toArray, hv]
theorem blk_range {b o k : Nat} {T : TypeId} {cs xs : List Value} {r : List Ck} (h : Sel m (blk b T cs) r) (hv : (cs.drop o).take k = xs) : ∀ w, Hp w0 S w m → w.rangeAt b o xs := fun w hw j v hj => by
  have := (hw.sel h).holds _ (List.mem_cons_self ..)
  rw [cell_of_row _ _ _ _ _ _ this, List.getElem?_toArray]
  rw [← hv, List.getElem?_take] at hj
  split at hj
  · rwa [List.getElem?_drop] at hj
  · cases hj
theorem ro_cell {α : Type} {f : α → Value} {p : α → Prop} {Ps : Nat → Prop} {b o : Nat} {x : α} (h : Ro w0 S (elc (r1 f p) Ps b o x)) : ∀ w, Hp w0 S w m → w.cell? ⟨b, o, none⟩ = some (f x) := fun w hw => (h.at hw).2.1
theorem ro_int {Ps : Nat → Prop} {b o : Nat} {x : Int} (h : Ro w0 S (elc rInt Ps b o x)) : ∀ w, Hp w0 S w m → w.cell? ⟨b, o, none⟩ = some (.int .i64 x) := ro_cell (f := vInt) h
theorem ro_byte {Ps : Nat → Prop} {b o : Nat} {x : UInt8} (h : Ro w0 S (elc rByte Ps b o x)) : ∀ w, Hp w0 S w m → w.cell? ⟨b, o, none⟩ = some (.int .u8 (x.toNat : Int)) := ro_cell (f := vByte) h
theorem ro_str {Ps : Nat → Prop} {b o : Nat} {x : List UInt8} (h : Ro w0 S (elc rStr Ps b o x)) : ∀ w, Hp w0 S w m → w.cell? ⟨b, o, none⟩ = some (.string (sB x)) := ro_cell (f := vStr) h
theorem Ro.i64 {Ps : Nat → Prop} {b o : Nat} {x : Int} (h : Ro w0 S (elc rInt Ps b o x)) : I64 x := h.1.2.2
/-! new blocks -/
theorem Hp.alloc {w : World} (hw : Hp w0 S w m) (cs : List Value) (T : TypeId) : Hp w0 S (w.alloc (.cells cs.toArray T)) (blk w.heap.size T cs :: m) := by
  refine hw.adds (m' := [blk w.heap.size T cs]) ⟨(Chg.refl _ _).alloc _, fun c hc => ?_, fun c hc b hb => ?_, by simp⟩
  · obtain rfl : c = _ := by simpa using hc
    exact heap_alloc_new _ _
  · obtain rfl : c = _ := by simpa using hc
    obtain rfl : b = _ := hb
    exact ⟨.inr (Nat.le_refl _), by simp⟩
theorem G.alloc {T d : Nat} {z : Value} (hn : Nat.blt d n = true) (hz : (P.info? T).bind (·.zero) = some z) {cs : List Value} (hcs : z.cells.toList = cs) (h : ∀ b, G n w0 S ((d, .pointer (some ⟨b, 0, none⟩)) :: l) (blk b T cs :: m) K) :
    G n w0 S l m (fun a w => Oper.wp P ⟨some d, .alloc T, ty, pos, after, g⟩ a w K Q) := G.eff rfl hn fun a w ha hw => by
  obtain ⟨i, hi, hi2⟩ := Option.bind_eq_some_iff.1 hz
  refine ⟨_, _, _, run_v (s := Instr.alloc T true (.tuple #[])) (v := .pointer (some ⟨w.heap.size, 0, none⟩)) (w' := w.alloc (.cells cs.toArray T)) ?_, hw.alloc cs T, h _⟩
  have e : z.cells = cs.toArray := by rw [← hcs]
  simp [Instr.alloc, zeroValue, typeInfo, program, newVar, newRow, newObj, Sem.run_bind, Sem.run, hi, hi2, Result.andThen, Sem.run_pure, e]
theorem G.box {T d : Nat} {x : Operand} {v : Value} (hn : Nat.blt d n = true) (hx : ev l x = some v) {cs : List Value} (hcs : v.cells = cs.toArray) (h : ∀ b, G n w0 S ((d, .pointer (some ⟨b, 0, none⟩)) :: l) (blk b T cs :: m) K) :
    G n w0 S l m (fun a w => Oper.wp P ⟨some d, .box T x, ty, pos, after, g⟩ a w K Q) := G.eff rfl hn fun a w ha hw => by
  refine ⟨_, _, _, run_v (s := Instr.box T (a.eval x)) (v := .pointer (some ⟨w.heap.size, 0, none⟩)) (w' := w.alloc (.cells cs.toArray T)) ?_, hw.alloc cs T, h _⟩
  rw [ha.eval hx]
  simp [Instr.box, newVar, newRow, newObj, Sem.run_bind, Sem.run, Result.andThen, Sem.run_pure, hcs]
/-- what parts hold -/
def pevs (l : Fr) : List (Nat × Operand) → Option (List (Nat × Value))
  | [] => some []
  | (i, x) :: xs => match ev l x, pevs l xs with
    | some v, some vs => some ((i, v) :: vs)
    | _, _ => none
theorem At.pevs {a : Act} (ha : At a n l) : ∀ {xs : List (Nat × Operand)} {vs : List (Nat × Value)}, Go.Proofs.YtkhffndeomihhaaDoor.pevs l xs = some vs → (xs.toArray.map fun (i, x) => (i, a.eval x)).toList = vs
  | [], vs, h => by simp [Go.Proofs.YtkhffndeomihhaaDoor.pevs] at h; subst h; simp
  | (i, x) :: xs, vs, h => by
    unfold Go.Proofs.YtkhffndeomihhaaDoor.pevs at h
    split at h
    · rename_i v us h1 h2
      injection h with h
      subst h
      have := ha.pevs h2
      rw [Array.toList_map] at this ⊢
      rw [show ((i, x) :: xs).toArray.toList = (i, x) :: xs.toArray.toList from rfl, List.map_cons, this]
      show (i, a.eval x) :: us = _
      rw [ha.eval h1]
    · cases h
theorem G.buildSlice {t e d len sz : Nat} {xs : List (Nat × Operand)} {ps : List (Nat × Value)} {z : Value} {cs : List Value} (hn : Nat.blt d n = true) (hu : P.underlying t = some (.slice e)) (hz : (P.info? e).map (fun i => (i.zero, i.size)) = some (some z, sz)) (hsm : len * sz ≤ 2 ^ 24) (hpos : 0 < len * sz)
    (hp : pevs l xs = some ps) (hf : Instr.fill (fun i => some (i * sz, sz)) ((Array.range (len * sz)).map (z.cells[· % z.cells.size]!)) ps = some cs.toArray)
    (h : ∀ b, G n w0 S ((d, .slice (some ⟨b, 0, none⟩) len len) :: l) (blk b e cs :: m) K) :
    G n w0 S l m (fun a w => Oper.wp P ⟨some d, .buildSlice t len xs.toArray, ty, pos, after, g⟩ a w K Q) := G.eff rfl hn fun a w ha hw => by
  obtain ⟨i, hi, hi2⟩ := Option.map_eq_some_iff.1 hz
  have hi3 : i.zero = some z := congrArg Prod.fst hi2
  have hi4 : i.size = sz := congrArg Prod.snd hi2
  subst hi4
  exact ⟨_, _, _, run_v (run_buildSlice w t e len _ cs.toArray i z hu hi hi3 (by omega) (by omega) (by rw [ha.pevs hp]; exact hf)), hw.alloc cs e, h _⟩
/-- elements of one cell, each told -/
theorem G.lit1 {t e d : Nat} {len : Nat} {xs : List (Nat × Operand)} {vs : List Value} (hn : Nat.blt d n = true) (hu : P.underlying t = some (.slice e)) (hz : (P.info? e).map (fun i => (i.zero.isSome, i.size)) = some (true, 1)) (hlen : vs.length = len) (hpos : 0 < len) (hsm : len ≤ 2 ^ 24)
    (hp : pevs l xs = some ((vs.zipIdx 0).map fun x => (x.2, x.1))) (hv : vs.all (·.oneCell') = true)
    (h : ∀ b, G n w0 S ((d, .slice (some ⟨b, 0, none⟩) len len) :: l) (blk b e vs :: m) K) :
    G n w0 S l m (fun a w => Oper.wp P ⟨some d, .buildSlice t len xs.toArray, ty, pos, after, g⟩ a w K Q) := by
  obtain ⟨i, hi, hi2⟩ := Option.map_eq_some_iff.1 hz
  have hi3 : i.zero.isSome = true := congrArg Prod.fst hi2
  have hi4 : i.size = 1 := congrArg Prod.snd hi2
  obtain ⟨z, hzz⟩ := Option.isSome_iff_exists.1 hi3
  refine G.buildSlice (z := z) (sz := 1) (ps := _) hn hu (by rw [hi]; simp [hzz, hi4]) (by omega) (by omega) hp ?_ h
  exact Great.fill_flat _ _ (fun v hv' => by have := List.all_eq_true.1 hv v hv'; cases v <;> first | rfl | cases this) (by simp [hlen])
theorem G.lit0 {t e d : Nat} {xs : Array (Nat × Operand)} (hn : Nat.blt d n = true) (hu : P.underlying t = some (.slice e)) (hz : ((P.info? e).map (·.size)).isSome = true) (hx : xs = #[])
    (h : ∀ b, G n w0 S ((d, .slice (some ⟨b, 0, none⟩) 0 0) :: l) (blk b e [] :: m) K) :
    G n w0 S l m (fun a w => Oper.wp P ⟨some d, .buildSlice t 0 xs, ty, pos, after, g⟩ a w K Q) := G.eff rfl hn fun a w ha hw => by
  obtain ⟨k, hk⟩ := Option.isSome_iff_exists.1 hz
  obtain ⟨i, hi, hi2⟩ := Option.map_eq_some_iff.1 hk
  have key : ∀ ps : Array (Nat × Value), ps = #[] → (Instr.buildSlice t 0 ps).run P w = .ok (.slice (some ⟨w.heap.size, 0, none⟩) 0 0) (w.alloc (.cells #[] e)) := fun ps hp => by
    subst hp
    simp [Instr.buildSlice, run_underlying hu, sizeOf, typeInfo, hi, newRow, Instr.fill]
    rw [show Array.range 0 = #[] from rfl]
    simp
  exact ⟨_, _, _, run_v (key _ (by rw [hx]; simp)), hw.alloc [] e, h _⟩
/-! stores -/
theorem Hp.put {w : World} {b o : Nat} {T : TypeId} {cs : List Value} {r : List Ck} (hw : Hp w0 S w (blk b T cs :: r)) (v : Value) : Hp w0 S (w.setCell ⟨b, o, none⟩ v) (blk b T (cs.set o v) :: r) := by
  have hh := hw.holds _ (List.mem_cons_self ..)
  refine Hp.turn (p := [blk b T cs]) (p' := [blk b T (cs.set o v)]) hw ⟨(Chg.refl _ _).setCell ⟨_, List.mem_cons_self .., rfl⟩ v, fun c hc => ?_, fun c hc k hk => ?_, by simp⟩
  · obtain rfl : c = _ := by simpa using hc
    have := heap_setCell_same w b o cs.toArray T v hh
    show (w.setCell ⟨b, o, none⟩ v).heap[b]? = _
    rw [this]
    simp
  · obtain rfl : c = _ := by simpa using hc
    obtain rfl : k = b := hk
    refine ⟨.inl ⟨_, List.mem_cons_self .., rfl⟩, ?_⟩
    have := (hw.own _ (List.mem_cons_self ..) k rfl).2
    simpa [World.setCell] using this
theorem G.store {t : TypeId} {x y : Operand} {b o : Nat} {T : TypeId} {cs : List Value} {r : List Ck} {v : Value} (hi : (P.info? t).map (·.size) = some 1) (hx : ev l x = some (.pointer (some ⟨b, o, none⟩))) (hy : ev l y = some v) (hv : v.oneCell' = true) (hs : Sel m (blk b T cs) r) (ho : o < cs.length)
    (h : G n w0 S l (blk b T (cs.set o v) :: r) K) : G n w0 S l m (fun a w => Oper.wp P ⟨none, .store t x y, ty, pos, after, g⟩ a w K Q) := G.act rfl fun a w ha hw => by
  have hw' := hw.sel hs
  have hh := hw'.holds _ (List.mem_cons_self ..)
  refine ⟨_, _, run_u (s := Instr.storeAt t (a.eval x) (a.eval y)) (w' := w.setCell ⟨b, o, none⟩ v) ?_, hw'.put v, h⟩
  rw [ha.eval hx, ha.eval hy]
  have h1 : v.cells = #[v] := by cases v <;> first | rfl | cases hv
  have hc : w.cell? ⟨b, o, none⟩ = some cs[o] := by rw [cell_of_row _ _ _ _ _ _ hh, List.getElem?_toArray, List.getElem?_eq_getElem ho]
  have hf : w.frozen? ⟨b, o, none⟩ = false := frozen_of_row _ _ _ _ _ hh
  have hst : (Go.store ⟨b, o, none⟩ v).run P w = .ok () (w.setCell ⟨b, o, none⟩ v) := by
    cases v <;> first | (simp [Go.store, Sem.run, hc, hf]; done) | cases hv
  have e0 : (⟨b, o, none⟩ : Addr).add 0 = ⟨b, o, none⟩ := by simp [Addr.add]
  simp [Instr.storeAt, Instr.sureAddr, storeVar, storeCells, Sem.run_bind, run_sizeOf hi, Result.andThen, Sem.run_pure, h1, e0, hst]
def putN (cs : List Value) (o : Nat) : List Value → List Value
  | [] => cs
  | v :: vs => putN (cs.set o v) (o + 1) vs
theorem setCells_blk {b : Nat} {T : TypeId} : ∀ (vs cs : List Value) (o : Nat) {w : World} {r : List Ck}, Hp w0 S w (blk b T cs :: r) → Hp w0 S (w.setCells b o vs) (blk b T (putN cs o vs) :: r)
  | [], cs, o, w, r, hw => hw
  | v :: vs, cs, o, w, r, hw => setCells_blk vs (cs.set o v) (o + 1) (hw.put (o := o) v)
theorem putN_all (vs : List Value) : ∀ (cs pre : List Value), cs.length = vs.length → putN (pre ++ cs) pre.length vs = pre ++ vs := by
  induction vs with
  | nil => intro cs pre h; simp at h; subst h; rfl
  | cons v vs ih =>
    intro cs pre h
    cases cs with
    | nil => cases h
    | cons c cs =>
      have e : (pre ++ c :: cs).set pre.length v = (pre ++ [v]) ++ cs := by simp
      have := ih cs (pre ++ [v]) (by simpa using h)
      rw [List.length_append] at this
      unfold putN
      rw [e]
      simpa using this
theorem putN_whole (vs cs : List Value) (h : cs.length = vs.length) : putN cs 0 vs = vs := putN_all vs cs [] h
theorem G.storeN {t : TypeId} {x y : Operand} {b o : Nat} {T : TypeId} {cs vs : List Value} {r : List Ck} (hi : (P.info? t).map (·.size) = some vs.length) (hx : ev l x = some (.pointer (some ⟨b, o, none⟩))) (hy : ev l y = some (.agg vs.toArray)) (hv : vs.all (·.oneCell') = true) (hs : Sel m (blk b T cs) r) (ho : o + vs.length ≤ cs.length)
    (h : G n w0 S l (blk b T (putN cs o vs) :: r) K) : G n w0 S l m (fun a w => Oper.wp P ⟨none, .store t x y, ty, pos, after, g⟩ a w K Q) := G.act rfl fun a w ha hw => by
  have hw' := hw.sel hs
  have hh := hw'.holds _ (List.mem_cons_self ..)
  refine ⟨_, _, run_u (s := Instr.storeAt t (a.eval x) (a.eval y)) (w' := w.setCells b o vs) ?_, setCells_blk vs cs o hw', h⟩
  rw [ha.eval hx, ha.eval hy]
  exact run_storeAt_mid w b o t vs.toArray (fun j hj => by
    have hj' : j < vs.length := by simpa using hj
    refine ⟨?_, frozen_of_row _ _ _ _ _ hh⟩
    rw [cell_of_row _ _ _ _ _ _ hh, List.getElem?_toArray, List.getElem?_eq_getElem (by omega)]
    rfl) (by simpa using hi) (by simpa using hv)
end
end Go.Proofs.YtkhffndeomihhaaDoor
