/- A walk by chunks: equality of structs and of arrays of bytes. Conditions: none. -/
import Derived.Test.YtkhffndeomihhaaDoorW8
import Derived.Laws.StructEq
import Derived.ChangeKeysEq
set_option linter.unusedVariables false
set_option linter.unusedSimpArgs false
set_option maxRecDepth 100000
namespace Go.Proofs.YtkhffndeomihhaaDoor
open Go.RowKit

section
variable {P : Program} {n : Nat} {w0 : World} {S : Nat → Prop} {l : Fr} {m : List Ck} {Q : Exit → Act → World → Prop} {K : Act → World → Prop}
  {dst : Option Tmp} {ty : TypeId} {pos : String} {after : Array Edge} {g : Option (Nat × Bool)}
/-- an operation behind a guard that was itself passed -/
theorem At.yieldedU {a : Act} {ops : Array Oper} {j t : Nat} (ha : At a n l) (hj : (ops[j]?).bind (·.dst) = some t) (ht : Fr.get l t = some undef) : Go.yielded ops a.tmps j = none := by
  unfold Go.yielded
  rw [hj]
  simp [ha.get t _ ht, undef]
theorem G.passU {ops : Array Oper} {o : Oper} {rest : List Oper} {j t d : Nat} {b : Bool} (hg : o.guard = some (j, b)) (hj : (ops[j]?).bind (·.dst) = some t) (ht : Fr.get l t = some undef) (hd : o.dst = some d) (hn : Nat.blt d n = true)
    (h : G n w0 S ((d, undef) :: l) m (wpList P ops Q rest)) : G n w0 S l m (wpList P ops Q (o :: rest)) := fun a w ha hw =>
  wpList_step fun K hK => by
    have e : Region.wanted o (yielded ops a.tmps) = false := by
      simp only [Region.wanted, hg, ha.yieldedU hj ht]
      rfl
    rw [if_neg (by rw [e]; simp), hd]
    exact hK _ _ (h _ _ (ha.put hn undef) hw)
theorem G.passNU {ops : Array Oper} {o : Oper} {rest : List Oper} {j t : Nat} {b : Bool} (hg : o.guard = some (j, b)) (hj : (ops[j]?).bind (·.dst) = some t) (ht : Fr.get l t = some undef) (hd : o.dst = none)
    (h : G n w0 S l m (wpList P ops Q rest)) : G n w0 S l m (wpList P ops Q (o :: rest)) := fun a w ha hw =>
  wpList_step fun K hK => by
    have e : Region.wanted o (yielded ops a.tmps) = false := by
      simp only [Region.wanted, hg, ha.yieldedU hj ht]
      rfl
    rw [if_neg (by rw [e]; simp), hd]
    exact hK _ _ (h _ _ ha hw)
/-- part of a slice of the call's own -/
theorem may_ownSub {α : Type} {f : α → Value} {p : α → Prop} {e k cap i j : Nat} {ad : Option Addr} {xs : List α} {r : List Ck} (h : Sel m (own e 1 (.slice ad k cap) k (xs.map f)) r) (hk : k = xs.length) (hp : ∀ x ∈ xs, p x) (hij : i ≤ j) (hj : j ≤ xs.length) : May w0 S m (slc (r1 f p) (fun b => (Value.slice ad k cap).ownBlock = some b) (subV 1 ad i j cap) ((xs.take j).drop i)) :=
  .view h.mem (fun w hw => (own_isSl' hw hk hp).sub (E := r1 f p) hij hj) fun b h => h
theorem subV_zero (sz : Nat) (ad : Option Addr) (j cap : Nat) : subV sz ad 0 j cap = .slice ad j cap := by
  unfold subV
  simp
  intro h
  cases ad <;> simp [Addr.add]
theorem may_ownPre {α : Type} {f : α → Value} {p : α → Prop} {e k cap j : Nat} {ad : Option Addr} {xs : List α} {r : List Ck} (h : Sel m (own e 1 (.slice ad k cap) k (xs.map f)) r) (hk : k = xs.length) (hp : ∀ x ∈ xs, p x) (hj : j ≤ xs.length) : May w0 S m (slc (r1 f p) (fun b => (Value.slice ad k cap).ownBlock = some b) (.slice ad j cap) (xs.take j)) := by
  have := may_ownSub (w0 := w0) (S := S) h hk hp (Nat.zero_le j) hj
  rwa [subV_zero, List.drop_zero] at this
/-- are two cells of a plain type the same? -/
def eqC (P : Program) (e : TypeId) (a b : Value) : Option Bool := match P.underlying e, a, b with
  | some .bool, .bool x, .bool y => some (x == y)
  | some (.int _), .int k x, .int k' y => if k = k' then some (decide (x = y)) else none
  | some .string, .string x, .string y => some (x == y)
  | _, _, _ => none
def eqF (P : Program) (xs ys : List Value) : List Field → Option Bool
  | [] => some true
  | f :: fs => if f.name = "_" then none else match xs[f.offset]?, ys[f.offset]? with
    | some a, some b => match eqC P f.type a b, eqF P xs ys fs with
      | some p, some q => some (p && q)
      | _, _ => none
    | _, _ => none
theorem run_eqC {e : TypeId} {a b : Value} {p : Bool} (h : eqC P e a b = some p) : ∃ d, P.underlying e = some d ∧ d.isRow = false ∧ ∀ k w, (Op.equalIn (k + 1) e a b).run P w = .ok p w := by
  unfold eqC at h
  split at h
  · rename_i hu
    injection h with h
    exact ⟨_, hu, rfl, fun k w => by rw [← h]; exact run_eqB hu _ _ w k⟩
  · rename_i q k1 x k2 y hu
    split at h
    · rename_i hk
      subst hk
      injection h with h
      exact ⟨_, hu, rfl, fun k w => by rw [← h]; simp [Op.equalIn, Sem.run_bind, run_underlying hu, Result.andThen, Sem.run_pure]; exact Bool.beq_eq_decide_eq x y ▸ rfl⟩
    · cases h
  · rename_i x y hu
    injection h with h
    exact ⟨_, hu, rfl, fun k w => by rw [← h]; simp [Op.equalIn, Sem.run_bind, run_underlying hu, Result.andThen, Sem.run_pure]⟩
  · cases h
theorem run_partC {e : TypeId} {off : Nat} {xs : Array Value} {v : Value} {d : TypeDesc} (hu : P.underlying e = some d) (hd : d.isRow = false) (hv : xs[off]? = some v) (w : World) : (part e xs off).run P w = .ok v w := by
  simp only [part, Sem.run_bind, isAgg_false hu hd, Result.andThen_ok, Bool.false_eq_true, if_false, hv, Sem.run_pure]
theorem run_eqF {xs ys : List Value} (k : Nat) (w : World) : ∀ (fs : List Field) (r : Bool), eqF P xs ys fs = some r → (Op.eqFields (k + 1) xs.toArray ys.toArray fs).run P w = .ok r w
  | [], r, h => by
    injection h with h
    subst h
    simp [Op.eqFields]
  | f :: fs, r, h => by
    unfold eqF at h
    split at h
    · cases h
    · rename_i hn
      split at h
      · rename_i a b ha hb
        split at h
        · rename_i p q hp hq
          injection h with h
          subst h
          obtain ⟨d, hu, hd, hr⟩ := run_eqC hp
          have h1 := run_partC (xs := xs.toArray) hu hd (by simpa using ha) w
          have h2 := run_partC (xs := ys.toArray) hu hd (by simpa using hb) w
          simp only [Op.eqFields, hn, ne_eq, not_false_eq_true, if_true, Sem.run_bind, h1, h2, hr k w, Result.andThen_ok]
          cases p
          · simp
          · simpa using run_eqF k w fs q hq
        · cases h
      · cases h
theorem run_eqSt {t : TypeId} {fs : Array Field} {xs ys : List Value} {r : Bool} (hu : P.underlying t = some (.struct fs)) (hp : P.stoodInHeld t = false) (he : eqF P xs ys fs.toList = some r) (w : World) : (Op.equalIn Op.maxDepth t (.agg xs.toArray) (.agg ys.toArray)).run P w = .ok r w := by
  have hf : P.fieldsOf t = fs := by unfold Program.fieldsOf; rw [hu]
  rw [show Op.maxDepth = 9999 + 1 from rfl, run_equalIn_struct w 9999 t _ _ (by rw [hf]; exact hu) hp, hf]
  exact run_eqF 9998 w _ _ he
theorem eqGuard_agg {op : BinOp} {t : TypeId} {x y : Operand} {xs ys : Array Value} (hg : P.eqGuardType P.depth t = false) (w : World) : (eqGuard op t x y (.agg xs) (.agg ys)).run P w = .ok () w := by
  cases op <;> (simp [eqGuard, Sem.run_bind, run_program, Result.andThen]) <;> (intro h; rw [hg] at h; cases h)
theorem pv_binA {op : BinOp} {t u : TypeId} {x y : Operand} {xs ys : Array Value} {v : Value} (hg : P.eqGuardType P.depth t = false) (hx : ev l x = some (.agg xs)) (hy : ev l y = some (.agg ys)) (hr : ∀ w, (binOp op t (.agg xs) (.agg ys)).run P w = .ok v w) :
    PV P n w0 S l m ⟨dst, .binOp op t x y u, ty, pos, after, g⟩ v := fun a w ha _ => by
  show ((do eqGuard op t x y (a.eval x) (a.eval y); binOp op t (a.eval x) (a.eval y)) >>= fun v => pure (Next.value v)).run P w = _
  rw [ha.eval hx, ha.eval hy]
  simp only [Sem.run_bind, eqGuard_agg hg, Result.andThen_ok, hr, Sem.run_pure]
theorem pv_eqlSt {t u : TypeId} {fs : Array Field} {x y : Operand} {xs ys : List Value} {r : Bool} (hu : P.underlying t = some (.struct fs)) (hg : P.eqGuardType P.depth t = false) (hp : P.stoodInHeld t = false) (hx : ev l x = some (.agg xs.toArray)) (hy : ev l y = some (.agg ys.toArray)) (he : eqF P xs ys fs.toList = some r) :
    PV P n w0 S l m ⟨dst, .binOp .eql t x y u, ty, pos, after, g⟩ (.bool r) :=
  pv_binA hg hx hy fun w => by
    show ((Op.equalIn Op.maxDepth t (.agg xs.toArray) (.agg ys.toArray)) >>= fun x => pure (Value.bool x)).run P w = _
    simp only [Sem.run_bind, run_eqSt hu hp he, Result.andThen_ok, Sem.run_pure]
theorem pv_neqSt {t u : TypeId} {fs : Array Field} {x y : Operand} {xs ys : List Value} {r : Bool} (hu : P.underlying t = some (.struct fs)) (hg : P.eqGuardType P.depth t = false) (hp : P.stoodInHeld t = false) (hx : ev l x = some (.agg xs.toArray)) (hy : ev l y = some (.agg ys.toArray)) (he : eqF P xs ys fs.toList = some r) :
    PV P n w0 S l m ⟨dst, .binOp .neq t x y u, ty, pos, after, g⟩ (.bool (!r)) :=
  pv_binA hg hx hy fun w => by
    show ((Op.equalIn Op.maxDepth t (.agg xs.toArray) (.agg ys.toArray)) >>= fun x => pure (Value.bool (!x))).run P w = _
    simp only [Sem.run_bind, run_eqSt hu hp he, Result.andThen_ok, Sem.run_pure]
/-! arrays of bytes -/
theorem run_eqItems8 {e : TypeId} (hu : P.underlying e = some (.int .u8)) {a b : List UInt8} (k : Nat) (w : World) : ∀ (is : List Nat), (∀ i ∈ is, i < a.length ∧ i < b.length) →
    (Op.eqItems (k + 1) e 1 (a.map vByte).toArray (b.map vByte).toArray is).run P w = .ok (is.all fun i => decide (a[i]? = b[i]?)) w
  | [], _ => by simp [Op.eqItems]
  | i :: is, h => by
    obtain ⟨h1, h2⟩ := h i (List.mem_cons_self ..)
    have p1 := run_partC (xs := (a.map vByte).toArray) (off := i * 1) (v := vByte a[i]) hu rfl (by simp [h1]) w
    have p2 := run_partC (xs := (b.map vByte).toArray) (off := i * 1) (v := vByte b[i]) hu rfl (by simp [h2]) w
    have p3 : (Op.equalIn (k + 1) e (vByte a[i]) (vByte b[i])).run P w = .ok (decide (a[i]? = b[i]?)) w := by
      have : decide (a[i]? = b[i]?) = ((a[i].toNat : Int) == (b[i].toNat : Int)) := by
        rw [List.getElem?_eq_getElem h1, List.getElem?_eq_getElem h2]
        by_cases hx : a[i] = b[i]
        · simp [hx]
        · have : ¬ (a[i].toNat : Int) = (b[i].toNat : Int) := fun h3 => hx (UInt8.toNat_inj.1 (by omega))
          simp [hx, this]
      rw [this]
      exact run_equalIn_int w k e .u8 .u8 _ _ hu
    simp only [Op.eqItems, Sem.run_bind, p1, p2, p3, Result.andThen_ok, List.all_cons]
    cases hd : decide (a[i]? = b[i]?)
    · simp
    · simpa using run_eqItems8 hu k w is fun j hj => h j (List.mem_cons_of_mem _ hj)
theorem all_range_eq {a b : List UInt8} {n : Nat} (ha : a.length = n) (hb : b.length = n) : ((List.range n).all fun i => decide (a[i]? = b[i]?)) = decide (a = b) := by
  by_cases h : a = b
  · subst h; simp
  · rw [decide_eq_false h]
    rw [Bool.eq_false_iff]
    intro hall
    refine h (List.ext_getElem? fun i => ?_)
    rcases Nat.lt_or_ge i n with hi | hi
    · exact of_decide_eq_true (List.all_eq_true.1 hall i (List.mem_range.2 hi))
    · rw [List.getElem?_eq_none (by omega), List.getElem?_eq_none (by omega)]
theorem run_eqAr8 {t e : TypeId} {k : Nat} {i : TypeInfo} {a b : List UInt8} (hu : P.underlying t = some (.array k e)) (hi : P.info? e = some i) (hc : P.cellsOf e = 1) (he : P.underlying e = some (.int .u8)) (ha : a.length = k) (hb : b.length = k) (w : World) :
    (Op.equalIn Op.maxDepth t (.agg (a.map vByte).toArray) (.agg (b.map vByte).toArray)).run P w = .ok (decide (a = b)) w := by
  rw [show Op.maxDepth = 9999 + 1 from rfl, run_equalIn_array w 9999 _ _ hu hi, hc, run_eqItems8 he 9998 w _ fun j hj => by have := List.mem_range.1 hj; omega, all_range_eq ha hb]
theorem pv_eqlAr8 {t u e : TypeId} {k : Nat} {i : TypeInfo} {x y : Operand} {a b : List UInt8} (hu : P.underlying t = some (.array k e)) (hi : P.info? e = some i) (hc : P.cellsOf e = 1) (he : P.underlying e = some (.int .u8)) (hg : P.eqGuardType P.depth t = false) (hx : ev l x = some (.agg (a.map vByte).toArray)) (hy : ev l y = some (.agg (b.map vByte).toArray)) (ha : a.length = k) (hb : b.length = k) :
    PV P n w0 S l m ⟨dst, .binOp .eql t x y u, ty, pos, after, g⟩ (.bool (decide (a = b))) :=
  pv_binA hg hx hy fun w => by
    show ((Op.equalIn Op.maxDepth t _ _) >>= fun x => pure (Value.bool x)).run P w = _
    simp only [Sem.run_bind, run_eqAr8 hu hi hc he ha hb, Result.andThen_ok, Sem.run_pure]
theorem pv_neqAr8 {t u e : TypeId} {k : Nat} {i : TypeInfo} {x y : Operand} {a b : List UInt8} (hu : P.underlying t = some (.array k e)) (hi : P.info? e = some i) (hc : P.cellsOf e = 1) (he : P.underlying e = some (.int .u8)) (hg : P.eqGuardType P.depth t = false) (hx : ev l x = some (.agg (a.map vByte).toArray)) (hy : ev l y = some (.agg (b.map vByte).toArray)) (ha : a.length = k) (hb : b.length = k) :
    PV P n w0 S l m ⟨dst, .binOp .neq t x y u, ty, pos, after, g⟩ (.bool (!decide (a = b))) :=
  pv_binA hg hx hy fun w => by
    show ((Op.equalIn Op.maxDepth t _ _) >>= fun x => pure (Value.bool (!x))).run P w = _
    simp only [Sem.run_bind, run_eqAr8 hu hi hc he ha hb, Result.andThen_ok, Sem.run_pure]
end
end Go.Proofs.YtkhffndeomihhaaDoor
