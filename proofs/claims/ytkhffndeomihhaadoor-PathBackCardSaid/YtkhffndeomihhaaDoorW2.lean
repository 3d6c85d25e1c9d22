/- A walk by chunks: the operations. Conditions: none. -/
import Derived.Test.YtkhffndeomihhaaDoorW1
import Derived.Laws.BytesArg
import Derived.Laws.IdiomStrings
import Derived.Deep.MidRow
set_option linter.unusedVariables false
set_option linter.unusedSimpArgs false
set_option maxRecDepth 100000
namespace Go.Proofs.YtkhffndeomihhaaDoor
open Go.RowKit

/-- bytes as a string -/
def sB (l : List UInt8) : ByteArray := ⟨l.toArray⟩
theorem sB_toList (a : List UInt8) : (sB a).toList = a := by rw [ByteArray.toList_eq]; simp [sB]
theorem sB_size (a : List UInt8) : (sB a).size = a.length := by show a.toArray.size = _; simp
theorem sB_inj {a b : List UInt8} (h : sB a = sB b) : a = b := by rw [← sB_toList a, h, sB_toList]
theorem sB_ext (s : ByteArray) : ∃ l, s = sB l := ⟨s.data.toList, by simp [sB]⟩

section
variable {P : Program} {n : Nat} {w0 : World} {S : Nat → Prop} {l : Fr} {m : List Ck} {Q : Exit → Act → World → Prop} {K : Act → World → Prop}
  {dst : Option Tmp} {ty : TypeId} {pos : String} {after : Array Edge} {g : Option (Nat × Bool)}
theorem run_v {s : Sem Value} {w w' : World} {v : Value} (h : s.run P w = .ok v w') : (s >>= fun x => pure (Next.value x)).run P w = .ok (.value v) w' := by
  simp [Sem.run_bind, h, Result.andThen, Sem.run_pure]
theorem run_u {s : Sem Unit} {w w' : World} (h : s.run P w = .ok () w') : (s >>= fun _ => pure Next.skip).run P w = .ok .skip w' := by
  simp [Sem.run_bind, h, Result.andThen, Sem.run_pure]

/-! values only -/
theorem pv_move {x : Operand} {v : Value} (hx : ev l x = some v) : PV P n w0 S l m ⟨dst, .move x, ty, pos, after, g⟩ v := fun a w ha _ => by
  show (Sem.pure (Next.value (a.eval x))).run P w = _
  rw [ha.eval hx]; rfl
theorem pv_assign {x : Operand} {v : Value} (hx : ev l x = some v) : PV P n w0 S l m ⟨dst, .assign x, ty, pos, after, g⟩ v := fun a w ha _ => by
  show (Sem.pure (Next.value (a.eval x))).run P w = _
  rw [ha.eval hx]; rfl
theorem pv_pick {c x y : Operand} {b : Bool} {v : Value} (hc : ev l c = some (.bool b)) (hv : ev l (if b then x else y) = some v) : PV P n w0 S l m ⟨dst, .pick c x y, ty, pos, after, g⟩ v := fun a w ha _ => by
  have e := ha.eval hv
  simp only [execOp, ha.eval hc, asBool]
  cases b
  · simp only [Bool.false_eq_true, if_false] at e ⊢
    rw [← e]; rfl
  · simp only [if_true] at e ⊢
    rw [← e]; rfl
/-- both ways known -/
theorem pv_pickB {c x y : Operand} {b p q : Bool} (hc : ev l c = some (.bool b)) (hx : ev l x = some (.bool p)) (hy : ev l y = some (.bool q)) : PV P n w0 S l m ⟨dst, .pick c x y, ty, pos, after, g⟩ (.bool (if b then p else q)) := by
  cases b
  · exact pv_pick hc hy
  · exact pv_pick hc hx
theorem pv_bin {op : BinOp} {t u : TypeId} {x y : Operand} {vx vy v : Value} (hx : ev l x = some vx) (hy : ev l y = some vy) (hg : eqGuard op t x y vx vy = pure ()) (hr : ∀ w, (binOp op t vx vy).run P w = .ok v w) :
    PV P n w0 S l m ⟨dst, .binOp op t x y u, ty, pos, after, g⟩ v := fun a w ha _ => by
  show (((eqGuard op t x y (a.eval x) (a.eval y)) >>= fun _ => binOp op t (a.eval x) (a.eval y)) >>= fun x => pure (Next.value x)).run P w = _
  rw [ha.eval hx, ha.eval hy, hg]
  exact run_v (hr w)
theorem pv_addk {k : IntKind} {a b : Int} {t u : TypeId} {x y : Operand} (hx : ev l x = some (.int k a)) (hy : ev l y = some (.int k b)) : PV P n w0 S l m ⟨dst, .binOp .add t x y u, ty, pos, after, g⟩ (.int k (k.wrap (a + b))) :=
  pv_bin hx hy rfl fun w => by rw [binOp_add]; rfl
theorem pv_subk {k : IntKind} {a b : Int} {t u : TypeId} {x y : Operand} (hx : ev l x = some (.int k a)) (hy : ev l y = some (.int k b)) : PV P n w0 S l m ⟨dst, .binOp .sub t x y u, ty, pos, after, g⟩ (.int k (k.wrap (a - b))) :=
  pv_bin hx hy rfl fun w => by rw [binOp_sub]; rfl
theorem pv_mulk {k : IntKind} {a b : Int} {t u : TypeId} {x y : Operand} (hx : ev l x = some (.int k a)) (hy : ev l y = some (.int k b)) : PV P n w0 S l m ⟨dst, .binOp .mul t x y u, ty, pos, after, g⟩ (.int k (k.wrap (a * b))) :=
  pv_bin hx hy rfl fun w => by rw [binOp_mul]; rfl
theorem PV.cast {o : Oper} {v v' : Value} (h : PV P n w0 S l m o v) (e : v = v') : PV P n w0 S l m o v' := e ▸ h
theorem PV.int {o : Oper} {k : IntKind} {a b : Int} (h : PV P n w0 S l m o (.int k a)) (e : a = b) : PV P n w0 S l m o (.int k b) := e ▸ h
theorem pv_add64 {a b : Int} {t u : TypeId} {x y : Operand} (hx : ev l x = some (.int .i64 a)) (hy : ev l y = some (.int .i64 b)) (h : -9223372036854775808 ≤ a + b ∧ a + b ≤ 9223372036854775807) : PV P n w0 S l m ⟨dst, .binOp .add t x y u, ty, pos, after, g⟩ (.int .i64 (a + b)) :=
  (pv_addk hx hy).int (wrap_i64 h)
theorem pv_sub64 {a b : Int} {t u : TypeId} {x y : Operand} (hx : ev l x = some (.int .i64 a)) (hy : ev l y = some (.int .i64 b)) (h : -9223372036854775808 ≤ a - b ∧ a - b ≤ 9223372036854775807) : PV P n w0 S l m ⟨dst, .binOp .sub t x y u, ty, pos, after, g⟩ (.int .i64 (a - b)) :=
  (pv_subk hx hy).int (wrap_i64 h)
theorem pv_mul64 {a b : Int} {t u : TypeId} {x y : Operand} (hx : ev l x = some (.int .i64 a)) (hy : ev l y = some (.int .i64 b)) (h : -9223372036854775808 ≤ a * b ∧ a * b ≤ 9223372036854775807) : PV P n w0 S l m ⟨dst, .binOp .mul t x y u, ty, pos, after, g⟩ (.int .i64 (a * b)) :=
  (pv_mulk hx hy).int (wrap_i64 h)
theorem pv_quo64 {a b : Int} {t u : TypeId} {x y : Operand} (hx : ev l x = some (.int .i64 a)) (hy : ev l y = some (.int .i64 b)) (h : 0 ≤ a ∧ a ≤ 9223372036854775807) (h1 : 1 ≤ b) : PV P n w0 S l m ⟨dst, .binOp .quo t x y u, ty, pos, after, g⟩ (.int .i64 (a / b)) :=
  pv_bin hx hy rfl fun w => by
    rw [binOp_quo]
    unfold Op.intDiv
    rw [if_neg (by omega)]
    show Result.ok (Value.int .i64 (IntKind.i64.wrap (a.tdiv b))) w = _
    rw [wrap_tdiv h.1 h1 h.2]
theorem pv_rem64 {a b : Int} {t u : TypeId} {x y : Operand} (hx : ev l x = some (.int .i64 a)) (hy : ev l y = some (.int .i64 b)) (h : 0 ≤ a) (h1 : 1 ≤ b) : PV P n w0 S l m ⟨dst, .binOp .rem t x y u, ty, pos, after, g⟩ (.int .i64 (a % b)) :=
  pv_bin hx hy rfl fun w => by
    rw [binOp_rem]
    unfold Op.intDiv
    rw [if_neg (by omega)]
    show Result.ok (Value.int .i64 (a.tmod b)) w = _
    rw [Int.tmod_eq_emod_of_nonneg h]
theorem pv_remk {k : IntKind} {a b : Int} {t u : TypeId} {x y : Operand} (hx : ev l x = some (.int k a)) (hy : ev l y = some (.int k b)) (h1 : b ≠ 0) : PV P n w0 S l m ⟨dst, .binOp .rem t x y u, ty, pos, after, g⟩ (.int k (a.tmod b)) :=
  pv_bin hx hy rfl fun w => by
    rw [binOp_rem]
    unfold Op.intDiv
    rw [if_neg h1]
    rfl
theorem pv_shr {k k' : IntKind} {a : Int} {s : Nat} {t u : TypeId} {x y : Operand} (hx : ev l x = some (.int k a)) (hy : ev l y = some (.int k' (s : Int))) (hs : s ≤ k.bits) : PV P n w0 S l m ⟨dst, .binOp .shr t x y u, ty, pos, after, g⟩ (.int k (a / 2 ^ s)) :=
  pv_bin hx hy rfl fun w => by
    rw [binOp_shr]
    unfold Op.shift
    rw [if_neg (by omega)]
    show Result.ok (Value.int k (a.fdiv (2 ^ min (s : Int).toNat k.bits))) w = _
    have e : min (s : Int).toNat k.bits = s := by simp; omega
    rw [e, Int.fdiv_eq_ediv_of_nonneg _ (Int.le_of_lt (Int.pow_pos (by omega)))]
theorem pv_shl {k k' : IntKind} {a : Int} {s : Nat} {t u : TypeId} {x y : Operand} (hx : ev l x = some (.int k a)) (hy : ev l y = some (.int k' (s : Int))) (hs : s ≤ k.bits) : PV P n w0 S l m ⟨dst, .binOp .shl t x y u, ty, pos, after, g⟩ (.int k (k.wrap (a * 2 ^ s))) :=
  pv_bin hx hy rfl fun w => by
    rw [binOp_shl]
    unfold Op.shift
    rw [if_neg (by omega)]
    show Result.ok (Value.int k (k.wrap (a * 2 ^ min (s : Int).toNat k.bits))) w = _
    have e : min (s : Int).toNat k.bits = s := by simp; omega
    rw [e]
theorem pv_and {k : IntKind} {a b : Int} {t u : TypeId} {x y : Operand} (hx : ev l x = some (.int k a)) (hy : ev l y = some (.int k b)) : PV P n w0 S l m ⟨dst, .binOp .and t x y u, ty, pos, after, g⟩ (.int k (bits .and k a b)) :=
  pv_bin hx hy rfl fun w => by rw [binOp_and]; rfl
theorem pv_or {k : IntKind} {a b : Int} {t u : TypeId} {x y : Operand} (hx : ev l x = some (.int k a)) (hy : ev l y = some (.int k b)) : PV P n w0 S l m ⟨dst, .binOp .or t x y u, ty, pos, after, g⟩ (.int k (bits .or k a b)) :=
  pv_bin hx hy rfl fun w => by rw [binOp_or]; rfl
theorem pv_xor {k : IntKind} {a b : Int} {t u : TypeId} {x y : Operand} (hx : ev l x = some (.int k a)) (hy : ev l y = some (.int k b)) : PV P n w0 S l m ⟨dst, .binOp .xor t x y u, ty, pos, after, g⟩ (.int k (bits .xor k a b)) :=
  pv_bin hx hy rfl fun w => by rw [binOp_xor]; rfl
theorem pv_lss {k : IntKind} {a b : Int} {t u : TypeId} {x y : Operand} (hx : ev l x = some (.int k a)) (hy : ev l y = some (.int k b)) : PV P n w0 S l m ⟨dst, .binOp .lss t x y u, ty, pos, after, g⟩ (.bool (decide (a < b))) :=
  pv_bin hx hy rfl fun w => by rw [binOp_lss]; rfl
theorem pv_leq {k : IntKind} {a b : Int} {t u : TypeId} {x y : Operand} (hx : ev l x = some (.int k a)) (hy : ev l y = some (.int k b)) : PV P n w0 S l m ⟨dst, .binOp .leq t x y u, ty, pos, after, g⟩ (.bool (decide (a ≤ b))) :=
  pv_bin hx hy rfl fun w => by rw [binOp_leq]; rfl
theorem pv_gtr {k : IntKind} {a b : Int} {t u : TypeId} {x y : Operand} (hx : ev l x = some (.int k a)) (hy : ev l y = some (.int k b)) : PV P n w0 S l m ⟨dst, .binOp .gtr t x y u, ty, pos, after, g⟩ (.bool (decide (b < a))) :=
  pv_bin hx hy rfl fun w => by rw [binOp_gtr]; rfl
theorem pv_geq {k : IntKind} {a b : Int} {t u : TypeId} {x y : Operand} (hx : ev l x = some (.int k a)) (hy : ev l y = some (.int k b)) : PV P n w0 S l m ⟨dst, .binOp .geq t x y u, ty, pos, after, g⟩ (.bool (decide (b ≤ a))) :=
  pv_bin hx hy rfl fun w => by rw [binOp_geq]; rfl
theorem pv_eql {k : IntKind} {a b : Int} {t u : TypeId} {x y : Operand} (hx : ev l x = some (.int k a)) (hy : ev l y = some (.int k b)) : PV P n w0 S l m ⟨dst, .binOp .eql t x y u, ty, pos, after, g⟩ (.bool (decide (a = b))) :=
  pv_bin hx hy (by rw [eqGuard_at_int]) fun w => by rw [binOp_eql]; rfl
theorem pv_neq {k : IntKind} {a b : Int} {t u : TypeId} {x y : Operand} (hx : ev l x = some (.int k a)) (hy : ev l y = some (.int k b)) : PV P n w0 S l m ⟨dst, .binOp .neq t x y u, ty, pos, after, g⟩ (.bool (decide (a ≠ b))) :=
  pv_bin hx hy (by rw [eqGuard_at_int]) fun w => by
    rw [binOp_neq]
    show Result.ok (Value.bool (!(decide (a = b)))) w = _
    rw [decide_not]
theorem pv_eqlS {a b : List UInt8} {t u : TypeId} {x y : Operand} (hx : ev l x = some (.string (sB a))) (hy : ev l y = some (.string (sB b))) : PV P n w0 S l m ⟨dst, .binOp .eql t x y u, ty, pos, after, g⟩ (.bool (decide (a = b))) :=
  pv_bin hx hy (by rw [eqGuard_at_string]) fun w => by
    show Result.ok (Value.bool ((sB a).toList == (sB b).toList)) w = _
    rw [sB_toList, sB_toList]
    congr 2
    rw [Bool.eq_iff_iff]
    simp
theorem pv_neqS {a b : List UInt8} {t u : TypeId} {x y : Operand} (hx : ev l x = some (.string (sB a))) (hy : ev l y = some (.string (sB b))) : PV P n w0 S l m ⟨dst, .binOp .neq t x y u, ty, pos, after, g⟩ (.bool (decide (a ≠ b))) :=
  pv_bin hx hy (by rw [eqGuard_at_string]) fun w => by
    show Result.ok (Value.bool (!((sB a).toList == (sB b).toList))) w = _
    rw [sB_toList, sB_toList]
    congr 2
    rw [Bool.eq_iff_iff]
    simp
theorem pv_lssS {a b : List UInt8} {t u : TypeId} {x y : Operand} (hx : ev l x = some (.string (sB a))) (hy : ev l y = some (.string (sB b))) : PV P n w0 S l m ⟨dst, .binOp .lss t x y u, ty, pos, after, g⟩ (.bool (Op.bytesLess a b)) :=
  pv_bin hx hy rfl fun w => by
    show Result.ok (Value.bool (Op.bytesLess (sB a).toList (sB b).toList)) w = _
    rw [sB_toList, sB_toList]
theorem pv_gtrS {a b : List UInt8} {t u : TypeId} {x y : Operand} (hx : ev l x = some (.string (sB a))) (hy : ev l y = some (.string (sB b))) : PV P n w0 S l m ⟨dst, .binOp .gtr t x y u, ty, pos, after, g⟩ (.bool (!(Op.bytesLess a b || decide (a = b)))) :=
  pv_bin hx hy rfl fun w => by
    show Result.ok (Value.bool (!(Op.bytesLess (sB a).toList (sB b).toList || (sB a).toList == (sB b).toList))) w = _
    rw [sB_toList, sB_toList]
    congr 4
    rw [Bool.eq_iff_iff]
    simp
theorem pv_geqS {a b : List UInt8} {t u : TypeId} {x y : Operand} (hx : ev l x = some (.string (sB a))) (hy : ev l y = some (.string (sB b))) : PV P n w0 S l m ⟨dst, .binOp .geq t x y u, ty, pos, after, g⟩ (.bool (!(Op.bytesLess a b))) :=
  pv_bin hx hy rfl fun w => by
    show Result.ok (Value.bool (!(Op.bytesLess (sB a).toList (sB b).toList))) w = _
    rw [sB_toList, sB_toList]
theorem pv_addS {a b : List UInt8} {t u : TypeId} {x y : Operand} (hx : ev l x = some (.string (sB a))) (hy : ev l y = some (.string (sB b))) (h : a.length + b.length ≤ 9223372036854775807) : PV P n w0 S l m ⟨dst, .binOp .add t x y u, ty, pos, after, g⟩ (.string (sB (a ++ b))) :=
  pv_bin hx hy rfl fun w => by
    have := run_string_add_sum (P := P) (w := w) (sB a) (sB b) (by rw [sB_size, sB_size]; exact h)
    show (Op.stringOp .add (sB a) (sB b)).run P w = _
    rw [this]
    congr 2
theorem run_eqB (ht : P.underlying ty = some .bool) (a b : Bool) (w : World) : ∀ d, (Op.equalIn (d + 1) ty (.bool a) (.bool b)).run P w = .ok (a == b) w := fun d => by
  simp [Op.equalIn, Sem.run_bind, run_underlying ht, Result.andThen, Sem.run_pure]
theorem run_eqP {e : TypeId} (ht : P.underlying ty = some (.pointer e)) (a : Option Addr) (w : World) : ∀ d, (Op.equalIn (d + 1) ty (.pointer a) (.pointer none)).run P w = .ok a.isNone w := fun d => by
  cases a <;> simp [Op.equalIn, Sem.run_bind, run_underlying ht, Result.andThen, Sem.run_pure]
theorem pv_eqlB {a b : Bool} {t u : TypeId} {x y : Operand} (ht : P.underlying t = some .bool) (hx : ev l x = some (.bool a)) (hy : ev l y = some (.bool b)) : PV P n w0 S l m ⟨dst, .binOp .eql t x y u, ty, pos, after, g⟩ (.bool (a == b)) :=
  pv_bin hx hy (by rw [eqGuard_at_bool]) fun w => by
    show ((Op.equalIn Op.maxDepth t (.bool a) (.bool b)) >>= fun x => pure (Value.bool x)).run P w = _
    have h := run_eqB ht a b w 9999
    simp only [Sem.run_bind, show Op.maxDepth = 9999 + 1 from rfl, h, Result.andThen, Sem.run_pure]
theorem pv_neqB {a b : Bool} {t u : TypeId} {x y : Operand} (ht : P.underlying t = some .bool) (hx : ev l x = some (.bool a)) (hy : ev l y = some (.bool b)) : PV P n w0 S l m ⟨dst, .binOp .neq t x y u, ty, pos, after, g⟩ (.bool (!(a == b))) :=
  pv_bin hx hy (by rw [eqGuard_at_bool]) fun w => by
    show ((Op.equalIn Op.maxDepth t (.bool a) (.bool b)) >>= fun x => pure (Value.bool (!x))).run P w = _
    have h := run_eqB ht a b w 9999
    simp only [Sem.run_bind, show Op.maxDepth = 9999 + 1 from rfl, h, Result.andThen, Sem.run_pure]
theorem pv_eqlP0 {a : Option Addr} {t u e : TypeId} {x y : Operand} (ht : P.underlying t = some (.pointer e)) (hx : ev l x = some (.pointer a)) (hy : ev l y = some (.pointer none)) : PV P n w0 S l m ⟨dst, .binOp .eql t x y u, ty, pos, after, g⟩ (.bool a.isNone) :=
  pv_bin hx hy (by rw [eqGuard_at_pointer]) fun w => by
    show ((Op.equalIn Op.maxDepth t (.pointer a) (.pointer none)) >>= fun x => pure (Value.bool x)).run P w = _
    have h := run_eqP ht a w 9999
    simp only [Sem.run_bind, show Op.maxDepth = 9999 + 1 from rfl, h, Result.andThen, Sem.run_pure]
theorem pv_neqP0 {a : Option Addr} {t u e : TypeId} {x y : Operand} (ht : P.underlying t = some (.pointer e)) (hx : ev l x = some (.pointer a)) (hy : ev l y = some (.pointer none)) : PV P n w0 S l m ⟨dst, .binOp .neq t x y u, ty, pos, after, g⟩ (.bool a.isSome) :=
  pv_bin hx hy (by rw [eqGuard_at_pointer]) fun w => by
    show ((Op.equalIn Op.maxDepth t (.pointer a) (.pointer none)) >>= fun x => pure (Value.bool (!x))).run P w = _
    have h := run_eqP ht a w 9999
    simp only [Sem.run_bind, show Op.maxDepth = 9999 + 1 from rfl, h, Result.andThen, Sem.run_pure]
    cases a <;> rfl
theorem pv_un {op : UnOp} {t : TypeId} {x : Operand} {vx v : Value} (hx : ev l x = some vx) (hr : ∀ w, (Op.unary op vx).run P w = .ok v w) : PV P n w0 S l m ⟨dst, .unOp op t x, ty, pos, after, g⟩ v := fun a w ha _ => by
  show ((Op.unary op (a.eval x)) >>= fun x => pure (Next.value x)).run P w = _
  rw [ha.eval hx]
  exact run_v (hr w)
theorem pv_not {b : Bool} {t : TypeId} {x : Operand} (hx : ev l x = some (.bool b)) : PV P n w0 S l m ⟨dst, .unOp .not t x, ty, pos, after, g⟩ (.bool (!b)) := pv_un hx fun w => rfl
theorem pv_neg64 {b : Int} {t : TypeId} {x : Operand} (hx : ev l x = some (.int .i64 b)) (h : -9223372036854775807 ≤ b ∧ b ≤ 9223372036854775807) : PV P n w0 S l m ⟨dst, .unOp .neg t x, ty, pos, after, g⟩ (.int .i64 (-b)) := pv_un hx fun w => by
  show Result.ok (Value.int .i64 (IntKind.i64.wrap (0 - b))) w = _
  rw [wrap_i64 ⟨by omega, by omega⟩, Int.zero_sub]
theorem pv_conv {t t' : TypeId} {x : Operand} {k k' : IntKind} {a : Int} (hs : (P.underlying t).isSome = true) (hd : P.underlying t' = some (.int k)) (hx : ev l x = some (.int k' a)) : PV P n w0 S l m ⟨dst, .convert t t' x, ty, pos, after, g⟩ (.int k (k.wrap a)) := fun act w ha _ => by
  show ((convert t t' (act.eval x)) >>= fun x => pure (Next.value x)).run P w = _
  rw [ha.eval hx]
  refine run_v ?_
  obtain ⟨d, hd'⟩ := Option.isSome_iff_exists.1 hs
  simp [convert, Sem.run_bind, run_underlying hd', run_underlying hd, Result.andThen, Conv.intToInt, Sem.run_pure]
theorem pv_convS {t t' : TypeId} {x : Operand} {s : ByteArray} (hs : P.underlying t = some .string) (hd : P.underlying t' = some .string) (hx : ev l x = some (.string s)) : PV P n w0 S l m ⟨dst, .convert t t' x, ty, pos, after, g⟩ (.string s) := fun act w ha _ => by
  show ((convert t t' (act.eval x)) >>= fun x => pure (Next.value x)).run P w = _
  rw [ha.eval hx]
  refine run_v ?_
  simp [convert, Sem.run_bind, run_underlying hs, run_underlying hd, Result.andThen, Sem.run_pure]
theorem pv_extract {x : Operand} {i : Nat} {vs : Array Value} {v : Value} (hx : ev l x = some (.tuple vs)) (hi : vs[i]? = some v) : PV P n w0 S l m ⟨dst, .extract x i, ty, pos, after, g⟩ v := fun act w ha _ => by
  show ((Instr.extract (act.eval x) i) >>= fun x => pure (Next.value x)).run P w = _
  rw [ha.eval hx]
  refine run_v ?_
  simp [Instr.extract, hi, Sem.run_pure]
theorem pv_nilCheck {x : Operand} {ad : Addr} (hx : ev l x = some (.pointer (some ad))) : PV P n w0 S l m ⟨dst, .nilCheck x, ty, pos, after, g⟩ (.pointer (some ad)) := fun act w ha _ => by
  simp only [execOp, ha.eval hx]
  rfl
theorem pv_makeFunc {fn : Fn} {first captured : Array Operand} {vs us : List Value} (h1 : evs l first.toList = some vs) (h2 : evs l captured.toList = some us) : PV P n w0 S l m ⟨dst, .makeFunc fn first captured, ty, pos, after, g⟩ (.func fn vs.toArray us.toArray) := fun act w ha _ => by
  have e1 : first.map act.eval = vs.toArray := by rw [← ha.evs h1, ← Array.toList_map, Array.toArray_toList]
  have e2 : captured.map act.eval = us.toArray := by rw [← ha.evs h2, ← Array.toList_map, Array.toArray_toList]
  simp only [execOp, e1, e2, Instr.makeFunc]
  rfl
/-- a call of a builtin that yields a value -/
theorem pv_blt {b : Builtin} {xs : List Operand} {ts : Array TypeId} {vs : List Value} {v : Value} (hx : evs l xs = some vs) (hr : ∀ w cs, (builtin b ts ty cs vs.toArray).run P w = .ok (.value v) w) : PV P n w0 S l m ⟨dst, .call ⟨.builtin b, xs.toArray, ts⟩, ty, pos, after, g⟩ v := fun act w ha _ => by
  have e1 : xs.toArray.map act.eval = vs.toArray := by rw [← ha.evs hx]; simp
  simp only [execOp, resolve, e1]
  simp only [Sem.run_bind, Sem.run_pure, Result.andThen, invoke]
  exact hr w _
theorem pv_lenS {a : List UInt8} {t : TypeId} {x : Operand} (hu : P.underlying t = some .string) (hx : ev l x = some (.string (sB a))) : PV P n w0 S l m ⟨dst, .call ⟨.builtin .len, #[x], #[t]⟩, ty, pos, after, g⟩ (.int .i64 a.length) :=
  pv_blt (xs := [x]) (vs := [.string (sB a)]) (by simp [evs, hx]) fun w cs => run_v (by
    simp [Builtin.len_, Sem.run_bind, run_underlying hu, Result.andThen, Sem.run_pure, goInt, sB_size])
theorem pv_lenSl {ad : Option Addr} {len cap : Nat} {t e : TypeId} {x : Operand} (hu : P.underlying t = some (.slice e)) (hx : ev l x = some (.slice ad len cap)) : PV P n w0 S l m ⟨dst, .call ⟨.builtin .len, #[x], #[t]⟩, ty, pos, after, g⟩ (.int .i64 len) :=
  pv_blt (xs := [x]) (vs := [.slice ad len cap]) (by simp [evs, hx]) fun w cs => run_v (by
    simp [Builtin.len_, Sem.run_bind, run_underlying hu, Result.andThen, Sem.run_pure, goInt])
theorem pv_lenA {k : Nat} {v : Value} {t e : TypeId} {x : Operand} (hu : P.underlying t = some (.array k e)) (hx : ev l x = some v) : PV P n w0 S l m ⟨dst, .call ⟨.builtin .len, #[x], #[t]⟩, ty, pos, after, g⟩ (.int .i64 k) :=
  pv_blt (xs := [x]) (vs := [v]) (by simp [evs, hx]) fun w cs => run_v (by
    simp [Builtin.len_, Sem.run_bind, run_underlying hu, Result.andThen, Sem.run_pure, goInt])
theorem pv_capSl {ad : Option Addr} {len cap : Nat} {t e : TypeId} {x : Operand} (hu : P.underlying t = some (.slice e)) (hx : ev l x = some (.slice ad len cap)) : PV P n w0 S l m ⟨dst, .call ⟨.builtin .cap, #[x], #[t]⟩, ty, pos, after, g⟩ (.int .i64 cap) :=
  pv_blt (xs := [x]) (vs := [.slice ad len cap]) (by simp [evs, hx]) fun w cs => run_v (by
    simp [Builtin.cap_, Sem.run_bind, run_underlying hu, Result.andThen, Sem.run_pure, goInt])
theorem pv_min {k : IntKind} {a b : Int} {ts : Array TypeId} {x y : Operand} (hx : ev l x = some (.int k a)) (hy : ev l y = some (.int k b)) : PV P n w0 S l m ⟨dst, .call ⟨.builtin .min, #[x, y], ts⟩, ty, pos, after, g⟩ (.int k (if b < a then b else a)) :=
  pv_blt (xs := [x, y]) (vs := [.int k a, .int k b]) (by simp [evs, hx, hy]) fun w cs => run_v (by
    simp [Builtin.min_, Builtin.min2, Sem.run_pure])
theorem pv_max {k : IntKind} {a b : Int} {ts : Array TypeId} {x y : Operand} (hx : ev l x = some (.int k a)) (hy : ev l y = some (.int k b)) : PV P n w0 S l m ⟨dst, .call ⟨.builtin .max, #[x, y], ts⟩, ty, pos, after, g⟩ (.int k (if a < b then b else a)) :=
  pv_blt (xs := [x, y]) (vs := [.int k a, .int k b]) (by simp [evs, hx, hy]) fun w cs => run_v (by
    simp [Builtin.max_, Builtin.max2, Sem.run_pure])
theorem pv_ixS {a : List UInt8} {k : Nat} {j : Int} {kd : IntKind} {t : TypeId} {x i : Operand} (hu : P.underlying t = some .string) (hx : ev l x = some (.string (sB a))) (hi : ev l i = some (.int kd j)) (hj : j = (k : Int)) (hk : k < a.length) : PV P n w0 S l m ⟨dst, .index t x i, ty, pos, after, g⟩ (.int .u8 (a[k].toNat : Int)) := fun act w ha _ => by
  show ((Instr.index t (act.eval x) (act.eval i)) >>= fun x => pure (Next.value x)).run P w = _
  rw [ha.eval hx, ha.eval hi]
  refine run_v ?_
  subst hj
  have h1 : (0 : Int) ≤ (k : Int) := by omega
  have h2 : (sB a)[k]? = some a[k] := by
    show (if h : k < (sB a).size then some (sB a)[k] else none) = _
    rw [dif_pos (by rw [sB_size]; exact hk)]
    congr 1
  simp [Instr.index, Sem.run_bind, asIntOf, run_underlying hu, Result.andThen, Sem.run_pure, h1, h2]
theorem pv_ixSl {b off len cap sz k : Nat} {ad : Option Addr} {j : Int} {kd : IntKind} {t e : TypeId} {x i : Operand} (hu : P.underlying t = some (.slice e)) (hsz : (P.info? e).map (·.size) = some sz) (hx : ev l x = some (.slice ad len cap)) (hi : ev l i = some (.int kd j))
    (ha' : 0 < len → ad = some ⟨b, off, none⟩) (hj : j = (k : Int)) (hk : k < len) : PV P n w0 S l m ⟨dst, .indexAddr t x i, ty, pos, after, g⟩ (.pointer (some ⟨b, off + k * sz, none⟩)) := fun act w ha _ => by
  show ((Instr.indexAt t (act.eval x) (act.eval i)) >>= fun x => pure (Next.value x)).run P w = _
  rw [ha.eval hx, ha.eval hi]
  refine run_v ?_
  subst hj
  obtain rfl := ha' (by omega)
  obtain ⟨ie, hie, hie2⟩ := Option.map_eq_some_iff.1 hsz
  have h1 : (0 : Int) ≤ (k : Int) := by omega
  have h2 : (k : Int) < (len : Int) := by omega
  have hs : ∀ w, (sizeOf e).run P w = .ok sz w := fun w => by
    simp [sizeOf, typeInfo, program, Sem.run, Sem.run_bind, hie, hie2, Result.andThen, Sem.run_pure]
  simp [Instr.indexAt, Sem.run_bind, asIntOf, run_underlying hu, Result.andThen, Sem.run_pure, h1, h2, hk, hs, Addr.add_mid]
/-- the address of an array's element -/
theorem pv_ixA {b off len sz k : Nat} {j : Int} {kd : IntKind} {t e : TypeId} {x i : Operand} (hu : P.underlying t = some (.array len e)) (hsz : (P.info? e).map (·.size) = some sz) (hx : ev l x = some (.pointer (some ⟨b, off, none⟩))) (hi : ev l i = some (.int kd j))
    (hj : j = (k : Int)) (hk : k < len) : PV P n w0 S l m ⟨dst, .indexAddr t x i, ty, pos, after, g⟩ (.pointer (some ⟨b, off + k * sz, none⟩)) := fun act w ha _ => by
  show ((Instr.indexAt t (act.eval x) (act.eval i)) >>= fun x => pure (Next.value x)).run P w = _
  rw [ha.eval hx, ha.eval hi]
  refine run_v ?_
  subst hj
  obtain ⟨ie, hie, hie2⟩ := Option.map_eq_some_iff.1 hsz
  have h1 : (0 : Int) ≤ (k : Int) := by omega
  have h2 : (k : Int) < (len : Int) := by omega
  have hs : ∀ w, (sizeOf e).run P w = .ok sz w := fun w => by
    simp [sizeOf, typeInfo, program, Sem.run, Sem.run_bind, hie, hie2, Result.andThen, Sem.run_pure]
  simp [Instr.indexAt, Instr.sureAddr, Sem.run_bind, asIntOf, run_underlying hu, Result.andThen, Sem.run_pure, h1, h2, hk, hs, Addr.add_mid]
theorem pv_fieldAddr {b o i : Nat} {t : TypeId} {x : Operand} {fs : Array Field} {f : Field} {sz : Nat} (hu : P.underlying t = some (.struct fs)) (hf : fs[i]? = some f) (hsz : (P.info? f.type).map (·.size) = some (sz + 1)) (hx : ev l x = some (.pointer (some ⟨b, o, none⟩))) :
    PV P n w0 S l m ⟨dst, .fieldAddr t x i, ty, pos, after, g⟩ (.pointer (some ⟨b, o + f.offset, none⟩)) := fun act w ha _ => by
  show ((Instr.fieldAt t (act.eval x) i) >>= fun x => pure (Next.value x)).run P w = _
  rw [ha.eval hx]
  refine run_v ?_
  obtain ⟨ie, hie, hie2⟩ := Option.map_eq_some_iff.1 hsz
  have hs : ∀ w, (sizeOf f.type).run P w = .ok (sz + 1) w := fun w => by
    simp [sizeOf, typeInfo, program, Sem.run, Sem.run_bind, hie, hie2, Result.andThen, Sem.run_pure]
  simp [Instr.fieldAt, fieldPlace, Instr.sureAddr, Sem.run_bind, run_underlying hu, Result.andThen, Sem.run_pure, hf, hs, Addr.add_mid]
/-- a field of a struct's value, of one cell -/
theorem pv_field1 {i : Nat} {t : TypeId} {x : Operand} {fs : Array Field} {f : Field} {d : TypeDesc} {cs : Array Value} {v : Value} (hu : P.underlying t = some (.struct fs)) (hf : fs[i]? = some f) (hd : P.underlying f.type = some d) (hr : d.isRow = false) (hx : ev l x = some (.agg cs)) (hv : cs[f.offset]? = some v) :
    PV P n w0 S l m ⟨dst, .field t x i, ty, pos, after, g⟩ v := fun act w ha _ => by
  show ((Instr.field t (act.eval x) i) >>= fun x => pure (Next.value x)).run P w = _
  rw [ha.eval hx]
  refine run_v ?_
  have hag : ∀ w, (isAgg f.type).run P w = .ok false w := fun w => by
    unfold isAgg
    simp only [Sem.run_bind, run_underlying hd, Result.andThen]
    cases d <;> first | rfl | cases hr
  simp [Instr.field, part, asAgg, Sem.run_bind, run_underlying hu, Result.andThen, Sem.run_pure, hf, hag, hv]
/-- a field of several cells -/
theorem pv_fieldN {i sz : Nat} {t : TypeId} {x : Operand} {fs : Array Field} {f : Field} {d : TypeDesc} {cs : Array Value} {v : Value} (hu : P.underlying t = some (.struct fs)) (hf : fs[i]? = some f) (hd : P.underlying f.type = some d) (hr : d.isRow = true) (hsz : (P.info? f.type).map (·.size) = some sz) (hx : ev l x = some (.agg cs)) (hv : Value.agg (cs.extract f.offset (f.offset + sz)) = v) :
    PV P n w0 S l m ⟨dst, .field t x i, ty, pos, after, g⟩ v := fun act w ha _ => by
  show ((Instr.field t (act.eval x) i) >>= fun x => pure (Next.value x)).run P w = _
  rw [ha.eval hx]
  refine run_v ?_
  obtain ⟨ie, hie, hie2⟩ := Option.map_eq_some_iff.1 hsz
  have hs : ∀ w, (sizeOf f.type).run P w = .ok sz w := fun w => by
    simp [sizeOf, typeInfo, program, Sem.run, Sem.run_bind, hie, hie2, Result.andThen, Sem.run_pure]
  have hag : ∀ w, (isAgg f.type).run P w = .ok true w := fun w => by
    unfold isAgg
    simp only [Sem.run_bind, run_underlying hd, Result.andThen]
    cases d <;> first | rfl | cases hr
  simp [Instr.field, part, asAgg, Sem.run_bind, run_underlying hu, Result.andThen, Sem.run_pure, hf, hag, hs, hv]
theorem pv_build {t : TypeId} {xs : Array (Nat × Operand)} {ps : List (Nat × Value)} {cells : Array Value} (hp : ∀ a : Act, At a n l → (xs.map fun (i, x) => (i, a.eval x)).toList = ps) (hb : P.built t ps = some cells) : PV P n w0 S l m ⟨dst, .build t xs, ty, pos, after, g⟩ (.agg cells) := fun act w ha _ => by
  show ((Instr.build t (xs.map fun (i, x) => (i, act.eval x))) >>= fun x => pure (Next.value x)).run P w = _
  exact run_v (run_build w _ _ cells (by rw [hp act ha]; exact hb))
end
end Go.Proofs.YtkhffndeomihhaaDoor
