/- Merged of W7, W8, W9, WA, WB, WC. Conditions: none. -/
import Derived.Test.YtchgaedidfefoaaGa
import Derived.Recover
import Derived.Laws.StructEq
import Derived.ChangeKeysEq
import Derived.Scope
/- A walk by chunks: calls that may panic, function values, interface values, deferred calls. Conditions: none. -/
set_option linter.unusedVariables false
set_option linter.unusedSimpArgs false
namespace Go.Proofs.Ytchgaedidfefoaa
open Go.RowKit

section
variable {P : Program} {n : Nat} {w0 : World} {S : Nat → Prop} {l : Fr} {m : List Ck} {Q : Exit → Act → World → Prop} {K : Act → World → Prop}
  {dst : Option Tmp} {ty : TypeId} {pos : String} {after : Array Edge} {g : Option (Nat × Bool)}
/-- the contract of a call that may panic -/
def TrO (P : Program) (f : FuncId) (args : Array Value) (ro pre : List Ck) (R : Ending → List Ck → Prop) : Prop :=
  ∀ w, (∀ c ∈ ro, Ro w (U pre) c) → Hp w (U pre) w pre → Calls P f args w fun e w' => ∃ m', R e m' ∧ Hp w (U pre) w' m'
def TO {X Y : Type} (J : X → Prop) (V : X → Value) (M : X → List Ck) (J' : Y → Prop) (C : Y → List PanicEntry) (M' : Y → List Ck) : Ending → List Ck → Prop
  | .returned v, m => ∃ x, J x ∧ v = V x ∧ m = M x
  | .panicked c, m => ∃ y, J' y ∧ c = C y ∧ m = M' y
  | .outgrown, _ => False
def OutR (w0 : World) (pre : List Ck) (R : Ending → List Ck → Prop) (e : Ending) (w' : World) : Prop := ∃ m', R e m' ∧ Hp w0 (U pre) w' m'
theorem TrO.of {f : FuncId} {args : Array Value} {ro pre : List Ck} {R : Ending → List Ck → Prop} {fn : Func} {c : Code} {n : Nat} {l : Fr} (hf : P.funcs[f]? = some fn) (hb : fn.body = some c) (hn : args.size + (fn.ntmps - args.size) = n) (hl : Fa args l)
    (h : ∀ w0, (∀ c ∈ ro, Ro w0 (U pre) c) → G n w0 (U pre) l pre (c.wp P (bodyPost P fn (OutR w0 pre R)))) : TrO P f args ro pre R := fun w hro hp =>
  calls_of_G hf hb hn hl.get hp (h w hro)
theorem G.outE {fn : Func} {pre : List Ck} {R : Ending → List Ck → Prop} {m' r : List Ck} (hr : fn.results = #[]) (hs : Sub m m' r) (hp : R (.returned (.tuple #[])) m') : G n w0 (U pre) l m (bodyPost P fn (OutR w0 pre R) .normal) :=
  G.end0 hr fun w hw => ⟨m', hp, (hw.perm hs.perm).sub (List.sublist_append_left _ _)⟩
theorem G.out0 {fn : Func} {pre : List Ck} {R : Ending → List Ck → Prop} {m' r : List Ck} (hr : fn.results = #[]) (hs : Sub m m' r) (hp : R (.returned (.tuple #[])) m') : G n w0 (U pre) l m (bodyPost P fn (OutR w0 pre R) .ret) :=
  G.ret0 hr fun w hw => ⟨m', hp, (hw.perm hs.perm).sub (List.sublist_append_left _ _)⟩
theorem G.out1 {fn : Func} {pre : List Ck} {R : Ending → List Ck → Prop} {t : Nat} {v : Value} {m' r : List Ck} (hr : fn.results = #[.tmp t]) (ht : Fr.get l t = some v) (hs : Sub m m' r) (hp : R (.returned v) m') : G n w0 (U pre) l m (bodyPost P fn (OutR w0 pre R) .ret) :=
  G.ret1 hr ht fun w hw => ⟨m', hp, (hw.perm hs.perm).sub (List.sublist_append_left _ _)⟩
theorem G.outP {fn : Func} {pre : List Ck} {R : Ending → List Ck → Prop} {c : List PanicEntry} {m' r : List Ck} (hs : Sub m m' r) (hp : R (.panicked c) m') : G n w0 (U pre) l m (bodyPost P fn (OutR w0 pre R) (.panic c)) := fun a w ha hw =>
  ⟨ha.defs, m', hp, (hw.perm hs.perm).sub (List.sublist_append_left _ _)⟩
theorem G.pThen {c : List PanicEntry} (h : G n w0 S l m (Q (.panic c))) : G n w0 S l m (Exit.then K Q (.panic c)) := h
theorem G.pBlock {id : Nat} {c : List PanicEntry} (h : G n w0 S l m (Q (.panic c))) : G n w0 S l m (Exit.inBlock id Q (.panic c)) := h
/-- an operation that enters a function -/
def PE (P : Program) (n : Nat) (w0 : World) (S : Nat → Prop) (l : Fr) (m : List Ck) (o : Oper) (f : FuncId) (args : Array Value) : Prop := ∀ a w, At a n l → Hp w0 S w m → (execOp a.eval o).run P w = .ok (.enter f args) w
theorem pe_fn {o : Oper} {f : FuncId} {xs : List Operand} {ts : Array TypeId} {vs : List Value} {fn : Func} {c : Code} (ho : o.op = .call { callee := .value (.func f), args := xs.toArray, argTypes := ts }) (hx : evs l xs = some vs) (hf : P.funcs[f]? = some fn) (hb : fn.body = some c) (hnm : (fn.name == "runtime.NumGoroutine") = false) :
    PE P n w0 S l m o f vs.toArray := fun a w ha hw => by
  have e1 : xs.toArray.map a.eval = vs.toArray := by rw [← ha.evs hx]; simp
  have e2 : a.eval (.func f) = .func (.func f) #[] #[] := rfl
  have hnm' : ¬ fn.name = "runtime.NumGoroutine" := by simpa using hnm
  simp [execOp, ho, resolve, Deferred.ofValue, e1, e2, invoke, callFunc, program, Sem.run, Sem.run_bind, Sem.run_pure, Result.andThen, hf, hnm', hb]
theorem run_callFunc {f : FuncId} {args : Array Value} {fn : Func} {c : Code} {w : World} (hf : P.funcs[f]? = some fn) (hb : fn.body = some c) (hnm : (fn.name == "runtime.NumGoroutine") = false) : (callFunc f args).run P w = .ok (.enter f args) w := by
  have hnm' : ¬ fn.name = "runtime.NumGoroutine" := by simpa using hnm
  simp [callFunc, program, Sem.run, Sem.run_bind, Sem.run_pure, Result.andThen, hf, hnm', hb]
/-- by a function value -/
theorem pe_val {o : Oper} {x : Operand} {f : FuncId} {first captured : Array Value} {xs : List Operand} {ts : Array TypeId} {vs : List Value} {fn : Func} {c : Code} (ho : o.op = .call { callee := .value x, args := xs.toArray, argTypes := ts }) (hv : ev l x = some (.func (.func f) first captured)) (hx : evs l xs = some vs) (hf : P.funcs[f]? = some fn) (hb : fn.body = some c) (hnm : (fn.name == "runtime.NumGoroutine") = false) :
    PE P n w0 S l m o f (first ++ vs.toArray ++ captured) := fun a w ha hw => by
  have e1 : xs.toArray.map a.eval = vs.toArray := by rw [← ha.evs hx]; simp
  simp only [execOp, ho, resolve, Deferred.ofValue, e1, ha.eval hv, invoke, Sem.run_bind, Sem.run_pure, Result.andThen]
  exact run_callFunc hf hb hnm
theorem G.callO {o : Oper} {d : Nat} {f : FuncId} {args : Array Value} {ro pre r : List Ck} {R : Ending → List Ck → Prop} (hd : o.dst = some d) (hn : Nat.blt d n = true) (he : PE P n w0 S l m o f args) (ht : TrO P f args ro pre R) (hs : Sub m pre r) (hro : ∀ c ∈ ro, May w0 S r c)
    (hret : ∀ v m', R (.returned v) m' → G n w0 S ((d, v) :: l) (m' ++ r) K) (hpan : ∀ c m', R (.panicked c) m' → G n w0 S l (m' ++ r) (Q (.panic c))) (hout : ∀ m', ¬ R .outgrown m') : G n w0 S l m (fun a w => o.wp P a w K Q) := fun a w ha hw => by
  have hw' := hw.perm hs.perm
  have hp : Hp w (U pre) w pre := ⟨Chg.refl _ _, fun c hc => hw'.holds c (List.mem_append_left _ hc), fun c hc b hb => ⟨.inl ⟨c, hc, hb⟩, (hw'.own c (List.mem_append_left _ hc) b hb).2⟩, (List.pairwise_append.1 hw'.dis).1⟩
  have hc := ht w (fun c hc => (hro c hc).ro hw') hp
  show Oper.wp P o a w K Q
  unfold Oper.wp
  rw [he a w ha hw, Oper.upon_enter]
  refine hc.mono ?_
  rintro e w2 ⟨m', hR, hm'⟩
  cases e with
  | returned v =>
    show K (a.put o.dst v) w2
    rw [hd]
    exact hret v m' hR _ _ (ha.put hn v) (hw'.turn hm')
  | panicked c => exact hpan c m' hR a w2 ha (hw'.turn hm')
  | outgrown => exact absurd hR (hout m')
theorem G.cO {X Y : Type} {J : X → Prop} {V : X → Value} {M : X → List Ck} {J' : Y → Prop} {C : Y → List PanicEntry} {M' : Y → List Ck} {o : Oper} {d : Nat} {f : FuncId} {args : Array Value} {ro pre r : List Ck} (hd : o.dst = some d) (hn : Nat.blt d n = true) (he : PE P n w0 S l m o f args)
    (ht : TrO P f args ro pre (TO J V M J' C M')) (hs : Sub m pre r) (hro : ∀ c ∈ ro, May w0 S r c) (hret : ∀ x, J x → G n w0 S ((d, V x) :: l) (M x ++ r) K) (hpan : ∀ y, J' y → G n w0 S l (M' y ++ r) (Q (.panic (C y)))) : G n w0 S l m (fun a w => o.wp P a w K Q) :=
  G.callO hd hn he ht hs hro (fun v m' ⟨x, hJ, hv, hm⟩ => by subst hv; subst hm; exact hret x hJ) (fun c m' ⟨y, hJ, hv, hm⟩ => by subst hv; subst hm; exact hpan y hJ) fun m' h => h
section
variable {X Y : Type} {J : X → Prop} {V : X → Value} {A B : X → Ck} {J' : Y → Prop} {C : Y → List PanicEntry} {A' B' : Y → Ck} {o : Oper} {d : Nat} {f : FuncId} {args : Array Value} {ro pre r : List Ck}
/-- two chunks, both ways -/
theorem G.cO2 (hd : o.dst = some d) (hn : Nat.blt d n = true) (he : PE P n w0 S l m o f args)
    (ht : TrO P f args ro pre (TO J V (fun x => [A x, B x]) J' C (fun y => [A' y, B' y]))) (hs : Sub m pre r) (hro : ∀ c ∈ ro, May w0 S r c) (hret : ∀ x, J x → G n w0 S ((d, V x) :: l) (A x :: B x :: r) K) (hpan : ∀ y, J' y → G n w0 S l (A' y :: B' y :: r) (Q (.panic (C y)))) : G n w0 S l m (fun a w => o.wp P a w K Q) :=
  G.cO hd hn he ht hs hro hret hpan
/-- three chunks, or two -/
theorem G.cO3 {B3 : X → Ck} (hd : o.dst = some d) (hn : Nat.blt d n = true) (he : PE P n w0 S l m o f args)
    (ht : TrO P f args ro pre (TO J V (fun x => [A x, B x, B3 x]) J' C (fun y => [A' y, B' y]))) (hs : Sub m pre r) (hro : ∀ c ∈ ro, May w0 S r c) (hret : ∀ x, J x → G n w0 S ((d, V x) :: l) (A x :: B x :: B3 x :: r) K) (hpan : ∀ y, J' y → G n w0 S l (A' y :: B' y :: r) (Q (.panic (C y)))) : G n w0 S l m (fun a w => o.wp P a w K Q) :=
  G.cO hd hn he ht hs hro hret hpan
/-- no chunk, both ways -/
theorem G.cO0 (hd : o.dst = some d) (hn : Nat.blt d n = true) (he : PE P n w0 S l m o f args)
    (ht : TrO P f args ro pre (TO J V (fun _ => []) J' C (fun _ => []))) (hs : Sub m pre r) (hro : ∀ c ∈ ro, May w0 S r c) (hret : ∀ x, J x → G n w0 S ((d, V x) :: l) r K) (hpan : ∀ y, J' y → G n w0 S l r (Q (.panic (C y)))) : G n w0 S l m (fun a w => o.wp P a w K Q) :=
  G.cO hd hn he ht hs hro hret hpan
end
theorem Tr.o {X : Type} {f : FuncId} {args : Array Value} {ro pre : List Ck} {J : X → Prop} {V : X → Value} {M : X → List Ck} (h : Tr P f args ro pre (TX J V M)) : TrO P f args ro pre (TO J V M (fun _ : Unit => False) (fun _ => []) (fun _ => [])) := fun w hro hp =>
  (h w hro hp).mono fun e w' ⟨v, m', he, ⟨x, hJ, hv, hm⟩, hw⟩ => ⟨m', by subst he; exact ⟨x, hJ, hv, hm⟩, hw⟩
theorem TrO.imp {f : FuncId} {args : Array Value} {ro pre : List Ck} {R R' : Ending → List Ck → Prop} (h : TrO P f args ro pre R) (hR : ∀ e m, R e m → R' e m) : TrO P f args ro pre R' := fun w hro hp =>
  (h w hro hp).mono fun e w' ⟨m', hr, hw⟩ => ⟨m', hR _ _ hr, hw⟩
/-- one that never returns -/
theorem G.panicOp {x : Operand} {t : TypeId} {v : Value} (hx : ev l x = some (.iface t v)) (h : G n w0 S l m (Q (.panic [{ v := .iface t v, recovered := false }]))) : G n w0 S l m (fun a w => Oper.wp P ⟨dst, .panic x, ty, pos, after, g⟩ a w K Q) := fun a w ha hw => by
  show Oper.wp P ⟨dst, .panic x, ty, pos, after, g⟩ a w K Q
  unfold Oper.wp
  have hr : (execOp a.eval ⟨dst, .panic x, ty, pos, after, g⟩).run P w = .halt (.panic (.iface t v)) w := by
    simp [execOp, ha.eval hx, Instr.panic, goPanic, Sem.run_bind, Sem.run, Result.andThen]
  rw [hr, Oper.upon_panic]
  exact h a w ha hw
theorem pv_iface {t : TypeId} {x : Operand} {v : Value} {d : TypeDesc} (hu : P.underlying t = some d) (hd : (match d with | .interface _ => true | _ => false) = false) (hx : ev l x = some v) : PV P n w0 S l m ⟨dst, .makeInterface t x, ty, pos, after, g⟩ (.iface t v) := fun act w ha _ => by
  show ((Instr.makeInterface t (act.eval x)) >>= fun x => pure (Next.value x)).run P w = _
  rw [ha.eval hx]
  refine run_v ?_
  unfold Instr.makeInterface
  simp only [Sem.run_bind, run_underlying hu, Result.andThen]
  cases d <;> first | rfl | cases hd
theorem run_eqI0 {ms : Array (String × TypeId)} (ht : P.underlying ty = some (.interface ms)) (w : World) : ∀ d, (Op.equalIn (d + 1) ty .nilIface .nilIface).run P w = .ok true w := fun d => by
  simp [Op.equalIn, Sem.run_bind, run_underlying ht, Result.andThen, Sem.run_pure]
theorem run_eqI1 {ms : Array (String × TypeId)} (ht : P.underlying ty = some (.interface ms)) (t : TypeId) (v : Value) (w : World) : ∀ d, (Op.equalIn (d + 1) ty (.iface t v) .nilIface).run P w = .ok false w := fun d => by
  simp [Op.equalIn, Sem.run_bind, run_underlying ht, Result.andThen, Sem.run_pure]
theorem pv_eqI0 {t u : TypeId} {ms : Array (String × TypeId)} {x : Operand} (ht : P.underlying t = some (.interface ms)) (hx : ev l x = some .nilIface) : PV P n w0 S l m ⟨dst, .binOp .eql t x (.const .nilIface) u, ty, pos, after, g⟩ (.bool true) :=
  pv_bin hx rfl (by rw [eqGuard_nil_constR]) fun w => by
    show ((Op.equalIn Op.maxDepth t .nilIface .nilIface) >>= fun x => pure (Value.bool x)).run P w = _
    have h := run_eqI0 ht w 9999
    simp only [Sem.run_bind, show Op.maxDepth = 9999 + 1 from rfl, h, Result.andThen, Sem.run_pure]
theorem pv_eqI1 {t u d : TypeId} {v : Value} {ms : Array (String × TypeId)} {x : Operand} (ht : P.underlying t = some (.interface ms)) (hx : ev l x = some (.iface d v)) : PV P n w0 S l m ⟨dst, .binOp .eql t x (.const .nilIface) u, ty, pos, after, g⟩ (.bool false) :=
  pv_bin hx rfl (by rw [eqGuard_at_iface]) fun w => by
    show ((Op.equalIn Op.maxDepth t (.iface d v) .nilIface) >>= fun x => pure (Value.bool x)).run P w = _
    have h := run_eqI1 ht d v w 9999
    simp only [Sem.run_bind, show Op.maxDepth = 9999 + 1 from rfl, h, Result.andThen, Sem.run_pure]
theorem pv_assertOk {xt t : TypeId} {x : Operand} {v : Value} {d : TypeDesc} (hu : P.underlying t = some d) (hd : (match d with | .interface _ => true | _ => false) = false) (hx : ev l x = some (.iface t v)) : PV P n w0 S l m ⟨dst, .typeAssert x xt t true, ty, pos, after, g⟩ (.tuple #[v, .bool true]) := fun act w ha _ => by
  show ((Instr.typeAssert (act.eval x) xt t true) >>= fun x => pure (Next.value x)).run P w = _
  rw [ha.eval hx]
  refine run_v ?_
  unfold Instr.typeAssert
  simp only [Sem.run_bind, run_underlying hu, Result.andThen]
  cases d <;> first | (simp [Sem.run_pure]; done) | cases hd
end
end Go.Proofs.Ytchgaedidfefoaa

/- A walk by chunks: a call that is deferred; recover; parts of slices. Conditions: none. -/
set_option linter.unusedVariables false
set_option linter.unusedSimpArgs false
namespace Go.Proofs.Ytchgaedidfefoaa
open Go.RowKit

/-! parts of slices -/
theorem SlV.sub {α : Type} {E : Rdr α} {Ps : Nat → Prop} {w : World} {ad : Option Addr} {cap b off : Nat} {xs : List α} (h : SlV E Ps w ad cap b off xs) {i j : Nat} (hij : i ≤ j) (hj : j ≤ xs.length) :
    IsSl E Ps w (subV E.sz ad i j cap) ((xs.take j).drop i) := by
  have hlen : ((xs.take j).drop i).length = j - i := by rw [List.length_drop, List.length_take, Nat.min_eq_left hj]
  have hc := h.hcap
  unfold subV
  refine ⟨_, cap - i, b, off + i * E.sz, by rw [hlen], by rw [hlen]; omega, by have := h.hmax; omega, fun hn => ?_, fun h0 => ?_, fun k hk => ?_⟩
  · split at hn
    · have := h.hnil hn; omega
    · rw [Option.map_eq_none_iff] at hn
      have := h.hnil hn; omega
  · rw [hlen] at h0
    rw [if_neg (by omega), h.had (by omega), Option.map_some, Addr.add_mid]
  · rw [hlen] at hk
    have := h.cell (i + k) (by omega)
    rw [show off + (i + k) * E.sz = off + i * E.sz + k * E.sz by rw [Nat.add_mul, Nat.add_assoc]] at this
    have e : ((xs.take j).drop i)[k]'(by rw [hlen]; exact hk) = xs[i + k]'(by omega) := by simp
    rw [e]
    exact this
theorem IsSl.sub {α : Type} {E : Rdr α} {Ps : Nat → Prop} {w : World} {ad : Option Addr} {len cap : Nat} {xs : List α} (h : IsSl E Ps w (.slice ad len cap) xs) {i j : Nat} (hij : i ≤ j) (hj : j ≤ xs.length) :
    IsSl E Ps w (subV E.sz ad i j cap) ((xs.take j).drop i) := by
  obtain ⟨ad2, cap2, b, off, e, hs⟩ := h
  injection e with e1 e2 e3
  subst e1
  subst e3
  exact hs.sub hij hj
section
variable {P : Program} {n : Nat} {w0 : World} {S : Nat → Prop} {l : Fr} {m : List Ck} {Q : Exit → Act → World → Prop} {K : Act → World → Prop}
  {dst : Option Tmp} {ty : TypeId} {pos : String} {after : Array Edge} {g : Option (Nat × Bool)}
theorem Ro.sub {α : Type} {E : Rdr α} {Ps : Nat → Prop} {ad : Option Addr} {len cap : Nat} {xs : List α} (h : Ro w0 S (slc E Ps (.slice ad len cap) xs)) {i j : Nat} (hij : i ≤ j) (hj : j ≤ xs.length) :
    Ro w0 S (slc E Ps (subV E.sz ad i j cap) ((xs.take j).drop i)) := ⟨IsSl.sub h.1 hij hj, h.2⟩

/-! a call that is deferred -/
/-- the judgement, with calls that wait -/
def GD (n : Nat) (w0 : World) (S : Nat → Prop) (l : Fr) (m : List Ck) (ds : List Deferred) (K : Act → World → Prop) : Prop := ∀ a w, At { a with defers := [] } n l → a.defers = ds → Hp w0 S w m → K a w
theorem Act.eval_defers (a : Act) (ds : List Deferred) : Act.eval { a with defers := ds } = a.eval := by
  funext x
  cases x <;> rfl
theorem G.defer {o : Oper} {x : Operand} {fn : Fn} {first captured : Array Value} {ts : Array TypeId} (hd : o.dst = none) (ho : o.op = .defer { callee := .value x, args := #[], argTypes := ts }) (hx : ev l x = some (.func fn first captured))
    (h : GD n w0 S l m [{ target := .fn fn captured, args := first ++ #[] }] K) : G n w0 S l m (fun a w => o.wp P a w K Q) := fun a w ha hw => by
  show Oper.wp P o a w K Q
  unfold Oper.wp
  have hr : (execOp a.eval o).run P w = .ok (.defer { target := .fn fn captured, args := first ++ #[] }) w := by
    simp [execOp, ho, resolve, Deferred.ofValue, ha.eval hx, Sem.run, Sem.run_bind, Sem.run_pure, Result.andThen]
  rw [hr, Oper.upon_defer, hd]
  refine h _ _ ?_ (by show _ :: a.defers = _; rw [ha.defs]) hw
  have : ({ a with defers := [] } : Act) = a := by
    have := ha.defs
    cases a
    simp only at this
    rw [this]
  show At { a with defers := [] } n l
  rw [this]
  exact ha
theorem GD.region {id : Nat} {ops : List Oper} {ds : List Deferred} (h : GD n w0 S l m ds (wpList P ops.toArray Q ops)) : GD n w0 S l m ds ((Code.region id ops.toArray false).wp P Q) := fun a w ha hd hw => wp_region_lit (h a w ha hd hw)
theorem GD.nil {ops : Array Oper} {ds : List Deferred} (h : GD n w0 S l m ds (Q .normal)) : GD n w0 S l m ds (wpList P ops Q []) := h
theorem GD.op {ops : Array Oper} {o : Oper} {rest : List Oper} {ds : List Deferred} (hg : o.guard = none) (h : GD n w0 S l m ds (fun a w => o.wp P a w (wpList P ops Q rest) Q)) : GD n w0 S l m ds (wpList P ops Q (o :: rest)) := fun a w ha hd hw =>
  wpList_plain hg fun K hK => Oper.wp_mono hK (h a w ha hd hw)
theorem GD.val {o : Oper} {d : Nat} {v : Value} {ds : List Deferred} (hd : o.dst = some d) (hn : Nat.blt d n = true) (hv : PV P n w0 S l m o v) (h : GD n w0 S ((d, v) :: l) m ds K) : GD n w0 S l m ds (fun a w => o.wp P a w K Q) := fun a w ha hds hw => by
  show Oper.wp P o a w K Q
  unfold Oper.wp
  have := hv _ w ha hw
  rw [Act.eval_defers] at this
  rw [this, Oper.upon_value, hd]
  exact h _ _ (ha.put hn v) hds hw
theorem GD.callO {o : Oper} {d : Nat} {f : FuncId} {args : Array Value} {ro pre r : List Ck} {ds : List Deferred} {R : Ending → List Ck → Prop} (hd : o.dst = some d) (hn : Nat.blt d n = true) (he : PE P n w0 S l m o f args) (ht : TrO P f args ro pre R) (hs : Sub m pre r) (hro : ∀ c ∈ ro, May w0 S r c)
    (hret : ∀ v m', R (.returned v) m' → GD n w0 S ((d, v) :: l) (m' ++ r) ds K) (hpan : ∀ c m', R (.panicked c) m' → GD n w0 S l (m' ++ r) ds (Q (.panic c))) (hout : ∀ m', ¬ R .outgrown m') : GD n w0 S l m ds (fun a w => o.wp P a w K Q) := fun a w ha hds hw => by
  have hw' := hw.perm hs.perm
  have hp : Hp w (U pre) w pre := ⟨Chg.refl _ _, fun c hc => hw'.holds c (List.mem_append_left _ hc), fun c hc b hb => ⟨.inl ⟨c, hc, hb⟩, (hw'.own c (List.mem_append_left _ hc) b hb).2⟩, (List.pairwise_append.1 hw'.dis).1⟩
  have hc := ht w (fun c hc => (hro c hc).ro hw') hp
  show Oper.wp P o a w K Q
  unfold Oper.wp
  have hrun := he _ w ha hw
  rw [Act.eval_defers] at hrun
  rw [hrun, Oper.upon_enter]
  refine hc.mono ?_
  rintro e w2 ⟨m', hR, hm'⟩
  cases e with
  | returned v =>
    show K (a.put o.dst v) w2
    rw [hd]
    exact hret v m' hR _ _ (ha.put hn v) hds (hw'.turn hm')
  | panicked c => exact hpan c m' hR a w2 ha hds (hw'.turn hm')
  | outgrown => exact absurd hR (hout m')
/-- results that lie in memory -/
theorem run_result1 {fn : Func} {t T b o : Nat} {v : Value} {d : TypeDesc} {tmps : Array Value} {w : World} (hr : fn.results = #[.cell t T]) (ht : tmps[t]? = some (.pointer (some ⟨b, o, none⟩))) (hu : P.underlying T = some d) (hd : d.isRow = false) (hc : w.cell? ⟨b, o, none⟩ = some v) : (results fn tmps).run P w = .ok v w := by
  have e : tmps.getD t undef = .pointer (some ⟨b, o, none⟩) := by simp [ht]
  have h1 : (loadVar T ⟨b, o, none⟩).run P w = .ok v w := by
    simp [loadVar, load, Sem.run_bind, isAgg_false hu hd, Result.andThen, Sem.run_pure, Sem.run, hc]
  simp only [results, hr]
  simp [Sem.run_bind, ht, asAddr, h1, Result.andThen, Sem.run_pure]
theorem run_resultN {fn : Func} {t T b o : Nat} {cs : List Value} {d : TypeDesc} {tmps : Array Value} {w : World} (hr : fn.results = #[.cell t T]) (ht : tmps[t]? = some (.pointer (some ⟨b, o, none⟩))) (hu : P.underlying T = some d) (hd : d.isRow = true) (hi : (P.info? T).map (·.size) = some cs.length) (hc : w.rangeAt b o cs) : (results fn tmps).run P w = .ok (.agg cs.toArray) w := by
  have e : tmps.getD t undef = .pointer (some ⟨b, o, none⟩) := by simp [ht]
  have h1 : (loadVar T ⟨b, o, none⟩).run P w = .ok (.agg cs.toArray) w := by
    have := run_loadAt_mid w b o T cs d hc hu hd hi
    simpa [Instr.loadAt, Instr.sureAddr, Sem.run_bind, Sem.run_pure, Result.andThen] using this
  simp only [results, hr]
  simp [Sem.run_bind, ht, asAddr, h1, Result.andThen, Sem.run_pure]
theorem G.doneC {fn : Func} {pre : List Ck} {post : Value → List Ck → Prop} {t T b o : Nat} {v : Value} {d : TypeDesc} {m' r : List Ck} (hr : fn.results = #[.cell t T]) (ht : Fr.get l t = some (.pointer (some ⟨b, o, none⟩))) (hu : P.underlying T = some d) (hd : d.isRow = false) (hc : ∀ w, Hp w0 (U pre) w m → w.cell? ⟨b, o, none⟩ = some v)
    (hs : Sub m m' r) (hp : post v m') : G n w0 (U pre) l m (bodyPost P fn (TrR w0 pre post) .ret) :=
  G.doneBy (fun a w ha hw => run_result1 hr (ha.get _ _ ht) hu hd (hc w hw)) hs hp
theorem G.doneCN {fn : Func} {pre : List Ck} {post : Value → List Ck → Prop} {t T b o : Nat} {cs : List Value} {d : TypeDesc} {m' r : List Ck} (hr : fn.results = #[.cell t T]) (ht : Fr.get l t = some (.pointer (some ⟨b, o, none⟩))) (hu : P.underlying T = some d) (hd : d.isRow = true) (hi : (P.info? T).map (·.size) = some cs.length) (hc : ∀ w, Hp w0 (U pre) w m → w.rangeAt b o cs)
    (hs : Sub m m' r) (hp : post (.agg cs.toArray) m') : G n w0 (U pre) l m (bodyPost P fn (TrR w0 pre post) .ret) :=
  G.doneBy (fun a w ha hw => run_resultN hr (ha.get _ _ ht) hu hd hi (hc w hw)) hs hp
theorem Tr.imp {f : FuncId} {args : Array Value} {ro pre : List Ck} {post post' : Value → List Ck → Prop} (h : Tr P f args ro pre post) (hp : ∀ v m, post v m → post' v m) : Tr P f args ro pre post' := fun w hro hw =>
  (h w hro hw).mono fun e w' ⟨v, m', he, hm, hw'⟩ => ⟨v, m', he, hp v m' hm, hw'⟩
/-- .. with the memory read anew -/
theorem Tr.impH {f : FuncId} {args : Array Value} {ro pre : List Ck} {post post' : Value → List Ck → Prop} (h : Tr P f args ro pre post) (hp : ∀ v m, post v m → ∃ m', post' v m' ∧ ∀ w0 S w, Hp w0 S w m → Hp w0 S w m') : Tr P f args ro pre post' := fun w hro hw =>
  (h w hro hw).mono fun e w' ⟨v, m', he, hm, hw'⟩ => let ⟨m2, h2, h3⟩ := hp v m' hm; ⟨v, m2, he, h2, h3 _ _ _ hw'⟩
theorem hp_ownNil {w : World} (e sz : Nat) (hw : Hp w0 S w m) : Hp w0 S w (own e sz (.slice none 0 0) 0 [] :: m) := by
  refine hw.adds (m' := [own e sz (.slice none 0 0) 0 []]) ⟨Chg.refl _ _, fun c hc => ?_, fun c hc b hb => ?_, by simp⟩
  · obtain rfl : c = _ := by simpa using hc
    exact World.ownsRow_nil w 0 e sz
  · obtain rfl : c = _ := by simpa using hc
    cases hb
/-- a call whose contract has letters; what it makes is put ahead of the rest -/
theorem G.cN {X : Type} {J : X → Prop} {V : X → Value} {M : X → List Ck} {o : Oper} {d : Nat} {f : FuncId} {xs : List Operand} {ts : Array TypeId} {vs : List Value} {ro pre r : List Ck} (hd : o.dst = some d) (hn : Nat.blt d n = true)
    (ho : o.op = .call { callee := .value (.func f), args := xs.toArray, argTypes := ts }) (hx : evs l xs = some vs) {fn : Func} {c : Code} (hf : P.funcs[f]? = some fn) (hb : fn.body = some c) (hnm : (fn.name == "runtime.NumGoroutine") = false)
    (ht : Tr P f vs.toArray ro pre (TX J V M)) (hm : Sub m pre r) (hro : ∀ c ∈ ro, May w0 S r c) (h : ∀ x, J x → G n w0 S ((d, V x) :: l) (M x ++ r) K) : G n w0 S l m (fun a w => o.wp P a w K Q) :=
  G.tr hd hn ho hx hf hb hnm ht hm hro fun v m' ⟨x, hJ, hv, hm⟩ => by subst hv; subst hm; exact h x hJ
theorem G.noDefers {fn : Func} {R : Ending → World → Prop} (hr : fn.results = #[]) (h : ∀ w, Hp w0 S w m → R (.returned (.tuple #[])) w) : G n w0 S l m (bodyPostD P fn R .ret) := fun a w ha hw => by
  show Leaves P fn a.tmps R a.defers .returning w
  rw [ha.defs]
  exact ⟨_, results_none hr _ _ _, h w hw⟩
theorem GD.nThen {ds : List Deferred} (h : GD n w0 S l m ds K) : GD n w0 S l m ds (Exit.then K Q .normal) := h
theorem Sel.mid (q p : List Ck) (c : Ck) : Sel (q ++ c :: p) c (q ++ p) := by
  induction q with
  | nil => exact .here
  | cons d q ih => exact .there ih
theorem Sub.right (q : List Ck) : ∀ p : List Ck, Sub (q ++ p) p q
  | [] => by rw [List.append_nil]; exact .nil
  | c :: p => .cons (Sel.mid q p c) (Sub.right q p)
theorem Tr.ofD {f : FuncId} {args : Array Value} {ro pre : List Ck} {post : Value → List Ck → Prop} {fn : Func} {c : Code} {n : Nat} {l : Fr} (hf : P.funcs[f]? = some fn) (hb : fn.body = some c) (hn : args.size + (fn.ntmps - args.size) = n) (hl : Fa args l)
    (h : ∀ w0, (∀ c ∈ ro, Ro w0 (U pre) c) → G n w0 (U pre) l pre (c.wp P (bodyPostD P fn (TrR w0 pre post)))) : Tr P f args ro pre post := fun w hro hp =>
  calls_of_wp_defers hf hb (h w hro _ _ ⟨by simp [hn], rfl, fun t v ht => by
    have := hl.get t v ht
    rw [Array.getElem?_append_left]
    · exact this
    · exact (Array.getElem?_eq_some_iff.1 this).1⟩ hp)
theorem G.doneD {fn : Func} {pre post r : List Ck} (hr : fn.results = #[]) (hs : Sub m post r) : G n w0 (U pre) l m (bodyPost P fn (fun e w' => (∃ v, e = .returned v) ∧ Hp w0 (U pre) w' post) .normal) :=
  G.end0 hr fun w hw => ⟨⟨_, rfl⟩, (hw.perm hs.perm).sub (List.sublist_append_left _ _)⟩
theorem run_invokeF {f : FuncId} {args cap : Array Value} {fn : Func} {c : Code} (hf : P.funcs[f]? = some fn) (hb : fn.body = some c) (hnm : (fn.name == "runtime.NumGoroutine") = false) (w : World) : (invoke (.fn (.func f) cap) args).run P w = .ok (.enter f (args ++ cap)) w := by
  simp only [invoke]
  exact run_callFunc hf hb hnm
/-- a contract of a function that is called when its caller leaves: u is how the caller leaves, u' how it goes on -/
def TrD (P : Program) (f : FuncId) (args : Array Value) (u u' : FrameMode) (pre post : List Ck) : Prop :=
  ∀ w, Hp w (U pre) w pre → CallsD P f args u w fun e u2 w' => (∃ v, e = .returned v) ∧ u2 = u' ∧ Hp w (U pre) w' post
theorem GD.leave {fn : Func} {R : Ending → World → Prop} {f : FuncId} {args dargs cap : Array Value} {fv : Fn} {u u' : FrameMode} {pre post r : List Ck} {e : Exit} (he : ∀ a w, bodyPostD P fn R e a w = Leaves P fn a.tmps R a.defers u w) (hu : u ≠ .run)
    (hi : ∀ w, (invoke (.fn fv cap) dargs).run P w = .ok (.enter f args) w) (ht : TrD P f args u u' pre post) (hs : Sub m pre r) (hset : settle u' = .returning) (hr : fn.results = #[])
    (h : ∀ w, Hp w0 S w (post ++ r) → R (.returned (.tuple #[])) w) : GD n w0 S l m [{ target := .fn fv cap, args := dargs }] (bodyPostD P fn R e) := fun a w ha hds hw => by
  rw [he, hds]
  have hw' := hw.perm hs.perm
  have hp : Hp w (U pre) w pre := ⟨Chg.refl _ _, fun c hc => hw'.holds c (List.mem_append_left _ hc), fun c hc b hb => ⟨.inl ⟨c, hc, hb⟩, (hw'.own c (List.mem_append_left _ hc) b hb).2⟩, (List.pairwise_append.1 hw'.dis).1⟩
  refine leaves_cons hu (hi w) ((ht w hp).mono ?_)
  rintro e u2 w2 ⟨⟨v, rfl⟩, rfl, hm⟩
  show Leaves P fn a.tmps R [] (settle u2) w2
  rw [hset]
  exact ⟨_, results_none hr _ _ _, h w2 (hw'.turn hm)⟩
/-- recover, at a deferred function's head -/
theorem TrD.of {f : FuncId} {fn : Func} {c : Code} {id d : Nat} {o : Oper} {args : Array Value} {u u' : FrameMode} {v : Value} {pre post : List Ck} {n : Nat} {l : Fr} (hf : P.funcs[f]? = some fn) (hb : fn.body = some (.seq (.region id #[o] false) c)) (hr : fn.results = #[])
    (hn : args.size + (fn.ntmps - args.size) = n) (hl : Fa args l) (hd : o.dst = some d) (hdn : Nat.blt d n = true) (hg : o.guard = none) (ho : ∀ ρ w, (execOp ρ o).run P w = .ok .recover w)
    (hrec : (u = .returning ∧ v = .nilIface ∧ u' = u) ∨ ∃ x, u = .panicking [{ v := x, recovered := false }] ∧ v = x ∧ u' = .panicking [{ v := x, recovered := true }])
    (h : ∀ w, G n w (U pre) ((d, v) :: l) pre (c.wp P (bodyPost P fn (fun e w' => (∃ v, e = .returned v) ∧ Hp w (U pre) w' post)))) : TrD P f args u u' pre post := fun w hw => by
  refine callsD_of_wpS hf hb fun c0 cs hu => wpS_seq (wpS_region ?_)
  have hA : At { tmps := args ++ Array.replicate (fn.ntmps - args.size) undef, defers := [] } n l := ⟨by simp [hn], rfl, fun t v ht => by
    have := hl.get t v ht
    rw [Array.getElem?_append_left]
    · exact this
    · exact (Array.getElem?_eq_some_iff.1 this).1⟩
  have key : ∀ cs', (∃ c1 : Frame, cs' = { c1 with mode := u' } :: cs ∧ c1 = c0) → Exit.thenS (c.wpS P (bodyPostS P fn c0 cs fun e u2 w' => (∃ v, e = .returned v) ∧ u2 = u' ∧ Hp w (U pre) w' post)) (bodyPostS P fn c0 cs fun e u2 w' => (∃ v, e = .returned v) ∧ u2 = u' ∧ Hp w (U pre) w' post) .normal (Act.put { tmps := args ++ Array.replicate (fn.ntmps - args.size) undef, defers := [] } o.dst v) cs' w := by
    rintro cs' ⟨c1, rfl, rfl⟩
    show Code.wpS P c _ _ _ w
    rw [hd]
    refine wpS_of_wp (wp_mono (h w _ _ (hA.put hdn v) hw) ?_)
    intro e a' w' hq
    cases e with
    | normal =>
      obtain ⟨hd, v, hr, hR⟩ := hq
      exact ⟨hd, u', rfl, v, hr, hR.1, rfl, hR.2⟩
    | ret =>
      obtain ⟨hd, v, hr, hR⟩ := hq
      exact ⟨hd, u', rfl, v, hr, hR.1, rfl, hR.2⟩
    | panic chain =>
      obtain ⟨hd, ⟨v, hv⟩, hR⟩ := hq
      cases hv
    | exit id => exact hq.elim
    | goto l => exact hq.elim
    | outgrown =>
      obtain ⟨⟨v, hv⟩, hR⟩ := hq
      cases hv
  have hwant : ∀ ts, Region.wanted o (yielded #[o] ts) = true := fun ts => by simp [Region.wanted, hg]
  show wpOpsS P #[o] _ [0] _ _ _
  unfold wpOpsS
  simp only [List.getElem?_toArray, List.getElem?_cons_zero, hwant, if_true, ho]
  rcases hrec with ⟨rfl, rfl, rfl⟩ | ⟨x, rfl, rfl, rfl⟩
  · have e : recoverD (c0 :: cs) = none := by unfold recoverD; simp only [hu]
    rw [e]
    exact key (c0 :: cs) ⟨c0, by rw [← hu], rfl⟩
  · have e : recoverD (c0 :: cs) = some (v, { c0 with mode := .panicking [{ v := v, recovered := true }] } :: cs) := by unfold recoverD; simp only [hu]
    rw [e]
    exact key _ ⟨c0, rfl, rfl⟩
end
end Go.Proofs.Ytchgaedidfefoaa

/- A walk by chunks: equality of structs and of arrays of bytes. Conditions: none. -/
set_option linter.unusedVariables false
set_option linter.unusedSimpArgs false
namespace Go.Proofs.Ytchgaedidfefoaa
open Go.RowKit

section
variable {P : Program} {n : Nat} {w0 : World} {S : Nat → Prop} {l : Fr} {m : List Ck} {Q : Exit → Act → World → Prop} {K : Act → World → Prop}
  {dst : Option Tmp} {ty : TypeId} {pos : String} {after : Array Edge} {g : Option (Nat × Bool)}
/-- an operation behind a guard that was itself passed -/
theorem At.yieldedU {a : Act} {ops : Array Oper} {j t : Nat} (ha : At a n l) (hj : (ops[j]?).bind (·.dst) = some t) (ht : Fr.get l t = some undef) : Go.yielded ops a.tmps j = none := by
  unfold Go.yielded
  rw [hj]
  simp [ha.get t _ ht, undef]
theorem G.passU {ops : Array Oper} {o : Oper} {rest : List Oper} {j t d : Nat} {b : Bool} (hg : o.guard = some (j, b)) (hj : (ops[j]?).bind (·.dst) = some t) (ht : Fr.get l t = some undef) (hd : o.dst = some d) (hn : Nat.blt d n = true)
    (h : G n w0 S ((d, undef) :: l) m (wpList P ops Q rest)) : G n w0 S l m (wpList P ops Q (o :: rest)) := fun a w ha hw =>
  wpList_step fun K hK => by
    have e : Region.wanted o (yielded ops a.tmps) = false := by
      simp only [Region.wanted, hg, ha.yieldedU hj ht]
      rfl
    rw [if_neg (by rw [e]; simp), hd]
    exact hK _ _ (h _ _ (ha.put hn undef) hw)
theorem G.passNU {ops : Array Oper} {o : Oper} {rest : List Oper} {j t : Nat} {b : Bool} (hg : o.guard = some (j, b)) (hj : (ops[j]?).bind (·.dst) = some t) (ht : Fr.get l t = some undef) (hd : o.dst = none)
    (h : G n w0 S l m (wpList P ops Q rest)) : G n w0 S l m (wpList P ops Q (o :: rest)) := fun a w ha hw =>
  wpList_step fun K hK => by
    have e : Region.wanted o (yielded ops a.tmps) = false := by
      simp only [Region.wanted, hg, ha.yieldedU hj ht]
      rfl
    rw [if_neg (by rw [e]; simp), hd]
    exact hK _ _ (h _ _ ha hw)
/-- part of a slice of the call's own -/
theorem may_ownSub {α : Type} {f : α → Value} {p : α → Prop} {e k cap i j : Nat} {ad : Option Addr} {xs : List α} {r : List Ck} (h : Sel m (own e 1 (.slice ad k cap) k (xs.map f)) r) (hk : k = xs.length) (hp : ∀ x ∈ xs, p x) (hij : i ≤ j) (hj : j ≤ xs.length) : May w0 S m (slc (r1 f p) (fun b => (Value.slice ad k cap).ownBlock = some b) (subV 1 ad i j cap) ((xs.take j).drop i)) :=
  .view h.mem (fun w hw => (own_isSl' hw hk hp).sub (E := r1 f p) hij hj) fun b h => h
theorem subV_zero (sz : Nat) (ad : Option Addr) (j cap : Nat) : subV sz ad 0 j cap = .slice ad j cap := by
  unfold subV
  simp
  intro h
  cases ad <;> simp [Addr.add]
theorem may_ownPre {α : Type} {f : α → Value} {p : α → Prop} {e k cap j : Nat} {ad : Option Addr} {xs : List α} {r : List Ck} (h : Sel m (own e 1 (.slice ad k cap) k (xs.map f)) r) (hk : k = xs.length) (hp : ∀ x ∈ xs, p x) (hj : j ≤ xs.length) : May w0 S m (slc (r1 f p) (fun b => (Value.slice ad k cap).ownBlock = some b) (.slice ad j cap) (xs.take j)) := by
  have := may_ownSub (w0 := w0) (S := S) h hk hp (Nat.zero_le j) hj
  rwa [subV_zero, List.drop_zero] at this
/-- are two cells of a plain type the same? -/
def eqC (P : Program) (e : TypeId) (a b : Value) : Option Bool := match P.underlying e, a, b with
  | some .bool, .bool x, .bool y => some (x == y)
  | some (.int _), .int k x, .int k' y => if k = k' then some (decide (x = y)) else none
  | some .string, .string x, .string y => some (x == y)
  | _, _, _ => none
def eqF (P : Program) (xs ys : List Value) : List Field → Option Bool
  | [] => some true
  | f :: fs => if f.name = "_" then none else match xs[f.offset]?, ys[f.offset]? with
    | some a, some b => match eqC P f.type a b, eqF P xs ys fs with
      | some p, some q => some (p && q)
      | _, _ => none
    | _, _ => none
theorem run_eqC {e : TypeId} {a b : Value} {p : Bool} (h : eqC P e a b = some p) : ∃ d, P.underlying e = some d ∧ d.isRow = false ∧ ∀ k w, (Op.equalIn (k + 1) e a b).run P w = .ok p w := by
  unfold eqC at h
  split at h
  · rename_i hu
    injection h with h
    exact ⟨_, hu, rfl, fun k w => by rw [← h]; exact run_eqB hu _ _ w k⟩
  · rename_i q k1 x k2 y hu
    split at h
    · rename_i hk
      subst hk
      injection h with h
      exact ⟨_, hu, rfl, fun k w => by rw [← h]; simp [Op.equalIn, Sem.run_bind, run_underlying hu, Result.andThen, Sem.run_pure]; exact Bool.beq_eq_decide_eq x y ▸ rfl⟩
    · cases h
  · rename_i x y hu
    injection h with h
    exact ⟨_, hu, rfl, fun k w => by rw [← h]; simp [Op.equalIn, Sem.run_bind, run_underlying hu, Result.andThen, Sem.run_pure]⟩
  · cases h
theorem run_partC {e : TypeId} {off : Nat} {xs : Array Value} {v : Value} {d : TypeDesc} (hu : P.underlying e = some d) (hd : d.isRow = false) (hv : xs[off]? = some v) (w : World) : (part e xs off).run P w = .ok v w := by
  simp only [part, Sem.run_bind, isAgg_false hu hd, Result.andThen_ok, Bool.false_eq_true, if_false, hv, Sem.run_pure]
theorem run_eqF {xs ys : List Value} (k : Nat) (w : World) : ∀ (fs : List Field) (r : Bool), eqF P xs ys fs = some r → (Op.eqFields (k + 1) xs.toArray ys.toArray fs).run P w = .ok r w
  | [], r, h => by
    injection h with h
    subst h
    simp [Op.eqFields]
  | f :: fs, r, h => by
    unfold eqF at h
    split at h
    · cases h
    · rename_i hn
      split at h
      · rename_i a b ha hb
        split at h
        · rename_i p q hp hq
          injection h with h
          subst h
          obtain ⟨d, hu, hd, hr⟩ := run_eqC hp
          have h1 := run_partC (xs := xs.toArray) hu hd (by simpa using ha) w
          have h2 := run_partC (xs := ys.toArray) hu hd (by simpa using hb) w
          simp only [Op.eqFields, hn, ne_eq, not_false_eq_true, if_true, Sem.run_bind, h1, h2, hr k w, Result.andThen_ok]
          cases p
          · simp
          · simpa using run_eqF k w fs q hq
        · cases h
      · cases h
theorem run_eqSt {t : TypeId} {fs : Array Field} {xs ys : List Value} {r : Bool} (hu : P.underlying t = some (.struct fs)) (hp : P.stoodInHeld t = false) (he : eqF P xs ys fs.toList = some r) (w : World) : (Op.equalIn Op.maxDepth t (.agg xs.toArray) (.agg ys.toArray)).run P w = .ok r w := by
  have hf : P.fieldsOf t = fs := by unfold Program.fieldsOf; rw [hu]
  rw [show Op.maxDepth = 9999 + 1 from rfl, run_equalIn_struct w 9999 t _ _ (by rw [hf]; exact hu) hp, hf]
  exact run_eqF 9998 w _ _ he
theorem eqGuard_agg {op : BinOp} {t : TypeId} {x y : Operand} {xs ys : Array Value} (hg : P.eqGuardType P.depth t = false) (w : World) : (eqGuard op t x y (.agg xs) (.agg ys)).run P w = .ok () w := by
  cases op <;> (simp [eqGuard, Sem.run_bind, run_program, Result.andThen]) <;> (intro h; rw [hg] at h; cases h)
theorem pv_binA {op : BinOp} {t u : TypeId} {x y : Operand} {xs ys : Array Value} {v : Value} (hg : P.eqGuardType P.depth t = false) (hx : ev l x = some (.agg xs)) (hy : ev l y = some (.agg ys)) (hr : ∀ w, (binOp op t (.agg xs) (.agg ys)).run P w = .ok v w) :
    PV P n w0 S l m ⟨dst, .binOp op t x y u, ty, pos, after, g⟩ v := fun a w ha _ => by
  show ((do eqGuard op t x y (a.eval x) (a.eval y); binOp op t (a.eval x) (a.eval y)) >>= fun v => pure (Next.value v)).run P w = _
  rw [ha.eval hx, ha.eval hy]
  simp only [Sem.run_bind, eqGuard_agg hg, Result.andThen_ok, hr, Sem.run_pure]
theorem pv_eqlSt {t u : TypeId} {fs : Array Field} {x y : Operand} {xs ys : List Value} {r : Bool} (hu : P.underlying t = some (.struct fs)) (hg : P.eqGuardType P.depth t = false) (hp : P.stoodInHeld t = false) (hx : ev l x = some (.agg xs.toArray)) (hy : ev l y = some (.agg ys.toArray)) (he : eqF P xs ys fs.toList = some r) :
    PV P n w0 S l m ⟨dst, .binOp .eql t x y u, ty, pos, after, g⟩ (.bool r) :=
  pv_binA hg hx hy fun w => by
    show ((Op.equalIn Op.maxDepth t (.agg xs.toArray) (.agg ys.toArray)) >>= fun x => pure (Value.bool x)).run P w = _
    simp only [Sem.run_bind, run_eqSt hu hp he, Result.andThen_ok, Sem.run_pure]
theorem pv_neqSt {t u : TypeId} {fs : Array Field} {x y : Operand} {xs ys : List Value} {r : Bool} (hu : P.underlying t = some (.struct fs)) (hg : P.eqGuardType P.depth t = false) (hp : P.stoodInHeld t = false) (hx : ev l x = some (.agg xs.toArray)) (hy : ev l y = some (.agg ys.toArray)) (he : eqF P xs ys fs.toList = some r) :
    PV P n w0 S l m ⟨dst, .binOp .neq t x y u, ty, pos, after, g⟩ (.bool (!r)) :=
  pv_binA hg hx hy fun w => by
    show ((Op.equalIn Op.maxDepth t (.agg xs.toArray) (.agg ys.toArray)) >>= fun x => pure (Value.bool (!x))).run P w = _
    simp only [Sem.run_bind, run_eqSt hu hp he, Result.andThen_ok, Sem.run_pure]
/-! arrays of bytes -/
theorem run_eqItems8 {e : TypeId} (hu : P.underlying e = some (.int .u8)) {a b : List UInt8} (k : Nat) (w : World) : ∀ (is : List Nat), (∀ i ∈ is, i < a.length ∧ i < b.length) →
    (Op.eqItems (k + 1) e 1 (a.map vByte).toArray (b.map vByte).toArray is).run P w = .ok (is.all fun i => decide (a[i]? = b[i]?)) w
  | [], _ => by simp [Op.eqItems]
  | i :: is, h => by
    obtain ⟨h1, h2⟩ := h i (List.mem_cons_self ..)
    have p1 := run_partC (xs := (a.map vByte).toArray) (off := i * 1) (v := vByte a[i]) hu rfl (by simp [h1]) w
    have p2 := run_partC (xs := (b.map vByte).toArray) (off := i * 1) (v := vByte b[i]) hu rfl (by simp [h2]) w
    have p3 : (Op.equalIn (k + 1) e (vByte a[i]) (vByte b[i])).run P w = .ok (decide (a[i]? = b[i]?)) w := by
      have : decide (a[i]? = b[i]?) = ((a[i].toNat : Int) == (b[i].toNat : Int)) := by
        rw [List.getElem?_eq_getElem h1, List.getElem?_eq_getElem h2]
        by_cases hx : a[i] = b[i]
        · simp [hx]
        · have : ¬ (a[i].toNat : Int) = (b[i].toNat : Int) := fun h3 => hx (UInt8.toNat_inj.1 (by omega))
          simp [hx, this]
      rw [this]
      exact run_equalIn_int w k e .u8 .u8 _ _ hu
    simp only [Op.eqItems, Sem.run_bind, p1, p2, p3, Result.andThen_ok, List.all_cons]
    cases hd : decide (a[i]? = b[i]?)
    · simp
    · simpa using run_eqItems8 hu k w is fun j hj => h j (List.mem_cons_of_mem _ hj)
theorem all_range_eq {a b : List UInt8} {n : Nat} (ha : a.length = n) (hb : b.length = n) : ((List.range n).all fun i => decide (a[i]? = b[i]?)) = decide (a = b) := by
  by_cases h : a = b
  · subst h; simp
  · rw [decide_eq_false h]
    rw [Bool.eq_false_iff]
    intro hall
    refine h (List.ext_getElem? fun i => ?_)
    rcases Nat.lt_or_ge i n with hi | hi
    · exact of_decide_eq_true (List.all_eq_true.1 hall i (List.mem_range.2 hi))
    · rw [List.getElem?_eq_none (by omega), List.getElem?_eq_none (by omega)]
theorem run_eqAr8 {t e : TypeId} {k : Nat} {i : TypeInfo} {a b : List UInt8} (hu : P.underlying t = some (.array k e)) (hi : P.info? e = some i) (hc : P.cellsOf e = 1) (he : P.underlying e = some (.int .u8)) (ha : a.length = k) (hb : b.length = k) (w : World) :
    (Op.equalIn Op.maxDepth t (.agg (a.map vByte).toArray) (.agg (b.map vByte).toArray)).run P w = .ok (decide (a = b)) w := by
  rw [show Op.maxDepth = 9999 + 1 from rfl, run_equalIn_array w 9999 _ _ hu hi, hc, run_eqItems8 he 9998 w _ fun j hj => by have := List.mem_range.1 hj; omega, all_range_eq ha hb]
theorem pv_eqlAr8 {t u e : TypeId} {k : Nat} {i : TypeInfo} {x y : Operand} {a b : List UInt8} (hu : P.underlying t = some (.array k e)) (hi : P.info? e = some i) (hc : P.cellsOf e = 1) (he : P.underlying e = some (.int .u8)) (hg : P.eqGuardType P.depth t = false) (hx : ev l x = some (.agg (a.map vByte).toArray)) (hy : ev l y = some (.agg (b.map vByte).toArray)) (ha : a.length = k) (hb : b.length = k) :
    PV P n w0 S l m ⟨dst, .binOp .eql t x y u, ty, pos, after, g⟩ (.bool (decide (a = b))) :=
  pv_binA hg hx hy fun w => by
    show ((Op.equalIn Op.maxDepth t _ _) >>= fun x => pure (Value.bool x)).run P w = _
    simp only [Sem.run_bind, run_eqAr8 hu hi hc he ha hb, Result.andThen_ok, Sem.run_pure]
theorem pv_neqAr8 {t u e : TypeId} {k : Nat} {i : TypeInfo} {x y : Operand} {a b : List UInt8} (hu : P.underlying t = some (.array k e)) (hi : P.info? e = some i) (hc : P.cellsOf e = 1) (he : P.underlying e = some (.int .u8)) (hg : P.eqGuardType P.depth t = false) (hx : ev l x = some (.agg (a.map vByte).toArray)) (hy : ev l y = some (.agg (b.map vByte).toArray)) (ha : a.length = k) (hb : b.length = k) :
    PV P n w0 S l m ⟨dst, .binOp .neq t x y u, ty, pos, after, g⟩ (.bool (!decide (a = b))) :=
  pv_binA hg hx hy fun w => by
    show ((Op.equalIn Op.maxDepth t _ _) >>= fun x => pure (Value.bool (!x))).run P w = _
    simp only [Sem.run_bind, run_eqAr8 hu hi hc he ha hb, Result.andThen_ok, Sem.run_pure]
end
end Go.Proofs.Ytchgaedidfefoaa

/- A walk by chunks: bytes of the call's own, with what lies in their spare room. Conditions: none. -/
set_option linter.unusedVariables false
set_option linter.unusedSimpArgs false
namespace Go.Proofs.Ytchgaedidfefoaa
open Go.RowKit

/-- bytes of the call's own: the spare room holds bytes too -/
def OwnB (w : World) (e : TypeId) (v : Value) (xs : List UInt8) : Prop := (v = .slice none 0 0 ∧ xs = []) ∨ ∃ (g : Nat) (sp : List UInt8), v = .slice (some ⟨g, 0, none⟩) xs.length (xs.length + sp.length) ∧ xs.length + sp.length ≤ 9223372036854775807 ∧ w.heap[g]? = some (.cells ((xs ++ sp).map vByte).toArray e (0, 0))
def ownB (e : TypeId) (v : Value) (xs : List UInt8) : Ck := ⟨fun b => v.ownBlock = some b, fun w => OwnB w e v xs, fun w w' h hw => by
  rcases hw with h1 | ⟨g, sp, rfl, hm, hg⟩
  · exact .inl h1
  · exact .inr ⟨g, sp, rfl, hm, (h g rfl).trans hg⟩⟩
theorem OwnB.own {w : World} {e : TypeId} {v : Value} {xs : List UInt8} (h : OwnB w e v xs) : w.ownsRow 0 e 1 v xs.length (xs.map vByte) := by
  rcases h with ⟨rfl, rfl⟩ | ⟨g, sp, rfl, hm, hg⟩
  · exact World.ownsRow_nil w 0 e 1
  · refine ⟨by simp, .inr ⟨g, _, _, rfl, Nat.zero_le _, hg, by omega, by unfold maxLen; omega, by simp, ?_⟩⟩
    simp [List.map_append]
theorem zeroB (k : Nat) : Builtin.zeroCells (Value.int .u8 0).cells k = ((List.replicate k (0 : UInt8)).map vByte).toArray := by
  unfold Builtin.zeroCells
  apply Array.ext
  · simp [Value.cells]
  · intro i h1 h2
    simp [Value.cells, vByte, Nat.mod_one]
section
variable {P : Program} {n : Nat} {w0 : World} {S : Nat → Prop} {l : Fr} {m : List Ck} {Q : Exit → Act → World → Prop} {K : Act → World → Prop}
  {dst : Option Tmp} {ty : TypeId} {pos : String} {after : Array Edge} {g : Option (Nat × Bool)}
theorem run_append_ownB {w : World} {t ty e : TypeId} {i : TypeInfo} {bytes : Nat} (ht : P.underlying t = some (.slice e)) (hi : P.info? e = some i) (hz : i.zero = some (.int .u8 0)) (hsize : i.size = 1) (hby : i.bytes = bytes) {v : Value} {xs ys : List UInt8} (h : OwnB w e v xs)
    (a : Addr) (c : Nat) (hnews : ∀ j u, (ys.map vByte)[j]? = some u → w.cell? (a.add j) = some u) (h63 : xs.length + ys.length ≤ 9223372036854775807) (hbytes : (xs.length + ys.length) * bytes ≤ 140737488355328) :
    ∃ v' w', (Builtin.append_ #[t, t] ty #[v, .slice (some a) ys.length c]).run P w = .ok v' w' ∧ OwnB w' e v' (xs ++ ys) ∧ w.grownBy w' v.ownBlock ∧ ∀ k, v'.ownBlock = some k → v.ownBlock = some k ∨ w.heap.size ≤ k := by
  subst hby
  have hl : (ys.map vByte).length = ys.length * i.size := by rw [hsize]; simp
  have hlx : (xs.map vByte).length = xs.length * i.size := by rw [hsize]; simp
  rcases h with ⟨rfl, rfl⟩ | ⟨g, sp, rfl, hm, hg⟩
  · by_cases hy : ys = []
    · subst hy
      refine ⟨.slice none 0 0, w, ?_, .inl ⟨rfl, rfl⟩, ⟨rfl, rfl, rfl, Nat.le_refl _, fun _ _ _ => rfl⟩, fun k hk => by cases hk⟩
      simp [Builtin.append_, run_underlying ht, sizeOf, typeInfo, hi, Builtin.lenOf, Builtin.firstCells, loadCells, loadCellsFrom]
    · have h0 : 0 < ys.length := List.length_pos_iff.2 hy
      have hr := run_append_nil (P := P) w t ty e i _ ht hi hz a ys.length c _ hl hnews h0 (by simp at h63; omega) (by simp at hbytes; omega)
      have hge := grownCap_ge w ys.length 0 e
      have hcm : grownCap w ys.length 0 e ≤ maxLen := grownCap_le_maxLen w ys.length 0 e (by unfold maxLen; simp at h63; omega)
      refine ⟨_, _, hr, .inr ⟨w.heap.size, List.replicate (grownCap w ys.length 0 e - ys.length) 0, ?_, ?_, ?_⟩, ⟨rfl, rfl, rfl, by simp, fun k hk _ => heap_alloc_old w.drew _ hk⟩, fun k hk => ?_⟩
      · simp; omega
      · unfold maxLen at hcm; simp; omega
      · rw [zeroB, show ((ys.map vByte).toArray ++ ((List.replicate (grownCap w ys.length 0 e - ys.length) (0 : UInt8)).map vByte).toArray) = (([] ++ ys ++ List.replicate (grownCap w ys.length 0 e - ys.length) (0 : UInt8)).map vByte).toArray by apply Array.ext'; simp]
        exact heap_alloc_new w.drew _
      · simp [Value.ownBlock] at hk
        exact .inr (by omega)
  · by_cases hroom : xs.length + ys.length ≤ xs.length + sp.length
    · have hr := run_append_room (P := P) w t ty e i ht hi g xs.length (xs.length + sp.length) _ hg a ys.length c _ hl hnews (fun u hu => vByte_one ys u hu) hroom (by rw [hsize]; simp; omega)
      refine ⟨_, _, hr, .inr ⟨g, sp.drop ys.length, ?_, ?_, ?_⟩, ⟨rfl, rfl, rfl, by simp, fun k _ hk => setRow_other w g k _ (fun e => hk (by simp [Value.ownBlock, e]))⟩, fun k hk => .inl hk⟩
      · simp; omega
      · simp; omega
      · have := setRow_heap w g _ (((xs ++ sp).map vByte).toArray.toList.take (xs.length * i.size) ++ ys.map vByte ++ ((xs ++ sp).map vByte).toArray.toList.drop (xs.length * i.size + (ys.map vByte).length)).toArray e _ hg
        rw [this]
        congr 3
        rw [hsize]
        simp [List.map_append, List.take_append, List.drop_append]
    · have holds : ∀ j u, (xs.map vByte)[j]? = some u → w.cell? ((⟨g, 0, none⟩ : Addr).add j) = some u := fun j u hu => by
        rw [addr_mid, cell_of_row _ _ _ _ _ _ hg]
        simp only [List.getElem?_toArray, List.map_append]
        rw [Nat.zero_add, List.getElem?_append_left (List.getElem?_eq_some_iff.1 hu).1]
        exact hu
      have hr := run_append_grow (P := P) w t ty e i _ ht hi hz ⟨g, 0, none⟩ xs.length (xs.length + sp.length) _ hlx holds a ys.length c _ hl hnews (by omega) (by omega) (growslice_fits (by omega) hbytes)
      have hge := grownCap_ge w (xs.length + ys.length) (xs.length + sp.length) e
      have hcm : grownCap w (xs.length + ys.length) (xs.length + sp.length) e ≤ maxLen := grownCap_le_maxLen w _ _ e (by unfold maxLen; omega)
      generalize hcap : grownCap w (xs.length + ys.length) (xs.length + sp.length) e = cp at hr hge hcm
      refine ⟨_, _, hr, .inr ⟨w.heap.size, List.replicate (cp - (xs.length + ys.length)) 0, ?_, ?_, ?_⟩, ⟨rfl, rfl, rfl, by simp, fun k hk _ => heap_alloc_old w.drew _ hk⟩, fun k hk => ?_⟩
      · simp; omega
      · unfold maxLen at hcm; simp; omega
      · rw [zeroB, show ((xs.map vByte).toArray ++ (ys.map vByte).toArray ++ ((List.replicate (cp - (xs.length + ys.length)) (0 : UInt8)).map vByte).toArray) = ((xs ++ ys ++ List.replicate (cp - (xs.length + ys.length)) (0 : UInt8)).map vByte).toArray by apply Array.ext'; simp]
        exact heap_alloc_new w.drew _
      · simp [Value.ownBlock] at hk
        exact .inr (by omega)
theorem OwnB.lt {w : World} {e : TypeId} {v : Value} {xs : List UInt8} (h : OwnB w e v xs) {b : Nat} (hb : v.ownBlock = some b) : b < w.heap.size := by
  rcases h with ⟨rfl, rfl⟩ | ⟨g, sp, rfl, hm, hg⟩
  · cases hb
  · simp [Value.ownBlock] at hb
    subst hb
    exact (Array.getElem?_eq_some_iff.1 hg).1
theorem hp_appendB {w w' : World} {e : TypeId} {v v' : Value} {xs ys : List UInt8} {r : List Ck} (hw : Hp w0 S w (ownB e v xs :: r)) (ho : OwnB w' e v' ys) (hg : w.grownBy w' v.ownBlock) (hk : ∀ k, v'.ownBlock = some k → v.ownBlock = some k ∨ w.heap.size ≤ k) :
    Hp w0 S w' (ownB e v' ys :: r) := by
  refine Hp.turn (p := [ownB e v xs]) (p' := [ownB e v' ys]) hw ⟨(Chg.of_grown hg).mono fun b hb => ⟨_, List.mem_cons_self .., hb⟩, fun c hc => ?_, fun c hc b hb => ?_, by simp⟩
  · obtain rfl : c = _ := by simpa using hc
    exact ho
  · obtain rfl : c = _ := by simpa using hc
    refine ⟨?_, ho.lt hb⟩
    rcases hk b hb with h | h
    · exact .inl ⟨_, List.mem_cons_self .., h⟩
    · exact .inr h
theorem G.ownBNil (e : TypeId) (h : G n w0 S l (ownB e (.slice none 0 0) [] :: m) K) : G n w0 S l m K := G.mem (fun w hw => by
  refine hw.adds (m' := [ownB e (.slice none 0 0) []]) ⟨Chg.refl _ _, fun c hc => ?_, fun c hc b hb => ?_, by simp⟩
  · obtain rfl : c = _ := by simpa using hc
    exact .inl ⟨rfl, rfl⟩
  · obtain rfl : c = _ := by simpa using hc
    cases hb) h
/-- the spare room is forgotten -/
theorem hp_view {c d : Ck} {r : List Ck} {w : World} (hw : Hp w0 S w (c :: r)) (hφ : c.φ w → d.φ w) (hS : ∀ b, d.S b → c.S b) : Hp w0 S w (d :: r) := by
  refine ⟨hw.chg, fun x hx => ?_, fun x hx b hb => ?_, List.pairwise_cons.2 ⟨fun x hx b h1 h2 => (List.pairwise_cons.1 hw.dis).1 x hx b (hS b h1) h2, (List.pairwise_cons.1 hw.dis).2⟩⟩
  · rcases List.mem_cons.1 hx with rfl | hx
    · exact hφ (hw.holds _ (List.mem_cons_self ..))
    · exact hw.holds x (List.mem_cons_of_mem _ hx)
  · rcases List.mem_cons.1 hx with rfl | hx
    · exact hw.own _ (List.mem_cons_self ..) b (hS b hb)
    · exact hw.own x (List.mem_cons_of_mem _ hx) b hb
theorem G.ownBOwn {e : TypeId} {v : Value} {xs : List UInt8} {r : List Ck} (hs : Sel m (ownB e v xs) r) (h : G n w0 S l (own e 1 v xs.length (xs.map vByte) :: r) K) : G n w0 S l m K := G.mem (fun w hw => hp_view (c := ownB e v xs) (d := own e 1 v xs.length (xs.map vByte)) (hw.sel hs) OwnB.own fun b hb => hb) h
theorem may_ownB {e : TypeId} {v : Value} {xs : List UInt8} {r : List Ck} (h : Sel m (ownB e v xs) r) : May w0 S m (slc rByte (fun b => v.ownBlock = some b) v xs) :=
  .view h.mem (fun w hw => own_isSl' (OwnB.own hw) rfl fun _ _ => trivial) fun b h => h
/-- bytes of the call's own, grown by whatever slice reads so -/
theorem G.appendB {Ps : Nat → Prop} {t e d bytes : Nat} {s x : Operand} {v u : Value} {xs ys : List UInt8} {r : List Ck} (hn : Nat.blt d n = true) (hu : P.underlying t = some (.slice e)) (hi : (P.info? e).map (fun i => (i.zero, i.size, i.bytes)) = some (some (.int .u8 0), 1, bytes))
    (hs : ev l s = some v) (hx : ev l x = some u) (hsel : Sel m (ownB e v xs) r) (hsl : ∀ w, Hp w0 S w m → IsSl rByte Ps w u ys) (hbig : (xs.length + ys.length) * bytes ≤ 140737488355328) (h63 : xs.length + ys.length ≤ 9223372036854775807)
    (h : ∀ v', G n w0 S ((d, v') :: l) (ownB e v' (xs ++ ys) :: r) K) : G n w0 S l m (fun a w => Oper.wp P ⟨some d, .call ⟨.builtin .append, #[s, x], #[t, t]⟩, ty, pos, after, g⟩ a w K Q) := G.eff rfl hn fun a w ha hw => by
  obtain ⟨i, hi1, hi2⟩ := Option.map_eq_some_iff.1 hi
  have hz : i.zero = some (.int .u8 0) := congrArg Prod.fst hi2
  have hi4 : i.size = 1 := congrArg (fun p => p.2.1) hi2
  have hi5 : i.bytes = bytes := congrArg (fun p => p.2.2) hi2
  have hw' := hw.sel hsel
  have hown : OwnB w e v xs := hw'.holds _ (List.mem_cons_self ..)
  obtain ⟨ad, cap, b, off, rfl, hsv⟩ := hsl w hw
  have run : ∀ v' w', (Builtin.append_ #[t, t] ty #[v, .slice ad ys.length cap]).run P w = .ok v' w' → (execOp a.eval ⟨some d, .call ⟨.builtin .append, #[s, x], #[t, t]⟩, ty, pos, after, g⟩).run P w = .ok (.value v') w' := fun v' w' hr => by
    simp only [execOp, resolve, invoke, builtin, Sem.run_bind, Sem.run_pure, Result.andThen_ok, List.map_toArray, List.map_cons, List.map_nil, ha.eval hs, ha.eval hx, hr]
  cases ad with
  | none =>
    have hj : ys.length = 0 := by
      rcases Nat.eq_zero_or_pos ys.length with h | h
      · exact h
      · cases hsv.had h
    have hnw : ys = [] := List.eq_nil_of_length_eq_zero hj
    subst hnw
    have := hsv.hnil rfl
    subst this
    have hr := run_append_owned_none (P := P) w 0 t ty e i 1 hu hi1 v _ _ hown.own
    refine ⟨_, _, _, run _ _ hr, hw', ?_⟩
    have := h v
    simpa using this
  | some ad =>
    obtain ⟨v', w', hr, h2, h3, h4⟩ := run_append_ownB (P := P) (w := w) (t := t) (ty := ty) (ys := ys) hu hi1 hz hi4 hi5 hown ad cap (fun j u hj => by
      rw [List.getElem?_map] at hj
      obtain ⟨z, hzz, rfl⟩ := Option.map_eq_some_iff.1 hj
      obtain ⟨hlt, rfl⟩ := List.getElem?_eq_some_iff.1 hzz
      have e1 := Option.some.inj (hsv.had (by omega))
      rw [e1, addr_mid]
      have := (hsv.cell j hlt).2.1
      rwa [show off + j * rByte.sz = off + j from by show off + j * 1 = _; omega] at this) h63 hbig
    exact ⟨_, _, _, run _ _ hr, hp_appendB hw' h2 h3 h4, h v'⟩
/-- .. opened: nil, or a block -/
theorem G.ownBOpen {e : TypeId} {v : Value} {xs : List UInt8} {r : List Ck} (hs : Sel m (ownB e v xs) r) (h0 : v = .slice none 0 0 → xs = [] → G n w0 S l r K)
    (h1 : ∀ (b : Nat) (sp : List UInt8), v = .slice (some ⟨b, 0, none⟩) xs.length (xs.length + sp.length) → xs.length + sp.length ≤ 9223372036854775807 → G n w0 S l (blk b e ((xs ++ sp).map vByte) :: r) K) : G n w0 S l m K := fun a w ha hw => by
  have hw' := hw.sel hs
  rcases hw'.holds _ (List.mem_cons_self ..) with ⟨hv, hx⟩ | ⟨b, sp, hv, hm, hg⟩
  · exact h0 hv hx a w ha hw'.tail
  · refine h1 b sp hv hm a w ha (hp_view hw' (fun _ => hg) fun k hk => ?_)
    obtain rfl : k = b := hk
    rw [hv]
    rfl
end
end Go.Proofs.Ytchgaedidfefoaa

/- A walk by chunks: what stays is kept by itself; scopes, labels; ranges of a block; calls whose memory is found first. Conditions: none. -/
set_option linter.unusedVariables false
set_option linter.unusedSimpArgs false
namespace Go.Proofs.Ytchgaedidfefoaa
open Go.RowKit

section
variable {P : Program} {n : Nat} {w0 : World} {S : Nat → Prop} {l : Fr} {m : List Ck} {Q : Exit → Act → World → Prop} {K : Act → World → Prop}
  {dst : Option Tmp} {ty : TypeId} {pos : String} {after : Array Edge} {g : Option (Nat × Bool)}
theorem G.scope {c : Code} (h : G n w0 S l m (c.wp P (Exit.noGoto Q))) : G n w0 S l m ((Code.scope c).wp P Q) := fun a w ha hw => wp_scope_straight (h a w ha hw)
theorem G.label {k : Nat} (h : G n w0 S l m (Q .normal)) : G n w0 S l m ((Code.label k).wp P Q) := fun a w ha hw => wp_label (h a w ha hw)
theorem G.nScope (h : G n w0 S l m (Q .normal)) : G n w0 S l m (Exit.noGoto Q .normal) := h
theorem G.rScope (h : G n w0 S l m (Q .ret)) : G n w0 S l m (Exit.noGoto Q .ret) := h
theorem G.eScope {id : Nat} (h : G n w0 S l m (Q (.exit id))) : G n w0 S l m (Exit.noGoto Q (.exit id)) := h
theorem G.pScope {c : List PanicEntry} (h : G n w0 S l m (Q (.panic c))) : G n w0 S l m (Exit.noGoto Q (.panic c)) := h
/-- slots that are kept -/
inductive Kp (l : Fr) : List Nat → Fr → Prop
  | nil : Kp l [] []
  | cons {t : Nat} {v : Value} {ts : List Nat} {l' : Fr} (h : Fr.get l t = some v) (r : Kp l ts l') : Kp l (t :: ts) ((t, v) :: l')
theorem Kp.fw {ts : List Nat} {l' : Fr} (h : Kp l ts l') : Fw l l' := by
  induction h with
  | nil => exact .nil
  | cons h _ ih => exact .cons h ih
/-- one list behind another, told -/
inductive Ap {X α : Type} : (X → List α) → List α → (X → List α) → Prop
  | nil {b : List α} : Ap (fun _ => []) b (fun _ => b)
  | cons {f : X → α} {a c : X → List α} {b : List α} (h : Ap a b c) : Ap (fun x => f x :: a x) b (fun x => f x :: c x)
theorem Ap.eq {X α : Type} {a c : X → List α} {b : List α} (h : Ap a b c) (x : X) : a x ++ b = c x := by
  induction h with
  | nil => rfl
  | cons _ ih => rw [List.cons_append, ih]
theorem Fw.app {a b : Fr} (h : Fw l a) (k : Fw l b) : Fw l (a ++ b) := by
  induction h with
  | nil => exact k
  | cons h _ ih => exact .cons h ih
theorem Sub.all : ∀ m : List Ck, Sub m m []
  | [] => .nil
  | _ :: m => .cons .here (Sub.all m)
theorem Sub.app {p q r s : List Ck} (h : Sub m p r) (k : Sub r q s) : Sub m (p ++ q) s := by
  induction h with
  | nil => exact k
  | cons h _ ih => exact .cons h (ih k)
theorem G.loopK {X : Type} (J : X → Prop) (A : X → Fr) (B : X → List Ck) (μ : X → Nat) {c : Code} {x0 : X} {r : List Ck} {ts : List Nat} {l1 : Fr} {L : X → Fr} {M : X → List Ck} (hk : Kp l ts l1) (hm : Sub m (B x0) r) (hL : Ap A l1 L) (hM : Ap B r M) (h0 : J x0) (hl : Fw l (A x0))
    (round : ∀ x, J x → G n w0 S (L x) (M x) (c.wp P (Exit.then (fun a w => ∃ y, J y ∧ μ y < μ x ∧ At a n (L y) ∧ Hp w0 S w (M y)) Q))) : G n w0 S l m ((Code.loop c).wp P Q) :=
  G.loop (r := []) J L M μ h0 (by rw [← hL.eq x0]; exact hl.app hk.fw) (by rw [← hM.eq x0]; exact hm.app (Sub.all r)) round
theorem G.cutK {X : Type} (J : X → Prop) (A : X → Fr) (B : X → List Ck) {c : Code} {p r : List Ck} {ts : List Nat} {l1 : Fr} {L : X → Fr} {M : X → List Ck} (hk : Kp l ts l1) (hm : Sub m p r) (hL : Ap A l1 L) (hM : Ap B r M)
    (first : G n w0 S l m (c.wp P (Exit.then (fun a w => ∃ x, J x ∧ At a n (L x) ∧ Hp w0 S w (M x)) Q))) (rest : ∀ x, J x → G n w0 S (L x) (M x) K) : G n w0 S l m (c.wp P (Exit.then K Q)) := G.cut J L M first rest
/-- a call, its memory found first -/
theorem G.cS {X : Type} {J : X → Prop} {V : X → Value} {M M' : X → List Ck} {o : Oper} {d : Nat} {f : FuncId} {xs : List Operand} {ts : Array TypeId} {vs : List Value} {ro pre r : List Ck} (hd : o.dst = some d) (hn : Nat.blt d n = true)
    (ho : o.op = .call { callee := .value (.func f), args := xs.toArray, argTypes := ts }) (hx : evs l xs = some vs) {fn : Func} {c : Code} (hf : P.funcs[f]? = some fn) (hb : fn.body = some c) (hnm : (fn.name == "runtime.NumGoroutine") = false)
    (hm : Sub m pre r) (hro : ∀ c ∈ ro, May w0 S r c) (ht : Tr P f vs.toArray ro pre (TX J V M)) (hM : Ap M r M') (h : ∀ x, J x → G n w0 S ((d, V x) :: l) (M' x) K) : G n w0 S l m (fun a w => o.wp P a w K Q) :=
  G.cN hd hn ho hx hf hb hnm ht hm hro fun x hJ => by rw [hM.eq x]; exact h x hJ
/-- .. that only reads -/
theorem G.cR {o : Oper} {d : Nat} {f : FuncId} {xs : List Operand} {ts : Array TypeId} {vs : List Value} {ro : List Ck} {v : Value} (hd : o.dst = some d) (hn : Nat.blt d n = true)
    (ho : o.op = .call { callee := .value (.func f), args := xs.toArray, argTypes := ts }) (hx : evs l xs = some vs) {fn : Func} {c : Code} (hf : P.funcs[f]? = some fn) (hb : fn.body = some c) (hnm : (fn.name == "runtime.NumGoroutine") = false)
    (hro : ∀ c ∈ ro, May w0 S m c) (ht : Tr P f vs.toArray ro [] (T0 v)) (h : G n w0 S ((d, v) :: l) m K) : G n w0 S l m (fun a w => o.wp P a w K Q) :=
  G.call0 hd hn ho hx hf hb hnm ht hro h

section
variable {X : Type} {J : X → Prop} {V : X → Value} {M : X → List Ck} {fn : Func} {pre r : List Ck} {t u s : Nat} {v y z : Value}
theorem G.doneX0 (x : X) (hJ : J x) (hr : fn.results = #[]) (hv : .tuple #[] = V x) (hs : Sub m (M x) r) : G n w0 (U pre) l m (bodyPost P fn (TrR w0 pre (TX J V M)) .ret) := G.done0 hr hs ⟨x, hJ, hv, rfl⟩
theorem G.doneXE (x : X) (hJ : J x) (hr : fn.results = #[]) (hv : .tuple #[] = V x) (hs : Sub m (M x) r) : G n w0 (U pre) l m (bodyPost P fn (TrR w0 pre (TX J V M)) .normal) := G.doneE hr hs ⟨x, hJ, hv, rfl⟩
theorem G.doneX1 (x : X) (hJ : J x) (hr : fn.results = #[.tmp t]) (ht : Fr.get l t = some v) (hv : v = V x) (hs : Sub m (M x) r) : G n w0 (U pre) l m (bodyPost P fn (TrR w0 pre (TX J V M)) .ret) := G.done1 hr ht hs ⟨x, hJ, hv, rfl⟩
theorem G.doneX2 (x : X) (hJ : J x) (hr : fn.results = #[.tmp t, .tmp u]) (ht : Fr.get l t = some v) (hu : Fr.get l u = some y) (hv : .tuple #[v, y] = V x) (hs : Sub m (M x) r) : G n w0 (U pre) l m (bodyPost P fn (TrR w0 pre (TX J V M)) .ret) := G.done2 hr ht hu hs ⟨x, hJ, hv, rfl⟩
theorem G.doneX3 (x : X) (hJ : J x) (hr : fn.results = #[.tmp t, .tmp u, .tmp s]) (ht : Fr.get l t = some v) (hu : Fr.get l u = some y) (hz : Fr.get l s = some z) (hv : .tuple #[v, y, z] = V x) (hs : Sub m (M x) r) : G n w0 (U pre) l m (bodyPost P fn (TrR w0 pre (TX J V M)) .ret) := G.done3 hr ht hu hz hs ⟨x, hJ, hv, rfl⟩
/-- results in cells: two structs -/
theorem G.retC2 {R : Ending → World → Prop} {t u T U' : Nat} {b o b' o' : Nat} {cs ds : List Value} {d d' : TypeDesc} (hr : fn.results = #[.cell t T, .cell u U']) (ht : Fr.get l t = some (.pointer (some ⟨b, o, none⟩))) (hu : Fr.get l u = some (.pointer (some ⟨b', o', none⟩)))
    (h1 : P.underlying T = some d) (h2 : d.isRow = true) (h3 : (P.info? T).map (·.size) = some cs.length) (h4 : ∀ w, Hp w0 S w m → w.rangeAt b o cs) (k1 : P.underlying U' = some d') (k2 : d'.isRow = true) (k3 : (P.info? U').map (·.size) = some ds.length) (k4 : ∀ w, Hp w0 S w m → w.rangeAt b' o' ds)
    (h : ∀ w, Hp w0 S w m → R (.returned (.tuple #[.agg cs.toArray, .agg ds.toArray])) w) : G n w0 S l m (bodyPost P fn R .ret) := G.retBy (fun a w ha hw => by
  have e1 := ha.get _ _ ht
  have e2 := ha.get _ _ hu
  have r1 : (loadVar T ⟨b, o, none⟩).run P w = .ok (.agg cs.toArray) w := by
    have := run_loadAt_mid w b o T cs d (h4 w hw) h1 h2 h3
    simpa [Instr.loadAt, Instr.sureAddr, Sem.run_bind, Sem.run_pure, Result.andThen] using this
  have r2 : (loadVar U' ⟨b', o', none⟩).run P w = .ok (.agg ds.toArray) w := by
    have := run_loadAt_mid w b' o' U' ds d' (k4 w hw) k1 k2 k3
    simpa [Instr.loadAt, Instr.sureAddr, Sem.run_bind, Sem.run_pure, Result.andThen] using this
  simp only [results, hr]
  simp [Sem.run_bind, e1, e2, asAddr, r1, r2, Result.andThen, Sem.run_pure]) h
theorem G.retTC {R : Ending → World → Prop} {t u U' : Nat} {b' o' : Nat} {x : Value} {ds : List Value} {d' : TypeDesc} (hr : fn.results = #[.tmp t, .cell u U']) (ht : Fr.get l t = some x) (hu : Fr.get l u = some (.pointer (some ⟨b', o', none⟩)))
    (k1 : P.underlying U' = some d') (k2 : d'.isRow = true) (k3 : (P.info? U').map (·.size) = some ds.length) (k4 : ∀ w, Hp w0 S w m → w.rangeAt b' o' ds)
    (h : ∀ w, Hp w0 S w m → R (.returned (.tuple #[x, .agg ds.toArray])) w) : G n w0 S l m (bodyPost P fn R .ret) := G.retBy (fun a w ha hw => by
  have e1 := ha.get _ _ ht
  have e2 := ha.get _ _ hu
  have r2 : (loadVar U' ⟨b', o', none⟩).run P w = .ok (.agg ds.toArray) w := by
    have := run_loadAt_mid w b' o' U' ds d' (k4 w hw) k1 k2 k3
    simpa [Instr.loadAt, Instr.sureAddr, Sem.run_bind, Sem.run_pure, Result.andThen] using this
  simp only [results, hr]
  simp [Sem.run_bind, e1, e2, asAddr, r2, Result.andThen, Sem.run_pure]) h
theorem G.doneXC2 {t u T U' : Nat} {b o b' o' : Nat} {cs ds : List Value} {d d' : TypeDesc} (x : X) (hJ : J x) (hr : fn.results = #[.cell t T, .cell u U']) (ht : Fr.get l t = some (.pointer (some ⟨b, o, none⟩))) (hu : Fr.get l u = some (.pointer (some ⟨b', o', none⟩)))
    (h1 : P.underlying T = some d) (h2 : d.isRow = true) (h3 : (P.info? T).map (·.size) = some cs.length) (h4 : ∀ w, Hp w0 (U pre) w m → w.rangeAt b o cs) (k1 : P.underlying U' = some d') (k2 : d'.isRow = true) (k3 : (P.info? U').map (·.size) = some ds.length) (k4 : ∀ w, Hp w0 (U pre) w m → w.rangeAt b' o' ds)
    (hv : .tuple #[.agg cs.toArray, .agg ds.toArray] = V x) (hs : Sub m (M x) r) : G n w0 (U pre) l m (bodyPost P fn (TrR w0 pre (TX J V M)) .ret) :=
  G.retC2 hr ht hu h1 h2 h3 h4 k1 k2 k3 k4 fun w hw => ⟨_, _, rfl, ⟨x, hJ, hv, rfl⟩, (hw.perm hs.perm).sub (List.sublist_append_left _ _)⟩
theorem G.doneXTC {t u U' : Nat} {b' o' : Nat} {y : Value} {ds : List Value} {d' : TypeDesc} (x : X) (hJ : J x) (hr : fn.results = #[.tmp t, .cell u U']) (ht : Fr.get l t = some y) (hu : Fr.get l u = some (.pointer (some ⟨b', o', none⟩)))
    (k1 : P.underlying U' = some d') (k2 : d'.isRow = true) (k3 : (P.info? U').map (·.size) = some ds.length) (k4 : ∀ w, Hp w0 (U pre) w m → w.rangeAt b' o' ds)
    (hv : .tuple #[y, .agg ds.toArray] = V x) (hs : Sub m (M x) r) : G n w0 (U pre) l m (bodyPost P fn (TrR w0 pre (TX J V M)) .ret) :=
  G.retTC hr ht hu k1 k2 k3 k4 fun w hw => ⟨_, _, rfl, ⟨x, hJ, hv, rfl⟩, (hw.perm hs.perm).sub (List.sublist_append_left _ _)⟩
theorem G.doneXCN {t T b o : Nat} {cs : List Value} {d : TypeDesc} (x : X) (hJ : J x) (hr : fn.results = #[.cell t T]) (ht : Fr.get l t = some (.pointer (some ⟨b, o, none⟩))) (hu : P.underlying T = some d) (hd : d.isRow = true) (hi : (P.info? T).map (·.size) = some cs.length) (hc : ∀ w, Hp w0 (U pre) w m → w.rangeAt b o cs)
    (hv : .agg cs.toArray = V x) (hs : Sub m (M x) r) : G n w0 (U pre) l m (bodyPost P fn (TrR w0 pre (TX J V M)) .ret) := G.doneCN hr ht hu hd hi hc hs ⟨x, hJ, hv, rfl⟩
end
/-- a part of a block -/
def rng (b o : Nat) (cs : List Value) : Ck := ⟨(· = b), fun w => w.rangeAt b o cs, fun w w' h hw j v hj => (World.cell?_of_block (h b rfl)).trans (hw j v hj)⟩
theorem rng_cell {b o j : Nat} {cs : List Value} {r : List Ck} {v : Value} (h : Sel m (rng b o cs) r) (hv : cs[j]? = some v) : ∀ w, Hp w0 S w m → w.cell? ⟨b, o + j, none⟩ = some v := fun w hw => by
  have : w.rangeAt b o cs := hw.holds _ h.mem
  exact this j v hv
theorem ro_rngC {b o j : Nat} {cs : List Value} {v : Value} (h : Ro w0 S (rng b o cs)) (hv : cs[j]? = some v) : ∀ w, Hp w0 S w m → w.cell? ⟨b, o + j, none⟩ = some v := fun w hw => by
  have : w.rangeAt b o cs := h.at hw
  exact this j v hv
theorem rangeAt_sub {w : World} {b o j k : Nat} {cs xs : List Value} (h : w.rangeAt b o cs) (hv : (cs.drop j).take k = xs) : w.rangeAt b (o + j) xs := fun i v hi => by
  rw [← hv, List.getElem?_take] at hi
  split at hi
  · rw [List.getElem?_drop] at hi
    have := h _ v hi
    rwa [← Nat.add_assoc] at this
  · cases hi
theorem rng_range {b o j k : Nat} {cs xs : List Value} {r : List Ck} (h : Sel m (rng b o cs) r) (hv : (cs.drop j).take k = xs) : ∀ w, Hp w0 S w m → w.rangeAt b (o + j) xs := fun w hw => rangeAt_sub (hw.holds _ h.mem : w.rangeAt b o cs) hv
theorem ro_rngR {b o j k : Nat} {cs xs : List Value} (h : Ro w0 S (rng b o cs)) (hv : (cs.drop j).take k = xs) : ∀ w, Hp w0 S w m → w.rangeAt b (o + j) xs := fun w hw => rangeAt_sub (h.at hw : w.rangeAt b o cs) hv
/-- a chunk seen as another one -/
theorem G.see {c d : Ck} {r : List Ck} (hs : Sel m c r) (hφ : ∀ w, c.φ w → d.φ w) (hS : ∀ b, d.S b → c.S b) (h : G n w0 S l (d :: r) K) : G n w0 S l m K := G.mem (fun w hw => hp_view (c := c) (d := d) (hw.sel hs) (hφ w) hS) h
theorem blk_rngAt {w : World} {b o k : Nat} {T : TypeId} {cs xs : List Value} (h : (blk b T cs).φ w) (hv : (cs.drop o).take k = xs) : w.rangeAt b o xs := fun j v hj => by
  have h : w.heap[b]? = some (.cells cs.toArray T (0, 0)) := h
  rw [cell_of_row _ _ _ _ _ _ h, List.getElem?_toArray]
  rw [← hv, List.getElem?_take] at hj
  split at hj
  · rwa [List.getElem?_drop] at hj
  · cases hj
theorem G.blkRng {b o k : Nat} {T : TypeId} {cs xs : List Value} {r : List Ck} (hs : Sel m (blk b T cs) r) (hv : (cs.drop o).take k = xs) (h : G n w0 S l (rng b o xs :: r) K) : G n w0 S l m K := G.see (d := rng b o xs) hs (fun w hw => blk_rngAt hw hv) (fun b hb => hb) h
/-! structs that are built -/
inductive St : List Value → Nat → Value → List Value → Prop
  | zero {x v : Value} {cs : List Value} : St (x :: cs) 0 v (v :: cs)
  | succ {x v : Value} {cs cs' : List Value} {o : Nat} (h : St cs o v cs') : St (x :: cs) (o + 1) v (x :: cs')
theorem St.eq {cs cs' : List Value} {o : Nat} {v : Value} (h : St cs o v cs') : cs.set o v = cs' ∧ o < cs.length := by
  induction h with
  | zero => exact ⟨rfl, by simp⟩
  | succ _ ih => exact ⟨by rw [List.set_cons_succ, ih.1], by have := ih.2; simp; omega⟩
inductive Sn : List Value → Nat → List Value → List Value → Prop
  | nil {cs : List Value} {o : Nat} : Sn cs o [] cs
  | cons {cs c1 c2 vs : List Value} {o : Nat} {v : Value} (h : St cs o v c1) (r : Sn c1 (o + 1) vs c2) : Sn cs o (v :: vs) c2
theorem Sn.len {cs cs' vs : List Value} {o : Nat} (h : Sn cs o vs cs') : cs'.length = cs.length ∧ (vs = [] ∨ o + vs.length ≤ cs.length) := by
  induction h with
  | nil => exact ⟨rfl, .inl rfl⟩
  | cons h _ ih =>
    have e := h.eq
    have l1 : _ = _ := congrArg List.length e.1
    rw [List.length_set] at l1
    refine ⟨by omega, .inr ?_⟩
    rcases ih.2 with rfl | h2
    · simp; omega
    · simp; omega
theorem Sn.fold {cs cs' vs : List Value} {o : Nat} (h : Sn cs o vs cs') : ∀ off k : Nat, o = off + k → (vs.zipIdx k).foldl (fun (a : Array Value) (x : Value × Nat) => a.setIfInBounds (off + x.2) x.1) cs.toArray = cs'.toArray := by
  induction h with
  | nil => intro off k _; rfl
  | cons h _ ih =>
    intro off k e
    rw [List.zipIdx_cons, List.foldl_cons]
    simp only
    rw [← e, List.setIfInBounds_toArray, h.eq.1]
    exact ih off (k + 1) (by omega)
/-- parts laid over the noughts -/
inductive Fl (pl : List (Nat × Nat)) : List Value → List (Nat × Value) → List Value → Prop
  | nil {cs : List Value} : Fl pl cs [] cs
  | cons {cs c1 c2 xs : List Value} {i o sz : Nat} {v : Value} {ps : List (Nat × Value)} (h : pl[i]? = some (o, sz)) (hx : v.cells = xs.toArray) (hl : xs.length = sz) (hp : Nat.blt 0 sz = true) (hs : Sn cs o xs c1) (r : Fl pl c1 ps c2) : Fl pl cs ((i, v) :: ps) c2
theorem Fl.fill {pl : List (Nat × Nat)} {cs cs' : List Value} {ps : List (Nat × Value)} (h : Fl pl cs ps cs') : Instr.fill (pl.toArray[·]?) cs.toArray ps = some cs'.toArray := by
  induction h with
  | nil => rfl
  | cons h hx hl hp hs _ ih =>
    rename_i cs0 c1 c2 xs i o sz v ps hr
    unfold Instr.fill
    simp only [List.getElem?_toArray, h, hx]
    have hp' : 0 < sz := by simpa using hp
    have hb := hs.len.2
    rw [if_neg]
    · have := hs.fold o 0 (by omega)
      have e2 : xs.toArray.zipIdx.foldl (fun (a : Array Value) (x : Value × Nat) => a.setIfInBounds (o + x.2) x.1) cs0.toArray = c1.toArray := by
        rw [← this, ← Array.foldl_toList]
        congr 1
        simp
      rw [e2]
      have := ih
      simp only [List.getElem?_toArray] at this
      exact this
    · intro hc
      simp at hc
      rcases hc with hc | hc
      · exact hc hl
      · rcases hb with rfl | hb
        · simp at hl; omega
        · omega
theorem pv_buildSt {t : TypeId} {xs : List (Nat × Operand)} {ps : List (Nat × Value)} {fs : Array Field} {z cs : List Value} {pl : List (Nat × Nat)} (hu : P.underlying t = some (.struct fs)) (hz : ((P.info? t).bind (·.zero)).map (·.cells) = some z.toArray) (hpl : fs.toList.mapM (fun f => (P.info? f.type).map fun i => (f.offset, i.size)) = some pl) (hp : pevs l xs = some ps) (hf : Fl pl z ps cs) :
    PV P n w0 S l m ⟨dst, .build t xs.toArray, ty, pos, after, g⟩ (.agg cs.toArray) :=
  pv_build (fun a ha => ha.pevs hp) (by
    obtain ⟨zv, hz1, hz2⟩ := Option.map_eq_some_iff.1 hz
    obtain ⟨it, hi, hi2⟩ := Option.bind_eq_some_iff.1 hz1
    unfold Program.built
    simp only [hi, hu, hi2, hpl, hz2]
    exact hf.fill)
/-- a value's cells, where it is but one -/
theorem cells_of {v : Value} (h : v.oneCell' = true) : v.cells = [v].toArray := by cases v <;> first | rfl | cases h
/-! results, wherever they lie -/
inductive Rv (P : Program) (w0 : World) (S : Nat → Prop) (l : Fr) (m : List Ck) : List ResultVar → List Value → Prop
  | nil : Rv P w0 S l m [] []
  | tmp {t : Nat} {v : Value} {rs : List ResultVar} {vs : List Value} (h : Fr.get l t = some v) (r : Rv P w0 S l m rs vs) : Rv P w0 S l m (.tmp t :: rs) (v :: vs)
  | cell1 {t T b o : Nat} {v : Value} {d : TypeDesc} {rs : List ResultVar} {vs : List Value} (h : Fr.get l t = some (.pointer (some ⟨b, o, none⟩))) (hu : P.underlying T = some d) (hd : d.isRow = false) (hc : ∀ w, Hp w0 S w m → w.cell? ⟨b, o, none⟩ = some v) (r : Rv P w0 S l m rs vs) : Rv P w0 S l m (.cell t T :: rs) (v :: vs)
  | cellN {t T b o : Nat} {cs : List Value} {d : TypeDesc} {rs : List ResultVar} {vs : List Value} (h : Fr.get l t = some (.pointer (some ⟨b, o, none⟩))) (hu : P.underlying T = some d) (hd : d.isRow = true) (hi : (P.info? T).map (·.size) = some cs.length) (hc : ∀ w, Hp w0 S w m → w.rangeAt b o cs) (r : Rv P w0 S l m rs vs) : Rv P w0 S l m (.cell t T :: rs) (.agg cs.toArray :: vs)
def resOf (ts : Array Value) : ResultVar → Sem Value
  | .tmp t => pure (ts.getD t undef)
  | .cell q t => do loadVar t (← asAddr (ts.getD q undef))
theorem Rv.run {a : Act} {w : World} {rs : List ResultVar} {vs : List Value} (h : Rv P w0 S l m rs vs) (ha : At a n l) (hw : Hp w0 S w m) : (rs.mapM (resOf a.tmps)).run P w = .ok vs w := by
  induction h with
  | nil => simp [Sem.run_pure]
  | tmp h _ ih =>
    have := ha.get _ _ h
    simp [List.mapM_cons, Sem.run_bind, Sem.run_pure, Result.andThen, ih, this, resOf]
  | cell1 h hu hd hc _ ih =>
    rename_i t T b o v d rs vs hrest
    have := ha.get _ _ h
    have h1 : (loadVar T ⟨b, o, none⟩).run P w = .ok v w := by
      simp [loadVar, load, Sem.run_bind, isAgg_false hu hd, Result.andThen, Sem.run_pure, Sem.run, hc w hw]
    simp [List.mapM_cons, Sem.run_bind, Sem.run_pure, Result.andThen, ih, this, asAddr, h1, resOf]
  | cellN h hu hd hi hc _ ih =>
    rename_i t T b o cs d rs vs hrest
    have := ha.get _ _ h
    have h1 : (loadVar T ⟨b, o, none⟩).run P w = .ok (.agg cs.toArray) w := by
      have := run_loadAt_mid w b o T cs d (hc w hw) hu hd hi
      simpa [Instr.loadAt, Instr.sureAddr, Sem.run_bind, Sem.run_pure, Result.andThen] using this
    simp [List.mapM_cons, Sem.run_bind, Sem.run_pure, Result.andThen, ih, this, asAddr, h1, resOf]
def retV : List Value → Value
  | [v] => v
  | vs => .tuple vs.toArray
theorem Rv.results {fn : Func} {a : Act} {w : World} {rs : List ResultVar} {vs : List Value} (h : Rv P w0 S l m rs vs) (hr : fn.results = rs.toArray) (ha : At a n l) (hw : Hp w0 S w m) : (results fn a.tmps).run P w = .ok (retV vs) w := by
  have h1 := h.run ha hw
  have key : ∀ x : Sem (Array Value), x.run P w = .ok vs.toArray w → (x >>= fun vs => pure (if h : vs.size = 1 then vs[0] else .tuple vs)).run P w = .ok (retV vs) w := fun x hx => by
    simp only [Sem.run_bind, hx, Result.andThen, Sem.run_pure]
    congr 1
    match vs with
    | [] => rfl
    | [v] => rfl
    | v :: u :: vs => simp [retV]
  have key2 : ∀ x : Sem (List Value), x.run P w = .ok vs w → (List.toArray <$> x).run P w = .ok vs.toArray w := fun x hx => by
    simp only [Sem.run_map, hx]
    rfl
  unfold Go.results
  refine key _ ?_
  rw [hr, Array.mapM_eq_mapM_toList]
  exact key2 _ h1
theorem G.doneG {X : Type} {J : X → Prop} {V : X → Value} {M : X → List Ck} {fn : Func} {pre r : List Ck} {rs : List ResultVar} {vs : List Value} (x : X) (hJ : J x) (hr : fn.results = rs.toArray) (hv : Rv P w0 (U pre) l m rs vs) (he : retV vs = V x) (hs : Sub m (M x) r) : G n w0 (U pre) l m (bodyPost P fn (TrR w0 pre (TX J V M)) .ret) :=
  G.doneBy (fun a w ha hw => hv.results hr ha hw) hs ⟨x, hJ, he, rfl⟩
theorem G.done0G {fn : Func} {v : Value} {pre : List Ck} {rs : List ResultVar} {vs : List Value} (hr : fn.results = rs.toArray) (hv : Rv P w0 (U pre) l m rs vs) (he : retV vs = v) : G n w0 (U pre) l m (bodyPost P fn (TrR w0 pre (T0 v)) .ret) :=
  G.doneBy (fun a w ha hw => hv.results hr ha hw) .nil ⟨he, rfl⟩
/-- a contract that only reads, where what is read is the call's own -/
theorem Tr.keep {f : FuncId} {args : Array Value} {ro q : List Ck} {v : Value} (h : Tr P f args ro [] (T0 v)) (hq : ∀ c ∈ ro, c ∈ q) : Tr P f args [] q (TX (fun _ : Unit => True) (fun _ => v) fun _ => q) := fun w _ hp => by
  refine (h w (fun c hc => ⟨hp.holds c (hq c hc), fun b hb => ⟨(hp.own c (hq c hc) b hb).2, fun ⟨d, hd, _⟩ => by cases hd⟩⟩) (Hp.perm (m := []) ⟨Chg.refl _ _, by simp, by simp, .nil⟩ (List.Perm.refl _))).mono ?_
  rintro e w' ⟨v', m', rfl, ⟨rfl, rfl⟩, hw'⟩
  refine ⟨_, q, rfl, ⟨(), trivial, rfl, rfl⟩, hp.keep ?_⟩
  have : Chg (fun _ => False) w w' := hw'.chg.mono fun b ⟨d, hd, _⟩ => by cases hd
  exact Chg.below_of_none this
theorem ro4 {a b c d : Ck} (h : ∀ x ∈ [a, b, c, d], Ro w0 S x) : Ro w0 S a ∧ Ro w0 S b ∧ Ro w0 S c ∧ Ro w0 S d := ⟨h a (List.mem_cons_self ..), ro3 fun x hx => h x (List.mem_cons_of_mem _ hx)⟩
theorem ro5 {a b c d e : Ck} (h : ∀ x ∈ [a, b, c, d, e], Ro w0 S x) : Ro w0 S a ∧ Ro w0 S b ∧ Ro w0 S c ∧ Ro w0 S d ∧ Ro w0 S e := ⟨h a (List.mem_cons_self ..), ro4 fun x hx => h x (List.mem_cons_of_mem _ hx)⟩
theorem ro6 {a b c d e f : Ck} (h : ∀ x ∈ [a, b, c, d, e, f], Ro w0 S x) : Ro w0 S a ∧ Ro w0 S b ∧ Ro w0 S c ∧ Ro w0 S d ∧ Ro w0 S e ∧ Ro w0 S f := ⟨h a (List.mem_cons_self ..), ro5 fun x hx => h x (List.mem_cons_of_mem _ hx)⟩
theorem may4 {a b c d : Ck} (h1 : May w0 S m a) (h2 : May w0 S m b) (h3 : May w0 S m c) (h4 : May w0 S m d) : ∀ x ∈ [a, b, c, d], May w0 S m x := fun x hx => by
  rcases List.mem_cons.1 hx with rfl | hx
  · exact h1
  · exact may3 h2 h3 h4 x hx
theorem may5 {a b c d e : Ck} (h1 : May w0 S m a) (h2 : May w0 S m b) (h3 : May w0 S m c) (h4 : May w0 S m d) (h5 : May w0 S m e) : ∀ x ∈ [a, b, c, d, e], May w0 S m x := fun x hx => by
  rcases List.mem_cons.1 hx with rfl | hx
  · exact h1
  · exact may4 h2 h3 h4 h5 x hx
theorem may6 {a b c d e f : Ck} (h1 : May w0 S m a) (h2 : May w0 S m b) (h3 : May w0 S m c) (h4 : May w0 S m d) (h5 : May w0 S m e) (h6 : May w0 S m f) : ∀ x ∈ [a, b, c, d, e, f], May w0 S m x := fun x hx => by
  rcases List.mem_cons.1 hx with rfl | hx
  · exact h1
  · exact may5 h2 h3 h4 h5 h6 x hx
/-- .. all but some -/
theorem G.drawnD {ops : Array Oper} {id k : Nat} {p mS : List Ck} (hm : P.follows .mixedOrders = true) (hk : ops.size = k) (hs : Sub m p mS) (h : G n w0 S l m (wpAnyH P .any ops Q (fun w => Hp w0 S w mS) k (Array.replicate k false))) : G n w0 S l m ((Code.region id ops true).wp P Q) := G.drawn hm hk mS h
theorem all1_nil : ([] : List Value).all (·.oneCell') = true := rfl
theorem all1_cons {v : Value} {vs : List Value} (h : v.oneCell' = true) (r : vs.all (·.oneCell') = true) : (v :: vs).all (·.oneCell') = true := by rw [List.all_cons, h, r]; rfl
/-- a field's address, its place told -/
theorem pv_fieldAddrK {b o i k : Nat} {t : TypeId} {x : Operand} {fs : Array Field} {f : Field} {sz : Nat} (hu : P.underlying t = some (.struct fs)) (hf : fs[i]? = some f) (hsz : (P.info? f.type).map (·.size) = some (sz + 1)) (hx : ev l x = some (.pointer (some ⟨b, o, none⟩))) (hk : f.offset = k) :
    PV P n w0 S l m ⟨dst, .fieldAddr t x i, ty, pos, after, g⟩ (.pointer (some ⟨b, o + k, none⟩)) := by
  have := pv_fieldAddr (P := P) (n := n) (w0 := w0) (S := S) (m := m) (dst := dst) (ty := ty) (pos := pos) (after := after) (g := g) hu hf hsz hx
  rwa [hk] at this
/-- a region in which all that is known stays -/
theorem G.drawnM {ops : Array Oper} {id k : Nat} (hm : P.follows .mixedOrders = true) (hk : ops.size = k) (h : G n w0 S l m (wpAnyH P .any ops Q (fun w => Hp w0 S w m) k (Array.replicate k false))) : G n w0 S l m ((Code.region id ops true).wp P Q) := G.drawn hm hk m h
end
end Go.Proofs.Ytchgaedidfefoaa

/- A walk by chunks: regions that draw their order, by masks. Conditions: none. -/
set_option linter.unusedVariables false
set_option linter.unusedSimpArgs false
namespace Go.Proofs.Ytchgaedidfefoaa
open Go.RowKit

/-- what has not come up yet -/
structure Lst (listed : Array Bool) (rem n : Nat) : Prop where
  size : listed.size = n
  bit : ∀ j, j < n → listed[j]? = some (!rem.testBit j)
  small : rem < 2 ^ n
theorem Lst.start (n : Nat) : Lst (Array.replicate n false) (2 ^ n - 1) n := ⟨by simp, fun j hj => by
  rw [Array.getElem?_replicate, if_pos hj, Nat.testBit_two_pow_sub_one]
  simp [hj], by have := Nat.two_pow_pos n; omega⟩
theorem Lst.take {listed : Array Bool} {rem rem' n i : Nat} (h : Lst listed rem n) (hi : i < n) (hb : rem'.testBit i = false) (hr : rem' ||| 2 ^ i = rem) : Lst (listed.setIfInBounds i true) rem' n := by
  subst hr
  refine ⟨by simp [h.size], fun j hj => ?_, Nat.lt_of_le_of_lt Nat.left_le_or h.small⟩
  by_cases hij : i = j
  · subst hij
    rw [Array.getElem?_setIfInBounds_self_of_lt (by rw [h.size]; exact hi), hb]
    rfl
  · rw [Array.getElem?_setIfInBounds_ne hij, h.bit j hj, Nat.testBit_or, Nat.testBit_two_pow]
    simp [hij]
def maskOf : List Nat → Nat
  | [] => 0
  | k :: ks => Nat.lor (Nat.shiftLeft 1 k) (maskOf ks)
theorem maskOf_and (rem : Nat) : ∀ l : List Nat, (maskOf l &&& rem = 0) ↔ ∀ k ∈ l, rem.testBit k = false
  | [] => by simp [maskOf]
  | k :: l => by
    have ih := maskOf_and rem l
    have e : maskOf (k :: l) = (1 <<< k) ||| maskOf l := rfl
    have h1 : ((1 <<< k) &&& rem = 0) ↔ rem.testBit k = false := by
      rw [Nat.one_shiftLeft]
      constructor
      · intro h
        have := congrArg (fun x => x.testBit k) h
        simpa [Nat.testBit_and, Nat.testBit_two_pow_self] using this
      · intro h
        apply Nat.eq_of_testBit_eq
        intro j
        rw [Nat.testBit_and, Nat.zero_testBit, Nat.testBit_two_pow]
        by_cases hkj : k = j
        · subst hkj; rw [h]; simp
        · simp [hkj]
    rw [e, Nat.and_or_distrib_right, Nat.or_eq_zero_iff, h1, ih]
    simp
def depOf (ops : Array Oper) (o : Oper) : List Nat := (o.after.toList.filter (Region.binds .any)).map (·.on)
def conf (ops : Array Oper) (oi : Oper) (i j : Nat) (oj : Oper) : Bool := !(Nat.beq j i) && !(oj.after.any (fun e => Region.binds .any e && e.on == i) || oi.apart ops oj)
def confs (ops : Array Oper) (oi : Oper) (i : Nat) : Nat → List Oper → List Nat
  | _, [] => []
  | j, oj :: os => bif conf ops oi i j oj then j :: confs ops oi i (j + 1) os else confs ops oi i (j + 1) os
def tabGo (ops : Array Oper) (n : Nat) : Nat → List Oper → List Nat → List Nat → Bool
  | _, [], [], [] => true
  | i, o :: os, d :: ds, f :: fs => Nat.beq (maskOf (depOf ops o)) d && Nat.blt d (2 ^ n) && (Nat.beq (maskOf (confs ops o i 0 ops.toList)) f && tabGo ops n (i + 1) os ds fs)
  | _, _, _, _ => false
/-- a region's tables: what each waits for; what keeps each from being taken first -/
structure Tab (ops : Array Oper) (deps frs : List Nat) (n : Nat) : Prop where
  size : ops.size = n
  sel : Region.noSelect ops = true
  tab : tabGo ops n 0 ops.toList deps frs = true
theorem tabGo_at {ops : Array Oper} {n : Nat} : ∀ {i : Nat} {os : List Oper} {ds fs : List Nat}, tabGo ops n i os ds fs = true → ds.length = os.length ∧ ∀ k o, os[k]? = some o → ∃ d f, ds[k]? = some d ∧ fs[k]? = some f ∧ maskOf (depOf ops o) = d ∧ d < 2 ^ n ∧ maskOf (confs ops o (i + k) 0 ops.toList) = f
  | i, [], [], [], _ => ⟨rfl, fun k o h => by simp at h⟩
  | i, o :: os, d :: ds, f :: fs, h => by
    unfold tabGo at h
    simp only [Bool.and_eq_true] at h
    have ih := tabGo_at h.2.2
    refine ⟨by simp [ih.1], fun k o' hk => ?_⟩
    cases k with
    | zero =>
      obtain rfl : o = o' := by simpa using hk
      exact ⟨d, f, rfl, rfl, Nat.eq_of_beq_eq_true h.1.1, by simpa using h.1.2, Nat.eq_of_beq_eq_true h.2.1⟩
    | succ k =>
      obtain ⟨d', f', h1, h2, h3, h4, h5⟩ := ih.2 k o' (by simpa using hk)
      exact ⟨d', f', by simpa using h1, by simpa using h2, h3, h4, by rw [show i + (k + 1) = i + 1 + k by omega]; exact h5⟩
  | _, [], [], _ :: _, h => by cases h
  | _, [], _ :: _, _, h => by cases h
  | _, _ :: _, [], _, h => by cases h
  | _, _ :: _, _ :: _, [], h => by cases h
theorem mem_confs {ops : Array Oper} {oi : Oper} {i : Nat} (os : List Oper) : ∀ (j0 k : Nat) (oj : Oper), os[k]? = some oj → conf ops oi i (j0 + k) oj = true → (j0 + k) ∈ confs ops oi i j0 os := by
  induction os with
  | nil => intro j0 k oj h; simp at h
  | cons o os ih =>
    intro j0 k oj h hc
    have e : confs ops oi i j0 (o :: os) = bif conf ops oi i j0 o then j0 :: confs ops oi i (j0 + 1) os else confs ops oi i (j0 + 1) os := rfl
    rw [e]
    cases k with
    | zero =>
      obtain rfl : o = oj := by simpa using h
      rw [Nat.add_zero] at hc
      rw [hc, cond_true, Nat.add_zero]
      exact List.mem_cons_self ..
    | succ k =>
      have := ih (j0 + 1) k oj (by simpa using h) (by rw [show j0 + 1 + k = j0 + (k + 1) by omega]; exact hc)
      rw [show j0 + 1 + k = j0 + (k + 1) by omega] at this
      cases conf ops oi i j0 o
      · exact this
      · exact List.mem_cons_of_mem _ this
def readyGo (rem : Nat) : Nat → List Nat → List Nat
  | _, [] => []
  | i, d :: ds => match Nat.beq (Nat.land d rem) 0, Nat.beq (Nat.land (Nat.shiftRight rem i) 1) 1 with
    | true, true => i :: readyGo rem (i + 1) ds
    | _, _ => readyGo rem (i + 1) ds
theorem readyGo_cons (rem i d : Nat) (ds : List Nat) : readyGo rem i (d :: ds) = match Nat.beq (Nat.land d rem) 0, Nat.beq (Nat.land (Nat.shiftRight rem i) 1) 1 with
    | true, true => i :: readyGo rem (i + 1) ds
    | _, _ => readyGo rem (i + 1) ds := rfl
theorem bit_eq (rem i : Nat) : Nat.beq (Nat.land (Nat.shiftRight rem i) 1) 1 = rem.testBit i := by
  show Nat.beq ((rem >>> i) &&& 1) 1 = _
  rw [Nat.testBit, Nat.and_comm 1]
  have : (rem >>> i) &&& 1 = 0 ∨ (rem >>> i) &&& 1 = 1 := by rw [Nat.and_one_is_mod]; omega
  rcases this with h | h <;> rw [h] <;> rfl
section
variable {ops : Array Oper} {deps frs : List Nat} {nn : Nat} {listed : Array Bool} {rem : Nat}
theorem Tab.ready_iff (hT : Tab ops deps frs nn) (hl : Lst listed rem nn) {k d : Nat} {o : Oper} (ho : ops[k]? = some o) (hd : maskOf (depOf ops o) = d) (hdn : d < 2 ^ nn) :
    (!listed.getD k true && ((ops[k]?).map (·.after.all fun e => !Region.binds .any e || listed.getD e.on false)).getD false) = (Nat.beq (Nat.land d rem) 0 && rem.testBit k) := by
  have hk : k < nn := by rw [← hT.size]; exact (Array.getElem?_eq_some_iff.1 ho).1
  have h1 : (!listed.getD k true) = rem.testBit k := by simp [hl.bit k hk]
  rw [h1, ho, Bool.and_comm]
  simp only [Option.map_some, Option.getD_some]
  congr 1
  rw [Bool.eq_iff_iff, ← Array.all_toList, List.all_eq_true]
  have h2 : (Nat.beq (Nat.land d rem) 0 = true) ↔ ∀ q ∈ depOf ops o, rem.testBit q = false := by
    rw [← maskOf_and, hd]
    exact ⟨fun h => Nat.eq_of_beq_eq_true h, fun h => by show Nat.beq (d &&& rem) 0 = true; rw [h]; rfl⟩
  rw [h2]
  have hin : ∀ q ∈ depOf ops o, q < nn := fun q hq => by
    rcases Nat.lt_or_ge q nn with h | h
    · exact h
    · have hb : (maskOf (depOf ops o)).testBit q = true := by
        have key : ∀ l : List Nat, q ∈ l → (maskOf l).testBit q = true := by
          intro l
          induction l with
          | nil => intro h; cases h
          | cons x l ih =>
            intro h
            have e : maskOf (x :: l) = (1 <<< x) ||| maskOf l := rfl
            rw [e, Nat.testBit_or, Nat.one_shiftLeft, Nat.testBit_two_pow]
            rcases List.mem_cons.1 h with rfl | h
            · simp
            · rw [ih h]; simp
        exact key _ hq
      rw [hd] at hb
      have := Nat.testBit_lt_two_pow (x := d) (i := q) (Nat.lt_of_lt_of_le hdn (Nat.pow_le_pow_right (by omega) h))
      rw [this] at hb
      cases hb
  constructor
  · intro h q hq
    have hq' := hq
    unfold depOf at hq
    obtain ⟨e, he, rfl⟩ := List.mem_map.1 hq
    obtain ⟨he1, he2⟩ := List.mem_filter.1 he
    have := h e he1
    rw [he2] at this
    simpa [hl.bit _ (hin _ hq')] using this
  · intro h e he
    cases hb : Region.binds .any e with
    | false => rfl
    | true =>
      have hq : e.on ∈ depOf ops o := List.mem_map.2 ⟨e, List.mem_filter.2 ⟨he, hb⟩, rfl⟩
      have := h _ hq
      simp [hl.bit _ (hin _ hq), this]
theorem ready_go {f : Nat → Bool} : ∀ {ds : List Nat} {i : Nat}, (∀ k d, ds[k]? = some d → f (i + k) = (Nat.beq (Nat.land d rem) 0 && rem.testBit (i + k))) → (List.range' i ds.length).filter f = readyGo rem i ds
  | [], i, _ => rfl
  | d :: ds, i, h => by
    have h0 := h 0 d rfl
    rw [Nat.add_zero] at h0
    have ih := ready_go (f := f) (ds := ds) (i := i + 1) fun k d' hk => by
      have := h (k + 1) d' (by simpa using hk)
      rwa [show i + (k + 1) = i + 1 + k by omega] at this
    rw [List.length_cons, List.range'_succ, List.filter_cons, ih, h0, readyGo_cons, bit_eq]
    cases Nat.beq (Nat.land d rem) 0 <;> cases rem.testBit i <;> rfl
theorem Tab.ready (hT : Tab ops deps frs nn) (hl : Lst listed rem nn) : Region.ready .any ops listed = readyGo rem 0 deps := by
  have hh := tabGo_at hT.tab
  have hlen : deps.length = ops.size := by rw [hh.1]; simp
  unfold Region.ready
  rw [List.range_eq_range', ← hlen]
  refine ready_go fun k d hk => ?_
  have hlt : k < ops.size := by rw [← hlen]; exact (List.getElem?_eq_some_iff.1 hk).1
  obtain ⟨d', f', h1, h2, h3, h4, h5⟩ := hh.2 k ops[k] (by simp [hlt])
  rw [hk] at h1
  injection h1 with h1
  subst h1
  rw [Nat.zero_add]
  exact hT.ready_iff hl (Array.getElem?_eq_getElem hlt) h3 h4
theorem Tab.free (hT : Tab ops deps frs nn) (hl : Lst listed rem nn) {i f : Nat} {oi : Oper} (hi : ops[i]? = some oi) (hf : frs[i]? = some f) (h : Nat.beq (Nat.land f rem) 0 = true) : Region.free .any ops listed i = true := by
  have hh := tabGo_at hT.tab
  obtain ⟨d', f', h1, h2, h3, h4, h5⟩ := hh.2 i oi (by simpa using hi)
  rw [hf] at h2
  injection h2 with h2
  subst h2
  rw [Nat.zero_add] at h5
  have h6 : maskOf (confs ops oi i 0 ops.toList) &&& rem = 0 := by rw [h5]; exact Nat.eq_of_beq_eq_true h
  rw [maskOf_and] at h6
  unfold Region.free
  rw [hi]
  simp only [List.all_eq_true, List.mem_range]
  intro j hj
  rw [Array.getElem?_eq_getElem hj]
  simp only
  cases hc : conf ops oi i j ops[j] with
  | true =>
    have hm := mem_confs (ops := ops) (oi := oi) (i := i) ops.toList 0 j ops[j] (by simp [hj]) (by rw [Nat.zero_add]; exact hc)
    rw [Nat.zero_add] at hm
    have hb := h6 j hm
    have hl' := hl.bit j (by rw [← hT.size]; exact hj)
    simp [hl', hb]
  | false =>
    unfold conf at hc
    by_cases hji : j = i
    · simp [hji]
    · have : Nat.beq j i = false := by
        cases hbb : Nat.beq j i with
        | false => rfl
        | true => exact absurd (Nat.eq_of_beq_eq_true hbb) hji
      rw [this] at hc
      simp only [Bool.not_false, Bool.true_and, Bool.not_eq_false'] at hc
      rw [hc]
      simp
end
section
variable {P : Program} {n : Nat} {w0 : World} {S : Nat → Prop} {l : Fr} {m : List Ck} {Q : Exit → Act → World → Prop} {K : Act → World → Prop}
  {ops : Array Oper} {deps frs : List Nat} {nn rem rem' fuel i d : Nat} {oi : Oper} {v : Value} {mS r : List Ck}
theorem pv_notP {dst : Option Tmp} {ty : TypeId} {pos : String} {after : Array Edge} {g : Option (Nat × Bool)} {p : Prop} [Decidable p] {t : TypeId} {x : Operand} (hx : ev l x = some (.bool (decide p))) : PV P n w0 S l m ⟨dst, .unOp .not t x, ty, pos, after, g⟩ (.bool (decide (¬ p))) := by
  have := pv_not (P := P) (n := n) (w0 := w0) (S := S) (m := m) (dst := dst) (ty := ty) (pos := pos) (after := after) (g := g) (t := t) hx
  rwa [← decide_not] at this
/-- the rest of a region -/
def GA (P : Program) (ops : Array Oper) (Q : Exit → Act → World → Prop) (Sx : World → Prop) (nn fuel rem : Nat) : Act → World → Prop := fun a w => ∀ listed, Lst listed rem nn → wpAnyH P .any ops Q Sx fuel listed a w
theorem G.drawT {id : Nat} {p : List Ck} (deps frs : List Nat) (hm : P.follows .mixedOrders = true) (hT : Tab ops deps frs nn) (hs : Sub m p mS) (hr : Nat.beq rem (2 ^ nn - 1) = true) (h : Tab ops deps frs nn → G n w0 S l m (GA P ops Q (fun w => Hp w0 S w mS) nn nn rem)) : G n w0 S l m ((Code.region id ops true).wp P Q) :=
  G.drawn hm hT.size mS fun a w ha hw => h hT a w ha hw _ (by rw [Nat.eq_of_beq_eq_true hr]; exact Lst.start nn)
def bitB (rem i : Nat) : Bool := Nat.beq (Nat.land (Nat.shiftRight rem i) 1) 1
theorem Lst.tk {listed : Array Bool} (h : Lst listed rem nn) (hb : bitB rem' i = false) (hr : Nat.beq (Nat.lor rem' (Nat.shiftLeft 1 i)) rem = true) : Lst (listed.setIfInBounds i true) rem' nn := by
  have e : rem' ||| 2 ^ i = rem := by rw [← Nat.one_shiftLeft]; exact Nat.eq_of_beq_eq_true hr
  have hb' : rem.testBit i = true := by rw [← e, Nat.testBit_or, Nat.testBit_two_pow_self, Bool.or_true]
  have hi : i < nn := by
    rcases Nat.lt_or_ge i nn with hlt | hge
    · exact hlt
    · have := Nat.testBit_lt_two_pow (x := rem) (i := i) (Nat.lt_of_lt_of_le h.small (Nat.pow_le_pow_right (by omega) hge))
      rw [this] at hb'
      cases hb'
  exact h.take hi (by rw [← bit_eq]; exact hb) e
def rmB (rem i rem' : Nat) : Bool := !bitB rem' i && Nat.beq (Nat.lor rem' (Nat.shiftLeft 1 i)) rem
theorem Lst.tk' {listed : Array Bool} (h : Lst listed rem nn) (hb : rmB rem i rem' = true) : Lst (listed.setIfInBounds i true) rem' nn := by
  unfold rmB at hb
  rw [Bool.and_eq_true] at hb
  exact h.tk (by simpa using hb.1) hb.2
def tkB (deps frs : List Nat) (rem i rem' : Nat) : Bool := match deps[i]?, frs[i]? with
  | some dd, some f => Nat.beq (Nat.land dd rem) 0 && (Nat.beq (Nat.land f rem) 0 && (bitB rem i && rmB rem i rem'))
  | _, _ => false
theorem tkB_spec (h : tkB deps frs rem i rem' = true) : ∃ dd f, deps[i]? = some dd ∧ frs[i]? = some f ∧ Nat.beq (Nat.land dd rem) 0 = true ∧ Nat.beq (Nat.land f rem) 0 = true ∧ bitB rem i = true ∧ rmB rem i rem' = true := by
  unfold tkB at h
  split at h
  · rename_i dd f h1 h2
    simp only [Bool.and_eq_true] at h
    exact ⟨dd, f, h1, h2, h.1, h.2.1, h.2.2.1, h.2.2.2⟩
  · cases h
theorem mem_readyGo {dd : Nat} : ∀ {ds : List Nat} {k i : Nat}, ds[k]? = some dd → Nat.beq (Nat.land dd rem) 0 = true → bitB rem (i + k) = true → (i + k) ∈ readyGo rem i ds
  | x :: ds, 0, i, h, h1, h2 => by
    obtain rfl : x = dd := by simpa using h
    unfold readyGo
    rw [Nat.add_zero] at h2 ⊢
    unfold bitB at h2
    rw [h1, h2]
    exact List.mem_cons_self ..
  | x :: ds, k + 1, i, h, h1, h2 => by
    have := mem_readyGo (ds := ds) (k := k) (i := i + 1) (by simpa using h) h1 (by rwa [show i + 1 + k = i + (k + 1) by omega])
    rw [show i + 1 + k = i + (k + 1) by omega] at this
    unfold readyGo
    split
    · exact List.mem_cons_of_mem _ this
    · exact this
theorem G.takeT (hT : Tab ops deps frs nn) (hi : ops[i]? = some oi) (hd : oi.dst = some d) (hn : Nat.blt d n = true) (hk : tkB deps frs rem i rem' = true)
    (hQ : ∀ c a w, Q (.panic c) (a.put oi.dst v) w → Q (.panic c) a w) (hw : wantB ops l oi = some true) (hv : PV P n w0 S l mS oi v) (hs : Sub m mS r)
    (h : G n w0 S ((d, v) :: l) m (GA P ops Q (fun w => Hp w0 S w mS) nn fuel rem')) : G n w0 S l m (GA P ops Q (fun w => Hp w0 S w mS) nn (fuel + 1) rem) := fun a w ha hw' listed hl => by
  obtain ⟨dd, f, h1, h2, h3, h4, h5, h6⟩ := tkB_spec hk
  have hr : (Region.ready .any ops listed).contains i = true := by
    rw [hT.ready hl]
    have := mem_readyGo (i := 0) h1 h3 (by rw [Nat.zero_add]; exact h5)
    rw [Nat.zero_add] at this
    simpa using this
  refine wpAnyH_take hi hT.sel (hT.free hl hi h2 h4) hr hQ (.inl ⟨ha.wanted hw, fun w hS => hv a w ha hS⟩) ((hw'.perm hs.perm).sub (List.sublist_append_left _ _)) ?_
  rw [hd]
  exact h _ _ (ha.put hn v) hw' _ (hl.tk' h6)
theorem G.takeFT (hT : Tab ops deps frs nn) (hi : ops[i]? = some oi) (hd : oi.dst = some d) (hn : Nat.blt d n = true) (hk : tkB deps frs rem i rem' = true)
    (hQ : ∀ c a w, Q (.panic c) (a.put oi.dst undef) w → Q (.panic c) a w) (hw : wantB ops l oi = some false) (hs : Sub m mS r)
    (h : G n w0 S ((d, undef) :: l) m (GA P ops Q (fun w => Hp w0 S w mS) nn fuel rem')) : G n w0 S l m (GA P ops Q (fun w => Hp w0 S w mS) nn (fuel + 1) rem) := fun a w ha hw' listed hl => by
  obtain ⟨dd, f, h1, h2, h3, h4, h5, h6⟩ := tkB_spec hk
  have hr : (Region.ready .any ops listed).contains i = true := by
    rw [hT.ready hl]
    have := mem_readyGo (i := 0) h1 h3 (by rw [Nat.zero_add]; exact h5)
    rw [Nat.zero_add] at this
    simpa using this
  refine wpAnyH_take hi hT.sel (hT.free hl hi h2 h4) hr hQ (.inr ⟨ha.wanted hw, rfl⟩) ((hw'.perm hs.perm).sub (List.sublist_append_left _ _)) ?_
  rw [hd]
  exact h _ _ (ha.put hn undef) hw' _ (hl.tk' h6)
def rdB (deps : List Nat) (rem : Nat) (rs : List Nat) : Bool := readyGo rem 0 deps == rs
theorem rdB_spec {rs : List Nat} (h : rdB deps rem rs = true) : readyGo rem 0 deps = rs := by simpa [rdB] using h
theorem G.oneT {Sx : World → Prop} (hT : Tab ops deps frs nn) (hr : rdB deps rem [i] = true) (hb : rmB rem i rem' = true) (h : G n w0 S l m (wpOp P ops Q i (fun a w => Sx w ∧ GA P ops Q Sx nn fuel rem' a w))) : G n w0 S l m (GA P ops Q Sx nn (fuel + 1) rem) := fun a w ha hw listed hl => by
  refine wpAnyH_all (rs := [i]) (by rw [hT.ready hl, rdB_spec hr]) (by simp) fun j hj => ?_
  obtain rfl : j = i := (by simpa using hj)
  exact wpOp_mono (fun a' w' h' => ⟨h'.1, h'.2 _ (hl.tk' hb)⟩) (h a w ha hw)
theorem G.twoT {Sx : World → Prop} {j rem'' : Nat} (hT : Tab ops deps frs nn) (hr : rdB deps rem [i, j] = true) (hb : rmB rem i rem' = true) (hb2 : rmB rem j rem'' = true) (h : G n w0 S l m (wpOp P ops Q i (fun a w => Sx w ∧ GA P ops Q Sx nn fuel rem' a w))) (k : G n w0 S l m (wpOp P ops Q j (fun a w => Sx w ∧ GA P ops Q Sx nn fuel rem'' a w))) : G n w0 S l m (GA P ops Q Sx nn (fuel + 1) rem) := fun a w ha hw listed hl => by
  refine wpAnyH_all (rs := [i, j]) (by rw [hT.ready hl, rdB_spec hr]) (by simp) fun x hx => ?_
  rcases List.mem_cons.1 hx with rfl | hx
  · exact wpOp_mono (fun a' w' h' => ⟨h'.1, h'.2 _ (hl.tk' hb)⟩) (h a w ha hw)
  · obtain rfl : x = j := (by simpa using hx)
    exact wpOp_mono (fun a' w' h' => ⟨h'.1, h'.2 _ (hl.tk' hb2)⟩) (k a w ha hw)
theorem G.overT {Sx : World → Prop} (hT : Tab ops deps frs nn) (hr : rdB deps rem [] = true) (h : G n w0 S l m (Q .normal)) : G n w0 S l m (GA P ops Q Sx nn fuel rem) := fun a w ha hw listed hl => wpAnyH_done (by rw [hT.ready hl, rdB_spec hr]) (h a w ha hw) fuel
end
end Go.Proofs.Ytchgaedidfefoaa
