/- A walk by chunks: calls that may panic, function values, interface values, deferred calls. Conditions: none. -/
import Derived.Test.YtkhffndeomihhaaDoorW6
import Derived.Recover
set_option linter.unusedVariables false
set_option linter.unusedSimpArgs false
set_option maxRecDepth 100000
namespace Go.Proofs.YtkhffndeomihhaaDoor
open Go.RowKit

section
variable {P : Program} {n : Nat} {w0 : World} {S : Nat → Prop} {l : Fr} {m : List Ck} {Q : Exit → Act → World → Prop} {K : Act → World → Prop}
  {dst : Option Tmp} {ty : TypeId} {pos : String} {after : Array Edge} {g : Option (Nat × Bool)}
/-- the contract of a call that may panic -/
def TrO (P : Program) (f : FuncId) (args : Array Value) (ro pre : List Ck) (R : Ending → List Ck → Prop) : Prop :=
  ∀ w, (∀ c ∈ ro, Ro w (U pre) c) → Hp w (U pre) w pre → Calls P f args w fun e w' => ∃ m', R e m' ∧ Hp w (U pre) w' m'
def TO {X Y : Type} (J : X → Prop) (V : X → Value) (M : X → List Ck) (J' : Y → Prop) (C : Y → List PanicEntry) (M' : Y → List Ck) : Ending → List Ck → Prop
  | .returned v, m => ∃ x, J x ∧ v = V x ∧ m = M x
  | .panicked c, m => ∃ y, J' y ∧ c = C y ∧ m = M' y
  | .outgrown, _ => False
def OutR (w0 : World) (pre : List Ck) (R : Ending → List Ck → Prop) (e : Ending) (w' : World) : Prop := ∃ m', R e m' ∧ Hp w0 (U pre) w' m'
theorem TrO.of {f : FuncId} {args : Array Value} {ro pre : List Ck} {R : Ending → List Ck → Prop} {fn : Func} {c : Code} {n : Nat} {l : Fr} (hf : P.funcs[f]? = some fn) (hb : fn.body = some c) (hn : args.size + (fn.ntmps - args.size) = n) (hl : Fa args l)
    (h : ∀ w0, (∀ c ∈ ro, Ro w0 (U pre) c) → G n w0 (U pre) l pre (c.wp P (bodyPost P fn (OutR w0 pre R)))) : TrO P f args ro pre R := fun w hro hp =>
  calls_of_G hf hb hn hl.get hp (h w hro)
theorem G.outE {fn : Func} {pre : List Ck} {R : Ending → List Ck → Prop} {m' r : List Ck} (hr : fn.results = #[]) (hs : Sub m m' r) (hp : R (.returned (.tuple #[])) m') : G n w0 (U pre) l m (bodyPost P fn (OutR w0 pre R) .normal) :=
  G.end0 hr fun w hw => ⟨m', hp, (hw.perm hs.perm).sub (List.sublist_append_left _ _)⟩
theorem G.out0 {fn : Func} {pre : List Ck} {R : Ending → List Ck → Prop} {m' r : List Ck} (hr : fn.results = #[]) (hs : Sub m m' r) (hp : R (.returned (.tuple #[])) m') : G n w0 (U pre) l m (bodyPost P fn (OutR w0 pre R) .ret) :=
  G.ret0 hr fun w hw => ⟨m', hp, (hw.perm hs.perm).sub (List.sublist_append_left _ _)⟩
theorem G.out1 {fn : Func} {pre : List Ck} {R : Ending → List Ck → Prop} {t : Nat} {v : Value} {m' r : List Ck} (hr : fn.results = #[.tmp t]) (ht : Fr.get l t = some v) (hs : Sub m m' r) (hp : R (.returned v) m') : G n w0 (U pre) l m (bodyPost P fn (OutR w0 pre R) .ret) :=
  G.ret1 hr ht fun w hw => ⟨m', hp, (hw.perm hs.perm).sub (List.sublist_append_left _ _)⟩
theorem G.outP {fn : Func} {pre : List Ck} {R : Ending → List Ck → Prop} {c : List PanicEntry} {m' r : List Ck} (hs : Sub m m' r) (hp : R (.panicked c) m') : G n w0 (U pre) l m (bodyPost P fn (OutR w0 pre R) (.panic c)) := fun a w ha hw =>
  ⟨ha.defs, m', hp, (hw.perm hs.perm).sub (List.sublist_append_left _ _)⟩
theorem G.pThen {c : List PanicEntry} (h : G n w0 S l m (Q (.panic c))) : G n w0 S l m (Exit.then K Q (.panic c)) := h
theorem G.pBlock {id : Nat} {c : List PanicEntry} (h : G n w0 S l m (Q (.panic c))) : G n w0 S l m (Exit.inBlock id Q (.panic c)) := h
/-- an operation that enters a function -/
def PE (P : Program) (n : Nat) (w0 : World) (S : Nat → Prop) (l : Fr) (m : List Ck) (o : Oper) (f : FuncId) (args : Array Value) : Prop := ∀ a w, At a n l → Hp w0 S w m → (execOp a.eval o).run P w = .ok (.enter f args) w
theorem pe_fn {o : Oper} {f : FuncId} {xs : List Operand} {ts : Array TypeId} {vs : List Value} {fn : Func} {c : Code} (ho : o.op = .call { callee := .value (.func f), args := xs.toArray, argTypes := ts }) (hx : evs l xs = some vs) (hf : P.funcs[f]? = some fn) (hb : fn.body = some c) (hnm : (fn.name == "runtime.NumGoroutine") = false) :
    PE P n w0 S l m o f vs.toArray := fun a w ha hw => by
  have e1 : xs.toArray.map a.eval = vs.toArray := by rw [← ha.evs hx]; simp
  have e2 : a.eval (.func f) = .func (.func f) #[] #[] := rfl
  have hnm' : ¬ fn.name = "runtime.NumGoroutine" := by simpa using hnm
  simp [execOp, ho, resolve, Deferred.ofValue, e1, e2, invoke, callFunc, program, Sem.run, Sem.run_bind, Sem.run_pure, Result.andThen, hf, hnm', hb]
theorem run_callFunc {f : FuncId} {args : Array Value} {fn : Func} {c : Code} {w : World} (hf : P.funcs[f]? = some fn) (hb : fn.body = some c) (hnm : (fn.name == "runtime.NumGoroutine") = false) : (callFunc f args).run P w = .ok (.enter f args) w := by
  have hnm' : ¬ fn.name = "runtime.NumGoroutine" := by simpa using hnm
  simp [callFunc, program, Sem.run, Sem.run_bind, Sem.run_pure, Result.andThen, hf, hnm', hb]
/-- by a function value -/
theorem pe_val {o : Oper} {x : Operand} {f : FuncId} {first captured : Array Value} {xs : List Operand} {ts : Array TypeId} {vs : List Value} {fn : Func} {c : Code} (ho : o.op = .call { callee := .value x, args := xs.toArray, argTypes := ts }) (hv : ev l x = some (.func (.func f) first captured)) (hx : evs l xs = some vs) (hf : P.funcs[f]? = some fn) (hb : fn.body = some c) (hnm : (fn.name == "runtime.NumGoroutine") = false) :
    PE P n w0 S l m o f (first ++ vs.toArray ++ captured) := fun a w ha hw => by
  have e1 : xs.toArray.map a.eval = vs.toArray := by rw [← ha.evs hx]; simp
  simp only [execOp, ho, resolve, Deferred.ofValue, e1, ha.eval hv, invoke, Sem.run_bind, Sem.run_pure, Result.andThen]
  exact run_callFunc hf hb hnm
theorem G.callO {o : Oper} {d : Nat} {f : FuncId} {args : Array Value} {ro pre r : List Ck} {R : Ending → List Ck → Prop} (hd : o.dst = some d) (hn : Nat.blt d n = true) (he : PE P n w0 S l m o f args) (ht : TrO P f args ro pre R) (hs : Sub m pre r) (hro : ∀ c ∈ ro, May w0 S r c)
    (hret : ∀ v m', R (.returned v) m' → G n w0 S ((d, v) :: l) (m' ++ r) K) (hpan : ∀ c m', R (.panicked c) m' → G n w0 S l (m' ++ r) (Q (.panic c))) (hout : ∀ m', ¬ R .outgrown m') : G n w0 S l m (fun a w => o.wp P a w K Q) := fun a w ha hw => by
  have hw' := hw.perm hs.perm
  have hp : Hp w (U pre) w pre := ⟨Chg.refl _ _, fun c hc => hw'.holds c (List.mem_append_left _ hc), fun c hc b hb => ⟨.inl ⟨c, hc, hb⟩, (hw'.own c (List.mem_append_left _ hc) b hb).2⟩, (List.pairwise_append.1 hw'.dis).1⟩
  have hc := ht w (fun c hc => (hro c hc).ro hw') hp
  show Oper.wp P o a w K Q
  unfold Oper.wp
  rw [he a w ha hw, Oper.upon_enter]
  refine hc.mono ?_
  rintro e w2 ⟨m', hR, hm'⟩
  cases e with
  | returned v =>
    show K (a.put o.dst v) w2
    rw [hd]
    exact hret v m' hR _ _ (ha.put hn v) (hw'.turn hm')
  | panicked c => exact hpan c m' hR a w2 ha (hw'.turn hm')
  | outgrown => exact absurd hR (hout m')
theorem G.cO {X Y : Type} {J : X → Prop} {V : X → Value} {M : X → List Ck} {J' : Y → Prop} {C : Y → List PanicEntry} {M' : Y → List Ck} {o : Oper} {d : Nat} {f : FuncId} {args : Array Value} {ro pre r : List Ck} (hd : o.dst = some d) (hn : Nat.blt d n = true) (he : PE P n w0 S l m o f args)
    (ht : TrO P f args ro pre (TO J V M J' C M')) (hs : Sub m pre r) (hro : ∀ c ∈ ro, May w0 S r c) (hret : ∀ x, J x → G n w0 S ((d, V x) :: l) (M x ++ r) K) (hpan : ∀ y, J' y → G n w0 S l (M' y ++ r) (Q (.panic (C y)))) : G n w0 S l m (fun a w => o.wp P a w K Q) :=
  G.callO hd hn he ht hs hro (fun v m' ⟨x, hJ, hv, hm⟩ => by subst hv; subst hm; exact hret x hJ) (fun c m' ⟨y, hJ, hv, hm⟩ => by subst hv; subst hm; exact hpan y hJ) fun m' h => h
section
variable {X Y : Type} {J : X → Prop} {V : X → Value} {A B : X → Ck} {J' : Y → Prop} {C : Y → List PanicEntry} {A' B' : Y → Ck} {o : Oper} {d : Nat} {f : FuncId} {args : Array Value} {ro pre r : List Ck}
/-- two chunks, both ways -/
theorem G.cO2 (hd : o.dst = some d) (hn : Nat.blt d n = true) (he : PE P n w0 S l m o f args)
    (ht : TrO P f args ro pre (TO J V (fun x => [A x, B x]) J' C (fun y => [A' y, B' y]))) (hs : Sub m pre r) (hro : ∀ c ∈ ro, May w0 S r c) (hret : ∀ x, J x → G n w0 S ((d, V x) :: l) (A x :: B x :: r) K) (hpan : ∀ y, J' y → G n w0 S l (A' y :: B' y :: r) (Q (.panic (C y)))) : G n w0 S l m (fun a w => o.wp P a w K Q) :=
  G.cO hd hn he ht hs hro hret hpan
/-- three chunks, or two -/
theorem G.cO3 {B3 : X → Ck} (hd : o.dst = some d) (hn : Nat.blt d n = true) (he : PE P n w0 S l m o f args)
    (ht : TrO P f args ro pre (TO J V (fun x => [A x, B x, B3 x]) J' C (fun y => [A' y, B' y]))) (hs : Sub m pre r) (hro : ∀ c ∈ ro, May w0 S r c) (hret : ∀ x, J x → G n w0 S ((d, V x) :: l) (A x :: B x :: B3 x :: r) K) (hpan : ∀ y, J' y → G n w0 S l (A' y :: B' y :: r) (Q (.panic (C y)))) : G n w0 S l m (fun a w => o.wp P a w K Q) :=
  G.cO hd hn he ht hs hro hret hpan
/-- no chunk, both ways -/
theorem G.cO0 (hd : o.dst = some d) (hn : Nat.blt d n = true) (he : PE P n w0 S l m o f args)
    (ht : TrO P f args ro pre (TO J V (fun _ => []) J' C (fun _ => []))) (hs : Sub m pre r) (hro : ∀ c ∈ ro, May w0 S r c) (hret : ∀ x, J x → G n w0 S ((d, V x) :: l) r K) (hpan : ∀ y, J' y → G n w0 S l r (Q (.panic (C y)))) : G n w0 S l m (fun a w => o.wp P a w K Q) :=
  G.cO hd hn he ht hs hro hret hpan
end
theorem Tr.o {X : Type} {f : FuncId} {args : Array Value} {ro pre : List Ck} {J : X → Prop} {V : X → Value} {M : X → List Ck} (h : Tr P f args ro pre (TX J V M)) : TrO P f args ro pre (TO J V M (fun _ : Unit => False) (fun _ => []) (fun _ => [])) := fun w hro hp =>
  (h w hro hp).mono fun e w' ⟨v, m', he, ⟨x, hJ, hv, hm⟩, hw⟩ => ⟨m', by subst he; exact ⟨x, hJ, hv, hm⟩, hw⟩
theorem TrO.imp {f : FuncId} {args : Array Value} {ro pre : List Ck} {R R' : Ending → List Ck → Prop} (h : TrO P f args ro pre R) (hR : ∀ e m, R e m → R' e m) : TrO P f args ro pre R' := fun w hro hp =>
  (h w hro hp).mono fun e w' ⟨m', hr, hw⟩ => ⟨m', hR _ _ hr, hw⟩
/-- one that never returns -/
theorem G.panicOp {x : Operand} {t : TypeId} {v : Value} (hx : ev l x = some (.iface t v)) (h : G n w0 S l m (Q (.panic [{ v := .iface t v, recovered := false }]))) : G n w0 S l m (fun a w => Oper.wp P ⟨dst, .panic x, ty, pos, after, g⟩ a w K Q) := fun a w ha hw => by
  show Oper.wp P ⟨dst, .panic x, ty, pos, after, g⟩ a w K Q
  unfold Oper.wp
  have hr : (execOp a.eval ⟨dst, .panic x, ty, pos, after, g⟩).run P w = .halt (.panic (.iface t v)) w := by
    simp [execOp, ha.eval hx, Instr.panic, goPanic, Sem.run_bind, Sem.run, Result.andThen]
  rw [hr, Oper.upon_panic]
  exact h a w ha hw
theorem pv_iface {t : TypeId} {x : Operand} {v : Value} {d : TypeDesc} (hu : P.underlying t = some d) (hd : (match d with | .interface _ => true | _ => false) = false) (hx : ev l x = some v) : PV P n w0 S l m ⟨dst, .makeInterface t x, ty, pos, after, g⟩ (.iface t v) := fun act w ha _ => by
  show ((Instr.makeInterface t (act.eval x)) >>= fun x => pure (Next.value x)).run P w = _
  rw [ha.eval hx]
  refine run_v ?_
  unfold Instr.makeInterface
  simp only [Sem.run_bind, run_underlying hu, Result.andThen]
  cases d <;> first | rfl | cases hd
theorem run_eqI0 {ms : Array (String × TypeId)} (ht : P.underlying ty = some (.interface ms)) (w : World) : ∀ d, (Op.equalIn (d + 1) ty .nilIface .nilIface).run P w = .ok true w := fun d => by
  simp [Op.equalIn, Sem.run_bind, run_underlying ht, Result.andThen, Sem.run_pure]
theorem run_eqI1 {ms : Array (String × TypeId)} (ht : P.underlying ty = some (.interface ms)) (t : TypeId) (v : Value) (w : World) : ∀ d, (Op.equalIn (d + 1) ty (.iface t v) .nilIface).run P w = .ok false w := fun d => by
  simp [Op.equalIn, Sem.run_bind, run_underlying ht, Result.andThen, Sem.run_pure]
theorem pv_eqI0 {t u : TypeId} {ms : Array (String × TypeId)} {x : Operand} (ht : P.underlying t = some (.interface ms)) (hx : ev l x = some .nilIface) : PV P n w0 S l m ⟨dst, .binOp .eql t x (.const .nilIface) u, ty, pos, after, g⟩ (.bool true) :=
  pv_bin hx rfl (by rw [eqGuard_nil_constR]) fun w => by
    show ((Op.equalIn Op.maxDepth t .nilIface .nilIface) >>= fun x => pure (Value.bool x)).run P w = _
    have h := run_eqI0 ht w 9999
    simp only [Sem.run_bind, show Op.maxDepth = 9999 + 1 from rfl, h, Result.andThen, Sem.run_pure]
theorem pv_eqI1 {t u d : TypeId} {v : Value} {ms : Array (String × TypeId)} {x : Operand} (ht : P.underlying t = some (.interface ms)) (hx : ev l x = some (.iface d v)) : PV P n w0 S l m ⟨dst, .binOp .eql t x (.const .nilIface) u, ty, pos, after, g⟩ (.bool false) :=
  pv_bin hx rfl (by rw [eqGuard_at_iface]) fun w => by
    show ((Op.equalIn Op.maxDepth t (.iface d v) .nilIface) >>= fun x => pure (Value.bool x)).run P w = _
    have h := run_eqI1 ht d v w 9999
    simp only [Sem.run_bind, show Op.maxDepth = 9999 + 1 from rfl, h, Result.andThen, Sem.run_pure]
theorem pv_assertOk {xt t : TypeId} {x : Operand} {v : Value} {d : TypeDesc} (hu : P.underlying t = some d) (hd : (match d with | .interface _ => true | _ => false) = false) (hx : ev l x = some (.iface t v)) : PV P n w0 S l m ⟨dst, .typeAssert x xt t true, ty, pos, after, g⟩ (.tuple #[v, .bool true]) := fun act w ha _ => by
  show ((Instr.typeAssert (act.eval x) xt t true) >>= fun x => pure (Next.value x)).run P w = _
  rw [ha.eval hx]
  refine run_v ?_
  unfold Instr.typeAssert
  simp only [Sem.run_bind, run_underlying hu, Result.andThen]
  cases d <;> first | (simp [Sem.run_pure]; done) | cases hd
end
end Go.Proofs.YtkhffndeomihhaaDoor
