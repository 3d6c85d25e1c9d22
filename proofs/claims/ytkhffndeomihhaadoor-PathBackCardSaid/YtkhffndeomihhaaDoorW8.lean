/- A walk by chunks: a call that is deferred; recover; parts of slices. Conditions: none. -/
import Derived.Test.YtkhffndeomihhaaDoorW7
import Derived.Recover
set_option linter.unusedVariables false
set_option linter.unusedSimpArgs false
set_option maxRecDepth 100000
namespace Go.Proofs.YtkhffndeomihhaaDoor
open Go.RowKit

/-! parts of slices -/
theorem SlV.sub {α : Type} {E : Rdr α} {Ps : Nat → Prop} {w : World} {ad : Option Addr} {cap b off : Nat} {xs : List α} (h : SlV E Ps w ad cap b off xs) {i j : Nat} (hij : i ≤ j) (hj : j ≤ xs.length) :
    IsSl E Ps w (subV E.sz ad i j cap) ((xs.take j).drop i) := by
  have hlen : ((xs.take j).drop i).length = j - i := by rw [List.length_drop, List.length_take, Nat.min_eq_left hj]
  have hc := h.hcap
  unfold subV
  refine ⟨_, cap - i, b, off + i * E.sz, by rw [hlen], by rw [hlen]; omega, by have := h.hmax; omega, fun hn => ?_, fun h0 => ?_, fun k hk => ?_⟩
  · split at hn
    · have := h.hnil hn; omega
    · rw [Option.map_eq_none_iff] at hn
      have := h.hnil hn; omega
  · rw [hlen] at h0
    rw [if_neg (by omega), h.had (by omega), Option.map_some, Addr.add_mid]
  · rw [hlen] at hk
    have := h.cell (i + k) (by omega)
    rw [show off + (i + k) * E.sz = off + i * E.sz + k * E.sz by rw [Nat.add_mul, Nat.add_assoc]] at this
    have e : ((xs.take j).drop i)[k]'(by rw [hlen]; exact hk) = xs[i + k]'(by omega) := by simp
    rw [e]
    exact this
theorem IsSl.sub {α : Type} {E : Rdr α} {Ps : Nat → Prop} {w : World} {ad : Option Addr} {len cap : Nat} {xs : List α} (h : IsSl E Ps w (.slice ad len cap) xs) {i j : Nat} (hij : i ≤ j) (hj : j ≤ xs.length) :
    IsSl E Ps w (subV E.sz ad i j cap) ((xs.take j).drop i) := by
  obtain ⟨ad2, cap2, b, off, e, hs⟩ := h
  injection e with e1 e2 e3
  subst e1
  subst e3
  exact hs.sub hij hj
section
variable {P : Program} {n : Nat} {w0 : World} {S : Nat → Prop} {l : Fr} {m : List Ck} {Q : Exit → Act → World → Prop} {K : Act → World → Prop}
  {dst : Option Tmp} {ty : TypeId} {pos : String} {after : Array Edge} {g : Option (Nat × Bool)}
theorem Ro.sub {α : Type} {E : Rdr α} {Ps : Nat → Prop} {ad : Option Addr} {len cap : Nat} {xs : List α} (h : Ro w0 S (slc E Ps (.slice ad len cap) xs)) {i j : Nat} (hij : i ≤ j) (hj : j ≤ xs.length) :
    Ro w0 S (slc E Ps (subV E.sz ad i j cap) ((xs.take j).drop i)) := ⟨IsSl.sub h.1 hij hj, h.2⟩

/-! a call that is deferred -/
/-- the judgement, with calls that wait -/
def GD (n : Nat) (w0 : World) (S : Nat → Prop) (l : Fr) (m : List Ck) (ds : List Deferred) (K : Act → World → Prop) : Prop := ∀ a w, At { a with defers := [] } n l → a.defers = ds → Hp w0 S w m → K a w
theorem Act.eval_defers (a : Act) (ds : List Deferred) : Act.eval { a with defers := ds } = a.eval := by
  funext x
  cases x <;> rfl
theorem G.defer {o : Oper} {x : Operand} {fn : Fn} {first captured : Array Value} {ts : Array TypeId} (hd : o.dst = none) (ho : o.op = .defer { callee := .value x, args := #[], argTypes := ts }) (hx : ev l x = some (.func fn first captured))
    (h : GD n w0 S l m [{ target := .fn fn captured, args := first ++ #[] }] K) : G n w0 S l m (fun a w => o.wp P a w K Q) := fun a w ha hw => by
  show Oper.wp P o a w K Q
  unfold Oper.wp
  have hr : (execOp a.eval o).run P w = .ok (.defer { target := .fn fn captured, args := first ++ #[] }) w := by
    simp [execOp, ho, resolve, Deferred.ofValue, ha.eval hx, Sem.run, Sem.run_bind, Sem.run_pure, Result.andThen]
  rw [hr, Oper.upon_defer, hd]
  refine h _ _ ?_ (by show _ :: a.defers = _; rw [ha.defs]) hw
  have : ({ a with defers := [] } : Act) = a := by
    have := ha.defs
    cases a
    simp only at this
    rw [this]
  show At { a with defers := [] } n l
  rw [this]
  exact ha
theorem GD.region {id : Nat} {ops : List Oper} {ds : List Deferred} (h : GD n w0 S l m ds (wpList P ops.toArray Q ops)) : GD n w0 S l m ds ((Code.region id ops.toArray false).wp P Q) := fun a w ha hd hw => wp_region_lit (h a w ha hd hw)
theorem GD.nil {ops : Array Oper} {ds : List Deferred} (h : GD n w0 S l m ds (Q .normal)) : GD n w0 S l m ds (wpList P ops Q []) := h
theorem GD.op {ops : Array Oper} {o : Oper} {rest : List Oper} {ds : List Deferred} (hg : o.guard = none) (h : GD n w0 S l m ds (fun a w => o.wp P a w (wpList P ops Q rest) Q)) : GD n w0 S l m ds (wpList P ops Q (o :: rest)) := fun a w ha hd hw =>
  wpList_plain hg fun K hK => Oper.wp_mono hK (h a w ha hd hw)
theorem GD.val {o : Oper} {d : Nat} {v : Value} {ds : List Deferred} (hd : o.dst = some d) (hn : Nat.blt d n = true) (hv : PV P n w0 S l m o v) (h : GD n w0 S ((d, v) :: l) m ds K) : GD n w0 S l m ds (fun a w => o.wp P a w K Q) := fun a w ha hds hw => by
  show Oper.wp P o a w K Q
  unfold Oper.wp
  have := hv _ w ha hw
  rw [Act.eval_defers] at this
  rw [this, Oper.upon_value, hd]
  exact h _ _ (ha.put hn v) hds hw
theorem GD.callO {o : Oper} {d : Nat} {f : FuncId} {args : Array Value} {ro pre r : List Ck} {ds : List Deferred} {R : Ending → List Ck → Prop} (hd : o.dst = some d) (hn : Nat.blt d n = true) (he : PE P n w0 S l m o f args) (ht : TrO P f args ro pre R) (hs : Sub m pre r) (hro : ∀ c ∈ ro, May w0 S r c)
    (hret : ∀ v m', R (.returned v) m' → GD n w0 S ((d, v) :: l) (m' ++ r) ds K) (hpan : ∀ c m', R (.panicked c) m' → GD n w0 S l (m' ++ r) ds (Q (.panic c))) (hout : ∀ m', ¬ R .outgrown m') : GD n w0 S l m ds (fun a w => o.wp P a w K Q) := fun a w ha hds hw => by
  have hw' := hw.perm hs.perm
  have hp : Hp w (U pre) w pre := ⟨Chg.refl _ _, fun c hc => hw'.holds c (List.mem_append_left _ hc), fun c hc b hb => ⟨.inl ⟨c, hc, hb⟩, (hw'.own c (List.mem_append_left _ hc) b hb).2⟩, (List.pairwise_append.1 hw'.dis).1⟩
  have hc := ht w (fun c hc => (hro c hc).ro hw') hp
  show Oper.wp P o a w K Q
  unfold Oper.wp
  have hrun := he _ w ha hw
  rw [Act.eval_defers] at hrun
  rw [hrun, Oper.upon_enter]
  refine hc.mono ?_
  rintro e w2 ⟨m', hR, hm'⟩
  cases e with
  | returned v =>
    show K (a.put o.dst v) w2
    rw [hd]
    exact hret v m' hR _ _ (ha.put hn v) hds (hw'.turn hm')
  | panicked c => exact hpan c m' hR a w2 ha hds (hw'.turn hm')
  | outgrown => exact absurd hR (hout m')
/-- results that lie in memory -/
theorem run_result1 {fn : Func} {t T b o : Nat} {v : Value} {d : TypeDesc} {tmps : Array Value} {w : World} (hr : fn.results = #[.cell t T]) (ht : tmps[t]? = some (.pointer (some ⟨b, o, none⟩))) (hu : P.underlying T = some d) (hd : d.isRow = false) (hc : w.cell? ⟨b, o, none⟩ = some v) : (results fn tmps).run P w = .ok v w := by
  have e : tmps.getD t undef = .pointer (some ⟨b, o, none⟩) := by simp [ht]
  have h1 : (loadVar T ⟨b, o, none⟩).run P w = .ok v w := by
    simp [loadVar, load, Sem.run_bind, isAgg_false hu hd, Result.andThen, Sem.run_pure, Sem.run, hc]
  simp only [results, hr]
  simp [Sem.run_bind, ht, asAddr, h1, Result.andThen, Sem.run_pure]
theorem run_resultN {fn : Func} {t T b o : Nat} {cs : List Value} {d : TypeDesc} {tmps : Array Value} {w : World} (hr : fn.results = #[.cell t T]) (ht : tmps[t]? = some (.pointer (some ⟨b, o, none⟩))) (hu : P.underlying T = some d) (hd : d.isRow = true) (hi : (P.info? T).map (·.size) = some cs.length) (hc : w.rangeAt b o cs) : (results fn tmps).run P w = .ok (.agg cs.toArray) w := by
  have e : tmps.getD t undef = .pointer (some ⟨b, o, none⟩) := by simp [ht]
  have h1 : (loadVar T ⟨b, o, none⟩).run P w = .ok (.agg cs.toArray) w := by
    have := run_loadAt_mid w b o T cs d hc hu hd hi
    simpa [Instr.loadAt, Instr.sureAddr, Sem.run_bind, Sem.run_pure, Result.andThen] using this
  simp only [results, hr]
  simp [Sem.run_bind, ht, asAddr, h1, Result.andThen, Sem.run_pure]
theorem G.doneC {fn : Func} {pre : List Ck} {post : Value → List Ck → Prop} {t T b o : Nat} {v : Value} {d : TypeDesc} {m' r : List Ck} (hr : fn.results = #[.cell t T]) (ht : Fr.get l t = some (.pointer (some ⟨b, o, none⟩))) (hu : P.underlying T = some d) (hd : d.isRow = false) (hc : ∀ w, Hp w0 (U pre) w m → w.cell? ⟨b, o, none⟩ = some v)
    (hs : Sub m m' r) (hp : post v m') : G n w0 (U pre) l m (bodyPost P fn (TrR w0 pre post) .ret) :=
  G.doneBy (fun a w ha hw => run_result1 hr (ha.get _ _ ht) hu hd (hc w hw)) hs hp
theorem G.doneCN {fn : Func} {pre : List Ck} {post : Value → List Ck → Prop} {t T b o : Nat} {cs : List Value} {d : TypeDesc} {m' r : List Ck} (hr : fn.results = #[.cell t T]) (ht : Fr.get l t = some (.pointer (some ⟨b, o, none⟩))) (hu : P.underlying T = some d) (hd : d.isRow = true) (hi : (P.info? T).map (·.size) = some cs.length) (hc : ∀ w, Hp w0 (U pre) w m → w.rangeAt b o cs)
    (hs : Sub m m' r) (hp : post (.agg cs.toArray) m') : G n w0 (U pre) l m (bodyPost P fn (TrR w0 pre post) .ret) :=
  G.doneBy (fun a w ha hw => run_resultN hr (ha.get _ _ ht) hu hd hi (hc w hw)) hs hp
theorem Tr.imp {f : FuncId} {args : Array Value} {ro pre : List Ck} {post post' : Value → List Ck → Prop} (h : Tr P f args ro pre post) (hp : ∀ v m, post v m → post' v m) : Tr P f args ro pre post' := fun w hro hw =>
  (h w hro hw).mono fun e w' ⟨v, m', he, hm, hw'⟩ => ⟨v, m', he, hp v m' hm, hw'⟩
/-- .. with the memory read anew -/
theorem Tr.impH {f : FuncId} {args : Array Value} {ro pre : List Ck} {post post' : Value → List Ck → Prop} (h : Tr P f args ro pre post) (hp : ∀ v m, post v m → ∃ m', post' v m' ∧ ∀ w0 S w, Hp w0 S w m → Hp w0 S w m') : Tr P f args ro pre post' := fun w hro hw =>
  (h w hro hw).mono fun e w' ⟨v, m', he, hm, hw'⟩ => let ⟨m2, h2, h3⟩ := hp v m' hm; ⟨v, m2, he, h2, h3 _ _ _ hw'⟩
theorem hp_ownNil {w : World} (e sz : Nat) (hw : Hp w0 S w m) : Hp w0 S w (own e sz (.slice none 0 0) 0 [] :: m) := by
  refine hw.adds (m' := [own e sz (.slice none 0 0) 0 []]) ⟨Chg.refl _ _, fun c hc => ?_, fun c hc b hb => ?_, by simp⟩
  · obtain rfl : c = _ := by simpa using hc
    exact World.ownsRow_nil w 0 e sz
  · obtain rfl : c = _ := by simpa using hc
    cases hb
/-- a call whose contract has letters; what it makes is put ahead of the rest -/
theorem G.cN {X : Type} {J : X → Prop} {V : X → Value} {M : X → List Ck} {o : Oper} {d : Nat} {f : FuncId} {xs : List Operand} {ts : Array TypeId} {vs : List Value} {ro pre r : List Ck} (hd : o.dst = some d) (hn : Nat.blt d n = true)
    (ho : o.op = .call { callee := .value (.func f), args := xs.toArray, argTypes := ts }) (hx : evs l xs = some vs) {fn : Func} {c : Code} (hf : P.funcs[f]? = some fn) (hb : fn.body = some c) (hnm : (fn.name == "runtime.NumGoroutine") = false)
    (ht : Tr P f vs.toArray ro pre (TX J V M)) (hm : Sub m pre r) (hro : ∀ c ∈ ro, May w0 S r c) (h : ∀ x, J x → G n w0 S ((d, V x) :: l) (M x ++ r) K) : G n w0 S l m (fun a w => o.wp P a w K Q) :=
  G.tr hd hn ho hx hf hb hnm ht hm hro fun v m' ⟨x, hJ, hv, hm⟩ => by subst hv; subst hm; exact h x hJ
theorem G.noDefers {fn : Func} {R : Ending → World → Prop} (hr : fn.results = #[]) (h : ∀ w, Hp w0 S w m → R (.returned (.tuple #[])) w) : G n w0 S l m (bodyPostD P fn R .ret) := fun a w ha hw => by
  show Leaves P fn a.tmps R a.defers .returning w
  rw [ha.defs]
  exact ⟨_, results_none hr _ _ _, h w hw⟩
theorem GD.nThen {ds : List Deferred} (h : GD n w0 S l m ds K) : GD n w0 S l m ds (Exit.then K Q .normal) := h
theorem Sel.mid (q p : List Ck) (c : Ck) : Sel (q ++ c :: p) c (q ++ p) := by
  induction q with
  | nil => exact .here
  | cons d q ih => exact .there ih
theorem Sub.right (q : List Ck) : ∀ p : List Ck, Sub (q ++ p) p q
  | [] => by rw [List.append_nil]; exact .nil
  | c :: p => .cons (Sel.mid q p c) (Sub.right q p)
theorem Tr.ofD {f : FuncId} {args : Array Value} {ro pre : List Ck} {post : Value → List Ck → Prop} {fn : Func} {c : Code} {n : Nat} {l : Fr} (hf : P.funcs[f]? = some fn) (hb : fn.body = some c) (hn : args.size + (fn.ntmps - args.size) = n) (hl : Fa args l)
    (h : ∀ w0, (∀ c ∈ ro, Ro w0 (U pre) c) → G n w0 (U pre) l pre (c.wp P (bodyPostD P fn (TrR w0 pre post)))) : Tr P f args ro pre post := fun w hro hp =>
  calls_of_wp_defers hf hb (h w hro _ _ ⟨by simp [hn], rfl, fun t v ht => by
    have := hl.get t v ht
    rw [Array.getElem?_append_left]
    · exact this
    · exact (Array.getElem?_eq_some_iff.1 this).1⟩ hp)
theorem G.doneD {fn : Func} {pre post r : List Ck} (hr : fn.results = #[]) (hs : Sub m post r) : G n w0 (U pre) l m (bodyPost P fn (fun e w' => (∃ v, e = .returned v) ∧ Hp w0 (U pre) w' post) .normal) :=
  G.end0 hr fun w hw => ⟨⟨_, rfl⟩, (hw.perm hs.perm).sub (List.sublist_append_left _ _)⟩
theorem run_invokeF {f : FuncId} {args cap : Array Value} {fn : Func} {c : Code} (hf : P.funcs[f]? = some fn) (hb : fn.body = some c) (hnm : (fn.name == "runtime.NumGoroutine") = false) (w : World) : (invoke (.fn (.func f) cap) args).run P w = .ok (.enter f (args ++ cap)) w := by
  simp only [invoke]
  exact run_callFunc hf hb hnm
/-- a contract of a function that is called when its caller leaves: u is how the caller leaves, u' how it goes on -/
def TrD (P : Program) (f : FuncId) (args : Array Value) (u u' : FrameMode) (pre post : List Ck) : Prop :=
  ∀ w, Hp w (U pre) w pre → CallsD P f args u w fun e u2 w' => (∃ v, e = .returned v) ∧ u2 = u' ∧ Hp w (U pre) w' post
theorem GD.leave {fn : Func} {R : Ending → World → Prop} {f : FuncId} {args dargs cap : Array Value} {fv : Fn} {u u' : FrameMode} {pre post r : List Ck} {e : Exit} (he : ∀ a w, bodyPostD P fn R e a w = Leaves P fn a.tmps R a.defers u w) (hu : u ≠ .run)
    (hi : ∀ w, (invoke (.fn fv cap) dargs).run P w = .ok (.enter f args) w) (ht : TrD P f args u u' pre post) (hs : Sub m pre r) (hset : settle u' = .returning) (hr : fn.results = #[])
    (h : ∀ w, Hp w0 S w (post ++ r) → R (.returned (.tuple #[])) w) : GD n w0 S l m [{ target := .fn fv cap, args := dargs }] (bodyPostD P fn R e) := fun a w ha hds hw => by
  rw [he, hds]
  have hw' := hw.perm hs.perm
  have hp : Hp w (U pre) w pre := ⟨Chg.refl _ _, fun c hc => hw'.holds c (List.mem_append_left _ hc), fun c hc b hb => ⟨.inl ⟨c, hc, hb⟩, (hw'.own c (List.mem_append_left _ hc) b hb).2⟩, (List.pairwise_append.1 hw'.dis).1⟩
  refine leaves_cons hu (hi w) ((ht w hp).mono ?_)
  rintro e u2 w2 ⟨⟨v, rfl⟩, rfl, hm⟩
  show Leaves P fn a.tmps R [] (settle u2) w2
  rw [hset]
  exact ⟨_, results_none hr _ _ _, h w2 (hw'.turn hm)⟩
/-- recover, at a deferred function's head -/
theorem TrD.of {f : FuncId} {fn : Func} {c : Code} {id d : Nat} {o : Oper} {args : Array Value} {u u' : FrameMode} {v : Value} {pre post : List Ck} {n : Nat} {l : Fr} (hf : P.funcs[f]? = some fn) (hb : fn.body = some (.seq (.region id #[o] false) c)) (hr : fn.results = #[])
    (hn : args.size + (fn.ntmps - args.size) = n) (hl : Fa args l) (hd : o.dst = some d) (hdn : Nat.blt d n = true) (hg : o.guard = none) (ho : ∀ ρ w, (execOp ρ o).run P w = .ok .recover w)
    (hrec : (u = .returning ∧ v = .nilIface ∧ u' = u) ∨ ∃ x, u = .panicking [{ v := x, recovered := false }] ∧ v = x ∧ u' = .panicking [{ v := x, recovered := true }])
    (h : ∀ w, G n w (U pre) ((d, v) :: l) pre (c.wp P (bodyPost P fn (fun e w' => (∃ v, e = .returned v) ∧ Hp w (U pre) w' post)))) : TrD P f args u u' pre post := fun w hw => by
  refine callsD_of_wpS hf hb fun c0 cs hu => wpS_seq (wpS_region ?_)
  have hA : At { tmps := args ++ Array.replicate (fn.ntmps - args.size) undef, defers := [] } n l := ⟨by simp [hn], rfl, fun t v ht => by
    have := hl.get t v ht
    rw [Array.getElem?_append_left]
    · exact this
    · exact (Array.getElem?_eq_some_iff.1 this).1⟩
  have key : ∀ cs', (∃ c1 : Frame, cs' = { c1 with mode := u' } :: cs ∧ c1 = c0) → Exit.thenS (c.wpS P (bodyPostS P fn c0 cs fun e u2 w' => (∃ v, e = .returned v) ∧ u2 = u' ∧ Hp w (U pre) w' post)) (bodyPostS P fn c0 cs fun e u2 w' => (∃ v, e = .returned v) ∧ u2 = u' ∧ Hp w (U pre) w' post) .normal (Act.put { tmps := args ++ Array.replicate (fn.ntmps - args.size) undef, defers := [] } o.dst v) cs' w := by
    rintro cs' ⟨c1, rfl, rfl⟩
    show Code.wpS P c _ _ _ w
    rw [hd]
    refine wpS_of_wp (wp_mono (h w _ _ (hA.put hdn v) hw) ?_)
    intro e a' w' hq
    cases e with
    | normal =>
      obtain ⟨hd, v, hr, hR⟩ := hq
      exact ⟨hd, u', rfl, v, hr, hR.1, rfl, hR.2⟩
    | ret =>
      obtain ⟨hd, v, hr, hR⟩ := hq
      exact ⟨hd, u', rfl, v, hr, hR.1, rfl, hR.2⟩
    | panic chain =>
      obtain ⟨hd, ⟨v, hv⟩, hR⟩ := hq
      cases hv
    | exit id => exact hq.elim
    | goto l => exact hq.elim
    | outgrown =>
      obtain ⟨⟨v, hv⟩, hR⟩ := hq
      cases hv
  have hwant : ∀ ts, Region.wanted o (yielded #[o] ts) = true := fun ts => by simp [Region.wanted, hg]
  show wpOpsS P #[o] _ [0] _ _ _
  unfold wpOpsS
  simp only [List.getElem?_toArray, List.getElem?_cons_zero, hwant, if_true, ho]
  rcases hrec with ⟨rfl, rfl, rfl⟩ | ⟨x, rfl, rfl, rfl⟩
  · have e : recoverD (c0 :: cs) = none := by unfold recoverD; simp only [hu]
    rw [e]
    exact key (c0 :: cs) ⟨c0, by rw [← hu], rfl⟩
  · have e : recoverD (c0 :: cs) = some (v, { c0 with mode := .panicking [{ v := v, recovered := true }] } :: cs) := by unfold recoverD; simp only [hu]
    rw [e]
    exact key _ ⟨c0, rfl, rfl⟩
end
end Go.Proofs.YtkhffndeomihhaaDoor
