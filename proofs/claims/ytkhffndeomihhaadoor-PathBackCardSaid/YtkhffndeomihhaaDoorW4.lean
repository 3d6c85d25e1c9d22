/- A walk by chunks: contracts' ends, regions that draw their order, slices. Conditions: none. -/
import Derived.Test.YtkhffndeomihhaaDoorW3
set_option linter.unusedVariables false
set_option linter.unusedSimpArgs false
set_option maxRecDepth 100000
namespace Go.Proofs.YtkhffndeomihhaaDoor
open Go.RowKit

section
variable {P : Program} {n : Nat} {w0 : World} {S : Nat → Prop} {l : Fr} {m : List Ck} {Q : Exit → Act → World → Prop} {K : Act → World → Prop}
  {dst : Option Tmp} {ty : TypeId} {pos : String} {after : Array Edge} {g : Option (Nat × Bool)}
/-! contracts -/
inductive Fa (args : Array Value) : Fr → Prop
  | nil : Fa args []
  | cons {t : Nat} {v : Value} {l : Fr} (h : args[t]? = some v) (r : Fa args l) : Fa args ((t, v) :: l)
theorem Fa.get {args : Array Value} {l : Fr} (h : Fa args l) : ∀ t v, Fr.get l t = some v → args[t]? = some v := by
  induction h with
  | nil => intro t v ht; cases ht
  | cons hx _ ih =>
    intro t v ht
    unfold Fr.get at ht
    split at ht
    · rename_i e
      have e' := Nat.eq_of_beq_eq_true e
      subst e'
      injection ht with ht
      subst ht
      exact hx
    · exact ih t v ht
def TrR (w0 : World) (pre : List Ck) (post : Value → List Ck → Prop) (e : Ending) (w' : World) : Prop := ∃ v m', e = .returned v ∧ post v m' ∧ Hp w0 (U pre) w' m'
theorem Tr.of {f : FuncId} {args : Array Value} {ro pre : List Ck} {post : Value → List Ck → Prop} {fn : Func} {c : Code} {n : Nat} {l : Fr} (hf : P.funcs[f]? = some fn) (hb : fn.body = some c) (hn : args.size + (fn.ntmps - args.size) = n) (hl : Fa args l)
    (h : ∀ w0, (∀ c ∈ ro, Ro w0 (U pre) c) → G n w0 (U pre) l pre (c.wp P (bodyPost P fn (TrR w0 pre post)))) : Tr P f args ro pre post := fun w hro hp =>
  calls_of_G hf hb hn hl.get hp (h w hro)
theorem G.done1 {fn : Func} {pre : List Ck} {post : Value → List Ck → Prop} {t : Nat} {v : Value} {m' r : List Ck} (hr : fn.results = #[.tmp t]) (ht : Fr.get l t = some v) (hs : Sub m m' r) (hp : post v m') : G n w0 (U pre) l m (bodyPost P fn (TrR w0 pre post) .ret) :=
  G.ret1 hr ht fun w hw => ⟨v, m', rfl, hp, (hw.perm hs.perm).sub (List.sublist_append_left _ _)⟩
theorem G.done2 {fn : Func} {pre : List Ck} {post : Value → List Ck → Prop} {t u : Nat} {v x : Value} {m' r : List Ck} (hr : fn.results = #[.tmp t, .tmp u]) (ht : Fr.get l t = some v) (hu : Fr.get l u = some x) (hs : Sub m m' r) (hp : post (.tuple #[v, x]) m') : G n w0 (U pre) l m (bodyPost P fn (TrR w0 pre post) .ret) :=
  G.ret2 hr ht hu fun w hw => ⟨_, m', rfl, hp, (hw.perm hs.perm).sub (List.sublist_append_left _ _)⟩
theorem G.done3 {fn : Func} {pre : List Ck} {post : Value → List Ck → Prop} {t u s : Nat} {v x y : Value} {m' r : List Ck} (hr : fn.results = #[.tmp t, .tmp u, .tmp s]) (ht : Fr.get l t = some v) (hu : Fr.get l u = some x) (hy : Fr.get l s = some y) (hs : Sub m m' r) (hp : post (.tuple #[v, x, y]) m') : G n w0 (U pre) l m (bodyPost P fn (TrR w0 pre post) .ret) :=
  G.ret3 hr ht hu hy fun w hw => ⟨_, m', rfl, hp, (hw.perm hs.perm).sub (List.sublist_append_left _ _)⟩
theorem G.done0 {fn : Func} {pre : List Ck} {post : Value → List Ck → Prop} {m' r : List Ck} (hr : fn.results = #[]) (hs : Sub m m' r) (hp : post (.tuple #[]) m') : G n w0 (U pre) l m (bodyPost P fn (TrR w0 pre post) .ret) :=
  G.ret0 hr fun w hw => ⟨_, m', rfl, hp, (hw.perm hs.perm).sub (List.sublist_append_left _ _)⟩
theorem G.doneE {fn : Func} {pre : List Ck} {post : Value → List Ck → Prop} {m' r : List Ck} (hr : fn.results = #[]) (hs : Sub m m' r) (hp : post (.tuple #[]) m') : G n w0 (U pre) l m (bodyPost P fn (TrR w0 pre post) .normal) :=
  G.end0 hr fun w hw => ⟨_, m', rfl, hp, (hw.perm hs.perm).sub (List.sublist_append_left _ _)⟩
theorem G.doneBy {fn : Func} {pre : List Ck} {post : Value → List Ck → Prop} {v : Value} {m' r : List Ck} (hr : ∀ a w, At a n l → Hp w0 (U pre) w m → (results fn a.tmps).run P w = .ok v w) (hs : Sub m m' r) (hp : post v m') : G n w0 (U pre) l m (bodyPost P fn (TrR w0 pre post) .ret) :=
  G.retBy hr fun w hw => ⟨_, m', rfl, hp, (hw.perm hs.perm).sub (List.sublist_append_left _ _)⟩
/-- a contract whose call only reads, and makes nothing that is kept -/
def T0 (v : Value) : Value → List Ck → Prop := fun x m => x = v ∧ m = []
/-- .. and makes one chunk -/
def T1 (p : Value → Ck → Prop) : Value → List Ck → Prop := fun x m => ∃ c, m = [c] ∧ p x c
theorem G.call0 {o : Oper} {d : Nat} {f : FuncId} {xs : List Operand} {ts : Array TypeId} {vs : List Value} {ro : List Ck} {v : Value} (hd : o.dst = some d) (hn : Nat.blt d n = true)
    (ho : o.op = .call { callee := .value (.func f), args := xs.toArray, argTypes := ts }) (hx : evs l xs = some vs) {fn : Func} {c : Code} (hf : P.funcs[f]? = some fn) (hb : fn.body = some c) (hnm : (fn.name == "runtime.NumGoroutine") = false)
    (ht : Tr P f vs.toArray ro [] (T0 v)) (hro : ∀ c ∈ ro, May w0 S m c) (h : G n w0 S ((d, v) :: l) m K) : G n w0 S l m (fun a w => o.wp P a w K Q) :=
  G.tr hd hn ho hx hf hb hnm ht .nil hro fun x m' ⟨hx, hm⟩ => by subst hx; subst hm; exact h
theorem G.call1 {o : Oper} {d : Nat} {f : FuncId} {xs : List Operand} {ts : Array TypeId} {vs : List Value} {ro : List Ck} {p : Value → Ck → Prop} (hd : o.dst = some d) (hn : Nat.blt d n = true)
    (ho : o.op = .call { callee := .value (.func f), args := xs.toArray, argTypes := ts }) (hx : evs l xs = some vs) {fn : Func} {c : Code} (hf : P.funcs[f]? = some fn) (hb : fn.body = some c) (hnm : (fn.name == "runtime.NumGoroutine") = false)
    (ht : Tr P f vs.toArray ro [] (T1 p)) (hro : ∀ c ∈ ro, May w0 S m c) (h : ∀ v c, p v c → G n w0 S ((d, v) :: l) (c :: m) K) : G n w0 S l m (fun a w => o.wp P a w K Q) :=
  G.tr hd hn ho hx hf hb hnm ht .nil hro fun x m' ⟨c, hm, hp⟩ => by subst hm; exact h x c hp
/-- .. that turns one chunk into another -/
theorem G.callM {o : Oper} {d : Nat} {f : FuncId} {xs : List Operand} {ts : Array TypeId} {vs : List Value} {ro : List Ck} {p : Value → Ck → Prop} {c0 : Ck} {r : List Ck} (hd : o.dst = some d) (hn : Nat.blt d n = true)
    (ho : o.op = .call { callee := .value (.func f), args := xs.toArray, argTypes := ts }) (hx : evs l xs = some vs) {fn : Func} {c : Code} (hf : P.funcs[f]? = some fn) (hb : fn.body = some c) (hnm : (fn.name == "runtime.NumGoroutine") = false)
    (ht : Tr P f vs.toArray ro [c0] (T1 p)) (hs : Sel m c0 r) (hro : ∀ c ∈ ro, May w0 S r c) (h : ∀ v c, p v c → G n w0 S ((d, v) :: l) (c :: r) K) : G n w0 S l m (fun a w => o.wp P a w K Q) :=
  G.tr hd hn ho hx hf hb hnm ht (.cons hs .nil) hro fun x m' ⟨c, hm, hp⟩ => by subst hm; exact h x c hp
/-- what a callee reads -/
theorem may0 : ∀ c ∈ ([] : List Ck), May w0 S m c := fun c hc => by cases hc
theorem may1 {c : Ck} (h : May w0 S m c) : ∀ d ∈ [c], May w0 S m d := fun d hd => by obtain rfl : d = c := (by simpa using hd); exact h
theorem may2 {c d : Ck} (h : May w0 S m c) (k : May w0 S m d) : ∀ x ∈ [c, d], May w0 S m x := fun x hx => by
  rcases List.mem_cons.1 hx with rfl | hx
  · exact h
  · obtain rfl : x = d := (by simpa using hx); exact k
theorem may3 {c d e : Ck} (h : May w0 S m c) (k : May w0 S m d) (i : May w0 S m e) : ∀ x ∈ [c, d, e], May w0 S m x := fun x hx => by
  rcases List.mem_cons.1 hx with rfl | hx
  · exact h
  · exact may2 k i x hx
theorem ro1 {c : Ck} (h : ∀ d ∈ [c], Ro w0 S d) : Ro w0 S c := h c (List.mem_cons_self ..)
theorem ro2 {c d : Ck} (h : ∀ x ∈ [c, d], Ro w0 S x) : Ro w0 S c ∧ Ro w0 S d := ⟨h c (List.mem_cons_self ..), h d (List.mem_cons_of_mem _ (List.mem_cons_self ..))⟩
theorem ro3 {c d e : Ck} (h : ∀ x ∈ [c, d, e], Ro w0 S x) : Ro w0 S c ∧ Ro w0 S d ∧ Ro w0 S e := ⟨h c (List.mem_cons_self ..), ro2 fun x hx => h x (List.mem_cons_of_mem _ hx)⟩
theorem Sel.may {r : List Ck} {c : Ck} (h : Sel m c r) : May w0 S m c := .own h.mem

/-! regions that draw their order -/
def wantB (ops : Array Oper) (l : Fr) (o : Oper) : Option Bool :=
  match o.guard with
  | none => some true
  | some (j, b) => match (ops[j]?).bind (·.dst) with
    | some t => match Fr.get l t with
      | some (.bool c) => some (!(Bool.xor b c))
      | _ => none
    | none => none
theorem At.wanted {a : Act} {ops : Array Oper} {o : Oper} {b : Bool} (ha : At a n l) (h : wantB ops l o = some b) : Region.wanted o (Go.yielded ops a.tmps) = b := by
  unfold wantB at h
  unfold Region.wanted
  split at h
  · rename_i hg
    rw [hg]
    injection h
  · rename_i j b' hg
    rw [hg]
    split at h
    · rename_i t ht
      split at h
      · rename_i c hc
        injection h with h
        subst h
        simp only
        rw [ha.yielded ht hc]
        cases b' <;> cases c <;> rfl
      · cases h
    · cases h
section
variable {ops : Array Oper} {mS r : List Ck} {fuel i d : Nat} {listed : Array Bool} {oi : Oper} {v : Value}
theorem G.drawn {id k : Nat} (hm : P.follows .mixedOrders = true) (hk : ops.size = k) (mS : List Ck) (h : G n w0 S l m (wpAnyH P .any ops Q (fun w => Hp w0 S w mS) k (Array.replicate k false))) : G n w0 S l m ((Code.region id ops true).wp P Q) := fun a w ha hw => by
  subst hk
  exact wp_region_held hm (h a w.drew ha hw.drew)
theorem G.take (hi : ops[i]? = some oi) (hd : oi.dst = some d) (hn : Nat.blt d n = true) (hns : Region.noSelect ops = true) (hf : Region.free .any ops listed i = true) (hr : (Region.ready .any ops listed).contains i = true)
    (hQ : ∀ c a w, Q (.panic c) (a.put oi.dst v) w → Q (.panic c) a w) (hw : wantB ops l oi = some true) (hv : PV P n w0 S l mS oi v) (hs : Sub m mS r)
    (h : G n w0 S ((d, v) :: l) m (wpAnyH P .any ops Q (fun w => Hp w0 S w mS) fuel (listed.setIfInBounds i true))) : G n w0 S l m (wpAnyH P .any ops Q (fun w => Hp w0 S w mS) (fuel + 1) listed) := fun a w ha hw' =>
  wpAnyH_take hi hns hf hr hQ (.inl ⟨ha.wanted hw, fun w hS => hv a w ha hS⟩) ((hw'.perm hs.perm).sub (List.sublist_append_left _ _)) (by
    rw [hd]
    exact h _ _ (ha.put hn v) hw')
theorem G.takeF (hi : ops[i]? = some oi) (hd : oi.dst = some d) (hn : Nat.blt d n = true) (hns : Region.noSelect ops = true) (hf : Region.free .any ops listed i = true) (hr : (Region.ready .any ops listed).contains i = true)
    (hQ : ∀ c a w, Q (.panic c) (a.put oi.dst undef) w → Q (.panic c) a w) (hw : wantB ops l oi = some false) (hs : Sub m mS r)
    (h : G n w0 S ((d, undef) :: l) m (wpAnyH P .any ops Q (fun w => Hp w0 S w mS) fuel (listed.setIfInBounds i true))) : G n w0 S l m (wpAnyH P .any ops Q (fun w => Hp w0 S w mS) (fuel + 1) listed) := fun a w ha hw' =>
  wpAnyH_take hi hns hf hr hQ (.inr ⟨ha.wanted hw, rfl⟩) ((hw'.perm hs.perm).sub (List.sublist_append_left _ _)) (by
    rw [hd]
    exact h _ _ (ha.put hn undef) hw')
theorem G.turnOp {K' : Act → World → Prop} (hi : ops[i]? = some oi) (hw : wantB ops l oi = some true) (h : G n w0 S l m (fun a w => oi.wp P a w K' Q)) : G n w0 S l m (wpOp P ops Q i K') := fun a w ha hw' => by
  unfold wpOp
  rw [hi]
  simp only
  rw [if_pos (ha.wanted hw)]
  exact .inl (h a w ha hw')
theorem G.turnF {K' : Act → World → Prop} (hi : ops[i]? = some oi) (hd : oi.dst = some d) (hn : Nat.blt d n = true) (hw : wantB ops l oi = some false) (h : G n w0 S ((d, undef) :: l) m K') : G n w0 S l m (wpOp P ops Q i K') := fun a w ha hw' => by
  unfold wpOp
  rw [hi]
  simp only
  rw [if_neg (by rw [ha.wanted hw]; simp), hd]
  exact h _ _ (ha.put hn undef) hw'
theorem G.all {rs : List Nat} {Sx : World → Prop} (hr : Region.ready .any ops listed = rs) (hne : rs.isEmpty = false) (h : ∀ i ∈ rs, G n w0 S l m (wpOp P ops Q i (fun a w => Sx w ∧ wpAnyH P .any ops Q Sx fuel (listed.setIfInBounds i true) a w))) : G n w0 S l m (wpAnyH P .any ops Q Sx (fuel + 1) listed) := fun a w ha hw =>
  wpAnyH_all hr (fun e => by rw [e] at hne; cases hne) fun i hi => h i hi a w ha hw
theorem G.one {i : Nat} {Sx : World → Prop} (hr : Region.ready .any ops listed = [i]) (h : G n w0 S l m (wpOp P ops Q i (fun a w => Sx w ∧ wpAnyH P .any ops Q Sx fuel (listed.setIfInBounds i true) a w))) : G n w0 S l m (wpAnyH P .any ops Q Sx (fuel + 1) listed) :=
  G.all hr rfl fun j hj => by obtain rfl : j = i := (by simpa using hj); exact h
theorem G.two {i j : Nat} {Sx : World → Prop} (hr : Region.ready .any ops listed = [i, j]) (h : G n w0 S l m (wpOp P ops Q i (fun a w => Sx w ∧ wpAnyH P .any ops Q Sx fuel (listed.setIfInBounds i true) a w)))
    (k : G n w0 S l m (wpOp P ops Q j (fun a w => Sx w ∧ wpAnyH P .any ops Q Sx fuel (listed.setIfInBounds j true) a w))) : G n w0 S l m (wpAnyH P .any ops Q Sx (fuel + 1) listed) :=
  G.all hr rfl fun x hx => by
    rcases List.mem_cons.1 hx with rfl | hx
    · exact h
    · obtain rfl : x = j := (by simpa using hx)
      exact k
theorem G.back {K' : Act → World → Prop} (hs : Sub m mS r) (h : G n w0 S l m K') : G n w0 S l m (fun a w => Hp w0 S w mS ∧ K' a w) := fun a w ha hw => ⟨(hw.perm hs.perm).sub (List.sublist_append_left _ _), h a w ha hw⟩
theorem G.over {Sx : World → Prop} (hr : Region.ready .any ops listed = []) (h : G n w0 S l m (Q .normal)) : G n w0 S l m (wpAnyH P .any ops Q Sx fuel listed) := fun a w ha hw => wpAnyH_done hr (h a w ha hw) fuel
end
end
end Go.Proofs.YtkhffndeomihhaaDoor
