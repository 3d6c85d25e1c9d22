/- A walk by chunks: what stays is kept by itself; scopes, labels; ranges of a block; calls whose memory is found first. Conditions: none. -/
import Derived.Test.YtkhffndeomihhaaDoorWA
import Derived.Scope
set_option linter.unusedVariables false
set_option linter.unusedSimpArgs false
set_option maxRecDepth 100000
namespace Go.Proofs.YtkhffndeomihhaaDoor
open Go.RowKit

section
variable {P : Program} {n : Nat} {w0 : World} {S : Nat → Prop} {l : Fr} {m : List Ck} {Q : Exit → Act → World → Prop} {K : Act → World → Prop}
  {dst : Option Tmp} {ty : TypeId} {pos : String} {after : Array Edge} {g : Option (Nat × Bool)}
theorem G.scope {c : Code} (h : G n w0 S l m (c.wp P (Exit.noGoto Q))) : G n w0 S l m ((Code.scope c).wp P Q) := fun a w ha hw => wp_scope_straight (h a w ha hw)
theorem G.label {k : Nat} (h : G n w0 S l m (Q .normal)) : G n w0 S l m ((Code.label k).wp P Q) := fun a w ha hw => wp_label (h a w ha hw)
theorem G.nScope (h : G n w0 S l m (Q .normal)) : G n w0 S l m (Exit.noGoto Q .normal) := h
theorem G.rScope (h : G n w0 S l m (Q .ret)) : G n w0 S l m (Exit.noGoto Q .ret) := h
theorem G.eScope {id : Nat} (h : G n w0 S l m (Q (.exit id))) : G n w0 S l m (Exit.noGoto Q (.exit id)) := h
theorem G.pScope {c : List PanicEntry} (h : G n w0 S l m (Q (.panic c))) : G n w0 S l m (Exit.noGoto Q (.panic c)) := h
/-- slots that are kept -/
inductive Kp (l : Fr) : List Nat → Fr → Prop
  | nil : Kp l [] []
  | cons {t : Nat} {v : Value} {ts : List Nat} {l' : Fr} (h : Fr.get l t = some v) (r : Kp l ts l') : Kp l (t :: ts) ((t, v) :: l')
theorem Kp.fw {ts : List Nat} {l' : Fr} (h : Kp l ts l') : Fw l l' := by
  induction h with
  | nil => exact .nil
  | cons h _ ih => exact .cons h ih
/-- one list behind another, told -/
inductive Ap {X α : Type} : (X → List α) → List α → (X → List α) → Prop
  | nil {b : List α} : Ap (fun _ => []) b (fun _ => b)
  | cons {f : X → α} {a c : X → List α} {b : List α} (h : Ap a b c) : Ap (fun x => f x :: a x) b (fun x => f x :: c x)
theorem Ap.eq {X α : Type} {a c : X → List α} {b : List α} (h : Ap a b c) (x : X) : a x ++ b = c x := by
  induction h with
  | nil => rfl
  | cons _ ih => rw [List.cons_append, ih]
theorem Fw.app {a b : Fr} (h : Fw l a) (k : Fw l b) : Fw l (a ++ b) := by
  induction h with
  | nil => exact k
  | cons h _ ih => exact .cons h ih
theorem Sub.all : ∀ m : List Ck, Sub m m []
  | [] => .nil
  | _ :: m => .cons .here (Sub.all m)
theorem Sub.app {p q r s : List Ck} (h : Sub m p r) (k : Sub r q s) : Sub m (p ++ q) s := by
  induction h with
  | nil => exact k
  | cons h _ ih => exact .cons h (ih k)
theorem G.loopK {X : Type} (J : X → Prop) (A : X → Fr) (B : X → List Ck) (μ : X → Nat) {c : Code} {x0 : X} {r : List Ck} {ts : List Nat} {l1 : Fr} {L : X → Fr} {M : X → List Ck} (hk : Kp l ts l1) (hm : Sub m (B x0) r) (hL : Ap A l1 L) (hM : Ap B r M) (h0 : J x0) (hl : Fw l (A x0))
    (round : ∀ x, J x → G n w0 S (L x) (M x) (c.wp P (Exit.then (fun a w => ∃ y, J y ∧ μ y < μ x ∧ At a n (L y) ∧ Hp w0 S w (M y)) Q))) : G n w0 S l m ((Code.loop c).wp P Q) :=
  G.loop (r := []) J L M μ h0 (by rw [← hL.eq x0]; exact hl.app hk.fw) (by rw [← hM.eq x0]; exact hm.app (Sub.all r)) round
theorem G.cutK {X : Type} (J : X → Prop) (A : X → Fr) (B : X → List Ck) {c : Code} {p r : List Ck} {ts : List Nat} {l1 : Fr} {L : X → Fr} {M : X → List Ck} (hk : Kp l ts l1) (hm : Sub m p r) (hL : Ap A l1 L) (hM : Ap B r M)
    (first : G n w0 S l m (c.wp P (Exit.then (fun a w => ∃ x, J x ∧ At a n (L x) ∧ Hp w0 S w (M x)) Q))) (rest : ∀ x, J x → G n w0 S (L x) (M x) K) : G n w0 S l m (c.wp P (Exit.then K Q)) := G.cut J L M first rest
/-- a call, its memory found first -/
theorem G.cS {X : Type} {J : X → Prop} {V : X → Value} {M M' : X → List Ck} {o : Oper} {d : Nat} {f : FuncId} {xs : List Operand} {ts : Array TypeId} {vs : List Value} {ro pre r : List Ck} (hd : o.dst = some d) (hn : Nat.blt d n = true)
    (ho : o.op = .call { callee := .value (.func f), args := xs.toArray, argTypes := ts }) (hx : evs l xs = some vs) {fn : Func} {c : Code} (hf : P.funcs[f]? = some fn) (hb : fn.body = some c) (hnm : (fn.name == "runtime.NumGoroutine") = false)
    (hm : Sub m pre r) (hro : ∀ c ∈ ro, May w0 S r c) (ht : Tr P f vs.toArray ro pre (TX J V M)) (hM : Ap M r M') (h : ∀ x, J x → G n w0 S ((d, V x) :: l) (M' x) K) : G n w0 S l m (fun a w => o.wp P a w K Q) :=
  G.cN hd hn ho hx hf hb hnm ht hm hro fun x hJ => by rw [hM.eq x]; exact h x hJ
/-- .. that only reads -/
theorem G.cR {o : Oper} {d : Nat} {f : FuncId} {xs : List Operand} {ts : Array TypeId} {vs : List Value} {ro : List Ck} {v : Value} (hd : o.dst = some d) (hn : Nat.blt d n = true)
    (ho : o.op = .call { callee := .value (.func f), args := xs.toArray, argTypes := ts }) (hx : evs l xs = some vs) {fn : Func} {c : Code} (hf : P.funcs[f]? = some fn) (hb : fn.body = some c) (hnm : (fn.name == "runtime.NumGoroutine") = false)
    (hro : ∀ c ∈ ro, May w0 S m c) (ht : Tr P f vs.toArray ro [] (T0 v)) (h : G n w0 S ((d, v) :: l) m K) : G n w0 S l m (fun a w => o.wp P a w K Q) :=
  G.call0 hd hn ho hx hf hb hnm ht hro h

section
variable {X : Type} {J : X → Prop} {V : X → Value} {M : X → List Ck} {fn : Func} {pre r : List Ck} {t u s : Nat} {v y z : Value}
theorem G.doneX0 (x : X) (hJ : J x) (hr : fn.results = #[]) (hv : .tuple #[] = V x) (hs : Sub m (M x) r) : G n w0 (U pre) l m (bodyPost P fn (TrR w0 pre (TX J V M)) .ret) := G.done0 hr hs ⟨x, hJ, hv, rfl⟩
theorem G.doneXE (x : X) (hJ : J x) (hr : fn.results = #[]) (hv : .tuple #[] = V x) (hs : Sub m (M x) r) : G n w0 (U pre) l m (bodyPost P fn (TrR w0 pre (TX J V M)) .normal) := G.doneE hr hs ⟨x, hJ, hv, rfl⟩
theorem G.doneX1 (x : X) (hJ : J x) (hr : fn.results = #[.tmp t]) (ht : Fr.get l t = some v) (hv : v = V x) (hs : Sub m (M x) r) : G n w0 (U pre) l m (bodyPost P fn (TrR w0 pre (TX J V M)) .ret) := G.done1 hr ht hs ⟨x, hJ, hv, rfl⟩
theorem G.doneX2 (x : X) (hJ : J x) (hr : fn.results = #[.tmp t, .tmp u]) (ht : Fr.get l t = some v) (hu : Fr.get l u = some y) (hv : .tuple #[v, y] = V x) (hs : Sub m (M x) r) : G n w0 (U pre) l m (bodyPost P fn (TrR w0 pre (TX J V M)) .ret) := G.done2 hr ht hu hs ⟨x, hJ, hv, rfl⟩
theorem G.doneX3 (x : X) (hJ : J x) (hr : fn.results = #[.tmp t, .tmp u, .tmp s]) (ht : Fr.get l t = some v) (hu : Fr.get l u = some y) (hz : Fr.get l s = some z) (hv : .tuple #[v, y, z] = V x) (hs : Sub m (M x) r) : G n w0 (U pre) l m (bodyPost P fn (TrR w0 pre (TX J V M)) .ret) := G.done3 hr ht hu hz hs ⟨x, hJ, hv, rfl⟩
/-- results in cells: two structs -/
theorem G.retC2 {R : Ending → World → Prop} {t u T U' : Nat} {b o b' o' : Nat} {cs ds : List Value} {d d' : TypeDesc} (hr : fn.results = #[.cell t T, .cell u U']) (ht : Fr.get l t = some (.pointer (some ⟨b, o, none⟩))) (hu : Fr.get l u = some (.pointer (some ⟨b', o', none⟩)))
    (h1 : P.underlying T = some d) (h2 : d.isRow = true) (h3 : (P.info? T).map (·.size) = some cs.length) (h4 : ∀ w, Hp w0 S w m → w.rangeAt b o cs) (k1 : P.underlying U' = some d') (k2 : d'.isRow = true) (k3 : (P.info? U').map (·.size) = some ds.length) (k4 : ∀ w, Hp w0 S w m → w.rangeAt b' o' ds)
    (h : ∀ w, Hp w0 S w m → R (.returned (.tuple #[.agg cs.toArray, .agg ds.toArray])) w) : G n w0 S l m (bodyPost P fn R .ret) := G.retBy (fun a w ha hw => by
  have e1 := ha.get _ _ ht
  have e2 := ha.get _ _ hu
  have r1 : (loadVar T ⟨b, o, none⟩).run P w = .ok (.agg cs.toArray) w := by
    have := run_loadAt_mid w b o T cs d (h4 w hw) h1 h2 h3
    simpa [Instr.loadAt, Instr.sureAddr, Sem.run_bind, Sem.run_pure, Result.andThen] using this
  have r2 : (loadVar U' ⟨b', o', none⟩).run P w = .ok (.agg ds.toArray) w := by
    have := run_loadAt_mid w b' o' U' ds d' (k4 w hw) k1 k2 k3
    simpa [Instr.loadAt, Instr.sureAddr, Sem.run_bind, Sem.run_pure, Result.andThen] using this
  simp only [results, hr]
  simp [Sem.run_bind, e1, e2, asAddr, r1, r2, Result.andThen, Sem.run_pure]) h
theorem G.retTC {R : Ending → World → Prop} {t u U' : Nat} {b' o' : Nat} {x : Value} {ds : List Value} {d' : TypeDesc} (hr : fn.results = #[.tmp t, .cell u U']) (ht : Fr.get l t = some x) (hu : Fr.get l u = some (.pointer (some ⟨b', o', none⟩)))
    (k1 : P.underlying U' = some d') (k2 : d'.isRow = true) (k3 : (P.info? U').map (·.size) = some ds.length) (k4 : ∀ w, Hp w0 S w m → w.rangeAt b' o' ds)
    (h : ∀ w, Hp w0 S w m → R (.returned (.tuple #[x, .agg ds.toArray])) w) : G n w0 S l m (bodyPost P fn R .ret) := G.retBy (fun a w ha hw => by
  have e1 := ha.get _ _ ht
  have e2 := ha.get _ _ hu
  have r2 : (loadVar U' ⟨b', o', none⟩).run P w = .ok (.agg ds.toArray) w := by
    have := run_loadAt_mid w b' o' U' ds d' (k4 w hw) k1 k2 k3
    simpa [Instr.loadAt, Instr.sureAddr, Sem.run_bind, Sem.run_pure, Result.andThen] using this
  simp only [results, hr]
  simp [Sem.run_bind, e1, e2, asAddr, r2, Result.andThen, Sem.run_pure]) h
theorem G.doneXC2 {t u T U' : Nat} {b o b' o' : Nat} {cs ds : List Value} {d d' : TypeDesc} (x : X) (hJ : J x) (hr : fn.results = #[.cell t T, .cell u U']) (ht : Fr.get l t = some (.pointer (some ⟨b, o, none⟩))) (hu : Fr.get l u = some (.pointer (some ⟨b', o', none⟩)))
    (h1 : P.underlying T = some d) (h2 : d.isRow = true) (h3 : (P.info? T).map (·.size) = some cs.length) (h4 : ∀ w, Hp w0 (U pre) w m → w.rangeAt b o cs) (k1 : P.underlying U' = some d') (k2 : d'.isRow = true) (k3 : (P.info? U').map (·.size) = some ds.length) (k4 : ∀ w, Hp w0 (U pre) w m → w.rangeAt b' o' ds)
    (hv : .tuple #[.agg cs.toArray, .agg ds.toArray] = V x) (hs : Sub m (M x) r) : G n w0 (U pre) l m (bodyPost P fn (TrR w0 pre (TX J V M)) .ret) :=
  G.retC2 hr ht hu h1 h2 h3 h4 k1 k2 k3 k4 fun w hw => ⟨_, _, rfl, ⟨x, hJ, hv, rfl⟩, (hw.perm hs.perm).sub (List.sublist_append_left _ _)⟩
theorem G.doneXTC {t u U' : Nat} {b' o' : Nat} {y : Value} {ds : List Value} {d' : TypeDesc} (x : X) (hJ : J x) (hr : fn.results = #[.tmp t, .cell u U']) (ht : Fr.get l t = some y) (hu : Fr.get l u = some (.pointer (some ⟨b', o', none⟩)))
    (k1 : P.underlying U' = some d') (k2 : d'.isRow = true) (k3 : (P.info? U').map (·.size) = some ds.length) (k4 : ∀ w, Hp w0 (U pre) w m → w.rangeAt b' o' ds)
    (hv : .tuple #[y, .agg ds.toArray] = V x) (hs : Sub m (M x) r) : G n w0 (U pre) l m (bodyPost P fn (TrR w0 pre (TX J V M)) .ret) :=
  G.retTC hr ht hu k1 k2 k3 k4 fun w hw => ⟨_, _, rfl, ⟨x, hJ, hv, rfl⟩, (hw.perm hs.perm).sub (List.sublist_append_left _ _)⟩
theorem G.doneXCN {t T b o : Nat} {cs : List Value} {d : TypeDesc} (x : X) (hJ : J x) (hr : fn.results = #[.cell t T]) (ht : Fr.get l t = some (.pointer (some ⟨b, o, none⟩))) (hu : P.underlying T = some d) (hd : d.isRow = true) (hi : (P.info? T).map (·.size) = some cs.length) (hc : ∀ w, Hp w0 (U pre) w m → w.rangeAt b o cs)
    (hv : .agg cs.toArray = V x) (hs : Sub m (M x) r) : G n w0 (U pre) l m (bodyPost P fn (TrR w0 pre (TX J V M)) .ret) := G.doneCN hr ht hu hd hi hc hs ⟨x, hJ, hv, rfl⟩
end
/-- a part of a block -/
def rng (b o : Nat) (cs : List Value) : Ck := ⟨(· = b), fun w => w.rangeAt b o cs, fun w w' h hw j v hj => (World.cell?_of_block (h b rfl)).trans (hw j v hj)⟩
theorem rng_cell {b o j : Nat} {cs : List Value} {r : List Ck} {v : Value} (h : Sel m (rng b o cs) r) (hv : cs[j]? = some v) : ∀ w, Hp w0 S w m → w.cell? ⟨b, o + j, none⟩ = some v := fun w hw => by
  have : w.rangeAt b o cs := hw.holds _ h.mem
  exact this j v hv
theorem ro_rngC {b o j : Nat} {cs : List Value} {v : Value} (h : Ro w0 S (rng b o cs)) (hv : cs[j]? = some v) : ∀ w, Hp w0 S w m → w.cell? ⟨b, o + j, none⟩ = some v := fun w hw => by
  have : w.rangeAt b o cs := h.at hw
  exact this j v hv
theorem rangeAt_sub {w : World} {b o j k : Nat} {cs xs : List Value} (h : w.rangeAt b o cs) (hv : (cs.drop j).take k = xs) : w.rangeAt b (o + j) xs := fun i v hi => by
  rw [← hv, List.getElem?_take] at hi
  split at hi
  · rw [List.getElem?_drop] at hi
    have := h _ v hi
    rwa [← Nat.add_assoc] at this
  · cases hi
theorem rng_range {b o j k : Nat} {cs xs : List Value} {r : List Ck} (h : Sel m (rng b o cs) r) (hv : (cs.drop j).take k = xs) : ∀ w, Hp w0 S w m → w.rangeAt b (o + j) xs := fun w hw => rangeAt_sub (hw.holds _ h.mem : w.rangeAt b o cs) hv
theorem ro_rngR {b o j k : Nat} {cs xs : List Value} (h : Ro w0 S (rng b o cs)) (hv : (cs.drop j).take k = xs) : ∀ w, Hp w0 S w m → w.rangeAt b (o + j) xs := fun w hw => rangeAt_sub (h.at hw : w.rangeAt b o cs) hv
/-- a chunk seen as another one -/
theorem G.see {c d : Ck} {r : List Ck} (hs : Sel m c r) (hφ : ∀ w, c.φ w → d.φ w) (hS : ∀ b, d.S b → c.S b) (h : G n w0 S l (d :: r) K) : G n w0 S l m K := G.mem (fun w hw => hp_view (c := c) (d := d) (hw.sel hs) (hφ w) hS) h
theorem blk_rngAt {w : World} {b o k : Nat} {T : TypeId} {cs xs : List Value} (h : (blk b T cs).φ w) (hv : (cs.drop o).take k = xs) : w.rangeAt b o xs := fun j v hj => by
  have h : w.heap[b]? = some (.cells cs.toArray T (0, 0)) := h
  rw [cell_of_row _ _ _ _ _ _ h, List.getElem?_toArray]
  rw [← hv, List.getElem?_take] at hj
  split at hj
  · rwa [List.getElem?_drop] at hj
  · cases hj
theorem G.blkRng {b o k : Nat} {T : TypeId} {cs xs : List Value} {r : List Ck} (hs : Sel m (blk b T cs) r) (hv : (cs.drop o).take k = xs) (h : G n w0 S l (rng b o xs :: r) K) : G n w0 S l m K := G.see (d := rng b o xs) hs (fun w hw => blk_rngAt hw hv) (fun b hb => hb) h
/-! structs that are built -/
inductive St : List Value → Nat → Value → List Value → Prop
  | zero {x v : Value} {cs : List Value} : St (x :: cs) 0 v (v :: cs)
  | succ {x v : Value} {cs cs' : List Value} {o : Nat} (h : St cs o v cs') : St (x :: cs) (o + 1) v (x :: cs')
theorem St.eq {cs cs' : List Value} {o : Nat} {v : Value} (h : St cs o v cs') : cs.set o v = cs' ∧ o < cs.length := by
  induction h with
  | zero => exact ⟨rfl, by simp⟩
  | succ _ ih => exact ⟨by rw [List.set_cons_succ, ih.1], by have := ih.2; simp; omega⟩
inductive Sn : List Value → Nat → List Value → List Value → Prop
  | nil {cs : List Value} {o : Nat} : Sn cs o [] cs
  | cons {cs c1 c2 vs : List Value} {o : Nat} {v : Value} (h : St cs o v c1) (r : Sn c1 (o + 1) vs c2) : Sn cs o (v :: vs) c2
theorem Sn.len {cs cs' vs : List Value} {o : Nat} (h : Sn cs o vs cs') : cs'.length = cs.length ∧ (vs = [] ∨ o + vs.length ≤ cs.length) := by
  induction h with
  | nil => exact ⟨rfl, .inl rfl⟩
  | cons h _ ih =>
    have e := h.eq
    have l1 : _ = _ := congrArg List.length e.1
    rw [List.length_set] at l1
    refine ⟨by omega, .inr ?_⟩
    rcases ih.2 with rfl | h2
    · simp; omega
    · simp; omega
theorem Sn.fold {cs cs' vs : List Value} {o : Nat} (h : Sn cs o vs cs') : ∀ off k : Nat, o = off + k → (vs.zipIdx k).foldl (fun (a : Array Value) (x : Value × Nat) => a.setIfInBounds (off + x.2) x.1) cs.toArray = cs'.toArray := by
  induction h with
  | nil => intro off k _; rfl
  | cons h _ ih =>
    intro off k e
    rw [List.zipIdx_cons, List.foldl_cons]
    simp only
    rw [← e, List.setIfInBounds_toArray, h.eq.1]
    exact ih off (k + 1) (by omega)
/-- parts laid over the noughts -/
inductive Fl (pl : List (Nat × Nat)) : List Value → List (Nat × Value) → List Value → Prop
  | nil {cs : List Value} : Fl pl cs [] cs
  | cons {cs c1 c2 xs : List Value} {i o sz : Nat} {v : Value} {ps : List (Nat × Value)} (h : pl[i]? = some (o, sz)) (hx : v.cells = xs.toArray) (hl : xs.length = sz) (hp : Nat.blt 0 sz = true) (hs : Sn cs o xs c1) (r : Fl pl c1 ps c2) : Fl pl cs ((i, v) :: ps) c2
theorem Fl.fill {pl : List (Nat × Nat)} {cs cs' : List Value} {ps : List (Nat × Value)} (h : Fl pl cs ps cs') : Instr.fill (pl.toArray[·]?) cs.toArray ps = some cs'.toArray := by
  induction h with
  | nil => rfl
  | cons h hx hl hp hs _ ih =>
    rename_i cs0 c1 c2 xs i o sz v ps hr
    unfold Instr.fill
    simp only [List.getElem?_toArray, h, hx]
    have hp' : 0 < sz := by simpa using hp
    have hb := hs.len.2
    rw [if_neg]
    · have := hs.fold o 0 (by omega)
      have e2 : xs.toArray.zipIdx.foldl (fun (a : Array Value) (x : Value × Nat) => a.setIfInBounds (o + x.2) x.1) cs0.toArray = c1.toArray := by
        rw [← this, ← Array.foldl_toList]
        congr 1
        simp
      rw [e2]
      have := ih
      simp only [List.getElem?_toArray] at this
      exact this
    · intro hc
      simp at hc
      rcases hc with hc | hc
      · exact hc hl
      · rcases hb with rfl | hb
        · simp at hl; omega
        · omega
theorem pv_buildSt {t : TypeId} {xs : List (Nat × Operand)} {ps : List (Nat × Value)} {fs : Array Field} {z cs : List Value} {pl : List (Nat × Nat)} (hu : P.underlying t = some (.struct fs)) (hz : ((P.info? t).bind (·.zero)).map (·.cells) = some z.toArray) (hpl : fs.toList.mapM (fun f => (P.info? f.type).map fun i => (f.offset, i.size)) = some pl) (hp : pevs l xs = some ps) (hf : Fl pl z ps cs) :
    PV P n w0 S l m ⟨dst, .build t xs.toArray, ty, pos, after, g⟩ (.agg cs.toArray) :=
  pv_build (fun a ha => ha.pevs hp) (by
    obtain ⟨zv, hz1, hz2⟩ := Option.map_eq_some_iff.1 hz
    obtain ⟨it, hi, hi2⟩ := Option.bind_eq_some_iff.1 hz1
    unfold Program.built
    simp only [hi, hu, hi2, hpl, hz2]
    exact hf.fill)
/-- a value's cells, where it is but one -/
theorem cells_of {v : Value} (h : v.oneCell' = true) : v.cells = [v].toArray := by cases v <;> first | rfl | cases h
/-! results, wherever they lie -/
inductive Rv (P : Program) (w0 : World) (S : Nat → Prop) (l : Fr) (m : List Ck) : List ResultVar → List Value → Prop
  | nil : Rv P w0 S l m [] []
  | tmp {t : Nat} {v : Value} {rs : List ResultVar} {vs : List Value} (h : Fr.get l t = some v) (r : Rv P w0 S l m rs vs) : Rv P w0 S l m (.tmp t :: rs) (v :: vs)
  | cell1 {t T b o : Nat} {v : Value} {d : TypeDesc} {rs : List ResultVar} {vs : List Value} (h : Fr.get l t = some (.pointer (some ⟨b, o, none⟩))) (hu : P.underlying T = some d) (hd : d.isRow = false) (hc : ∀ w, Hp w0 S w m → w.cell? ⟨b, o, none⟩ = some v) (r : Rv P w0 S l m rs vs) : Rv P w0 S l m (.cell t T :: rs) (v :: vs)
  | cellN {t T b o : Nat} {cs : List Value} {d : TypeDesc} {rs : List ResultVar} {vs : List Value} (h : Fr.get l t = some (.pointer (some ⟨b, o, none⟩))) (hu : P.underlying T = some d) (hd : d.isRow = true) (hi : (P.info? T).map (·.size) = some cs.length) (hc : ∀ w, Hp w0 S w m → w.rangeAt b o cs) (r : Rv P w0 S l m rs vs) : Rv P w0 S l m (.cell t T :: rs) (.agg cs.toArray :: vs)
def resOf (ts : Array Value) : ResultVar → Sem Value
  | .tmp t => pure (ts.getD t undef)
  | .cell q t => do loadVar t (← asAddr (ts.getD q undef))
theorem Rv.run {a : Act} {w : World} {rs : List ResultVar} {vs : List Value} (h : Rv P w0 S l m rs vs) (ha : At a n l) (hw : Hp w0 S w m) : (rs.mapM (resOf a.tmps)).run P w = .ok vs w := by
  induction h with
  | nil => simp [Sem.run_pure]
  | tmp h _ ih =>
    have := ha.get _ _ h
    simp [List.mapM_cons, Sem.run_bind, Sem.run_pure, Result.andThen, ih, this, resOf]
  | cell1 h hu hd hc _ ih =>
    rename_i t T b o v d rs vs hrest
    have := ha.get _ _ h
    have h1 : (loadVar T ⟨b, o, none⟩).run P w = .ok v w := by
      simp [loadVar, load, Sem.run_bind, isAgg_false hu hd, Result.andThen, Sem.run_pure, Sem.run, hc w hw]
    simp [List.mapM_cons, Sem.run_bind, Sem.run_pure, Result.andThen, ih, this, asAddr, h1, resOf]
  | cellN h hu hd hi hc _ ih =>
    rename_i t T b o cs d rs vs hrest
    have := ha.get _ _ h
    have h1 : (loadVar T ⟨b, o, none⟩).run P w = .ok (.agg cs.toArray) w := by
      have := run_loadAt_mid w b o T cs d (hc w hw) hu hd hi
      simpa [Instr.loadAt, Instr.sureAddr, Sem.run_bind, Sem.run_pure, Result.andThen] using this
    simp [List.mapM_cons, Sem.run_bind, Sem.run_pure, Result.andThen, ih, this, asAddr, h1, resOf]
def retV : List Value → Value
  | [v] => v
  | vs => .tuple vs.toArray
theorem Rv.results {fn : Func} {a : Act} {w : World} {rs : List ResultVar} {vs : List Value} (h : Rv P w0 S l m rs vs) (hr : fn.results = rs.toArray) (ha : At a n l) (hw : Hp w0 S w m) : (results fn a.tmps).run P w = .ok (retV vs) w := by
  have h1 := h.run ha hw
  have key : ∀ x : Sem (Array Value), x.run P w = .ok vs.toArray w → (x >>= fun vs => pure (if h : vs.size = 1 then vs[0] else .tuple vs)).run P w = .ok (retV vs) w := fun x hx => by
    simp only [Sem.run_bind, hx, Result.andThen, Sem.run_pure]
    congr 1
    match vs with
    | [] => rfl
    | [v] => rfl
    | v :: u :: vs => simp [retV]
  have key2 : ∀ x : Sem (List Value), x.run P w = .ok vs w → (List.toArray <$> x).run P w = .ok vs.toArray w := fun x hx => by
    simp only [Sem.run_map, hx]
    rfl
  unfold Go.results
  refine key _ ?_
  rw [hr, Array.mapM_eq_mapM_toList]
  exact key2 _ h1
theorem G.doneG {X : Type} {J : X → Prop} {V : X → Value} {M : X → List Ck} {fn : Func} {pre r : List Ck} {rs : List ResultVar} {vs : List Value} (x : X) (hJ : J x) (hr : fn.results = rs.toArray) (hv : Rv P w0 (U pre) l m rs vs) (he : retV vs = V x) (hs : Sub m (M x) r) : G n w0 (U pre) l m (bodyPost P fn (TrR w0 pre (TX J V M)) .ret) :=
  G.doneBy (fun a w ha hw => hv.results hr ha hw) hs ⟨x, hJ, he, rfl⟩
theorem G.done0G {fn : Func} {v : Value} {pre : List Ck} {rs : List ResultVar} {vs : List Value} (hr : fn.results = rs.toArray) (hv : Rv P w0 (U pre) l m rs vs) (he : retV vs = v) : G n w0 (U pre) l m (bodyPost P fn (TrR w0 pre (T0 v)) .ret) :=
  G.doneBy (fun a w ha hw => hv.results hr ha hw) .nil ⟨he, rfl⟩
/-- a contract that only reads, where what is read is the call's own -/
theorem Tr.keep {f : FuncId} {args : Array Value} {ro q : List Ck} {v : Value} (h : Tr P f args ro [] (T0 v)) (hq : ∀ c ∈ ro, c ∈ q) : Tr P f args [] q (TX (fun _ : Unit => True) (fun _ => v) fun _ => q) := fun w _ hp => by
  refine (h w (fun c hc => ⟨hp.holds c (hq c hc), fun b hb => ⟨(hp.own c (hq c hc) b hb).2, fun ⟨d, hd, _⟩ => by cases hd⟩⟩) (Hp.perm (m := []) ⟨Chg.refl _ _, by simp, by simp, .nil⟩ (List.Perm.refl _))).mono ?_
  rintro e w' ⟨v', m', rfl, ⟨rfl, rfl⟩, hw'⟩
  refine ⟨_, q, rfl, ⟨(), trivial, rfl, rfl⟩, hp.keep ?_⟩
  have : Chg (fun _ => False) w w' := hw'.chg.mono fun b ⟨d, hd, _⟩ => by cases hd
  exact Chg.below_of_none this
theorem ro4 {a b c d : Ck} (h : ∀ x ∈ [a, b, c, d], Ro w0 S x) : Ro w0 S a ∧ Ro w0 S b ∧ Ro w0 S c ∧ Ro w0 S d := ⟨h a (List.mem_cons_self ..), ro3 fun x hx => h x (List.mem_cons_of_mem _ hx)⟩
theorem ro5 {a b c d e : Ck} (h : ∀ x ∈ [a, b, c, d, e], Ro w0 S x) : Ro w0 S a ∧ Ro w0 S b ∧ Ro w0 S c ∧ Ro w0 S d ∧ Ro w0 S e := ⟨h a (List.mem_cons_self ..), ro4 fun x hx => h x (List.mem_cons_of_mem _ hx)⟩
theorem ro6 {a b c d e f : Ck} (h : ∀ x ∈ [a, b, c, d, e, f], Ro w0 S x) : Ro w0 S a ∧ Ro w0 S b ∧ Ro w0 S c ∧ Ro w0 S d ∧ Ro w0 S e ∧ Ro w0 S f := ⟨h a (List.mem_cons_self ..), ro5 fun x hx => h x (List.mem_cons_of_mem _ hx)⟩
theorem may4 {a b c d : Ck} (h1 : May w0 S m a) (h2 : May w0 S m b) (h3 : May w0 S m c) (h4 : May w0 S m d) : ∀ x ∈ [a, b, c, d], May w0 S m x := fun x hx => by
  rcases List.mem_cons.1 hx with rfl | hx
  · exact h1
  · exact may3 h2 h3 h4 x hx
theorem may5 {a b c d e : Ck} (h1 : May w0 S m a) (h2 : May w0 S m b) (h3 : May w0 S m c) (h4 : May w0 S m d) (h5 : May w0 S m e) : ∀ x ∈ [a, b, c, d, e], May w0 S m x := fun x hx => by
  rcases List.mem_cons.1 hx with rfl | hx
  · exact h1
  · exact may4 h2 h3 h4 h5 x hx
theorem may6 {a b c d e f : Ck} (h1 : May w0 S m a) (h2 : May w0 S m b) (h3 : May w0 S m c) (h4 : May w0 S m d) (h5 : May w0 S m e) (h6 : May w0 S m f) : ∀ x ∈ [a, b, c, d, e, f], May w0 S m x := fun x hx => by
  rcases List.mem_cons.1 hx with rfl | hx
  · exact h1
  · exact may5 h2 h3 h4 h5 h6 x hx
/-- .. all but some -/
theorem G.drawnD {ops : Array Oper} {id k : Nat} {p mS : List Ck} (hm : P.follows .mixedOrders = true) (hk : ops.size = k) (hs : Sub m p mS) (h : G n w0 S l m (wpAnyH P .any ops Q (fun w => Hp w0 S w mS) k (Array.replicate k false))) : G n w0 S l m ((Code.region id ops true).wp P Q) := G.drawn hm hk mS h
theorem all1_nil : ([] : List Value).all (·.oneCell') = true := rfl
theorem all1_cons {v : Value} {vs : List Value} (h : v.oneCell' = true) (r : vs.all (·.oneCell') = true) : (v :: vs).all (·.oneCell') = true := by rw [List.all_cons, h, r]; rfl
/-- a field's address, its place told -/
theorem pv_fieldAddrK {b o i k : Nat} {t : TypeId} {x : Operand} {fs : Array Field} {f : Field} {sz : Nat} (hu : P.underlying t = some (.struct fs)) (hf : fs[i]? = some f) (hsz : (P.info? f.type).map (·.size) = some (sz + 1)) (hx : ev l x = some (.pointer (some ⟨b, o, none⟩))) (hk : f.offset = k) :
    PV P n w0 S l m ⟨dst, .fieldAddr t x i, ty, pos, after, g⟩ (.pointer (some ⟨b, o + k, none⟩)) := by
  have := pv_fieldAddr (P := P) (n := n) (w0 := w0) (S := S) (m := m) (dst := dst) (ty := ty) (pos := pos) (after := after) (g := g) hu hf hsz hx
  rwa [hk] at this
/-- a region in which all that is known stays -/
theorem G.drawnM {ops : Array Oper} {id k : Nat} (hm : P.follows .mixedOrders = true) (hk : ops.size = k) (h : G n w0 S l m (wpAnyH P .any ops Q (fun w => Hp w0 S w m) k (Array.replicate k false))) : G n w0 S l m ((Code.region id ops true).wp P Q) := G.drawn hm hk m h
end
end Go.Proofs.YtkhffndeomihhaaDoor
