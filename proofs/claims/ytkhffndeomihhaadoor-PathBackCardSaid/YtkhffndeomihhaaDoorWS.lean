/- A walk by chunks: the loop over a function, and how a function that holds one ends. Conditions: none. -/
import Derived.Test.YtkhffndeomihhaaDoorWR
set_option linter.unusedVariables false
set_option linter.unusedSimpArgs false
set_option maxRecDepth 100000
namespace Go.Proofs.YtkhffndeomihhaaDoor
open Go.RowKit

def mark (D : Nat) : List Deferred := [{ target := .collected D, args := #[] }]
def dfr (D : Nat) : Ck := obc D (.deferred (some []))
/-- how a round ends: its letters, and by which jump the loop is left -/
def rnd {X : Type} (w1 : World) (S1 : Nat → Prop) (J : Bool → Nat → X → Prop) (B : Bool → Nat → X → List Ck) (jmp : X → Code) (c : Ck) (i : Nat) : Exit → Act → World → Prop
  | .normal, _, w => ∃ y, J true (i + 1) y ∧ Hp w1 S1 w (c :: B true (i + 1) y)
  | .ret, _, w => ∃ y, J false (i + 1) y ∧ jmp y = .ret ∧ Hp w1 S1 w (c :: B false (i + 1) y)
  | .exit k, _, w => ∃ y, J false (i + 1) y ∧ jmp y = .exit k ∧ Hp w1 S1 w (c :: B false (i + 1) y)
  | _, _, _ => False
section
variable {P : Program} {n : Nat} {w0 : World} {S : Nat → Prop} {l : Fr} {m : List Ck} {Q : Exit → Act → World → Prop} {K : Act → World → Prop} {r : Option Nat} {ds : List Deferred}
theorem noOut {w1 : World} {pre : List Ck} {post : Value → List Ck → Prop} {w : World} (h : TrR w1 pre post .outgrown w) : False := by
  obtain ⟨_, _, h, _⟩ := h
  cases h
theorem I.rN {X : Type} {J : Bool → Nat → X → Prop} {B : Bool → Nat → X → List Ck} {jmp : X → Code} {c : Ck} {i : Nat} {q : List Ck} (y : X) (hJ : J true (i + 1) y) (hs : Sub m (c :: B true (i + 1) y) q) : G n w0 S l m (dq ds (rnd w0 S J B jmp c i .normal)) := fun a w ha hw =>
  ⟨y, hJ, (hw.perm hs.perm).sub (List.sublist_append_left _ _)⟩
theorem I.rR {X : Type} {J : Bool → Nat → X → Prop} {B : Bool → Nat → X → List Ck} {jmp : X → Code} {c : Ck} {i : Nat} {q : List Ck} (y : X) (hJ : J false (i + 1) y) (hj : jmp y = .ret) (hs : Sub m (c :: B false (i + 1) y) q) : G n w0 S l m (dq ds (rnd w0 S J B jmp c i .ret)) := fun a w ha hw =>
  ⟨y, hJ, hj, (hw.perm hs.perm).sub (List.sublist_append_left _ _)⟩
theorem I.rX {X : Type} {J : Bool → Nat → X → Prop} {B : Bool → Nat → X → List Ck} {jmp : X → Code} {c : Ck} {i k : Nat} {q : List Ck} (y : X) (hJ : J false (i + 1) y) (hj : jmp y = .exit k) (hs : Sub m (c :: B false (i + 1) y) q) : G n w0 S l m (dq ds (rnd w0 S J B jmp c i (.exit k))) := fun a w ha hw =>
  ⟨y, hJ, hj, (hw.perm hs.perm).sub (List.sublist_append_left _ _)⟩
/-- the end of the assignments ahead of a round -/
theorem I.asg {l' : Fr} {Q' : Exit → Act → World → Prop} (hl : Fw l l') : G n w0 S l m (dq [] (Exit.then (fun a w => At a n l' ∧ Hp w0 S w m) Q' .normal)) := fun a w ha hw => by
  unfold dq
  rw [da_nil ha]
  exact ⟨ha.weak hl, hw⟩
/-- the record of a loop -/
def recL (fn : FuncId) (tmps : Array Value) (p1 p2 : Nat) (assign body : Code) (D : Nat) (st : LoopState) (pe : Option Code) : Loop := { state := st, pending := pe, fn, tmps, params := #[p1, p2], assign, body, defers := D }
def stL (b : Bool) : LoopState := if b then .ready else .done
def peL {X : Type} (jmp : X → Code) (b : Bool) (x : X) : Option Code := if b then none else some (jmp x)
def cL {X : Type} (rc : LoopState → Option Code → Loop) (lp D : Nat) (B : Bool → Nat → X → List Ck) (jmp : X → Code) (b : Bool) (i : Nat) (x : X) : Ck := star (obc lp (.loop (rc (stL b) (peL jmp b x))) :: dfr D :: B b i x)
theorem I.fin {X : Type} {fnx p1 p2 D lp i : Nat} {tmps : Array Value} {assign body : Code} {J : Bool → Nat → X → Prop} {B : Bool → Nat → X → List Ck} {jmp : X → Code} {w1 w4 : World} {S1 : Nat → Prop} {b : Bool} {jump : Option Code} {y : X}
    (hJ : J b (i + 1) y) (hj : jump = peL jmp b y) (hH : Hp w1 S1 w4 (star [obc lp (.loop (recL fnx tmps p1 p2 assign body D .busy none)), dfr D] :: B b (i + 1) y)) :
    ∃ v w5, (Instr.endRound lp jump).run P w4 = .ok v w5 ∧ ∃ v' m', Ending.returned v = .returned v' ∧ TX (fun z : Bool × X => J z.1 (i + 1) z.2) (fun z => .bool z.1) (fun z => [cL (recL fnx tmps p1 p2 assign body D) lp D B jmp z.1 (i + 1) z.2]) v' m' ∧ Hp w1 S1 w5 m' := by
  have hH5 := Hp.unstar (m := [_, _]) hH
  have hl4 : w4.heap[lp]? = some (.loop (recL fnx tmps p1 p2 assign body D .busy none)) := hH5.holds _ (List.mem_cons_self ..)
  have her := run_endRound (P := P) jump hl4
  have ev : jump.isNone = b := by
    rw [hj]
    cases b <;> rfl
  have eR : ({ (recL fnx tmps p1 p2 assign body D .busy none) with state := if jump.isNone then .ready else .done, pending := jump } : Loop) = recL fnx tmps p1 p2 assign body D (stL b) (peL jmp b y) := by
    rw [ev, hj]
    rfl
  rw [eR, ev] at her
  have hH6 := Hp.putO (.loop (recL fnx tmps p1 p2 assign body D (stL b) (peL jmp b y))) hH5
  refine ⟨_, _, her, _, _, rfl, ⟨(b, y), hJ, rfl, rfl⟩, ?_⟩
  refine Hp.star (m := _ :: _ :: B b (i + 1) y) (r := []) ?_
  rw [List.append_nil]
  exact hH6
theorem I.round {X : Type} {fnx p1 p2 D lp i : Nat} {a : Act} {assign body : Code} {v1 v2 : Value} {l2 : Fr} {J : Bool → Nat → X → Prop} {B : Bool → Nat → X → List Ck} {jmp : X → Code} {x : X} (ha : At a n l) (hp1 : Nat.blt p1 n = true) (hp2 : Nat.blt p2 n = true)
    (hassign : ∀ w1 S1 m1, G n w1 S1 ((p2, v2) :: (p1, v1) :: l) m1 (dq [] (assign.wpIn (fR (some lp)) 0 P (Exit.then (fun a w => At a n l2 ∧ Hp w1 S1 w m1) (fun _ _ _ => False)))))
    (hbody : ∀ w1 S1 c, G n w1 S1 l2 (c :: B true i x) (dq [] (body.wpIn (fR (some lp)) 0 P (rnd w1 S1 J B jmp c i)))) :
    TrY P lp [v1, v2].toArray [cL (recL fnx a.tmps p1 p2 assign body D) lp D B jmp true i x] (TX (fun z : Bool × X => J z.1 (i + 1) z.2) (fun z => .bool z.1) (fun z => [cL (recL fnx a.tmps p1 p2 assign body D) lp D B jmp z.1 (i + 1) z.2])) := by
  intro w1 hw1
  have hds : a.defers = [] := ha.defs
  obtain ⟨S1, hS1⟩ : ∃ S1, U [cL (recL fnx a.tmps p1 p2 assign body D) lp D B jmp true i x] = S1 := ⟨_, rfl⟩
  rw [hS1] at hw1 ⊢
  have hu : Hp w1 S1 w1 (obc lp (.loop (recL fnx a.tmps p1 p2 assign body D .ready none)) :: dfr D :: B true i x) := by
    have := Hp.unstar hw1
    rw [List.append_nil] at this
    exact this
  have hl : w1.heap[lp]? = some (.loop (recL fnx a.tmps p1 p2 assign body D .ready none)) := hu.holds _ (List.mem_cons_self ..)
  have hy := run_yield (P := P) (args := #[v1, v2]) hl rfl
  refine ⟨_, _, _, _, hy, roundIn_of_wpIn (F := Fence.wide) trivial ?_⟩
  have hA : At (n := n) { tmps := (a.tmps.setIfInBounds p1 v1).setIfInBounds p2 v2, defers := [] } ((p2, v2) :: (p1, v1) :: l) := by
    have h2 := (ha.put hp1 v1).put hp2 v2
    have e : ((a.put (some p1) v1).put (some p2) v2) = { tmps := (a.tmps.setIfInBounds p1 v1).setIfInBounds p2 v2, defers := [] } := by
      simp [Act.put, hds]
    rwa [e] at h2
  have h3 := hassign w1 S1 _ _ w1 hA hu
  unfold dq at h3
  rw [da_nil hA] at h3
  have eT : ((#[p1, p2] : Array Nat).zip #[v1, v2]).foldl (fun t (x : Nat × Value) => t.setIfInBounds x.1 x.2) a.tmps = (a.tmps.setIfInBounds p1 v1).setIfInBounds p2 v2 := by simp
  show assign.wpIn (fR (some lp)) 0 P _ { tmps := ((#[p1, p2] : Array Nat).zip #[v1, v2]).foldl (fun t (x : Nat × Value) => t.setIfInBounds x.1 x.2) a.tmps, defers := [] } w1
  rw [eT]
  refine wpIn_mono h3 ?_
  intro e a1 w2 hq
  cases e with
  | exit id => exact hq.elim
  | goto t => exact hq.elim
  | ret => exact hq.elim
  | panic ch => exact hq.elim
  | outgrown => exact hq.elim
  | normal =>
    obtain ⟨hA1, hH1⟩ := hq
    have hl1 : w2.heap[lp]? = some (.loop (recL fnx a.tmps p1 p2 assign body D .ready none)) := hH1.holds _ (List.mem_cons_self ..)
    have hbr := run_beginRound (P := P) hl1 rfl
    refine ⟨_, hbr, ?_⟩
    have hH2 := Hp.putO (.loop (recL fnx a.tmps p1 p2 assign body D .busy none)) hH1
    have hH3 := Hp.star (m := [_, _]) (r := B true i x) hH2
    have h4 := hbody w1 S1 _ a1 _ hA1 hH3
    unfold dq at h4
    rw [da_nil hA1] at h4
    refine wpIn_mono h4 ?_
    intro e a2 w4 hq
    cases e with
    | normal =>
      obtain ⟨y, hJy, hH4⟩ := hq
      exact I.fin (b := true) hJy rfl hH4
    | ret =>
      obtain ⟨y, hJy, hj, hH4⟩ := hq
      exact I.fin (b := false) hJy (by rw [← hj]; rfl) hH4
    | exit k =>
      obtain ⟨y, hJy, hj, hH4⟩ := hq
      exact I.fin (b := false) hJy (by rw [← hj]; rfl) hH4
    | goto t => exact hq.elim
    | panic ch => exact hq.elim
    | outgrown => exact hq.elim
theorem I.rangeF {X : Type} {gf nn p1 p2 : Nat} {lb : Array Value} {ro pre q : List Ck} {encs : Nat → Value × Value} {g : Operand} {assign body : Code} {fn : Func} {c : Code}
    (J : Bool → Nat → X → Prop) (B : Bool → Nat → X → List Ck) (jmp : X → Code) (L2 : Nat → Fr) {x0 : X}
    (hg : ev l g = some (.func (.func gf) #[] lb)) (hf : P.funcs[gf]? = some fn) (hb : fn.body = some c) (hnm : (fn.name == "runtime.NumGoroutine") = false)
    (hseq : SeqT P gf lb ro pre nn (fun i => [(encs i).1, (encs i).2]))
    (hm : Sub m (B true 0 x0 ++ pre) q) (hro : ∀ c ∈ ro, May w0 S q c) (h0 : J true 0 x0)
    (hp1 : Nat.blt p1 n = true) (hp2 : Nat.blt p2 n = true)
    (hassign : ∀ w1 S1 lp m1 i, i < nn → G n w1 S1 ((p2, (encs i).2) :: (p1, (encs i).1) :: l) m1 (dq [] (assign.wpIn (fR (some lp)) 0 P (Exit.then (fun a w => At a n (L2 i) ∧ Hp w1 S1 w m1) (fun _ _ _ => False)))))
    (hbody : ∀ w1 S1 lp c i x, i < nn → J true i x → G n w1 S1 (L2 i) (c :: B true i x) (dq [] (body.wpIn (fR (some lp)) 0 P (rnd w1 S1 J B jmp c i))))
    (hdone : ∀ D x, J true nn x → G n w0 S l (dfr D :: (B true nn x ++ q)) (dq (mark D) (Q .normal)))
    (hstop : ∀ D i x, i ≤ nn → J false i x → G n w0 S l (dfr D :: (B false i x ++ q)) (dq (mark D) ((jmp x).wpIn (fR none) 0 P Q))) :
    G n w0 S l m (dq [] ((Code.rangeFunc g #[p1, p2] assign body).wpIn (fR none) 0 P Q)) := fun a w ha hw => by
  unfold dq
  rw [da_nil ha]
  have hds : a.defers = [] := ha.defs
  have hw' := hw.perm hm.perm
  refine wpIn_rangeFunc (F := fR none) (n := 0) ?_
  intro fnx _
  obtain ⟨W1, hW1⟩ : ∃ W1, (w.alloc (.deferred (some []))).alloc (.loop (recL fnx a.tmps p1 p2 assign body w.heap.size .ready none)) = W1 := ⟨_, rfl⟩
  have hp1W : Hp w0 S W1 (cL (recL fnx a.tmps p1 p2 assign body w.heap.size) (w.heap.size + 1) w.heap.size B jmp true 0 x0 :: pre ++ q) := by
    rw [← hW1]
    have h2 := (hw'.allocO (.deferred (some []))).allocO (.loop (recL fnx a.tmps p1 p2 assign body w.heap.size .ready none))
    rw [World.size_alloc, List.append_assoc] at h2
    exact Hp.star (m := _ :: _ :: B true 0 x0) (r := pre ++ q) h2
  have hT := hseq (w.heap.size + 1) X J (cL (recL fnx a.tmps p1 p2 assign body w.heap.size) (w.heap.size + 1) w.heap.size B jmp) x0 h0 fun i x hi hJ => I.round ha hp1 hp2 (fun w1 S1 m1 => hassign w1 S1 _ m1 i hi) (fun w1 S1 c => hbody w1 S1 _ c i x hi hJ)
  have hpp : Hp W1 (U (cL (recL fnx a.tmps p1 p2 assign body w.heap.size) (w.heap.size + 1) w.heap.size B jmp true 0 x0 :: pre)) W1 (cL (recL fnx a.tmps p1 p2 assign body w.heap.size) (w.heap.size + 1) w.heap.size B jmp true 0 x0 :: pre) := ⟨Chg.refl _ _, fun c hc => hp1W.holds c (List.mem_append_left _ hc), fun c hc b hb => ⟨.inl ⟨c, hc, hb⟩, (hp1W.own c (List.mem_append_left _ hc) b hb).2⟩, (List.pairwise_append.1 hp1W.dis).1⟩
  have hcall := hT W1 (fun c hc => (hro c hc).ro hp1W) hpp
  have henter : (Instr.enterLoop fnx a.tmps #[p1, p2] assign body (fR none).round).run P w = .ok (w.heap.size + 1, mark w.heap.size) W1 := by
    rw [← hW1]
    exact run_enterLoop_outer _ _ _ _ _
  have hres : (resolve a.eval (rangeCall g (w.heap.size + 1)) 0).run P W1 = .ok { target := .fn (.func gf) lb, args := #[.func (.yield (w.heap.size + 1)) #[] #[]] } W1 := by
    simp only [resolve, rangeCall, ha.eval hg]
    simp [Deferred.ofValue, Sem.run_bind, Sem.run_pure, Result.andThen, Act.eval, Sem.run]
  have hinv := run_invokeF (P := P) (args := #[.func (.yield (w.heap.size + 1)) #[] #[]]) (cap := lb) hf hb hnm W1
  have hz : (fR none).depth.isSome = true → 1 ≤ 0 := fun h => by simp [fR, Fence.wide] at h
  suffices hfin : CallsIn (fR none) 0 P gf (#[.func (.yield (w.heap.size + 1)) #[] #[]] ++ lb) W1 (rangePost (fR none) 0 P (w.heap.size + 1) Q { a with defers := mark w.heap.size ++ a.defers }) from
    ⟨w.heap.size + 1, mark w.heap.size, W1, _, W1, gf, _, W1, henter, hres, fun _ _ => trivial, hinv, hz, hfin⟩
  refine calls_fR (callsIn_wide.2 (hcall.mono ?_))
  rintro e w3 ⟨v, m', rfl, ⟨⟨b, i, y⟩, ⟨hJ, hle, hall⟩, rfl, rfl⟩, hm'⟩
  have hu2 := Hp.unstar (m := _ :: _ :: B b i y) (r := q) (hp1W.turn hm')
  have hl3 : w3.heap[w.heap.size + 1]? = some (.loop (recL fnx a.tmps p1 p2 assign body w.heap.size (stL b) (peL jmp b y))) := hu2.holds _ (List.mem_cons_self ..)
  have hend := run_endLoop (P := P) hl3 (by cases b <;> simp [recL, stL])
  have hu3 := (Hp.putO (.loop { recL fnx a.tmps p1 p2 assign body w.heap.size (stL b) (peL jmp b y) with state := .exhausted }) hu2).tail
  have eD : ({ a with defers := mark w.heap.size ++ a.defers } : Act) = da (mark w.heap.size) a := by
    unfold da
    rw [hds]
    rfl
  refine ⟨_, _, hend, ?_⟩
  rw [eD]
  cases b with
  | true =>
    have hJ' : i = nn := hall rfl
    subst hJ'
    exact hdone _ y hJ a _ ha hu3
  | false => exact hstop _ i y hle hJ a _ ha hu3

theorem I.rangeK {X : Type} {gf nn p1 p2 : Nat} {lb : Array Value} {ro pre q : List Ck} {encs : Nat → Value × Value} {g : Operand} {assign body : Code} {fn : Func} {c : Code}
    (J : Bool → Nat → X → Prop) (B : Bool → Nat → X → List Ck) (jmp : X → Code) (A : Nat → Fr) {x0 : X} {ts : List Nat} {l1 : Fr} {L2 : Nat → Fr}
    (hg : ev l g = some (.func (.func gf) #[] lb)) (hf : P.funcs[gf]? = some fn) (hb : fn.body = some c) (hnm : (fn.name == "runtime.NumGoroutine") = false)
    (hseq : SeqT P gf lb ro pre nn (fun i => [(encs i).1, (encs i).2]))
    (hm : Sub m (B true 0 x0 ++ pre) q) (hro : ∀ c ∈ ro, May w0 S q c) (h0 : J true 0 x0)
    (hp1 : Nat.blt p1 n = true) (hp2 : Nat.blt p2 n = true) (hk : Kp l ts l1) (hL : Ap A l1 L2)
    (hassign : ∀ w1 S1 lp m1 i, i < nn → G n w1 S1 ((p2, (encs i).2) :: (p1, (encs i).1) :: l) m1 (dq [] (assign.wpIn (fR (some lp)) 0 P (Exit.then (fun a w => At a n (L2 i) ∧ Hp w1 S1 w m1) (fun _ _ _ => False)))))
    (hbody : ∀ w1 S1 lp c i x, i < nn → J true i x → G n w1 S1 (L2 i) (c :: B true i x) (dq [] (body.wpIn (fR (some lp)) 0 P (rnd w1 S1 J B jmp c i))))
    (hdone : ∀ D x, J true nn x → G n w0 S l (dfr D :: (B true nn x ++ q)) (dq (mark D) (Q .normal)))
    (hstop : ∀ D i x, i ≤ nn → J false i x → G n w0 S l (dfr D :: (B false i x ++ q)) (dq (mark D) ((jmp x).wpIn (fR none) 0 P Q))) :
    G n w0 S l m (dq [] ((Code.rangeFunc g #[p1, p2] assign body).wpIn (fR none) 0 P Q)) :=
  I.rangeF J B jmp L2 hg hf hb hnm hseq hm hro h0 hp1 hp2 hassign hbody hdone hstop

/-! how such a function ends -/
theorem Tr.ofM {f : FuncId} {args : Array Value} {ro pre : List Ck} {post : Value → List Ck → Prop} {fn : Func} {c : Code} {n : Nat} {l : Fr} (hf : P.funcs[f]? = some fn) (hb : fn.body = some c) (hn : args.size + (fn.ntmps - args.size) = n) (hl : Fa args l)
    (h : ∀ w0, (∀ c ∈ ro, Ro w0 (U pre) c) → G n w0 (U pre) l pre (dq [] (c.wpIn (fR none) 0 P (bodyPostM (fR none) 0 P fn (TrR w0 pre post))))) : Tr P f args ro pre post := fun w hro hp => by
  refine (callsIn_wide (n := 0)).1 (calls_wide (r := none) (callsIn_of_wp_marks hf hb trivial ?_))
  have hA : At { tmps := args ++ Array.replicate (fn.ntmps - args.size) undef, defers := [] } n l := ⟨by simp [hn], rfl, fun t v ht => by
    have := hl.get t v ht
    rw [Array.getElem?_append_left]
    · exact this
    · exact (Array.getElem?_eq_some_iff.1 this).1⟩
  exact h w hro _ _ hA hp
theorem I.leave {fn : Func} {R : Ending → World → Prop} {D : Nat} {q : List Ck} {rs : List ResultVar} {vs : List Value} (hr : fn.results = rs.toArray) (hs : Sel m (dfr D) q) (hv : Rv P w0 S l q rs vs) (h : ∀ w, Hp w0 S w q → R (.returned (retV vs)) w) : G n w0 S l m (dq (mark D) (bodyPostM (fR none) 0 P fn R .ret)) := fun a w ha hw => by
  have hw2 := hw.sel hs
  show LeavesInM (fR none) 0 P fn a.tmps R (a.defers ++ mark D) .returning w
  rw [ha.defs]
  have hw3 := (Hp.putO (.deferred none) hw2).tail
  exact ⟨by simp, .inl ⟨D, _, rfl, run_takeDeferred (hw2.holds _ (List.mem_cons_self ..)), _, hv.results hr ha hw3, h _ hw3⟩⟩
theorem I.leave0 {fn : Func} {R : Ending → World → Prop} {rs : List ResultVar} {vs : List Value} (hr : fn.results = rs.toArray) (hv : Rv P w0 S l m rs vs) (h : ∀ w, Hp w0 S w m → R (.returned (retV vs)) w) : G n w0 S l m (dq [] (bodyPostM (fR none) 0 P fn R .ret)) := fun a w ha hw => by
  show LeavesInM (fR none) 0 P fn a.tmps R (a.defers ++ []) .returning w
  rw [ha.defs]
  exact ⟨_, hv.results hr ha hw, h _ hw⟩
section
variable {X : Type} {J : X → Prop} {V : X → Value} {M : X → List Ck} {fn : Func} {pre q q2 : List Ck} {rs : List ResultVar} {vs : List Value} {D : Nat} {v : Value}
theorem I.doneM (x : X) (hJ : J x) (hr : fn.results = rs.toArray) (hs : Sel m (dfr D) q) (hv : Rv P w0 (U pre) l q rs vs) (he : retV vs = V x) (hm : Sub q (M x) q2) : G n w0 (U pre) l m (dq (mark D) (bodyPostM (fR none) 0 P fn (TrR w0 pre (TX J V M)) .ret)) :=
  I.leave hr hs hv fun w hw => ⟨_, M x, rfl, ⟨x, hJ, he, rfl⟩, (hw.perm hm.perm).sub (List.sublist_append_left _ _)⟩
theorem I.doneM0 (x : X) (hJ : J x) (hr : fn.results = rs.toArray) (hv : Rv P w0 (U pre) l m rs vs) (he : retV vs = V x) (hm : Sub m (M x) q2) : G n w0 (U pre) l m (dq [] (bodyPostM (fR none) 0 P fn (TrR w0 pre (TX J V M)) .ret)) :=
  I.leave0 hr hv fun w hw => ⟨_, M x, rfl, ⟨x, hJ, he, rfl⟩, (hw.perm hm.perm).sub (List.sublist_append_left _ _)⟩
theorem I.doneT (hr : fn.results = rs.toArray) (hs : Sel m (dfr D) q) (hv : Rv P w0 (U pre) l q rs vs) (he : retV vs = v) : G n w0 (U pre) l m (dq (mark D) (bodyPostM (fR none) 0 P fn (TrR w0 pre (T0 v)) .ret)) :=
  I.leave hr hs hv fun w hw => ⟨_, [], rfl, ⟨he, rfl⟩, hw.sub (List.nil_sublist _)⟩
theorem I.doneT0 (hr : fn.results = rs.toArray) (hv : Rv P w0 (U pre) l m rs vs) (he : retV vs = v) : G n w0 (U pre) l m (dq [] (bodyPostM (fR none) 0 P fn (TrR w0 pre (T0 v)) .ret)) :=
  I.leave0 hr hv fun w hw => ⟨_, [], rfl, ⟨he, rfl⟩, hw.sub (List.nil_sublist _)⟩
/-- an iterator's end -/
theorem I.doneI (x : X) (hJ : J x) (hr : fn.results = #[]) (he : .tuple #[] = V x) (hm : Sub m (M x) q2) : G n w0 (U pre) l m (dq [] (bodyPost P fn (TrR w0 pre (TX J V M)) .normal)) := I.stop (G.doneXE x hJ hr he hm)
theorem I.doneIr (x : X) (hJ : J x) (hr : fn.results = #[]) (he : .tuple #[] = V x) (hm : Sub m (M x) q2) : G n w0 (U pre) l m (dq [] (bodyPost P fn (TrR w0 pre (TX J V M)) .ret)) := I.stop (G.doneX0 x hJ hr he hm)
end
end
end Go.Proofs.YtkhffndeomihhaaDoor
