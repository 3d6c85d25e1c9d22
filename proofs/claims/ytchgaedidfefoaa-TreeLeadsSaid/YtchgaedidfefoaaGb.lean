/- Merged of WS, PF, PG, WT, PH, PI, PJ, PL, KB, TreeA, TA, TB, TC, TD, TE, TF. Conditions: none. -/
import Derived.Test.YtchgaedidfefoaaGa
import Derived.Test.YtchgaedidfefoaaProg
set_option linter.unusedVariables false
set_option linter.unusedSimpArgs false
namespace Go.Proofs.Ytchgaedidfefoaa
open Go.RowKit
def mark (D : Nat) : List Deferred := [{ target := .collected D, args := #[] }]
def dfr (D : Nat) : Ck := obc D (.deferred (some []))
/-- how a round ends: its letters, and by which jump the loop is left -/
def rnd {X : Type} (w1 : World) (S1 : Nat → Prop) (J : Bool → Nat → X → Prop) (B : Bool → Nat → X → List Ck) (jmp : X → Code) (c : Ck) (i : Nat) : Exit → Act → World → Prop
  | .normal, _, w => ∃ y, J true (i + 1) y ∧ Hp w1 S1 w (c :: B true (i + 1) y)
  | .ret, _, w => ∃ y, J false (i + 1) y ∧ jmp y = .ret ∧ Hp w1 S1 w (c :: B false (i + 1) y)
  | .exit k, _, w => ∃ y, J false (i + 1) y ∧ jmp y = .exit k ∧ Hp w1 S1 w (c :: B false (i + 1) y)
  | _, _, _ => False
section
variable {P : Program} {n : Nat} {w0 : World} {S : Nat → Prop} {l : Fr} {m : List Ck} {Q : Exit → Act → World → Prop} {K : Act → World → Prop} {r : Option Nat} {ds : List Deferred}
theorem noOut {w1 : World} {pre : List Ck} {post : Value → List Ck → Prop} {w : World} (h : TrR w1 pre post .outgrown w) : False := by
  obtain ⟨_, _, h, _⟩ := h
  cases h
theorem I.rN {X : Type} {J : Bool → Nat → X → Prop} {B : Bool → Nat → X → List Ck} {jmp : X → Code} {c : Ck} {i : Nat} {q : List Ck} (y : X) (hJ : J true (i + 1) y) (hs : Sub m (c :: B true (i + 1) y) q) : G n w0 S l m (dq ds (rnd w0 S J B jmp c i .normal)) := fun a w ha hw =>
  ⟨y, hJ, (hw.perm hs.perm).sub (List.sublist_append_left _ _)⟩
theorem I.rR {X : Type} {J : Bool → Nat → X → Prop} {B : Bool → Nat → X → List Ck} {jmp : X → Code} {c : Ck} {i : Nat} {q : List Ck} (y : X) (hJ : J false (i + 1) y) (hj : jmp y = .ret) (hs : Sub m (c :: B false (i + 1) y) q) : G n w0 S l m (dq ds (rnd w0 S J B jmp c i .ret)) := fun a w ha hw =>
  ⟨y, hJ, hj, (hw.perm hs.perm).sub (List.sublist_append_left _ _)⟩
/-- the end of the assignments ahead of a round -/
theorem I.asg {l' : Fr} {Q' : Exit → Act → World → Prop} (hl : Fw l l') : G n w0 S l m (dq [] (Exit.then (fun a w => At a n l' ∧ Hp w0 S w m) Q' .normal)) := fun a w ha hw => by
  unfold dq
  rw [da_nil ha]
  exact ⟨ha.weak hl, hw⟩
/-- the record of a loop -/
def recL (fn : FuncId) (tmps : Array Value) (p1 p2 : Nat) (assign body : Code) (D : Nat) (st : LoopState) (pe : Option Code) : Loop := { state := st, pending := pe, fn, tmps, params := #[p1, p2], assign, body, defers := D }
def stL (b : Bool) : LoopState := if b then .ready else .done
def peL {X : Type} (jmp : X → Code) (b : Bool) (x : X) : Option Code := if b then none else some (jmp x)
def cL {X : Type} (rc : LoopState → Option Code → Loop) (lp D : Nat) (B : Bool → Nat → X → List Ck) (jmp : X → Code) (b : Bool) (i : Nat) (x : X) : Ck := star (obc lp (.loop (rc (stL b) (peL jmp b x))) :: dfr D :: B b i x)
theorem I.fin {X : Type} {fnx p1 p2 D lp i : Nat} {tmps : Array Value} {assign body : Code} {J : Bool → Nat → X → Prop} {B : Bool → Nat → X → List Ck} {jmp : X → Code} {w1 w4 : World} {S1 : Nat → Prop} {b : Bool} {jump : Option Code} {y : X}
    (hJ : J b (i + 1) y) (hj : jump = peL jmp b y) (hH : Hp w1 S1 w4 (star [obc lp (.loop (recL fnx tmps p1 p2 assign body D .busy none)), dfr D] :: B b (i + 1) y)) :
    ∃ v w5, (Instr.endRound lp jump).run P w4 = .ok v w5 ∧ ∃ v' m', Ending.returned v = .returned v' ∧ TX (fun z : Bool × X => J z.1 (i + 1) z.2) (fun z => .bool z.1) (fun z => [cL (recL fnx tmps p1 p2 assign body D) lp D B jmp z.1 (i + 1) z.2]) v' m' ∧ Hp w1 S1 w5 m' := by
  have hH5 := Hp.unstar (m := [_, _]) hH
  have hl4 : w4.heap[lp]? = some (.loop (recL fnx tmps p1 p2 assign body D .busy none)) := hH5.holds _ (List.mem_cons_self ..)
  have her := run_endRound (P := P) jump hl4
  have ev : jump.isNone = b := by
    rw [hj]
    cases b <;> rfl
  have eR : ({ (recL fnx tmps p1 p2 assign body D .busy none) with state := if jump.isNone then .ready else .done, pending := jump } : Loop) = recL fnx tmps p1 p2 assign body D (stL b) (peL jmp b y) := by
    rw [ev, hj]
    rfl
  rw [eR, ev] at her
  have hH6 := Hp.putO (.loop (recL fnx tmps p1 p2 assign body D (stL b) (peL jmp b y))) hH5
  refine ⟨_, _, her, _, _, rfl, ⟨(b, y), hJ, rfl, rfl⟩, ?_⟩
  refine Hp.star (m := _ :: _ :: B b (i + 1) y) (r := []) ?_
  rw [List.append_nil]
  exact hH6
theorem I.round {X : Type} {fnx p1 p2 D lp i : Nat} {a : Act} {assign body : Code} {v1 v2 : Value} {l2 : Fr} {J : Bool → Nat → X → Prop} {B : Bool → Nat → X → List Ck} {jmp : X → Code} {x : X} (ha : At a n l) (hp1 : Nat.blt p1 n = true) (hp2 : Nat.blt p2 n = true)
    (hassign : ∀ w1 S1 m1, G n w1 S1 ((p2, v2) :: (p1, v1) :: l) m1 (dq [] (assign.wpIn (fR (some lp)) 0 P (Exit.then (fun a w => At a n l2 ∧ Hp w1 S1 w m1) (fun _ _ _ => False)))))
    (hbody : ∀ w1 S1 c, G n w1 S1 l2 (c :: B true i x) (dq [] (body.wpIn (fR (some lp)) 0 P (rnd w1 S1 J B jmp c i)))) :
    TrY P lp [v1, v2].toArray [cL (recL fnx a.tmps p1 p2 assign body D) lp D B jmp true i x] (TX (fun z : Bool × X => J z.1 (i + 1) z.2) (fun z => .bool z.1) (fun z => [cL (recL fnx a.tmps p1 p2 assign body D) lp D B jmp z.1 (i + 1) z.2])) := by
  intro w1 hw1
  have hds : a.defers = [] := ha.defs
  obtain ⟨S1, hS1⟩ : ∃ S1, U [cL (recL fnx a.tmps p1 p2 assign body D) lp D B jmp true i x] = S1 := ⟨_, rfl⟩
  rw [hS1] at hw1 ⊢
  have hu : Hp w1 S1 w1 (obc lp (.loop (recL fnx a.tmps p1 p2 assign body D .ready none)) :: dfr D :: B true i x) := by
    have := Hp.unstar hw1
    rw [List.append_nil] at this
    exact this
  have hl : w1.heap[lp]? = some (.loop (recL fnx a.tmps p1 p2 assign body D .ready none)) := hu.holds _ (List.mem_cons_self ..)
  have hy := run_yield (P := P) (args := #[v1, v2]) hl rfl
  refine ⟨_, _, _, _, hy, roundIn_of_wpIn (F := Fence.wide) trivial ?_⟩
  have hA : At (n := n) { tmps := (a.tmps.setIfInBounds p1 v1).setIfInBounds p2 v2, defers := [] } ((p2, v2) :: (p1, v1) :: l) := by
    have h2 := (ha.put hp1 v1).put hp2 v2
    have e : ((a.put (some p1) v1).put (some p2) v2) = { tmps := (a.tmps.setIfInBounds p1 v1).setIfInBounds p2 v2, defers := [] } := by
      simp [Act.put, hds]
    rwa [e] at h2
  have h3 := hassign w1 S1 _ _ w1 hA hu
  unfold dq at h3
  rw [da_nil hA] at h3
  have eT : ((#[p1, p2] : Array Nat).zip #[v1, v2]).foldl (fun t (x : Nat × Value) => t.setIfInBounds x.1 x.2) a.tmps = (a.tmps.setIfInBounds p1 v1).setIfInBounds p2 v2 := by simp
  show assign.wpIn (fR (some lp)) 0 P _ { tmps := ((#[p1, p2] : Array Nat).zip #[v1, v2]).foldl (fun t (x : Nat × Value) => t.setIfInBounds x.1 x.2) a.tmps, defers := [] } w1
  rw [eT]
  refine wpIn_mono h3 ?_
  intro e a1 w2 hq
  cases e with
  | exit id => exact hq.elim
  | goto t => exact hq.elim
  | ret => exact hq.elim
  | panic ch => exact hq.elim
  | outgrown => exact hq.elim
  | normal =>
    obtain ⟨hA1, hH1⟩ := hq
    have hl1 : w2.heap[lp]? = some (.loop (recL fnx a.tmps p1 p2 assign body D .ready none)) := hH1.holds _ (List.mem_cons_self ..)
    have hbr := run_beginRound (P := P) hl1 rfl
    refine ⟨_, hbr, ?_⟩
    have hH2 := Hp.putO (.loop (recL fnx a.tmps p1 p2 assign body D .busy none)) hH1
    have hH3 := Hp.star (m := [_, _]) (r := B true i x) hH2
    have h4 := hbody w1 S1 _ a1 _ hA1 hH3
    unfold dq at h4
    rw [da_nil hA1] at h4
    refine wpIn_mono h4 ?_
    intro e a2 w4 hq
    cases e with
    | normal =>
      obtain ⟨y, hJy, hH4⟩ := hq
      exact I.fin (b := true) hJy rfl hH4
    | ret =>
      obtain ⟨y, hJy, hj, hH4⟩ := hq
      exact I.fin (b := false) hJy (by rw [← hj]; rfl) hH4
    | exit k =>
      obtain ⟨y, hJy, hj, hH4⟩ := hq
      exact I.fin (b := false) hJy (by rw [← hj]; rfl) hH4
    | goto t => exact hq.elim
    | panic ch => exact hq.elim
    | outgrown => exact hq.elim
theorem I.rangeF {X : Type} {gf nn p1 p2 : Nat} {lb : Array Value} {ro pre q : List Ck} {encs : Nat → Value × Value} {g : Operand} {assign body : Code} {fn : Func} {c : Code}
    (J : Bool → Nat → X → Prop) (B : Bool → Nat → X → List Ck) (jmp : X → Code) (L2 : Nat → Fr) {x0 : X}
    (hg : ev l g = some (.func (.func gf) #[] lb)) (hf : P.funcs[gf]? = some fn) (hb : fn.body = some c) (hnm : (fn.name == "runtime.NumGoroutine") = false)
    (hseq : SeqT P gf lb ro pre nn (fun i => [(encs i).1, (encs i).2]))
    (hm : Sub m (B true 0 x0 ++ pre) q) (hro : ∀ c ∈ ro, May w0 S q c) (h0 : J true 0 x0)
    (hp1 : Nat.blt p1 n = true) (hp2 : Nat.blt p2 n = true)
    (hassign : ∀ w1 S1 lp m1 i, i < nn → G n w1 S1 ((p2, (encs i).2) :: (p1, (encs i).1) :: l) m1 (dq [] (assign.wpIn (fR (some lp)) 0 P (Exit.then (fun a w => At a n (L2 i) ∧ Hp w1 S1 w m1) (fun _ _ _ => False)))))
    (hbody : ∀ w1 S1 lp c i x, i < nn → J true i x → G n w1 S1 (L2 i) (c :: B true i x) (dq [] (body.wpIn (fR (some lp)) 0 P (rnd w1 S1 J B jmp c i))))
    (hdone : ∀ D x, J true nn x → G n w0 S l (dfr D :: (B true nn x ++ q)) (dq (mark D) (Q .normal)))
    (hstop : ∀ D i x, i ≤ nn → J false i x → G n w0 S l (dfr D :: (B false i x ++ q)) (dq (mark D) ((jmp x).wpIn (fR none) 0 P Q))) :
    G n w0 S l m (dq [] ((Code.rangeFunc g #[p1, p2] assign body).wpIn (fR none) 0 P Q)) := fun a w ha hw => by
  unfold dq
  rw [da_nil ha]
  have hds : a.defers = [] := ha.defs
  have hw' := hw.perm hm.perm
  refine wpIn_rangeFunc (F := fR none) (n := 0) ?_
  intro fnx _
  obtain ⟨W1, hW1⟩ : ∃ W1, (w.alloc (.deferred (some []))).alloc (.loop (recL fnx a.tmps p1 p2 assign body w.heap.size .ready none)) = W1 := ⟨_, rfl⟩
  have hp1W : Hp w0 S W1 (cL (recL fnx a.tmps p1 p2 assign body w.heap.size) (w.heap.size + 1) w.heap.size B jmp true 0 x0 :: pre ++ q) := by
    rw [← hW1]
    have h2 := (hw'.allocO (.deferred (some []))).allocO (.loop (recL fnx a.tmps p1 p2 assign body w.heap.size .ready none))
    rw [World.size_alloc, List.append_assoc] at h2
    exact Hp.star (m := _ :: _ :: B true 0 x0) (r := pre ++ q) h2
  have hT := hseq (w.heap.size + 1) X J (cL (recL fnx a.tmps p1 p2 assign body w.heap.size) (w.heap.size + 1) w.heap.size B jmp) x0 h0 fun i x hi hJ => I.round ha hp1 hp2 (fun w1 S1 m1 => hassign w1 S1 _ m1 i hi) (fun w1 S1 c => hbody w1 S1 _ c i x hi hJ)
  have hpp : Hp W1 (U (cL (recL fnx a.tmps p1 p2 assign body w.heap.size) (w.heap.size + 1) w.heap.size B jmp true 0 x0 :: pre)) W1 (cL (recL fnx a.tmps p1 p2 assign body w.heap.size) (w.heap.size + 1) w.heap.size B jmp true 0 x0 :: pre) := ⟨Chg.refl _ _, fun c hc => hp1W.holds c (List.mem_append_left _ hc), fun c hc b hb => ⟨.inl ⟨c, hc, hb⟩, (hp1W.own c (List.mem_append_left _ hc) b hb).2⟩, (List.pairwise_append.1 hp1W.dis).1⟩
  have hcall := hT W1 (fun c hc => (hro c hc).ro hp1W) hpp
  have henter : (Instr.enterLoop fnx a.tmps #[p1, p2] assign body (fR none).round).run P w = .ok (w.heap.size + 1, mark w.heap.size) W1 := by
    rw [← hW1]
    exact run_enterLoop_outer _ _ _ _ _
  have hres : (resolve a.eval (rangeCall g (w.heap.size + 1)) 0).run P W1 = .ok { target := .fn (.func gf) lb, args := #[.func (.yield (w.heap.size + 1)) #[] #[]] } W1 := by
    simp only [resolve, rangeCall, ha.eval hg]
    simp [Deferred.ofValue, Sem.run_bind, Sem.run_pure, Result.andThen, Act.eval, Sem.run]
  have hinv := run_invokeF (P := P) (args := #[.func (.yield (w.heap.size + 1)) #[] #[]]) (cap := lb) hf hb hnm W1
  have hz : (fR none).depth.isSome = true → 1 ≤ 0 := fun h => by simp [fR, Fence.wide] at h
  suffices hfin : CallsIn (fR none) 0 P gf (#[.func (.yield (w.heap.size + 1)) #[] #[]] ++ lb) W1 (rangePost (fR none) 0 P (w.heap.size + 1) Q { a with defers := mark w.heap.size ++ a.defers }) from
    ⟨w.heap.size + 1, mark w.heap.size, W1, _, W1, gf, _, W1, henter, hres, fun _ _ => trivial, hinv, hz, hfin⟩
  refine calls_fR (callsIn_wide.2 (hcall.mono ?_))
  rintro e w3 ⟨v, m', rfl, ⟨⟨b, i, y⟩, ⟨hJ, hle, hall⟩, rfl, rfl⟩, hm'⟩
  have hu2 := Hp.unstar (m := _ :: _ :: B b i y) (r := q) (hp1W.turn hm')
  have hl3 : w3.heap[w.heap.size + 1]? = some (.loop (recL fnx a.tmps p1 p2 assign body w.heap.size (stL b) (peL jmp b y))) := hu2.holds _ (List.mem_cons_self ..)
  have hend := run_endLoop (P := P) hl3 (by cases b <;> simp [recL, stL])
  have hu3 := (Hp.putO (.loop { recL fnx a.tmps p1 p2 assign body w.heap.size (stL b) (peL jmp b y) with state := .exhausted }) hu2).tail
  have eD : ({ a with defers := mark w.heap.size ++ a.defers } : Act) = da (mark w.heap.size) a := by
    unfold da
    rw [hds]
    rfl
  refine ⟨_, _, hend, ?_⟩
  rw [eD]
  cases b with
  | true =>
    have hJ' : i = nn := hall rfl
    subst hJ'
    exact hdone _ y hJ a _ ha hu3
  | false => exact hstop _ i y hle hJ a _ ha hu3
theorem I.rangeK {X : Type} {gf nn p1 p2 : Nat} {lb : Array Value} {ro pre q : List Ck} {encs : Nat → Value × Value} {g : Operand} {assign body : Code} {fn : Func} {c : Code}
    (J : Bool → Nat → X → Prop) (B : Bool → Nat → X → List Ck) (jmp : X → Code) (A : Nat → Fr) {x0 : X} {ts : List Nat} {l1 : Fr} {L2 : Nat → Fr}
    (hg : ev l g = some (.func (.func gf) #[] lb)) (hf : P.funcs[gf]? = some fn) (hb : fn.body = some c) (hnm : (fn.name == "runtime.NumGoroutine") = false)
    (hseq : SeqT P gf lb ro pre nn (fun i => [(encs i).1, (encs i).2]))
    (hm : Sub m (B true 0 x0 ++ pre) q) (hro : ∀ c ∈ ro, May w0 S q c) (h0 : J true 0 x0)
    (hp1 : Nat.blt p1 n = true) (hp2 : Nat.blt p2 n = true) (hk : Kp l ts l1) (hL : Ap A l1 L2)
    (hassign : ∀ w1 S1 lp m1 i, i < nn → G n w1 S1 ((p2, (encs i).2) :: (p1, (encs i).1) :: l) m1 (dq [] (assign.wpIn (fR (some lp)) 0 P (Exit.then (fun a w => At a n (L2 i) ∧ Hp w1 S1 w m1) (fun _ _ _ => False)))))
    (hbody : ∀ w1 S1 lp c i x, i < nn → J true i x → G n w1 S1 (L2 i) (c :: B true i x) (dq [] (body.wpIn (fR (some lp)) 0 P (rnd w1 S1 J B jmp c i))))
    (hdone : ∀ D x, J true nn x → G n w0 S l (dfr D :: (B true nn x ++ q)) (dq (mark D) (Q .normal)))
    (hstop : ∀ D i x, i ≤ nn → J false i x → G n w0 S l (dfr D :: (B false i x ++ q)) (dq (mark D) ((jmp x).wpIn (fR none) 0 P Q))) :
    G n w0 S l m (dq [] ((Code.rangeFunc g #[p1, p2] assign body).wpIn (fR none) 0 P Q)) :=
  I.rangeF J B jmp L2 hg hf hb hnm hseq hm hro h0 hp1 hp2 hassign hbody hdone hstop
theorem Tr.ofM {f : FuncId} {args : Array Value} {ro pre : List Ck} {post : Value → List Ck → Prop} {fn : Func} {c : Code} {n : Nat} {l : Fr} (hf : P.funcs[f]? = some fn) (hb : fn.body = some c) (hn : args.size + (fn.ntmps - args.size) = n) (hl : Fa args l)
    (h : ∀ w0, (∀ c ∈ ro, Ro w0 (U pre) c) → G n w0 (U pre) l pre (dq [] (c.wpIn (fR none) 0 P (bodyPostM (fR none) 0 P fn (TrR w0 pre post))))) : Tr P f args ro pre post := fun w hro hp => by
  refine (callsIn_wide (n := 0)).1 (calls_wide (r := none) (callsIn_of_wp_marks hf hb trivial ?_))
  have hA : At { tmps := args ++ Array.replicate (fn.ntmps - args.size) undef, defers := [] } n l := ⟨by simp [hn], rfl, fun t v ht => by
    have := hl.get t v ht
    rw [Array.getElem?_append_left]
    · exact this
    · exact (Array.getElem?_eq_some_iff.1 this).1⟩
  exact h w hro _ _ hA hp
theorem I.leave {fn : Func} {R : Ending → World → Prop} {D : Nat} {q : List Ck} {rs : List ResultVar} {vs : List Value} (hr : fn.results = rs.toArray) (hs : Sel m (dfr D) q) (hv : Rv P w0 S l q rs vs) (h : ∀ w, Hp w0 S w q → R (.returned (retV vs)) w) : G n w0 S l m (dq (mark D) (bodyPostM (fR none) 0 P fn R .ret)) := fun a w ha hw => by
  have hw2 := hw.sel hs
  show LeavesInM (fR none) 0 P fn a.tmps R (a.defers ++ mark D) .returning w
  rw [ha.defs]
  have hw3 := (Hp.putO (.deferred none) hw2).tail
  exact ⟨by simp, .inl ⟨D, _, rfl, run_takeDeferred (hw2.holds _ (List.mem_cons_self ..)), _, hv.results hr ha hw3, h _ hw3⟩⟩
theorem I.leave0 {fn : Func} {R : Ending → World → Prop} {rs : List ResultVar} {vs : List Value} (hr : fn.results = rs.toArray) (hv : Rv P w0 S l m rs vs) (h : ∀ w, Hp w0 S w m → R (.returned (retV vs)) w) : G n w0 S l m (dq [] (bodyPostM (fR none) 0 P fn R .ret)) := fun a w ha hw => by
  show LeavesInM (fR none) 0 P fn a.tmps R (a.defers ++ []) .returning w
  rw [ha.defs]
  exact ⟨_, hv.results hr ha hw, h _ hw⟩
section
variable {X : Type} {J : X → Prop} {V : X → Value} {M : X → List Ck} {fn : Func} {pre q q2 : List Ck} {rs : List ResultVar} {vs : List Value} {D : Nat} {v : Value}
theorem I.doneT (hr : fn.results = rs.toArray) (hs : Sel m (dfr D) q) (hv : Rv P w0 (U pre) l q rs vs) (he : retV vs = v) : G n w0 (U pre) l m (dq (mark D) (bodyPostM (fR none) 0 P fn (TrR w0 pre (T0 v)) .ret)) :=
  I.leave hr hs hv fun w hw => ⟨_, [], rfl, ⟨he, rfl⟩, hw.sub (List.nil_sublist _)⟩
theorem I.doneT0 (hr : fn.results = rs.toArray) (hv : Rv P w0 (U pre) l m rs vs) (he : retV vs = v) : G n w0 (U pre) l m (dq [] (bodyPostM (fR none) 0 P fn (TrR w0 pre (T0 v)) .ret)) :=
  I.leave0 hr hv fun w hw => ⟨_, [], rfl, ⟨he, rfl⟩, hw.sub (List.nil_sublist _)⟩
/-- an iterator's end -/
theorem I.doneI (x : X) (hJ : J x) (hr : fn.results = #[]) (he : .tuple #[] = V x) (hm : Sub m (M x) q2) : G n w0 (U pre) l m (dq [] (bodyPost P fn (TrR w0 pre (TX J V M)) .normal)) := I.stop (G.doneXE x hJ hr he hm)
theorem I.doneIr (x : X) (hJ : J x) (hr : fn.results = #[]) (he : .tuple #[] = V x) (hm : Sub m (M x) q2) : G n w0 (U pre) l m (dq [] (bodyPost P fn (TrR w0 pre (TX J V M)) .ret)) := I.stop (G.doneX0 x hJ hr he hm)
end
end
end Go.Proofs.Ytchgaedidfefoaa

set_option linter.unusedVariables false
set_option linter.unusedSimpArgs false
namespace Go.Proofs.Ytchgaedidfefoaa
open Go.RowKit
/-- a text by its strokes -/
def headP (c : UInt8) : List (List UInt8) → List (List UInt8)
  | [] => [[c]]
  | p :: r => (c :: p) :: r
def splitM : List UInt8 → List (List UInt8)
  | [] => [[]]
  | c :: s => if c = 47 then [] :: splitM s else headP c (splitM s)
theorem splitM_stroke (s : List UInt8) : splitM (47 :: s) = [] :: splitM s := if_pos rfl
theorem splitM_char {c : UInt8} (h : ¬ c = 47) (s : List UInt8) : splitM (c :: s) = headP c (splitM s) := if_neg h
theorem splitM_ne : ∀ s, splitM s ≠ []
  | [] => by unfold splitM; simp
  | c :: s => by
    unfold splitM
    split
    · simp
    · cases h : splitM s <;> simp [headP]
theorem splitM_cut : ∀ s, splitM s = if (cutM s).2.2 then (cutM s).1 :: splitM (cutM s).2.1 else [(cutM s).1]
  | [] => rfl
  | c :: s => by
    have ih := splitM_cut s
    by_cases hc : c = 47
    · subst hc
      have e : at1 (47 :: s) = 0 := by simp [at1, List.findIdx_cons]
      have e2 : cutM (47 :: s) = ([], s, true) := by
        unfold cutM
        rw [e, if_pos (by simp)]
        rfl
      rw [e2, splitM_stroke]
      rfl
    · have hb : (c == 47) = false := by simpa using hc
      have e : at1 (c :: s) = at1 s + 1 := by simp [at1, List.findIdx_cons, hb]
      have e2 : cutM (c :: s) = (c :: (cutM s).1, (cutM s).2.1, (cutM s).2.2) := by
        unfold cutM
        rw [e]
        by_cases h : at1 s < s.length
        · rw [if_pos h, if_pos (show at1 s + 1 < (c :: s).length by simp; omega)]
          rfl
        · rw [if_neg h, if_neg (show ¬ at1 s + 1 < (c :: s).length by simp; omega)]
      rw [e2, splitM_char hc, ih]
      cases h : (cutM s).2.2 <;> simp [headP]
def atL (ps : List (List UInt8)) (i : Nat) : Nat := ((ps.take i).map fun p => p.length + 1).sum
theorem atL_zero (ps : List (List UInt8)) : atL ps 0 = 0 := by simp [atL]
theorem atL_succ {ps : List (List UInt8)} {i : Nat} (h : i < ps.length) : atL ps (i + 1) = atL ps i + (ps[i].length + 1) := by
  unfold atL
  rw [List.take_succ_eq_append_getElem h, List.map_append, List.sum_append]
  simp
theorem splitM_sum : ∀ s, ((splitM s).map fun p => p.length + 1).sum = s.length + 1
  | [] => rfl
  | c :: s => by
    have ih := splitM_sum s
    unfold splitM
    split
    · simp [ih]; omega
    · cases h : splitM s with
      | nil => exact absurd h (splitM_ne s)
      | cons p r =>
        rw [h] at ih
        simp [headP] at ih ⊢
        omega
theorem sum_take_le (l : List Nat) (i : Nat) : (l.take i).sum ≤ l.sum := by
  have := congrArg List.sum (List.take_append_drop i l)
  rw [List.sum_append] at this
  omega
theorem atL_le (s : List UInt8) (i : Nat) : atL (splitM s) i ≤ s.length + 1 := by
  unfold atL
  rw [List.map_take, ← splitM_sum s]
  exact sum_take_le _ i
theorem part_le {s : List UInt8} {i : Nat} (h : i < (splitM s).length) : atL (splitM s) i + ((splitM s)[i].length + 1) ≤ s.length + 1 := by
  rw [← atL_succ h]
  exact atL_le s _
def getL (ps : List (List UInt8)) (i : Nat) : List UInt8 := ps.getD i []
theorem getL_eq {ps : List (List UInt8)} {i : Nat} (h : i < ps.length) : getL ps i = ps[i] := by
  unfold getL
  rw [List.getD_eq_getElem?_getD, List.getElem?_eq_getElem h]
  rfl
theorem cutM_len (t : List UInt8) : (cutM t).2.1.length ≤ t.length := by
  unfold cutM
  split
  · simp
  · simp
/-- a cut, told by the parts -/
theorem cut_drop {ps : List (List UInt8)} {t : List UInt8} {i : Nat} (hi : i < ps.length) (h : splitM t = ps.drop i) : ∃ t', cutM t = (getL ps i, t', decide (i + 1 < ps.length)) ∧ t'.length ≤ t.length ∧ (i + 1 < ps.length → splitM t' = ps.drop (i + 1)) := by
  refine ⟨(cutM t).2.1, ?_, cutM_len t, ?_⟩
  · rw [splitM_cut, List.drop_eq_getElem_cons hi] at h
    rw [getL_eq hi]
    cases hm : (cutM t).2.2 with
    | true =>
      rw [hm, if_pos rfl] at h
      injection h with h1 h2
      have : i + 1 < ps.length := by
        rcases Nat.lt_or_ge (i + 1) ps.length with h3 | h3
        · exact h3
        · rw [List.drop_eq_nil_of_le h3] at h2
          exact absurd h2 (splitM_ne _)
      rw [decide_eq_true this, ← h1, ← hm]
    | false =>
      rw [hm, if_neg (by simp)] at h
      injection h with h1 h2
      have : ¬ i + 1 < ps.length := fun h3 => by
        rw [List.drop_eq_getElem_cons h3] at h2
        cases h2
      rw [decide_eq_false this, ← h1, ← hm]
  · intro h3
    rw [splitM_cut, List.drop_eq_getElem_cons hi] at h
    cases hm : (cutM t).2.2 with
    | true =>
      rw [hm, if_pos rfl] at h
      injection h
    | false =>
      rw [hm, if_neg (by simp)] at h
      injection h with h1 h2
      rw [List.drop_eq_getElem_cons h3] at h2
      cases h2
theorem cut_at (t p t' : List UInt8) (m : Bool) (ht : t.length ≤ 1000000000) (h : cutM t = (p, t', m)) : Tr Try.prog 66 #[.string (sB t), .string (sB [47])] [] [] (T0 (.tuple #[.string (sB p), .string (sB t'), .bool m])) := by
  have := cut_tr t ht
  rwa [h] at this
set_option maxRecDepth 20000 in
set_option maxHeartbeats 4000000 in
theorem steps_seq (s : List UInt8) (hs : s.length ≤ 1000000000) (b : Nat) : SeqT Try.prog 83 #[.pointer (some ⟨b, 0, none⟩)] [] [blk b 9 [.string (sB s)]] (splitM s).length (fun i => [.int .i64 (atL (splitM s) i : Int), .string (sB (getL (splitM s) i))]) := by
  intro lp X J C x0 h0 hY
  show Tr _ _ #[.func (.yield lp) #[] #[], .pointer (some ⟨b, 0, none⟩)] _ _ _
  refine Tr.ofI (l := [(0, .func (.yield lp) #[] #[]), (1, .pointer (some ⟨b, 0, none⟩))]) Try.func83 rfl (n := 23) rfl (.cons rfl (.cons rfl .nil)) (fun w0 hro => ?_)
  refine I.seq ?_
  refine I.region (by kernel_rfl) (by rintro ⟨_, _, h⟩; first | exact h | exact noOut h) ?_
  refine G.op rfl (G.val rfl rfl (pv_assign rfl) ?_)
  refine G.op rfl (G.val rfl rfl (pv_assign rfl) ?_)
  refine I.nil ?_
  refine I.nThen ?_
  refine I.block ?_
  have hpos : 0 < (splitM s).length := List.length_pos_iff.2 (splitM_ne s)
  refine I.loopK (X := Nat × (List UInt8) × X) (ts := [0, 1]) (fun st => st.1 ≤ (splitM s).length ∧ st.2.1.length ≤ s.length ∧ (st.1 < (splitM s).length → splitM st.2.1 = (splitM s).drop st.1) ∧ J true st.1 st.2.2) (fun st => [(3, .int .i64 (atL (splitM s) st.1 : Int)), (4, .bool (decide (st.1 < (splitM s).length)))]) (fun st => [blk b 9 [.string (sB st.2.1)], C true st.1 st.2.2]) (fun st => (splitM s).length - st.1) (x0 := (0, s, x0)) (.cons rfl (.cons rfl .nil)) (by repeat (first | exact Sub.nil | (apply Sub.cons; (repeat (first | with_reducible exact Sel.here | exact Sel.here | apply Sel.there))))) (.cons (.cons .nil)) (by repeat (first | exact Ap.nil | apply Ap.cons)) (by first | exact trivial | ((try dsimp only); exact ⟨Nat.zero_le _, Nat.le_refl _, fun _ => rfl, h0⟩)) (.consE rfl (by first | rfl | exact int_eq (by rw [atL_zero]; rfl)) (.consE rfl (by rw [decide_eq_true hpos]) .nil)) (fun st hJ => ?_)
  obtain ⟨i, t, x⟩ := st
  try dsimp only at hJ
  try dsimp only
  obtain ⟨hi, ht, hsp, hJ0⟩ := hJ
  refine I.seq ?_
  refine I.seq ?_
  refine I.region (by kernel_rfl) (by rintro ⟨_, _, h⟩; first | exact h | exact noOut h) ?_
  refine G.op rfl (G.val rfl rfl (pv_move rfl) ?_)
  refine I.nil ?_
  refine I.nThen ?_
  refine I.condP rfl (fun h6 => ?_) (fun h6 => ?_)
  · have hil : i < (splitM s).length := by assumption
    obtain ⟨t', hcut, ht', hsp'⟩ := cut_drop hil (hsp hil)
    refine I.skip ?_
    refine I.nThen ?_
    refine I.block ?_
    refine I.seq ?_
    refine I.region (by kernel_rfl) (by rintro ⟨_, _, h⟩; first | exact h | exact noOut h) ?_
    refine G.op rfl (G.val rfl rfl (pv_assign rfl) ?_)
    refine I.nil ?_
    refine I.nThen ?_
    refine I.seq ?_
    refine I.region (by kernel_rfl) (by rintro ⟨_, _, h⟩; first | exact h | exact noOut h) ?_
    refine G.op rfl (G.val rfl rfl (pv_load Try.underlying9 rfl rfl (by first | exact blk_cell (by (repeat (first | with_reducible exact Sel.here | exact Sel.here | apply Sel.there)); done) (by rfl) | exact rng_cell (by (repeat (first | with_reducible exact Sel.here | exact Sel.here | apply Sel.there)); done) (by rfl) | exact ro_blk (by assumption) (by rfl) | exact ro_rngC (by assumption) (by rfl) | exact ro_int (by assumption) | exact ro_byte (by assumption) | exact ro_str (by assumption) | with_reducible assumption | assumption)) ?_)
    refine G.op rfl (G.cR rfl rfl rfl rfl Try.func66 rfl rfl may0 (cut_at t _ t' _ (by omega) hcut) ?_)
    refine G.op rfl (G.val rfl rfl (pv_move rfl) ?_)
    refine G.op rfl (G.val rfl rfl (pv_extract rfl rfl) ?_)
    refine G.op rfl (G.val rfl rfl (pv_extract rfl rfl) ?_)
    refine G.op rfl (G.val rfl rfl (pv_extract rfl rfl) ?_)
    refine G.op rfl (G.val rfl rfl (pv_assign rfl) ?_)
    refine G.op rfl (G.store (by kernel_rfl) rfl rfl (by first | rfl | with_reducible assumption) (by repeat (first | with_reducible exact Sel.here | exact Sel.here | apply Sel.there)) (by first | (simp; done) | exact Nat.le_of_ble_eq_true rfl) ?_)
    refine G.op rfl (G.val rfl rfl (pv_assign rfl) ?_)
    refine I.nil ?_
    refine I.nThen ?_
    refine I.seq ?_
    refine I.seq ?_
    refine IL.region ?_
    refine IL.op rfl (IL.lift (by kernel_rfl) (G.val rfl rfl (pv_move rfl) ?_))
    refine IL.op rfl (IL.lift (by kernel_rfl) (G.val rfl rfl (pv_move rfl) ?_))
    refine IL.op rfl (IL.lift (by kernel_rfl) (G.val rfl rfl (pv_move rfl) ?_))
    refine IL.op rfl (IL.yield rfl rfl rfl rfl rfl (by repeat (first | exact Sub.nil | (apply Sub.cons; (repeat (first | with_reducible exact Sel.here | exact Sel.here | apply Sel.there))))) (hY i x hil hJ0) (by repeat (first | exact Ap.nil | apply Ap.cons)) ?_)
    intro x16 hJ
    obtain ⟨v, y⟩ := x16
    try dsimp only at hJ
    try dsimp only
    have hJ2 := hJ
    refine IL.op rfl (IL.lift (by kernel_rfl) (G.val rfl rfl (pv_not rfl) ?_))
    refine IL.nil ?_
    refine I.nThen ?_
    have hlen := part_le hil
    rw [← getL_eq hil] at hlen
    have hat := atL_succ hil
    rw [← getL_eq hil] at hat
    refine I.cond rfl (fun h17 => ?_) (fun h17 => ?_)
    · obtain rfl : v = false := by cases v <;> simp_all
      refine I.ret ?_
      refine I.rThen ?_
      refine I.rBlock ?_
      refine I.rThen ?_
      refine I.rBlock ?_
      exact I.doneIr ((false, i + 1, y)) (by first | exact trivial | ((try dsimp only); exact ⟨hJ2, hil, fun h => by cases h⟩)) rfl rfl (by repeat (first | exact Sub.nil | (apply Sub.cons; (repeat (first | with_reducible exact Sel.here | exact Sel.here | apply Sel.there)))))
    · obtain rfl : v = true := by cases v <;> simp_all
      refine I.skip ?_
      refine I.nThen ?_
      refine I.region (by kernel_rfl) (by rintro ⟨_, _, h⟩; first | exact h | exact noOut h) ?_
      refine G.op rfl (G.val rfl rfl (pv_move rfl) ?_)
      refine G.op rfl (G.val rfl rfl (pv_move rfl) ?_)
      refine G.op rfl (G.val rfl rfl (pv_lenS Try.underlying9 rfl) ?_)
      refine G.op rfl (G.val rfl rfl (pv_add64 rfl rfl (by omega)) ?_)
      refine G.op rfl (G.val rfl rfl (pv_add64 rfl rfl (by omega)) ?_)
      refine G.op rfl (G.val rfl rfl (pv_assign rfl) ?_)
      refine I.nil ?_
      refine I.nBlock ?_
      exact I.next ((i + 1, t', y)) (by first | exact trivial | ((try dsimp only); exact ⟨by omega, by omega, hsp', hJ2⟩)) (by (try dsimp only); omega) (.consE rfl (by first | rfl | exact int_eq (by first | omega | (dsimp only; omega)) | exact congrArg _ (by omega)) (.consE rfl (by first | rfl | exact int_eq (by first | omega | (dsimp only; omega)) | exact congrArg _ (by omega)) (.cons rfl (.cons rfl .nil)))) (by repeat (first | exact Sub.nil | (apply Sub.cons; (repeat (first | with_reducible exact Sel.here | exact Sel.here | apply Sel.there)))))
  · refine I.exit ?_
    refine I.eThen ?_
    refine I.eThen ?_
    refine I.eBlock ?_
    exact I.doneI ((true, i, x)) (by first | exact trivial | ((try dsimp only); exact ⟨hJ0, hi, fun _ => by omega⟩)) rfl rfl (by repeat (first | exact Sub.nil | (apply Sub.cons; (repeat (first | with_reducible exact Sel.here | exact Sel.here | apply Sel.there)))))
end Go.Proofs.Ytchgaedidfefoaa

set_option linter.unusedVariables false
set_option linter.unusedSimpArgs false
namespace Go.Proofs.Ytchgaedidfefoaa
open Go.RowKit
set_option maxRecDepth 20000 in
set_option maxHeartbeats 4000000 in
theorem steps_tr (s : List UInt8) : Tr Try.prog 77 #[.string (sB s)] [] [] (TX (fun _ : Nat => True) (fun b => .func (.func 83) #[] #[.pointer (some ⟨b, 0, none⟩)]) (fun b => [blk b 9 [.string (sB s)]])) := by
  refine Tr.of (l := [(0, .string (sB s))]) Try.func77 rfl (n := 4) rfl (.cons rfl .nil) (fun w0 hro => ?_)
  refine G.seq ?_
  refine G.region ?_
  refine G.op rfl (G.box rfl rfl (cs := [_]) rfl ?_)
  intro b1
  refine G.op rfl (G.val rfl rfl (pv_assign rfl) ?_)
  refine G.nil ?_
  refine G.nThen ?_
  refine G.seq ?_
  refine G.region ?_
  refine G.op rfl (G.val rfl rfl (pv_makeFunc rfl rfl) ?_)
  refine G.op rfl (G.val rfl rfl (pv_assign rfl) ?_)
  refine G.nil ?_
  refine G.nThen ?_
  refine G.ret ?_
  exact G.doneX1 (b1) (by first | exact trivial | ((try dsimp only); exact trivial)) rfl rfl rfl (by repeat (first | exact Sub.nil | (apply Sub.cons; (repeat (first | with_reducible exact Sel.here | exact Sel.here | apply Sel.there)))))
theorem badR_of {c : UInt8} (h : ¬ c = 47) : badP c = badR c := by
  unfold badP badR
  have : c.toNat ≠ 47 := fun e => h (UInt8.toNat_inj.1 e)
  simp [this]
theorem findIdx_congr {p q : UInt8 → Bool} : ∀ {l : List UInt8}, (∀ x ∈ l, p x = q x) → l.findIdx p = l.findIdx q
  | [], _ => rfl
  | x :: l, h => by
    rw [List.findIdx_cons, List.findIdx_cons, h x (List.mem_cons_self ..), findIdx_congr fun y hy => h y (List.mem_cons_of_mem _ hy)]
theorem stepB_eq {s : List UInt8} (h : ∀ x ∈ s, ¬ x = 47) : stepB badP s = stepB badR s := by
  unfold stepB
  rw [findIdx_congr (p := badP) (q := badR) fun x hx => badR_of (h x hx)]
theorem step_at (s : List UInt8) (h : ∀ x ∈ s, ¬ x = 47) (hs : s.length ≤ 1000000000) : Tr Try.prog 78 #[.string (sB s)] [] [] (T0 (.tuple #[.int .i64 (stepB badR s).1, .int .i64 (stepB badR s).2])) := by
  have := step_tr s hs
  rwa [stepB_eq h] at this
theorem splitM_no : ∀ s, ∀ p ∈ splitM s, ∀ x ∈ p, ¬ x = 47
  | [], p, hp, x, hx => by
    have : p = [] := by simpa [splitM] using hp
    subst this
    cases hx
  | c :: s, p, hp, x, hx => by
    have ih := splitM_no s
    by_cases hc : c = 47
    · subst hc
      rw [splitM_stroke] at hp
      rcases List.mem_cons.1 hp with rfl | hp
      · cases hx
      · exact ih p hp x hx
    · rw [splitM_char hc] at hp
      cases h : splitM s with
      | nil => exact absurd h (splitM_ne s)
      | cons q r =>
        rw [h] at hp ih
        rcases List.mem_cons.1 hp with rfl | hp
        · rcases List.mem_cons.1 hx with rfl | hx
          · exact hc
          · exact ih q (List.mem_cons_self ..) x hx
        · exact ih p (List.mem_cons_of_mem _ hp) x hx
theorem stepB_pos (bad : UInt8 → Bool) (s : List UInt8) : 0 ≤ (stepB bad s).2 ∧ (stepB bad s).2 ≤ s.length + 60 ∧ 0 ≤ (stepB bad s).1 ∧ (stepB bad s).1 ≤ 4 := by
  unfold stepB
  have := @List.findIdx_le_length _ bad s
  split
  · simp; omega
  · split
    · simp; omega
    · split <;> simp <;> omega
/-- what is wrong with the parts of a path, from the i-th on, which begins at byte o -/
def checkL : List (List UInt8) → Nat → Nat → Int × Int
  | [], _, _ => (0, 0)
  | p :: r, i, o => if i = 20 then (3, (o : Int)) else if (stepB badR p).1 = 0 then checkL r (i + 1) (o + (p.length + 1)) else ((stepB badR p).1, (o : Int) + (stepB badR p).2)
def checkM (s : List UInt8) : Int × Int := if s = [] then (2, 0) else if 200 < s.length then (3, 200) else checkL (splitM s) 0 0
theorem checkM_nil {s : List UInt8} (h : s = []) : checkM s = (2, 0) := if_pos h
theorem checkM_long {s : List UInt8} (h0 : ¬ s = []) (h : (200 : Int) < s.length) : checkM s = (3, 200) := by
  unfold checkM
  rw [if_neg h0, if_pos (by omega)]
theorem checkM_parts {s : List UInt8} (h0 : ¬ s = []) (h : ¬ (200 : Int) < s.length) : checkM s = checkL (splitM s) 0 0 := by
  unfold checkM
  rw [if_neg h0, if_neg (by omega)]
theorem checkL_many {ps : List (List UInt8)} {i : Nat} (hi : i < ps.length) (h : i = 20) : checkL (ps.drop i) i (atL ps i) = (3, (atL ps i : Int)) := by
  rw [List.drop_eq_getElem_cons hi]
  exact if_pos h
theorem checkL_next {ps : List (List UInt8)} {i : Nat} (hi : i < ps.length) (h : ¬ i = 20) (hs : (stepB badR (getL ps i)).1 = 0) : checkL (ps.drop i) i (atL ps i) = checkL (ps.drop (i + 1)) (i + 1) (atL ps (i + 1)) := by
  rw [getL_eq hi] at hs
  rw [List.drop_eq_getElem_cons hi, atL_succ hi]
  unfold checkL
  rw [if_neg h, if_pos hs]
  cases ps.drop (i + 1) <;> rfl
theorem checkL_bad {ps : List (List UInt8)} {i : Nat} (hi : i < ps.length) (h : ¬ i = 20) (hs : ¬ (stepB badR (getL ps i)).1 = 0) : checkL (ps.drop i) i (atL ps i) = ((stepB badR (getL ps i)).1, (atL ps i : Int) + (stepB badR (getL ps i)).2) := by
  rw [getL_eq hi] at hs ⊢
  rw [List.drop_eq_getElem_cons hi]
  unfold checkL
  rw [if_neg h, if_neg hs]
theorem okP_len {s : List UInt8} (h : (checkM s).1 = 0) : s.length ≤ 200 := by
  unfold checkM at h
  split at h
  · cases h
  · split at h
    · cases h
    · omega
set_option maxRecDepth 20000 in
set_option maxHeartbeats 4000000 in
theorem check_tr (s : List UInt8) (hs : s.length ≤ 9223372036854775807) : Tr Try.prog 61 #[.string (sB s)] [] [] (T0 (.agg #[.int .i64 (checkM s).1, .int .i64 (checkM s).2])) := by
  refine Tr.ofM (l := [(0, .string (sB s))]) Try.func61 rfl (n := 40) rfl (.cons rfl .nil) (fun w0 hro => ?_)
  refine I.seq ?_
  refine I.region (by kernel_rfl) (by rintro ⟨_, _, h⟩; first | exact h | exact noOut h) ?_
  refine G.op rfl (G.alloc (z := .agg #[.int .i64 0, .int .i64 0]) (cs := [.int .i64 0, .int .i64 0]) rfl (by kernel_rfl) rfl ?_)
  intro b2
  refine I.nil ?_
  refine I.nThen ?_
  refine I.seq ?_
  refine I.block ?_
  refine I.seq ?_
  refine I.region (by kernel_rfl) (by rintro ⟨_, _, h⟩; first | exact h | exact noOut h) ?_
  refine G.op rfl (G.val rfl rfl (pv_move rfl) ?_)
  refine G.op rfl (G.val rfl rfl (pv_eqlS rfl rfl) ?_)
  refine G.op rfl (G.val rfl rfl (pv_assign rfl) ?_)
  refine I.nil ?_
  refine I.nThen ?_
  refine I.condP rfl (fun h8 => ?_) (fun h8 => ?_)
  · refine I.seq ?_
    refine I.region (by kernel_rfl) (by rintro ⟨_, _, h⟩; first | exact h | exact noOut h) ?_
    refine G.op rfl (G.val rfl rfl (pv_buildSt (z := [.int .i64 0, .int .i64 0]) (pl := [(0, 1), (1, 1)]) Try.underlying73 (by kernel_rfl) (by kernel_rfl) rfl (by repeat (first | exact Fl.nil | (apply Fl.cons; exact rfl; (first | exact cells_of (by first | rfl | with_reducible assumption) | exact rfl); exact rfl; exact rfl; repeat (first | exact Sn.nil | (apply Sn.cons; repeat (first | exact St.zero | apply St.succ))))))) ?_)
    refine G.op rfl (G.storeN (by kernel_rfl) rfl rfl (by first | exact (all1_cons (by first | rfl | with_reducible assumption) (all1_cons (by first | rfl | with_reducible assumption) all1_nil)) | exact List.all_eq_true.2 (vByte_one _) | rfl) (by repeat (first | with_reducible exact Sel.here | exact Sel.here | apply Sel.there)) (by first | (simp; done) | exact Nat.le_of_ble_eq_true rfl) ?_)
    refine I.nil ?_
    refine I.nThen ?_
    refine I.ret ?_
    refine I.rBlock ?_
    refine I.rThen ?_
    exact I.doneT0 rfl (Rv.cellN (cs := [_, _]) rfl Try.underlying73 rfl (by kernel_rfl) (by first | exact blk_range (k := 2) (by (repeat (first | with_reducible exact Sel.here | exact Sel.here | apply Sel.there)); done) (by rfl)) Rv.nil) (by rw [checkM_nil (by assumption)]; rfl)
  · refine I.seq ?_
    refine I.region (by kernel_rfl) (by rintro ⟨_, _, h⟩; first | exact h | exact noOut h) ?_
    refine G.op rfl (G.val rfl rfl (pv_move rfl) ?_)
    refine G.op rfl (G.val rfl rfl (pv_lenS Try.underlying9 rfl) ?_)
    refine G.op rfl (G.val rfl rfl (pv_gtr rfl rfl) ?_)
    refine G.op rfl (G.val rfl rfl (pv_assign rfl) ?_)
    refine I.nil ?_
    refine I.nThen ?_
    refine I.condP rfl (fun h12 => ?_) (fun h12 => ?_)
    · refine I.seq ?_
      refine I.region (by kernel_rfl) (by rintro ⟨_, _, h⟩; first | exact h | exact noOut h) ?_
      refine G.op rfl (G.val rfl rfl (pv_buildSt (z := [.int .i64 0, .int .i64 0]) (pl := [(0, 1), (1, 1)]) Try.underlying73 (by kernel_rfl) (by kernel_rfl) rfl (by repeat (first | exact Fl.nil | (apply Fl.cons; exact rfl; (first | exact cells_of (by first | rfl | with_reducible assumption) | exact rfl); exact rfl; exact rfl; repeat (first | exact Sn.nil | (apply Sn.cons; repeat (first | exact St.zero | apply St.succ))))))) ?_)
      refine G.op rfl (G.storeN (by kernel_rfl) rfl rfl (by first | exact (all1_cons (by first | rfl | with_reducible assumption) (all1_cons (by first | rfl | with_reducible assumption) all1_nil)) | exact List.all_eq_true.2 (vByte_one _) | rfl) (by repeat (first | with_reducible exact Sel.here | exact Sel.here | apply Sel.there)) (by first | (simp; done) | exact Nat.le_of_ble_eq_true rfl) ?_)
      refine I.nil ?_
      refine I.nThen ?_
      refine I.ret ?_
      refine I.rBlock ?_
      refine I.rThen ?_
      exact I.doneT0 rfl (Rv.cellN (cs := [_, _]) rfl Try.underlying73 rfl (by kernel_rfl) (by first | exact blk_range (k := 2) (by (repeat (first | with_reducible exact Sel.here | exact Sel.here | apply Sel.there)); done) (by rfl)) Rv.nil) (by rw [checkM_long (by assumption) (by assumption)]; rfl)
    · refine I.skip ?_
      refine I.nBlock ?_
      refine I.nThen ?_
      refine I.seq ?_
      refine I.region (by kernel_rfl) (by rintro ⟨_, _, h⟩; first | exact h | exact noOut h) ?_
      refine G.op rfl (G.alloc (z := .int .i64 0) (cs := [.int .i64 0]) rfl (by kernel_rfl) rfl ?_)
      intro b3
      refine G.op rfl (G.store (by kernel_rfl) rfl rfl (by first | rfl | with_reducible assumption) (by repeat (first | with_reducible exact Sel.here | exact Sel.here | apply Sel.there)) (by first | (simp; done) | exact Nat.le_of_ble_eq_true rfl) ?_)
      refine I.nil ?_
      refine I.nThen ?_
      refine I.seq ?_
      refine I.seq ?_
      refine I.region (by kernel_rfl) (by rintro ⟨_, _, h⟩; first | exact h | exact noOut h) ?_
      refine G.op rfl (G.val rfl rfl (pv_move rfl) ?_)
      refine G.op rfl (G.cS rfl rfl rfl rfl Try.func77 rfl rfl (by repeat (first | exact Sub.nil | (apply Sub.cons; (repeat (first | with_reducible exact Sel.here | exact Sel.here | apply Sel.there))))) may0 (steps_tr _) (by repeat (first | exact Ap.nil | apply Ap.cons)) ?_)
      intro x18 hJ
      try dsimp only at hJ
      try dsimp only
      refine I.nil ?_
      refine I.nThen ?_
      refine I.block ?_
      refine I.rangeK (X := Int × Int) (encs := fun i => (.int .i64 (atL (splitM s) i : Int), .string (sB (getL (splitM s) i)))) (ts := [2, 3]) (fun b i st => (b = true → st.1 = 0 ∧ st.2 = 0 ∧ i ≤ 20 ∧ checkL (splitM s) 0 0 = checkL ((splitM s).drop i) i (atL (splitM s) i)) ∧ (b = false → checkL (splitM s) 0 0 = (st.1, st.2))) (fun b i st => [blk b2 73 [.int .i64 st.1, .int .i64 st.2], blk b3 3 [.int .i64 (i : Int)]]) (fun st => .ret) (fun i => [(4, .int .i64 (atL (splitM s) i : Int)), (5, .string (sB (getL (splitM s) i)))]) (x0 := (0, 0)) rfl Try.func83 rfl rfl (steps_seq s (by omega) x18) (by show Sub _ [blk b2 73 [.int .i64 0, .int .i64 0], blk b3 3 [.int .i64 0], blk x18 9 [.string (sB s)]] _; repeat (first | exact Sub.nil | (apply Sub.cons; (repeat (first | with_reducible exact Sel.here | exact Sel.here | apply Sel.there))))) may0 (by first | exact trivial | (exact ⟨fun _ => ⟨rfl, rfl, by omega, rfl⟩, fun h => (by cases h)⟩)) rfl rfl (.cons rfl (.cons rfl .nil)) (.cons (.cons .nil)) ?_ ?_ ?_ ?_
      · intro w1 S1 lp m1 i hi
        try dsimp only at hJ
        try dsimp only
        refine I.seq ?_
        refine I.region (by kernel_rfl) (by rintro ⟨_, _, h⟩; first | exact h | exact noOut h) ?_
        refine G.op rfl (G.val rfl rfl (pv_assign rfl) ?_)
        refine I.nil ?_
        refine I.nThen ?_
        refine I.region (by kernel_rfl) (by rintro ⟨_, _, h⟩; first | exact h | exact noOut h) ?_
        refine G.op rfl (G.val rfl rfl (pv_assign rfl) ?_)
        refine I.nil ?_
        exact I.asg (.consE rfl (by first | rfl | exact int_eq (by first | omega | (dsimp only; omega)) | exact congrArg _ (by omega)) (.consE rfl (by first | rfl | exact int_eq (by first | omega | (dsimp only; omega)) | exact congrArg _ (by omega)) (.cons rfl (.cons rfl .nil))))
      · intro w1 S1 lp c i st hi hJ
        obtain ⟨x, y⟩ := st
        try dsimp only at hJ
        try dsimp only
        obtain ⟨hT, -⟩ := hJ
        obtain ⟨rfl, rfl, hi20, hck⟩ := hT rfl
        have hlen := part_le hi
        rw [← getL_eq hi] at hlen
        have hno : ∀ c ∈ getL (splitM s) i, ¬ c = 47 := by rw [getL_eq hi]; exact splitM_no s _ (List.getElem_mem hi)
        have hb := stepB_pos badR (getL (splitM s) i)
        refine I.block ?_
        refine I.seq ?_
        refine I.region (by kernel_rfl) (by rintro ⟨_, _, h⟩; first | exact h | exact noOut h) ?_
        refine G.op rfl (G.val rfl rfl (pv_load Try.underlying3 rfl rfl (by first | exact blk_cell (by (repeat (first | with_reducible exact Sel.here | exact Sel.here | apply Sel.there)); done) (by rfl) | exact rng_cell (by (repeat (first | with_reducible exact Sel.here | exact Sel.here | apply Sel.there)); done) (by rfl) | exact ro_blk (by assumption) (by rfl) | exact ro_rngC (by assumption) (by rfl) | exact ro_int (by assumption) | exact ro_byte (by assumption) | exact ro_str (by assumption) | with_reducible assumption | assumption)) ?_)
        refine G.op rfl (G.val rfl rfl ((pv_add64 rfl rfl (by omega)).int (b := ((i + 1 : Nat) : Int)) (by omega)) ?_)
        refine G.op rfl (G.store (by kernel_rfl) rfl rfl (by first | rfl | with_reducible assumption) (by repeat (first | with_reducible exact Sel.here | exact Sel.here | apply Sel.there)) (by first | (simp; done) | exact Nat.le_of_ble_eq_true rfl) ?_)
        refine I.nil ?_
        refine I.nThen ?_
        refine I.seq ?_
        refine I.seq ?_
        refine I.region (by kernel_rfl) (by rintro ⟨_, _, h⟩; first | exact h | exact noOut h) ?_
        refine G.op rfl (G.val rfl rfl (pv_load Try.underlying3 rfl rfl (by first | exact blk_cell (by (repeat (first | with_reducible exact Sel.here | exact Sel.here | apply Sel.there)); done) (by rfl) | exact rng_cell (by (repeat (first | with_reducible exact Sel.here | exact Sel.here | apply Sel.there)); done) (by rfl) | exact ro_blk (by assumption) (by rfl) | exact ro_rngC (by assumption) (by rfl) | exact ro_int (by assumption) | exact ro_byte (by assumption) | exact ro_str (by assumption) | with_reducible assumption | assumption)) ?_)
        refine G.op rfl (G.val rfl rfl (pv_gtr rfl rfl) ?_)
        refine I.nil ?_
        refine I.nThen ?_
        refine I.condP rfl (fun h24 => ?_) (fun h24 => ?_)
        · refine I.seq ?_
          refine I.region (by kernel_rfl) (by rintro ⟨_, _, h⟩; first | exact h | exact noOut h) ?_
          refine G.op rfl (G.val rfl rfl (pv_move rfl) ?_)
          refine G.op rfl (G.val rfl rfl (pv_buildSt (z := [.int .i64 0, .int .i64 0]) (pl := [(0, 1), (1, 1)]) Try.underlying73 (by kernel_rfl) (by kernel_rfl) rfl (by repeat (first | exact Fl.nil | (apply Fl.cons; exact rfl; (first | exact cells_of (by first | rfl | with_reducible assumption) | exact rfl); exact rfl; exact rfl; repeat (first | exact Sn.nil | (apply Sn.cons; repeat (first | exact St.zero | apply St.succ))))))) ?_)
          refine G.op rfl (G.storeN (by kernel_rfl) rfl rfl (by first | exact (all1_cons (by first | rfl | with_reducible assumption) (all1_cons (by first | rfl | with_reducible assumption) all1_nil)) | exact List.all_eq_true.2 (vByte_one _) | rfl) (by repeat (first | with_reducible exact Sel.here | exact Sel.here | apply Sel.there)) (by first | (simp; done) | exact Nat.le_of_ble_eq_true rfl) ?_)
          refine I.nil ?_
          refine I.nThen ?_
          refine I.ret ?_
          refine I.rThen ?_
          refine I.rBlock ?_
          exact I.rR ((3, (atL (splitM s) i : Int))) (by first | exact trivial | ((try dsimp only); exact ⟨fun h => (by cases h), fun _ => hck.trans (checkL_many hi (by omega))⟩)) rfl (by repeat (first | exact Sub.nil | (apply Sub.cons; (repeat (first | with_reducible exact Sel.here | exact Sel.here | apply Sel.there)))))
        · refine I.skip ?_
          refine I.nThen ?_
          refine I.seq ?_
          refine I.region (by kernel_rfl) (by rintro ⟨_, _, h⟩; first | exact h | exact noOut h) ?_
          refine G.op rfl (G.val rfl rfl (pv_move rfl) ?_)
          refine G.op rfl (G.cR rfl rfl rfl rfl Try.func78 rfl rfl may0 (step_at (getL (splitM s) i) hno (by omega)) ?_)
          refine G.op rfl (G.val rfl rfl (pv_move rfl) ?_)
          refine G.op rfl (G.val rfl rfl (pv_extract rfl rfl) ?_)
          refine G.op rfl (G.val rfl rfl (pv_extract rfl rfl) ?_)
          refine G.op rfl (G.val rfl rfl (pv_assign rfl) ?_)
          refine G.op rfl (G.val rfl rfl (pv_assign rfl) ?_)
          refine I.nil ?_
          refine I.nThen ?_
          refine I.seq ?_
          refine I.region (by kernel_rfl) (by rintro ⟨_, _, h⟩; first | exact h | exact noOut h) ?_
          refine G.op rfl (G.val rfl rfl (pv_move rfl) ?_)
          refine G.op rfl (G.val rfl rfl (pv_neq rfl rfl) ?_)
          refine I.nil ?_
          refine I.nThen ?_
          refine I.condP rfl (fun h33 => ?_) (fun h33 => ?_)
          · refine I.seq ?_
            refine I.region (by kernel_rfl) (by rintro ⟨_, _, h⟩; first | exact h | exact noOut h) ?_
            refine G.op rfl (G.val rfl rfl (pv_move rfl) ?_)
            refine G.op rfl (G.val rfl rfl (pv_move rfl) ?_)
            refine G.op rfl (G.val rfl rfl (pv_move rfl) ?_)
            refine G.op rfl (G.val rfl rfl (pv_add64 rfl rfl (by omega)) ?_)
            refine G.op rfl (G.val rfl rfl (pv_buildSt (z := [.int .i64 0, .int .i64 0]) (pl := [(0, 1), (1, 1)]) Try.underlying73 (by kernel_rfl) (by kernel_rfl) rfl (by repeat (first | exact Fl.nil | (apply Fl.cons; exact rfl; (first | exact cells_of (by first | rfl | with_reducible assumption) | exact rfl); exact rfl; exact rfl; repeat (first | exact Sn.nil | (apply Sn.cons; repeat (first | exact St.zero | apply St.succ))))))) ?_)
            refine G.op rfl (G.storeN (by kernel_rfl) rfl rfl (by first | exact (all1_cons (by first | rfl | with_reducible assumption) (all1_cons (by first | rfl | with_reducible assumption) all1_nil)) | exact List.all_eq_true.2 (vByte_one _) | rfl) (by repeat (first | with_reducible exact Sel.here | exact Sel.here | apply Sel.there)) (by first | (simp; done) | exact Nat.le_of_ble_eq_true rfl) ?_)
            refine I.nil ?_
            refine I.nThen ?_
            refine I.ret ?_
            refine I.rBlock ?_
            exact I.rR (((stepB badR (getL (splitM s) i)).1, (atL (splitM s) i : Int) + (stepB badR (getL (splitM s) i)).2)) (by first | exact trivial | ((try dsimp only); exact ⟨fun h => (by cases h), fun _ => hck.trans (checkL_bad hi (by omega) (by omega))⟩)) rfl (by repeat (first | exact Sub.nil | (apply Sub.cons; (repeat (first | with_reducible exact Sel.here | exact Sel.here | apply Sel.there)))))
          · refine I.skip ?_
            refine I.nBlock ?_
            exact I.rN ((0, 0)) (by first | exact trivial | ((try dsimp only); exact ⟨fun _ => ⟨rfl, rfl, by omega, hck.trans (checkL_next hi (by omega) (by omega))⟩, fun h => (by cases h)⟩)) (by repeat (first | exact Sub.nil | (apply Sub.cons; (repeat (first | with_reducible exact Sel.here | exact Sel.here | apply Sel.there)))))
      · intro D st hJ
        obtain ⟨x, y⟩ := st
        try dsimp only at hJ
        try dsimp only
        obtain ⟨hT, -⟩ := hJ
        obtain ⟨rfl, rfl, hi20, hck⟩ := hT rfl
        refine I.nBlock ?_
        refine I.nThen ?_
        refine I.seq ?_
        refine I.region (by kernel_rfl) (by rintro ⟨_, _, h⟩; first | exact h | exact noOut h) ?_
        refine G.op rfl (G.val rfl rfl (pv_buildSt (z := [.int .i64 0, .int .i64 0]) (pl := [(0, 1), (1, 1)]) Try.underlying73 (by kernel_rfl) (by kernel_rfl) rfl (by repeat (first | exact Fl.nil | (apply Fl.cons; exact rfl; (first | exact cells_of (by first | rfl | with_reducible assumption) | exact rfl); exact rfl; exact rfl; repeat (first | exact Sn.nil | (apply Sn.cons; repeat (first | exact St.zero | apply St.succ))))))) ?_)
        refine G.op rfl (G.storeN (by kernel_rfl) rfl rfl (by first | exact (all1_cons (by first | rfl | with_reducible assumption) (all1_cons (by first | rfl | with_reducible assumption) all1_nil)) | exact List.all_eq_true.2 (vByte_one _) | rfl) (by repeat (first | with_reducible exact Sel.here | exact Sel.here | apply Sel.there)) (by first | (simp; done) | exact Nat.le_of_ble_eq_true rfl) ?_)
        refine I.nil ?_
        refine I.nThen ?_
        refine I.ret ?_
        exact I.doneT rfl (by (repeat (first | with_reducible exact Sel.here | exact Sel.here | apply Sel.there))) (Rv.cellN (cs := [_, _]) rfl Try.underlying73 rfl (by kernel_rfl) (by first | exact blk_range (k := 2) (by (repeat (first | with_reducible exact Sel.here | exact Sel.here | apply Sel.there)); done) (by rfl)) Rv.nil) (by rw [checkM_parts (by assumption) (by assumption), hck, List.drop_length]; rfl)
      · intro D i st hle hJ
        obtain ⟨x, y⟩ := st
        try dsimp only at hJ
        try dsimp only
        obtain ⟨-, hF⟩ := hJ
        have hxy := hF rfl
        refine I.ret ?_
        refine I.rBlock ?_
        refine I.rThen ?_
        exact I.doneT rfl (by (repeat (first | with_reducible exact Sel.here | exact Sel.here | apply Sel.there))) (Rv.cellN (cs := [_, _]) rfl Try.underlying73 rfl (by kernel_rfl) (by first | exact blk_range (k := 2) (by (repeat (first | with_reducible exact Sel.here | exact Sel.here | apply Sel.there)); done) (by rfl)) Rv.nil) (by rw [checkM_parts (by assumption) (by assumption), hxy]; rfl)
set_option maxRecDepth 20000 in
set_option maxHeartbeats 4000000 in
theorem valid_tr (s : List UInt8) (hs : s.length ≤ 9223372036854775807) : Tr Try.prog 43 #[.string (sB s)] [] [] (T0 (.bool (decide ((checkM s).1 = 0)))) := by
  refine Tr.of (l := [(0, .string (sB s))]) Try.func43 rfl (n := 7) rfl (.cons rfl .nil) (fun w0 hro => ?_)
  refine G.seq ?_
  refine G.region ?_
  refine G.op rfl (G.val rfl rfl (pv_assign rfl) ?_)
  refine G.nil ?_
  refine G.nThen ?_
  refine G.seq ?_
  refine G.region ?_
  refine G.op rfl (G.val rfl rfl (pv_move rfl) ?_)
  refine G.op rfl (G.cR rfl rfl rfl rfl Try.func61 rfl rfl may0 (check_tr _ (by omega)) ?_)
  refine G.op rfl (G.val rfl rfl (pv_field1 Try.underlying73 rfl Try.underlying24 rfl rfl rfl) ?_)
  refine G.op rfl (G.val rfl rfl (pv_eql rfl rfl) ?_)
  refine G.op rfl (G.val rfl rfl (pv_assign rfl) ?_)
  refine G.nil ?_
  refine G.nThen ?_
  refine G.ret ?_
  exact G.done0G rfl (Rv.tmp rfl Rv.nil) (by first | rfl | exact int_eq (by omega) | (simp; done))
end Go.Proofs.Ytchgaedidfefoaa

set_option linter.unusedVariables false
set_option linter.unusedSimpArgs false
namespace Go.Proofs.Ytchgaedidfefoaa
open Go.RowKit
section
variable {P : Program} {n : Nat} {w0 : World} {S : Nat → Prop} {l : Fr} {m : List Ck} {Q : Exit → Act → World → Prop} {K : Act → World → Prop}
theorem own_blk {w : World} {e sz k : Nat} {v : Value} {cs : List Value} (hk : 0 < k) (h : w.ownsRow 0 e sz v k cs) : ∃ g cap sp, v = .slice (some ⟨g, 0, none⟩) k cap ∧ k ≤ cap ∧ cap ≤ 9223372036854775807 ∧ (cs ++ sp).length = cap * sz ∧ w.heap[g]? = some (.cells (cs ++ sp).toArray e (0, 0)) := by
  obtain ⟨h1, ⟨rfl, h2⟩ | ⟨g, cap, cur, rfl, _, hg, hc, hm, hs, ht⟩⟩ := h
  · omega
  · have e1 : cs ++ cur.toList.drop (k * sz) = cur.toList := by rw [← ht]; exact List.take_append_drop _ _
    refine ⟨g, cap, cur.toList.drop (k * sz), rfl, hc, by unfold maxLen at hm; omega, ?_, ?_⟩
    · rw [e1]; simpa using hs
    · rw [e1]; simpa using hg
/-- the block of a slice that has elements -/
theorem G.ownTo {e sz k : Nat} {v : Value} {cs : List Value} {r : List Ck} (hs : Sel m (own e sz v k cs) r) (hk : 0 < k)
    (h : ∀ g cap sp, v = .slice (some ⟨g, 0, none⟩) k cap → k ≤ cap → cap ≤ 9223372036854775807 → (cs ++ sp).length = cap * sz → cs.length = k * sz → G n w0 S l (blk g e (cs ++ sp) :: r) K) : G n w0 S l m K := fun a w ha hw => by
  have hw' := hw.sel hs
  have ho : w.ownsRow 0 e sz v k cs := hw'.holds _ (List.mem_cons_self ..)
  obtain ⟨g, cap, sp, rfl, hc, hm, hl, hg⟩ := own_blk hk ho
  refine h g cap sp rfl hc hm hl ho.1 a w ha (hp_view (c := own e sz (.slice (some ⟨g, 0, none⟩) k cap) k cs) (d := blk g e (cs ++ sp)) hw' (fun _ => hg) fun b hb => ?_)
  obtain rfl : b = g := hb
  rfl
/-- .. and back -/
theorem G.ownOf {e sz k g cap : Nat} {cs sp : List Value} {r : List Ck} (hs : Sel m (blk g e (cs ++ sp)) r) (hk : cs.length = k * sz) (hc : k ≤ cap) (hm : cap ≤ 9223372036854775807) (hl : (cs ++ sp).length = cap * sz)
    (h : G n w0 S l (own e sz (.slice (some ⟨g, 0, none⟩) k cap) k cs :: r) K) : G n w0 S l m K := fun a w ha hw => by
  have hw' := hw.sel hs
  refine h a w ha (hp_view (c := blk g e (cs ++ sp)) (d := own e sz (.slice (some ⟨g, 0, none⟩) k cap) k cs) hw' (fun hg => ?_) fun b hb => ?_)
  · have hg : w.heap[g]? = some (.cells (cs ++ sp).toArray e (0, 0)) := hg
    exact ⟨hk, .inr ⟨g, cap, _, rfl, Nat.zero_le _, hg, hc, by unfold maxLen; omega, by simpa using hl, by rw [← hk]; simp⟩⟩
  · have : some g = some b := hb
    injection this with this
    exact this.symm
theorem ro_rng0 {b o : Nat} {cs : List Value} (h : Ro w0 S (rng b o cs)) : ∀ w, Hp w0 S w m → w.rangeAt b o cs := fun w hw => h.at hw
/-- a call by a function value -/
theorem G.trP {o : Oper} {d : Nat} {f : FuncId} {args : Array Value} {ro pre r : List Ck} {post : Value → List Ck → Prop} (hd : o.dst = some d) (hn : Nat.blt d n = true) (he : PE P n w0 S l m o f args)
    (ht : Tr P f args ro pre post) (hm : Sub m pre r) (hro : ∀ c ∈ ro, May w0 S r c) (h : ∀ v m', post v m' → G n w0 S ((d, v) :: l) (m' ++ r) K) : G n w0 S l m (fun a w => o.wp P a w K Q) := fun a w ha hw => by
  have hw' := hw.perm hm.perm
  have hp : Hp w (U pre) w pre := ⟨Chg.refl _ _, fun c hc => hw'.holds c (List.mem_append_left _ hc), fun c hc b hb => ⟨.inl ⟨c, hc, hb⟩, (hw'.own c (List.mem_append_left _ hc) b hb).2⟩, (List.pairwise_append.1 hw'.dis).1⟩
  have hc := ht w (fun c hc => (hro c hc).ro hw') hp
  show Oper.wp P o a w K Q
  unfold Oper.wp
  rw [he a w ha hw, Oper.upon_enter]
  refine hc.mono ?_
  rintro e w2 ⟨v, m', rfl, hpost, hm'⟩
  show K (a.put o.dst v) w2
  rw [hd]
  exact h v m' hpost _ _ (ha.put hn v) (hw'.turn hm')
theorem G.cRv {o : Oper} {d : Nat} {x : Operand} {f : FuncId} {first captured args : Array Value} {xs : List Operand} {ts : Array TypeId} {vs : List Value} {ro : List Ck} {v : Value} (hd : o.dst = some d) (hn : Nat.blt d n = true)
    (ho : o.op = .call { callee := .value x, args := xs.toArray, argTypes := ts }) (hv : ev l x = some (.func (.func f) first captured)) (hx : evs l xs = some vs) {fn : Func} {c : Code} (hf : P.funcs[f]? = some fn) (hb : fn.body = some c) (hnm : (fn.name == "runtime.NumGoroutine") = false)
    (hargs : first ++ vs.toArray ++ captured = args) (hro : ∀ c ∈ ro, May w0 S m c) (ht : Tr P f args ro [] (T0 v)) (h : G n w0 S ((d, v) :: l) m K) : G n w0 S l m (fun a w => o.wp P a w K Q) :=
  G.trP hd hn (hargs ▸ pe_val ho hv hx hf hb hnm) ht .nil hro fun x m' ⟨hx, hm⟩ => by subst hx; subst hm; exact h
theorem OwnB.one {w : World} {e : TypeId} {v : Value} {xs : List UInt8} (h : OwnB w e v xs) : v.oneCell' = true ∧ ∃ ad cap, v = .slice ad xs.length cap := by
  rcases h with ⟨rfl, rfl⟩ | ⟨g, sp, rfl, _⟩
  · exact ⟨rfl, _, _, rfl⟩
  · exact ⟨rfl, _, _, rfl⟩
theorem G.ownBFact {e : TypeId} {v : Value} {xs : List UInt8} {r : List Ck} (hs : Sel m (ownB e v xs) r) (h : v.oneCell' = true → G n w0 S l m K) : G n w0 S l m K :=
  G.fact (p := v.oneCell' = true) (fun w hw => (OwnB.one (hw.holds _ hs.mem)).1) h
theorem run_eqSl {ty e : TypeId} (ht : P.underlying ty = some (.slice e)) (a : Option Addr) (len cap : Nat) (w : World) : ∀ d, (Op.equalIn (d + 1) ty (.slice a len cap) (.slice none 0 0)).run P w = .ok a.isNone w := fun d => by
  cases a <;> simp [Op.equalIn, Sem.run_bind, run_underlying ht, Result.andThen, Sem.run_pure]
section
variable {dst : Option Tmp} {ty : TypeId} {pos : String} {after : Array Edge} {g : Option (Nat × Bool)}
theorem pv_eqlSl0 {a : Option Addr} {len cap : Nat} {t u e : TypeId} {x y : Operand} (ht : P.underlying t = some (.slice e)) (hx : ev l x = some (.slice a len cap)) (hy : ev l y = some (.slice none 0 0)) : PV P n w0 S l m ⟨dst, .binOp .eql t x y u, ty, pos, after, g⟩ (.bool a.isNone) :=
  pv_bin hx hy (by unfold eqGuard; rfl) fun w => by
    show ((Op.equalIn Op.maxDepth t (.slice a len cap) (.slice none 0 0)) >>= fun x => pure (Value.bool x)).run P w = _
    have h := run_eqSl ht a len cap w 9999
    simp only [Sem.run_bind, show Op.maxDepth = 9999 + 1 from rfl, h, Result.andThen, Sem.run_pure]
end
end
end Go.Proofs.Ytchgaedidfefoaa

set_option linter.unusedVariables false
set_option linter.unusedSimpArgs false
namespace Go.Proofs.Ytchgaedidfefoaa
open Go.RowKit
theorem splitM_last (s : List UInt8) : ∃ ini p, splitM s = ini ++ [p] := ⟨_, _, (List.dropLast_concat_getLast (splitM_ne s)).symm⟩
theorem Try.infoStr' : (Try.prog.info? 9).map (fun i => (i.zero.map (·.cells.size), i.size, i.bytes)) = some (some 1, 1, 16) := by kernel_rfl
theorem take_succ_app {s : List UInt8} {k : Nat} (h : k < s.length) : s.take (k + 1) = s.take k ++ [s[k]] := List.take_succ_eq_append_getElem h
theorem splitM_pos (s : List UInt8) : 0 < (splitM s).length := List.length_pos_iff.2 (splitM_ne s)
end Go.Proofs.Ytchgaedidfefoaa

set_option linter.unusedVariables false
set_option linter.unusedSimpArgs false
namespace Go.Proofs.Ytchgaedidfefoaa
open Go.RowKit
theorem retV1 (v : Value) : retV [v] = v := rfl
theorem retV2 (a b : Value) : retV [a, b] = .tuple #[a, b] := rfl
/-- is a text a path? -/
def okP (s : List UInt8) : Prop := (checkM s).1 = 0
instance (s : List UInt8) : Decidable (okP s) := inferInstanceAs (Decidable (_ = _))
def cmpL : List (List UInt8) → List (List UInt8) → Int
  | [], [] => 0
  | [], _ :: _ => -1
  | _ :: _, [] => 1
  | x :: xs, y :: ys => if x = y then cmpL xs ys else bytesM x y
theorem cut_split {t p t' : List UInt8} {m : Bool} (h : cutM t = (p, t', m)) : splitM t = if m then p :: splitM t' else [p] := by
  rw [splitM_cut, h]
theorem cutM_lt {t p t' : List UInt8} (h : cutM t = (p, t', true)) : t'.length < t.length ∧ p.length ≤ t.length := by
  unfold cutM at h
  split at h
  · injection h with h1 h2
    injection h2 with h2 h3
    rw [← h1, ← h2]
    simp
    omega
  · injection h with h1 h2
    injection h2 with h2 h3
    cases h3
theorem ord_ne {x y a b : List UInt8} {m k : Bool} {s t : List UInt8} (hs : cutM s = (x, a, m)) (ht : cutM t = (y, b, k)) (h : x ≠ y) : cmpL (splitM s) (splitM t) = bytesM x y := by
  rw [cut_split hs, cut_split ht]
  cases m <;> cases k <;> exact if_neg h
theorem ord_eq {x y a b : List UInt8} {m k : Bool} {s t : List UInt8} (hs : cutM s = (x, a, m)) (ht : cutM t = (y, b, k)) (h : ¬ x ≠ y) : cmpL (splitM s) (splitM t) = if m then (if k then cmpL (splitM a) (splitM b) else 1) else if k then -1 else 0 := by
  have h : x = y := Decidable.of_not_not h
  rw [cut_split hs, cut_split ht]
  have e : ∀ xs ys, cmpL (x :: xs) (y :: ys) = cmpL xs ys := fun xs ys => if_pos h
  cases m <;> cases k <;> simp [e]
  · rfl
  · cases h2 : splitM b with
    | nil => exact absurd h2 (splitM_ne b)
    | cons p r => rfl
  · cases h2 : splitM a with
    | nil => exact absurd h2 (splitM_ne a)
    | cons p r => rfl
set_option maxRecDepth 20000 in
set_option maxHeartbeats 4000000 in
theorem order_all (k : Nat) : ∀ a b : List UInt8, a.length = k → a.length ≤ 1000000 → b.length ≤ 1000000 → Tr Try.prog 45 #[.string (sB a), .string (sB b)] [] [] (T0 (.int .i64 (cmpL (splitM a) (splitM b)))) := by
  induction k using Nat.strongRecOn
  rename_i k ih
  intro a b hk ha hb
  obtain ⟨x, a', m, hx⟩ : ∃ x a' m, cutM a = (x, a', m) := ⟨_, _, _, rfl⟩
  obtain ⟨y, b', j, hy⟩ : ∃ y b' j, cutM b = (y, b', j) := ⟨_, _, _, rfl⟩
  have hbl := cutM_len b
  rw [hy] at hbl
  have hbl : b'.length ≤ b.length := hbl
  refine Tr.of (l := [(0, .string (sB a)), (1, .string (sB b))]) Try.func45 rfl (n := 40) rfl (.cons rfl (.cons rfl .nil)) (fun w0 hro => ?_)
  refine G.seq ?_
  refine G.region ?_
  refine G.op rfl (G.val rfl rfl (pv_assign rfl) ?_)
  refine G.nil ?_
  refine G.nThen ?_
  refine G.seq ?_
  refine G.region ?_
  refine G.op rfl (G.val rfl rfl (pv_move rfl) ?_)
  refine G.op rfl (G.cR rfl rfl rfl rfl Try.func66 rfl rfl may0 (cut_at a _ _ _ (by omega) hx) ?_)
  refine G.op rfl (G.val rfl rfl (pv_move rfl) ?_)
  refine G.op rfl (G.val rfl rfl (pv_extract rfl rfl) ?_)
  refine G.op rfl (G.val rfl rfl (pv_extract rfl rfl) ?_)
  refine G.op rfl (G.val rfl rfl (pv_extract rfl rfl) ?_)
  refine G.op rfl (G.val rfl rfl (pv_assign rfl) ?_)
  refine G.op rfl (G.val rfl rfl (pv_assign rfl) ?_)
  refine G.op rfl (G.val rfl rfl (pv_assign rfl) ?_)
  refine G.nil ?_
  refine G.nThen ?_
  refine G.seq ?_
  refine G.region ?_
  refine G.op rfl (G.val rfl rfl (pv_move rfl) ?_)
  refine G.op rfl (G.cR rfl rfl rfl rfl Try.func66 rfl rfl may0 (cut_at b _ _ _ (by omega) hy) ?_)
  refine G.op rfl (G.val rfl rfl (pv_move rfl) ?_)
  refine G.op rfl (G.val rfl rfl (pv_extract rfl rfl) ?_)
  refine G.op rfl (G.val rfl rfl (pv_extract rfl rfl) ?_)
  refine G.op rfl (G.val rfl rfl (pv_extract rfl rfl) ?_)
  refine G.op rfl (G.val rfl rfl (pv_assign rfl) ?_)
  refine G.op rfl (G.val rfl rfl (pv_assign rfl) ?_)
  refine G.op rfl (G.val rfl rfl (pv_assign rfl) ?_)
  refine G.nil ?_
  refine G.nThen ?_
  refine G.seq ?_
  refine G.block ?_
  refine G.seq ?_
  refine G.region ?_
  refine G.op rfl (G.val rfl rfl (pv_move rfl) ?_)
  refine G.op rfl (G.val rfl rfl (pv_move rfl) ?_)
  refine G.op rfl (G.val rfl rfl (pv_neqS rfl rfl) ?_)
  refine G.op rfl (G.val rfl rfl (pv_assign rfl) ?_)
  refine G.nil ?_
  refine G.nThen ?_
  refine G.condP rfl (fun h21 => ?_) (fun h21 => ?_)
  · refine G.seq ?_
    refine G.region ?_
    refine G.op rfl (G.val rfl rfl (pv_move rfl) ?_)
    refine G.op rfl (G.val rfl rfl (pv_move rfl) ?_)
    refine G.op rfl (G.cR rfl rfl rfl rfl Try.func46 rfl rfl may0 (cmp_tr _ _) ?_)
    refine G.op rfl (G.val rfl rfl (pv_assign rfl) ?_)
    refine G.nil ?_
    refine G.nThen ?_
    refine G.ret ?_
    refine G.rBlock ?_
    refine G.rThen ?_
    exact G.done0G rfl (Rv.tmp rfl Rv.nil) (by rw [ord_ne hx hy (by assumption)]; rfl)
  · refine G.seq ?_
    refine G.region ?_
    refine G.op rfl (G.val rfl rfl (pv_move rfl) ?_)
    refine G.op rfl (G.val rfl rfl (pv_move rfl) ?_)
    refine G.part (t := 30) rfl (fun h30 => ?_) (fun h30 => ?_)
    · refine G.want rfl rfl rfl (G.val rfl rfl (pv_move rfl) ?_)
      refine G.op rfl (G.val rfl rfl (pv_pick rfl rfl) ?_)
      refine G.op rfl (G.val rfl rfl (pv_assign rfl) ?_)
      refine G.nil ?_
      refine G.nThen ?_
      refine G.cond rfl (fun h28 => ?_) (fun h28 => ?_)
      · refine G.seq ?_
        refine G.region ?_
        refine G.op rfl (G.val rfl rfl (pv_move rfl) ?_)
        refine G.op rfl (G.val rfl rfl (pv_move rfl) ?_)
        have hm : m = true := by simp_all
        subst hm
        have hal := (cutM_lt hx).1
        refine G.op rfl (G.cR rfl rfl rfl rfl Try.func45 rfl rfl may0 (ih a'.length (by have := (cutM_lt (by assumption)).1; omega) a' b' rfl (by have := (cutM_lt (by assumption)).1; omega) (by omega)) ?_)
        refine G.op rfl (G.val rfl rfl (pv_assign rfl) ?_)
        refine G.nil ?_
        refine G.nThen ?_
        refine G.ret ?_
        refine G.rBlock ?_
        refine G.rThen ?_
        exact G.done0G rfl (Rv.tmp rfl Rv.nil) (by rw [ord_eq hx hy (by assumption)]; simp_all [retV1])
      · refine G.seq ?_
        refine G.region ?_
        refine G.op rfl (G.val rfl rfl (pv_move rfl) ?_)
        refine G.op rfl (G.val rfl rfl (pv_assign rfl) ?_)
        refine G.nil ?_
        refine G.nThen ?_
        refine G.cond rfl (fun h36 => ?_) (fun h36 => ?_)
        · refine G.seq ?_
          refine G.region ?_
          refine G.op rfl (G.val rfl rfl (pv_assign rfl) ?_)
          refine G.nil ?_
          refine G.nThen ?_
          refine G.ret ?_
          refine G.rBlock ?_
          refine G.rThen ?_
          exact G.done0G rfl (Rv.tmp rfl Rv.nil) (by rw [ord_eq hx hy (by assumption)]; simp_all [retV1])
        · refine G.seq ?_
          refine G.region ?_
          refine G.op rfl (G.val rfl rfl (pv_move rfl) ?_)
          refine G.op rfl (G.val rfl rfl (pv_assign rfl) ?_)
          refine G.nil ?_
          refine G.nThen ?_
          refine G.cond rfl (fun h38 => ?_) (fun h38 => ?_)
          · refine G.seq ?_
            refine G.region ?_
            refine G.op rfl (G.val rfl rfl (pv_assign rfl) ?_)
            refine G.nil ?_
            refine G.nThen ?_
            refine G.ret ?_
            refine G.rBlock ?_
            refine G.rThen ?_
            exact G.done0G rfl (Rv.tmp rfl Rv.nil) (by rw [ord_eq hx hy (by assumption)]; simp_all [retV1])
          · refine G.skip ?_
            refine G.nBlock ?_
            refine G.nThen ?_
            refine G.seq ?_
            refine G.region ?_
            refine G.op rfl (G.val rfl rfl (pv_assign rfl) ?_)
            refine G.nil ?_
            refine G.nThen ?_
            refine G.ret ?_
            exact G.done0G rfl (Rv.tmp rfl Rv.nil) (by rw [ord_eq hx hy (by assumption)]; simp_all [retV1])
    · refine G.pass rfl rfl rfl rfl rfl rfl ?_
      refine G.op rfl (G.val rfl rfl (pv_pick rfl rfl) ?_)
      refine G.op rfl (G.val rfl rfl (pv_assign rfl) ?_)
      refine G.nil ?_
      refine G.nThen ?_
      refine G.condF rfl (rfl) ?_
      refine G.seq ?_
      refine G.region ?_
      refine G.op rfl (G.val rfl rfl (pv_move rfl) ?_)
      refine G.op rfl (G.val rfl rfl (pv_assign rfl) ?_)
      refine G.nil ?_
      refine G.nThen ?_
      refine G.cond rfl (fun h36 => ?_) (fun h36 => ?_)
      · refine G.seq ?_
        refine G.region ?_
        refine G.op rfl (G.val rfl rfl (pv_assign rfl) ?_)
        refine G.nil ?_
        refine G.nThen ?_
        refine G.ret ?_
        refine G.rBlock ?_
        refine G.rThen ?_
        exact G.done0G rfl (Rv.tmp rfl Rv.nil) (by rw [ord_eq hx hy (by assumption)]; simp_all [retV1])
      · refine G.seq ?_
        refine G.region ?_
        refine G.op rfl (G.val rfl rfl (pv_move rfl) ?_)
        refine G.op rfl (G.val rfl rfl (pv_assign rfl) ?_)
        refine G.nil ?_
        refine G.nThen ?_
        refine G.cond rfl (fun h38 => ?_) (fun h38 => ?_)
        · refine G.seq ?_
          refine G.region ?_
          refine G.op rfl (G.val rfl rfl (pv_assign rfl) ?_)
          refine G.nil ?_
          refine G.nThen ?_
          refine G.ret ?_
          refine G.rBlock ?_
          refine G.rThen ?_
          exact G.done0G rfl (Rv.tmp rfl Rv.nil) (by rw [ord_eq hx hy (by assumption)]; simp_all [retV1])
        · refine G.skip ?_
          refine G.nBlock ?_
          refine G.nThen ?_
          refine G.seq ?_
          refine G.region ?_
          refine G.op rfl (G.val rfl rfl (pv_assign rfl) ?_)
          refine G.nil ?_
          refine G.nThen ?_
          refine G.ret ?_
          exact G.done0G rfl (Rv.tmp rfl Rv.nil) (by rw [ord_eq hx hy (by assumption)]; simp_all [retV1])
theorem order_tr (a b : List UInt8) (ha : a.length ≤ 1000000) (hb : b.length ≤ 1000000) : Tr Try.prog 45 #[.string (sB a), .string (sB b)] [] [] (T0 (.int .i64 (cmpL (splitM a) (splitM b)))) := order_all _ a b rfl ha hb
/-- which of two texts is ahead -/
def compareM (a b : List UInt8) : Int := if okP a then (if okP b then cmpL (splitM a) (splitM b) else 1) else if okP b then -1 else bytesM a b
def underM (s d : List UInt8) : Prop := okP s ∧ okP d ∧ preM s (d ++ [47]) = true
instance (s d : List UInt8) : Decidable (underM s d) := inferInstanceAs (Decidable (_ ∧ _ ∧ _))
def parentM (s : List UInt8) : List UInt8 × Bool := if 0 < lastM s s.length ∧ okP s then (s.take (lastM s s.length - 1), true) else ([], false)
theorem lastM_le (s : List UInt8) : ∀ k, lastM s k ≤ k
  | 0 => Nat.le_refl _
  | k + 1 => by
    unfold lastM
    split
    · exact Nat.le_refl _
    · have := lastM_le s k
      omega
set_option maxRecDepth 20000 in
set_option maxHeartbeats 4000000 in
theorem compare_tr (a b : List UInt8) (ha : a.length ≤ 9223372036854775807) (hb : b.length ≤ 9223372036854775807) : Tr Try.prog 17 #[.string (sB a), .string (sB b)] [] [] (T0 (.int .i64 (compareM a b))) := by
  refine Tr.of (l := [(0, .string (sB a)), (1, .string (sB b))]) Try.func17 rfl (n := 26) rfl (.cons rfl (.cons rfl .nil)) (fun w0 hro => ?_)
  refine G.seq ?_
  refine G.region ?_
  refine G.op rfl (G.val rfl rfl (pv_assign rfl) ?_)
  refine G.nil ?_
  refine G.nThen ?_
  refine G.seq ?_
  refine G.region ?_
  refine G.op rfl (G.val rfl rfl (pv_move rfl) ?_)
  refine G.op rfl (G.cR rfl rfl rfl rfl Try.func43 rfl rfl may0 (valid_tr _ (by omega)) ?_)
  refine G.op rfl (G.val rfl rfl (pv_move rfl) ?_)
  refine G.op rfl (G.cR rfl rfl rfl rfl Try.func43 rfl rfl may0 (valid_tr _ (by omega)) ?_)
  refine G.op rfl (G.val rfl rfl (pv_assign rfl) ?_)
  refine G.op rfl (G.val rfl rfl (pv_assign rfl) ?_)
  refine G.nil ?_
  refine G.nThen ?_
  refine G.seq ?_
  refine G.block ?_
  refine G.seq ?_
  refine G.region ?_
  refine G.op rfl (G.val rfl rfl (pv_move rfl) ?_)
  refine G.op rfl (G.val rfl rfl (pv_move rfl) ?_)
  refine G.partP (t := 13) rfl (fun h13 => ?_) (fun h13 => ?_)
  · refine G.want rfl rfl rfl (G.val rfl rfl (pv_move rfl) ?_)
    refine G.op rfl (G.val rfl rfl (pv_pick rfl rfl) ?_)
    refine G.op rfl (G.val rfl rfl (pv_assign rfl) ?_)
    refine G.nil ?_
    refine G.nThen ?_
    refine G.condP rfl (fun h11 => ?_) (fun h11 => ?_)
    · refine G.seq ?_
      refine G.region ?_
      refine G.op rfl (G.val rfl rfl (pv_move rfl) ?_)
      refine G.op rfl (G.val rfl rfl (pv_move rfl) ?_)
      refine G.op rfl (G.cR rfl rfl rfl rfl Try.func45 rfl rfl may0 (order_tr _ _ (by have := okP_len (s := a) (by assumption); omega) (by have := okP_len (s := b) (by assumption); omega)) ?_)
      refine G.op rfl (G.val rfl rfl (pv_assign rfl) ?_)
      refine G.nil ?_
      refine G.nThen ?_
      refine G.ret ?_
      refine G.rBlock ?_
      refine G.rThen ?_
      exact G.done0G rfl (Rv.tmp rfl Rv.nil) (by simp_all [compareM, okP, retV1])
    · refine G.seq ?_
      refine G.region ?_
      refine G.op rfl (G.val rfl rfl (pv_move rfl) ?_)
      refine G.op rfl (G.val rfl rfl (pv_assign rfl) ?_)
      refine G.nil ?_
      refine G.nThen ?_
      refine G.condP rfl (fun h19 => ?_) (fun h19 => ?_)
      · refine G.seq ?_
        refine G.region ?_
        refine G.op rfl (G.val rfl rfl (pv_assign rfl) ?_)
        refine G.nil ?_
        refine G.nThen ?_
        refine G.ret ?_
        refine G.rBlock ?_
        refine G.rThen ?_
        exact G.done0G rfl (Rv.tmp rfl Rv.nil) (by simp_all [compareM, okP, retV1])
      · refine G.seq ?_
        refine G.region ?_
        refine G.op rfl (G.val rfl rfl (pv_move rfl) ?_)
        refine G.op rfl (G.val rfl rfl (pv_assign rfl) ?_)
        refine G.nil ?_
        refine G.nThen ?_
        refine G.condP rfl (fun h21 => ?_) (fun h21 => ?_)
        · refine G.seq ?_
          refine G.region ?_
          refine G.op rfl (G.val rfl rfl (pv_assign rfl) ?_)
          refine G.nil ?_
          refine G.nThen ?_
          refine G.ret ?_
          refine G.rBlock ?_
          refine G.rThen ?_
          exact G.done0G rfl (Rv.tmp rfl Rv.nil) (by simp_all [compareM, okP, retV1])
        · refine G.skip ?_
          refine G.nBlock ?_
          refine G.nThen ?_
          refine G.seq ?_
          refine G.region ?_
          refine G.op rfl (G.val rfl rfl (pv_move rfl) ?_)
          refine G.op rfl (G.val rfl rfl (pv_move rfl) ?_)
          refine G.op rfl (G.cR rfl rfl rfl rfl Try.func46 rfl rfl may0 (cmp_tr _ _) ?_)
          refine G.op rfl (G.val rfl rfl (pv_assign rfl) ?_)
          refine G.nil ?_
          refine G.nThen ?_
          refine G.ret ?_
          exact G.done0G rfl (Rv.tmp rfl Rv.nil) (by simp_all [compareM, okP, retV1])
  · refine G.pass rfl rfl rfl rfl rfl rfl ?_
    refine G.op rfl (G.val rfl rfl (pv_pick rfl rfl) ?_)
    refine G.op rfl (G.val rfl rfl (pv_assign rfl) ?_)
    refine G.nil ?_
    refine G.nThen ?_
    refine G.condF rfl (rfl) ?_
    refine G.seq ?_
    refine G.region ?_
    refine G.op rfl (G.val rfl rfl (pv_move rfl) ?_)
    refine G.op rfl (G.val rfl rfl (pv_assign rfl) ?_)
    refine G.nil ?_
    refine G.nThen ?_
    refine G.condP rfl (fun h19 => ?_) (fun h19 => ?_)
    · refine G.seq ?_
      refine G.region ?_
      refine G.op rfl (G.val rfl rfl (pv_assign rfl) ?_)
      refine G.nil ?_
      refine G.nThen ?_
      refine G.ret ?_
      refine G.rBlock ?_
      refine G.rThen ?_
      exact G.done0G rfl (Rv.tmp rfl Rv.nil) (by simp_all [compareM, okP, retV1])
    · refine G.seq ?_
      refine G.region ?_
      refine G.op rfl (G.val rfl rfl (pv_move rfl) ?_)
      refine G.op rfl (G.val rfl rfl (pv_assign rfl) ?_)
      refine G.nil ?_
      refine G.nThen ?_
      refine G.condP rfl (fun h21 => ?_) (fun h21 => ?_)
      · refine G.seq ?_
        refine G.region ?_
        refine G.op rfl (G.val rfl rfl (pv_assign rfl) ?_)
        refine G.nil ?_
        refine G.nThen ?_
        refine G.ret ?_
        refine G.rBlock ?_
        refine G.rThen ?_
        exact G.done0G rfl (Rv.tmp rfl Rv.nil) (by simp_all [compareM, okP, retV1])
      · refine G.skip ?_
        refine G.nBlock ?_
        refine G.nThen ?_
        refine G.seq ?_
        refine G.region ?_
        refine G.op rfl (G.val rfl rfl (pv_move rfl) ?_)
        refine G.op rfl (G.val rfl rfl (pv_move rfl) ?_)
        refine G.op rfl (G.cR rfl rfl rfl rfl Try.func46 rfl rfl may0 (cmp_tr _ _) ?_)
        refine G.op rfl (G.val rfl rfl (pv_assign rfl) ?_)
        refine G.nil ?_
        refine G.nThen ?_
        refine G.ret ?_
        exact G.done0G rfl (Rv.tmp rfl Rv.nil) (by simp_all [compareM, okP, retV1])
set_option maxRecDepth 20000 in
set_option maxHeartbeats 4000000 in
theorem under_tr (s d : List UInt8) (hs : s.length ≤ 9223372036854775807) (hd : d.length ≤ 9223372036854775807) : Tr Try.prog 37 #[.string (sB s), .string (sB d)] [] [] (T0 (.bool (decide (underM s d)))) := by
  refine Tr.of (l := [(0, .string (sB s)), (1, .string (sB d))]) Try.func37 rfl (n := 17) rfl (.cons rfl (.cons rfl .nil)) (fun w0 hro => ?_)
  have h47 : ([47] : List UInt8).length = 1 := rfl
  refine G.seq ?_
  refine G.region ?_
  refine G.op rfl (G.val rfl rfl (pv_assign rfl) ?_)
  refine G.nil ?_
  refine G.nThen ?_
  refine G.seq ?_
  refine G.region ?_
  refine G.op rfl (G.val rfl rfl (pv_move rfl) ?_)
  refine G.op rfl (G.cR rfl rfl rfl rfl Try.func43 rfl rfl may0 (valid_tr _ (by omega)) ?_)
  refine G.op rfl (G.val rfl rfl (pv_move rfl) ?_)
  refine G.partP (t := 7) rfl (fun h7 => ?_) (fun h7 => ?_)
  · refine G.want rfl rfl rfl (G.val rfl rfl (pv_move rfl) ?_)
    refine G.want rfl rfl rfl (G.cR rfl rfl rfl rfl Try.func43 rfl rfl may0 (valid_tr _ (by omega)) ?_)
    refine G.op rfl (G.val rfl rfl (pv_pick rfl rfl) ?_)
    refine G.op rfl (G.val rfl rfl (pv_move rfl) ?_)
    refine G.partP (t := 11) rfl (fun h11 => ?_) (fun h11 => ?_)
    · refine G.want rfl rfl rfl (G.val rfl rfl (pv_move rfl) ?_)
      refine G.want rfl rfl rfl (G.val rfl rfl (pv_move rfl) ?_)
      have hdl := okP_len (s := d) (by assumption)
      refine G.want rfl rfl rfl (G.val rfl rfl (pv_addS rfl rfl (by omega)) ?_)
      refine G.want rfl rfl rfl (G.cR rfl rfl rfl rfl Try.func60 rfl rfl may0 (pre_tr _ _ (by omega) (by simp; omega)) ?_)
      refine G.op rfl (G.val rfl rfl (pv_pick rfl rfl) ?_)
      refine G.op rfl (G.val rfl rfl (pv_assign rfl) ?_)
      refine G.nil ?_
      refine G.nThen ?_
      refine G.ret ?_
      exact G.done0G rfl (Rv.tmp rfl Rv.nil) (by simp_all [underM, okP, retV1])
    · refine G.pass rfl rfl rfl rfl rfl rfl ?_
      refine G.pass rfl rfl rfl rfl rfl rfl ?_
      refine G.pass rfl rfl rfl rfl rfl rfl ?_
      refine G.pass rfl rfl rfl rfl rfl rfl ?_
      refine G.op rfl (G.val rfl rfl (pv_pick rfl rfl) ?_)
      refine G.op rfl (G.val rfl rfl (pv_assign rfl) ?_)
      refine G.nil ?_
      refine G.nThen ?_
      refine G.ret ?_
      exact G.done0G rfl (Rv.tmp rfl Rv.nil) (by simp_all [underM, okP, retV1])
  · refine G.pass rfl rfl rfl rfl rfl rfl ?_
    refine G.pass rfl rfl rfl rfl rfl rfl ?_
    refine G.op rfl (G.val rfl rfl (pv_pick rfl rfl) ?_)
    refine G.op rfl (G.val rfl rfl (pv_move rfl) ?_)
    refine G.pass rfl rfl rfl rfl rfl rfl ?_
    refine G.pass rfl rfl rfl rfl rfl rfl ?_
    refine G.pass rfl rfl rfl rfl rfl rfl ?_
    refine G.pass rfl rfl rfl rfl rfl rfl ?_
    refine G.op rfl (G.val rfl rfl (pv_pick rfl rfl) ?_)
    refine G.op rfl (G.val rfl rfl (pv_assign rfl) ?_)
    refine G.nil ?_
    refine G.nThen ?_
    refine G.ret ?_
    exact G.done0G rfl (Rv.tmp rfl Rv.nil) (by simp_all [underM, okP, retV1])
set_option maxRecDepth 20000 in
set_option maxHeartbeats 4000000 in
theorem parent_tr (s : List UInt8) (hs : s.length ≤ 9223372036854775807) : Tr Try.prog 15 #[.string (sB s)] [] [] (T0 (.tuple #[.string (sB (parentM s).1), .bool (parentM s).2])) := by
  refine Tr.of (l := [(0, .string (sB s))]) Try.func15 rfl (n := 17) rfl (.cons rfl .nil) (fun w0 hro => ?_)
  have hlast := lastM_le s s.length
  refine G.seq ?_
  refine G.region ?_
  refine G.op rfl (G.val rfl rfl (pv_assign rfl) ?_)
  refine G.op rfl (G.val rfl rfl (pv_assign rfl) ?_)
  refine G.nil ?_
  refine G.nThen ?_
  refine G.seq ?_
  refine G.region ?_
  refine G.op rfl (G.val rfl rfl (pv_move rfl) ?_)
  refine G.op rfl (G.cR rfl rfl rfl rfl Try.func42 rfl rfl may0 (last_tr _ (by omega)) ?_)
  refine G.op rfl (G.val rfl rfl (pv_assign rfl) ?_)
  refine G.nil ?_
  refine G.nThen ?_
  refine G.seq ?_
  refine G.seq ?_
  refine G.region ?_
  refine G.op rfl (G.val rfl rfl (pv_move rfl) ?_)
  refine G.op rfl (G.val rfl rfl (pv_lss rfl rfl) ?_)
  refine G.op rfl (G.val rfl rfl (pv_move rfl) ?_)
  refine G.partP (t := 9) rfl (fun h9 => ?_) (fun h9 => ?_)
  · refine G.pass rfl rfl rfl rfl rfl rfl ?_
    refine G.pass rfl rfl rfl rfl rfl rfl ?_
    refine G.pass rfl rfl rfl rfl rfl rfl ?_
    refine G.op rfl (G.val rfl rfl (pv_pick rfl rfl) ?_)
    refine G.nil ?_
    refine G.nThen ?_
    refine G.condT rfl (rfl) ?_
    refine G.seq ?_
    refine G.region ?_
    refine G.op rfl (G.val rfl rfl (pv_assign rfl) ?_)
    refine G.op rfl (G.val rfl rfl (pv_assign rfl) ?_)
    refine G.nil ?_
    refine G.nThen ?_
    refine G.ret ?_
    refine G.rThen ?_
    exact G.done0G rfl (Rv.tmp rfl (Rv.tmp rfl Rv.nil)) (by unfold parentM; rw [if_neg (show ¬ (0 < lastM s s.length ∧ okP s) from fun h => by first | omega | exact absurd h.2 (by assumption))]; rfl)
  · refine G.want rfl rfl rfl (G.val rfl rfl (pv_move rfl) ?_)
    refine G.want rfl rfl rfl (G.cR rfl rfl rfl rfl Try.func43 rfl rfl may0 (valid_tr _ (by omega)) ?_)
    refine G.want rfl rfl rfl (G.val rfl rfl (pv_notP rfl) ?_)
    refine G.op rfl (G.val rfl rfl (pv_pick rfl rfl) ?_)
    refine G.nil ?_
    refine G.nThen ?_
    refine G.condP rfl (fun h13 => ?_) (fun h13 => ?_)
    · refine G.seq ?_
      refine G.region ?_
      refine G.op rfl (G.val rfl rfl (pv_assign rfl) ?_)
      refine G.op rfl (G.val rfl rfl (pv_assign rfl) ?_)
      refine G.nil ?_
      refine G.nThen ?_
      refine G.ret ?_
      refine G.rThen ?_
      exact G.done0G rfl (Rv.tmp rfl (Rv.tmp rfl Rv.nil)) (by unfold parentM; rw [if_neg (show ¬ (0 < lastM s s.length ∧ okP s) from fun h => by first | omega | exact absurd h.2 (by assumption))]; rfl)
    · refine G.skip ?_
      refine G.nThen ?_
      refine G.seq ?_
      refine G.region ?_
      refine G.op rfl (G.val rfl rfl (pv_move rfl) ?_)
      refine G.op rfl (G.val rfl rfl (pv_move rfl) ?_)
      refine G.op rfl (G.val rfl rfl (pv_strH (k := lastM s s.length - 1) Try.underlying9 rfl rfl (by omega) (by omega)) ?_)
      refine G.op rfl (G.val rfl rfl (pv_assign rfl) ?_)
      refine G.op rfl (G.val rfl rfl (pv_assign rfl) ?_)
      refine G.nil ?_
      refine G.nThen ?_
      refine G.ret ?_
      exact G.done0G rfl (Rv.tmp rfl (Rv.tmp rfl Rv.nil)) (by unfold parentM; rw [if_pos (show 0 < lastM s s.length ∧ okP s from ⟨by omega, Decidable.of_not_not (by assumption)⟩)]; rfl)
end Go.Proofs.Ytchgaedidfefoaa

set_option linter.unusedVariables false
set_option linter.unusedSimpArgs false
namespace Go.Proofs.Ytchgaedidfefoaa
open Go.RowKit
theorem preM_iff {s d : List UInt8} : preM s (d ++ [47]) = true ↔ ∃ h : d.length < s.length, s.take d.length = d ∧ s[d.length] = 47 := by
  have e : (d ++ [47]).length = d.length + 1 := by simp
  unfold preM
  rw [e]
  constructor
  · intro h
    split at h
    · rename_i hl
      have h := of_decide_eq_true h
      have hlt : d.length < s.length := by omega
      refine ⟨hlt, ?_⟩
      rw [take_succ_app hlt] at h
      have := List.append_inj' h rfl
      exact ⟨this.1, by simpa using this.2⟩
    · cases h
  · rintro ⟨hl, h1, h2⟩
    rw [if_pos (by omega)]
    refine decide_eq_true ?_
    rw [take_succ_app hl, h1, h2]
theorem split_one {p : List UInt8} (h : ∀ x ∈ p, ¬ x = 47) : splitM p = [p] := by
  induction p with
  | nil => rfl
  | cons c s ih =>
    rw [splitM_char (h c (List.mem_cons_self ..)), ih fun x hx => h x (List.mem_cons_of_mem _ hx)]
    rfl
theorem headP_len {c : UInt8} {ps : List (List UInt8)} (h : ps ≠ []) : (headP c ps).length = ps.length := by
  cases ps with
  | nil => exact absurd rfl h
  | cons p r => rfl
theorem split_one' : ∀ {p : List UInt8}, (splitM p).length = 1 → ∀ x ∈ p, ¬ x = 47
  | [], _, x, hx => by cases hx
  | c :: s, h, x, hx => by
    by_cases hc : c = 47
    · subst hc
      rw [splitM_stroke] at h
      have := splitM_pos s
      have h : (splitM s).length + 1 = 1 := h
      omega
    · rw [splitM_char hc, headP_len (splitM_ne s)] at h
      rcases List.mem_cons.1 hx with rfl | hx
      · exact hc
      · exact split_one' h x hx
end Go.Proofs.Ytchgaedidfefoaa

set_option linter.unusedVariables false
set_option linter.unusedSimpArgs false
namespace Go.Proofs.Ytchgaedidfefoaa
open Go.RowKit
theorem bl_irrefl : ∀ a, Op.bytesLess a a = false
  | [] => rfl
  | a :: x => by
    have h := bl_irrefl x
    simp [Op.bytesLess, h]
theorem bl_cons {a b : UInt8} {x y : List UInt8} : Op.bytesLess (a :: x) (b :: y) = true ↔ a.toNat < b.toNat ∨ (a = b ∧ Op.bytesLess x y = true) := by
  simp only [Op.bytesLess, Bool.or_eq_true, decide_eq_true_eq, Bool.and_eq_true, beq_iff_eq, UInt8.lt_iff_toNat_lt]
theorem bl_asymm : ∀ a b, Op.bytesLess a b = true → Op.bytesLess b a = true → False
  | a, [], h, _ => by cases a <;> cases h
  | [], b :: y, _, h => by cases h
  | a :: x, b :: y, h, k => by
    rcases bl_cons.1 h with h | ⟨rfl, h2⟩
    · rcases bl_cons.1 k with k | ⟨rfl, k⟩
      · omega
      · omega
    · rcases bl_cons.1 k with k | ⟨_, k2⟩
      · omega
      · exact bl_asymm x y h2 k2
theorem bl_trans : ∀ a b c, Op.bytesLess a b = true → Op.bytesLess b c = true → Op.bytesLess a c = true
  | a, [], c, h, _ => by cases a <;> cases h
  | a, b :: y, [], _, k => by cases k
  | [], b :: y, c :: z, _, _ => rfl
  | a :: x, b :: y, c :: z, h, k => by
    refine bl_cons.2 ?_
    rcases bl_cons.1 h with h1 | ⟨rfl, h2⟩
    · rcases bl_cons.1 k with k1 | ⟨rfl, k2⟩
      · exact .inl (by omega)
      · exact .inl h1
    · rcases bl_cons.1 k with k1 | ⟨rfl, k2⟩
      · exact .inl k1
      · exact .inr ⟨rfl, bl_trans x y z h2 k2⟩
theorem bl_total : ∀ a b, Op.bytesLess a b = false → Op.bytesLess b a = false → a = b
  | [], [], _, _ => rfl
  | [], b :: y, h, _ => by cases h
  | a :: x, [], _, h => by cases h
  | a :: x, b :: y, h, k => by
    have h' : ¬ (a.toNat < b.toNat ∨ (a = b ∧ Op.bytesLess x y = true)) := fun e => by rw [bl_cons.2 e] at h; cases h
    have k' : ¬ (b.toNat < a.toNat ∨ (b = a ∧ Op.bytesLess y x = true)) := fun e => by rw [bl_cons.2 e] at k; cases k
    have e : a = b := UInt8.toNat_inj.1 (by omega)
    subst e
    have h2 : Op.bytesLess x y = false := by
      cases hh : Op.bytesLess x y with
      | false => rfl
      | true => exact absurd (.inr ⟨rfl, hh⟩) h'
    have k2 : Op.bytesLess y x = false := by
      cases hh : Op.bytesLess y x with
      | false => rfl
      | true => exact absurd (.inr ⟨rfl, hh⟩) k'
    rw [bl_total x y h2 k2]
/-- an order that tells -1, 0, 1 -/
structure OrdF {α : Type} (f : α → α → Int) : Prop where
  rng : ∀ a b, f a b = -1 ∨ f a b = 0 ∨ f a b = 1
  zero : ∀ a b, f a b = 0 ↔ a = b
  anti : ∀ a b, f b a = - f a b
  trans : ∀ a b c, f a b = -1 → f b c = -1 → f a c = -1
theorem bytesM_neg {a b : List UInt8} : bytesM a b = -1 ↔ Op.bytesLess a b = true := by
  unfold bytesM
  cases h : Op.bytesLess a b <;> simp
  by_cases e : a = b <;> simp [e]
theorem bytesM_eq {a b : List UInt8} (h : Op.bytesLess a b = false) : bytesM a b = if a = b then 0 else 1 := by
  unfold bytesM
  rw [h]
  by_cases e : a = b <;> simp [e]
theorem bytesM_ord : OrdF bytesM where
  rng a b := by
    cases h : Op.bytesLess a b with
    | true => exact .inl (bytesM_neg.2 h)
    | false =>
      rw [bytesM_eq h]
      by_cases e : a = b <;> simp [e]
  zero a b := by
    cases h : Op.bytesLess a b with
    | true =>
      rw [bytesM_neg.2 h]
      constructor
      · intro h; cases h
      · rintro rfl
        rw [bl_irrefl] at h
        cases h
    | false =>
      rw [bytesM_eq h]
      by_cases e : a = b <;> simp [e]
  anti a b := by
    cases h : Op.bytesLess a b with
    | true =>
      have h2 : Op.bytesLess b a = false := by
        cases k : Op.bytesLess b a with
        | false => rfl
        | true => exact (bl_asymm _ _ h k).elim
      have h3 : ¬ b = a := fun e => by
        subst e
        rw [bl_irrefl] at h
        cases h
      rw [bytesM_neg.2 h, bytesM_eq h2, if_neg h3]
      rfl
    | false =>
      cases k : Op.bytesLess b a with
      | true =>
        have h3 : ¬ a = b := fun e => by
          subst e
          rw [bl_irrefl] at k
          cases k
        rw [bytesM_neg.2 k, bytesM_eq h, if_neg h3]
      | false =>
        have := bl_total _ _ h k
        subst this
        rw [bytesM_eq h, if_pos rfl]
        rfl
  trans a b c h k := bytesM_neg.2 (bl_trans _ _ _ (bytesM_neg.1 h) (bytesM_neg.1 k))
theorem OrdF.self {α : Type} {f : α → α → Int} (h : OrdF f) (a : α) : f a a = 0 := (h.zero a a).2 rfl
theorem cmpL_cons_eq {x : List UInt8} {xs ys : List (List UInt8)} : cmpL (x :: xs) (x :: ys) = cmpL xs ys := if_pos rfl
theorem cmpL_cons_ne {x y : List UInt8} {xs ys : List (List UInt8)} (h : ¬ x = y) : cmpL (x :: xs) (y :: ys) = bytesM x y := if_neg h
theorem cmpL_rng : ∀ a b, cmpL a b = -1 ∨ cmpL a b = 0 ∨ cmpL a b = 1
  | [], [] => .inr (.inl rfl)
  | [], _ :: _ => .inl rfl
  | _ :: _, [] => .inr (.inr rfl)
  | x :: xs, y :: ys => by
    by_cases h : x = y
    · subst h
      rw [cmpL_cons_eq]
      exact cmpL_rng xs ys
    · rw [cmpL_cons_ne h]
      exact bytesM_ord.rng x y
theorem cmpL_zero : ∀ a b, cmpL a b = 0 ↔ a = b
  | [], [] => ⟨fun _ => rfl, fun _ => rfl⟩
  | [], _ :: _ => ⟨fun h => (by cases h), fun h => (by cases h)⟩
  | _ :: _, [] => ⟨fun h => (by cases h), fun h => (by cases h)⟩
  | x :: xs, y :: ys => by
    by_cases h : x = y
    · subst h
      rw [cmpL_cons_eq, cmpL_zero xs ys]
      simp
    · rw [cmpL_cons_ne h, bytesM_ord.zero]
      simp [h]
theorem cmpL_anti : ∀ a b, cmpL b a = - cmpL a b
  | [], [] => rfl
  | [], _ :: _ => rfl
  | _ :: _, [] => rfl
  | x :: xs, y :: ys => by
    by_cases h : x = y
    · subst h
      rw [cmpL_cons_eq, cmpL_cons_eq]
      exact cmpL_anti xs ys
    · rw [cmpL_cons_ne h, cmpL_cons_ne (fun e => h e.symm)]
      exact bytesM_ord.anti x y
theorem cmpL_trans : ∀ a b c, cmpL a b = -1 → cmpL b c = -1 → cmpL a c = -1
  | [], [], _, h, _ => by cases h
  | _ :: _, [], _, h, _ => by cases h
  | _, _ :: _, [], _, k => by cases k
  | [], _ :: _, _ :: _, _, _ => rfl
  | x :: xs, y :: ys, z :: zs, h, k => by
    by_cases e : x = y
    · subst e
      rw [cmpL_cons_eq] at h
      by_cases e2 : x = z
      · subst e2
        rw [cmpL_cons_eq] at k ⊢
        exact cmpL_trans xs ys zs h k
      · rw [cmpL_cons_ne e2] at k ⊢
        exact k
    · rw [cmpL_cons_ne e] at h
      by_cases e2 : y = z
      · subst e2
        rw [cmpL_cons_ne e]
        exact h
      · rw [cmpL_cons_ne e2] at k
        have h3 := bytesM_ord.trans x y z h k
        have e3 : ¬ x = z := fun e => by
          subst e
          rw [bytesM_ord.self] at h3
          cases h3
        rw [cmpL_cons_ne e3]
        exact h3
def joinL : List (List UInt8) → List UInt8
  | [] => []
  | [p] => p
  | p :: q :: r => p ++ 47 :: joinL (q :: r)
theorem joinL_cons {p : List UInt8} {r : List (List UInt8)} (h : r ≠ []) : joinL (p :: r) = p ++ 47 :: joinL r := by
  cases r with
  | nil => exact absurd rfl h
  | cons q r => rfl
theorem joinL_head {c : UInt8} {ps : List (List UInt8)} (h : ps ≠ []) : joinL (headP c ps) = c :: joinL ps := by
  cases ps with
  | nil => exact absurd rfl h
  | cons p r => cases r <;> rfl
theorem joinL_split : ∀ s, joinL (splitM s) = s
  | [] => rfl
  | c :: s => by
    have ih := joinL_split s
    by_cases h : c = 47
    · subst h
      rw [splitM_stroke, joinL_cons (splitM_ne s), ih]
      rfl
    · rw [splitM_char h, joinL_head (splitM_ne s), ih]
theorem split_inj {a b : List UInt8} (h : splitM a = splitM b) : a = b := by
  rw [← joinL_split a, h, joinL_split]
theorem split_app : ∀ d t, splitM (d ++ 47 :: t) = splitM d ++ splitM t
  | [], t => splitM_stroke t
  | c :: d, t => by
    have ih := split_app d t
    rw [List.cons_append]
    by_cases h : c = 47
    · subst h
      rw [splitM_stroke, splitM_stroke, ih]
      rfl
    · rw [splitM_char h, splitM_char h, ih]
      cases e : splitM d with
      | nil => exact absurd e (splitM_ne d)
      | cons p r => rfl
theorem joinL_app : ∀ {a b : List (List UInt8)}, a ≠ [] → b ≠ [] → joinL (a ++ b) = joinL a ++ 47 :: joinL b
  | [], _, h, _ => absurd rfl h
  | [p], b, _, hb => joinL_cons hb
  | p :: q :: r, b, _, hb => by
    have ih := joinL_app (a := q :: r) (b := b) (by simp) hb
    show p ++ 47 :: joinL (q :: r ++ b) = _
    rw [ih]
    show _ = (p ++ 47 :: joinL (q :: r)) ++ 47 :: joinL b
    simp
theorem pre_app {s d : List UInt8} : preM s (d ++ [47]) = true ↔ ∃ t, s = d ++ 47 :: t := by
  rw [preM_iff]
  constructor
  · rintro ⟨h, h1, h2⟩
    refine ⟨s.drop (d.length + 1), ?_⟩
    have e := List.take_append_drop d.length s
    rw [h1, List.drop_eq_getElem_cons h, h2] at e
    exact e.symm
  · rintro ⟨t, rfl⟩
    exact ⟨by simp, by simp, by simp⟩
/-- what lies under a path has its parts, and more behind them -/
theorem under_iff {s d : List UInt8} : underM s d ↔ okP s ∧ okP d ∧ ∃ T, T ≠ [] ∧ splitM s = splitM d ++ T := by
  unfold underM
  rw [pre_app]
  constructor
  · rintro ⟨h1, h2, t, rfl⟩
    exact ⟨h1, h2, splitM t, splitM_ne t, split_app d t⟩
  · rintro ⟨h1, h2, T, hT, h⟩
    refine ⟨h1, h2, joinL T, ?_⟩
    have := joinL_app (splitM_ne d) hT
    rw [← h, joinL_split, joinL_split] at this
    exact this
theorem checkL_ok : ∀ {ps : List (List UInt8)} {i o : Nat}, i ≤ 20 → ((checkL ps i o).1 = 0 ↔ i + ps.length ≤ 20 ∧ ∀ p ∈ ps, (stepB badR p).1 = 0)
  | [], i, o, h => ⟨fun _ => ⟨by simpa using h, fun p hp => by cases hp⟩, fun _ => rfl⟩
  | p :: r, i, o, h => by
    unfold checkL
    by_cases hi : i = 20
    · rw [if_pos hi]
      subst hi
      constructor
      · intro h; cases h
      · rintro ⟨h, _⟩
        simp at h
        omega
    · rw [if_neg hi]
      by_cases hp : (stepB badR p).1 = 0
      · rw [if_pos hp, checkL_ok (ps := r) (by omega)]
        simp [hp]
        intro _
        omega
      · rw [if_neg hp]
        constructor
        · intro h; exact absurd h hp
        · rintro ⟨_, h⟩
          exact absurd (h p (List.mem_cons_self ..)) hp
theorem okP_iff {s : List UInt8} : okP s ↔ s ≠ [] ∧ s.length ≤ 200 ∧ (splitM s).length ≤ 20 ∧ ∀ p ∈ splitM s, (stepB badR p).1 = 0 := by
  unfold okP checkM
  by_cases h : s = []
  · rw [if_pos h]
    simp [h]
  · rw [if_neg h]
    by_cases h2 : 200 < s.length
    · rw [if_pos h2]
      simp
      intro _ h
      omega
    · rw [if_neg h2, checkL_ok (by omega)]
      simp [h]
      intro _ _
      omega
theorem step_ne {p : List UInt8} (h : (stepB badR p).1 = 0) : p ≠ [] := fun e => by
  subst e
  cases h
theorem last_at {a p : List UInt8} (hp : ∀ x ∈ p, ¬ x = 47) (ha : a = [] ∨ ∃ a', a = a' ++ [47]) : ∀ k, a.length ≤ k → k ≤ (a ++ p).length → lastM (a ++ p) k = a.length
  | 0, h, _ => by
    unfold lastM
    omega
  | k + 1, h, h2 => by
    rw [lastM.eq_2]
    by_cases e : a.length = k + 1
    · rcases ha with rfl | ⟨a', rfl⟩
      · simp at e
      · have e2 : a'.length = k := by simpa using e
        rw [if_pos]
        · exact e.symm
        · rw [List.getElem?_append_left (by omega), List.getElem?_append_right (by omega), e2]
          simp
    · have hk : k - a.length < p.length := by
        simp at h2
        omega
      rw [if_neg, last_at hp ha k (by omega) (by omega)]
      rw [List.getElem?_append_right (by omega), List.getElem?_eq_getElem hk]
      intro e3
      injection e3 with e3
      exact hp _ (List.getElem_mem hk) e3
theorem last_none {s p : List UInt8} (h : splitM s = [p]) : lastM s s.length = 0 ∧ s = p := by
  have e : s = p := by
    have := joinL_split s
    rw [h] at this
    exact this.symm
  subst e
  exact ⟨last_at (a := []) (split_one' (by rw [h]; rfl)) (.inl rfl) s.length (Nat.zero_le _) (Nat.le_refl _), rfl⟩
theorem last_some {s p : List UInt8} {ini : List (List UInt8)} (h : splitM s = ini ++ [p]) (hi : ini ≠ []) : s = joinL ini ++ 47 :: p ∧ lastM s s.length = (joinL ini).length + 1 ∧ splitM (joinL ini) = ini := by
  have e : s = joinL ini ++ 47 :: p := by
    have := joinL_app hi (b := [p]) (by simp)
    rw [← h, joinL_split] at this
    exact this
  have hno : ∀ x ∈ p, ¬ x = 47 := splitM_no s p (by rw [h]; simp)
  refine ⟨e, ?_, ?_⟩
  · have := last_at (a := joinL ini ++ [47]) hno (.inr ⟨_, rfl⟩) (joinL ini ++ [47] ++ p).length (by simp) (Nat.le_refl _)
    have e2 : joinL ini ++ [47] ++ p = s := by rw [e]; simp
    rw [e2] at this
    rw [this]
    simp
  · have e3 := split_app (joinL ini) p
    rw [← e, split_one hno, h] at e3
    exact (List.append_inj' e3 rfl).1.symm
theorem ini_ok {s p : List UInt8} {ini : List (List UInt8)} (hs : okP s) (h : splitM s = ini ++ [p]) (hi : ini ≠ []) : okP (joinL ini) := by
  obtain ⟨e, _, e3⟩ := last_some h hi
  obtain ⟨h1, h2, h4, h5⟩ := okP_iff.1 hs
  refine okP_iff.2 ⟨fun e4 => ?_, ?_, ?_, ?_⟩
  · rw [e4] at e3
    have := h5 [] (by rw [h, ← e3]; simp [splitM])
    exact step_ne this rfl
  · rw [e] at h2
    simp at h2
    omega
  · rw [e3]
    rw [h] at h4
    simp at h4
    omega
  · rw [e3]
    intro q hq
    exact h5 q (by rw [h]; exact List.mem_append_left _ hq)
theorem parent_some {s p : List UInt8} {ini : List (List UInt8)} (hs : okP s) (h : splitM s = ini ++ [p]) (hi : ini ≠ []) : parentM s = (joinL ini, true) := by
  obtain ⟨e, e2, _⟩ := last_some h hi
  unfold parentM
  rw [if_pos ⟨by omega, hs⟩, e2, Nat.add_sub_cancel]
  congr 1
  conv => lhs; rw [e]
  simp
theorem parent_yes {s : List UInt8} (h : (parentM s).2 = true) : okP s ∧ ∃ ini p, ini ≠ [] ∧ splitM s = ini ++ [p] := by
  unfold parentM at h
  split at h
  · rename_i h2
    refine ⟨h2.2, ?_⟩
    obtain ⟨ini, p, hip⟩ := splitM_last s
    refine ⟨ini, p, fun e => ?_, hip⟩
    subst e
    have := (last_none hip).1
    omega
  · cases h
theorem parentM_len (s : List UInt8) : (parentM s).1.length ≤ s.length := by
  unfold parentM
  split
  · simp
    omega
  · simp
theorem compareM_ok {a b : List UInt8} (ha : okP a) (hb : okP b) : compareM a b = cmpL (splitM a) (splitM b) := (if_pos ha).trans (if_pos hb)
theorem compareM_l {a b : List UInt8} (ha : okP a) (hb : ¬ okP b) : compareM a b = 1 := (if_pos ha).trans (if_neg hb)
theorem compareM_r {a b : List UInt8} (ha : ¬ okP a) (hb : okP b) : compareM a b = -1 := (if_neg ha).trans (if_pos hb)
theorem compareM_no {a b : List UInt8} (ha : ¬ okP a) (hb : ¬ okP b) : compareM a b = bytesM a b := (if_neg ha).trans (if_neg hb)
theorem compareM_ord : OrdF compareM where
  rng a b := by
    by_cases ha : okP a <;> by_cases hb : okP b
    · rw [compareM_ok ha hb]; exact cmpL_rng _ _
    · rw [compareM_l ha hb]; simp
    · rw [compareM_r ha hb]; simp
    · rw [compareM_no ha hb]; exact bytesM_ord.rng _ _
  zero a b := by
    by_cases ha : okP a <;> by_cases hb : okP b
    · rw [compareM_ok ha hb, cmpL_zero]
      exact ⟨split_inj, fun h => by rw [h]⟩
    · rw [compareM_l ha hb]
      exact ⟨fun h => (by cases h), fun h => absurd (h ▸ ha) hb⟩
    · rw [compareM_r ha hb]
      exact ⟨fun h => (by cases h), fun h => absurd (h ▸ hb) ha⟩
    · rw [compareM_no ha hb]; exact bytesM_ord.zero _ _
  anti a b := by
    by_cases ha : okP a <;> by_cases hb : okP b
    · rw [compareM_ok ha hb, compareM_ok hb ha]; exact cmpL_anti _ _
    · rw [compareM_l ha hb, compareM_r hb ha]
    · rw [compareM_r ha hb, compareM_l hb ha]; rfl
    · rw [compareM_no ha hb, compareM_no hb ha]; exact bytesM_ord.anti _ _
  trans a b c h k := by
    by_cases ha : okP a
    · by_cases hb : okP b
      · rw [compareM_ok ha hb] at h
        by_cases hc : okP c
        · rw [compareM_ok hb hc] at k
          rw [compareM_ok ha hc]
          exact cmpL_trans _ _ _ h k
        · rw [compareM_l hb hc] at k
          cases k
      · rw [compareM_l ha hb] at h
        cases h
    · by_cases hc : okP c
      · exact compareM_r ha hc
      · by_cases hb : okP b
        · rw [compareM_l hb hc] at k
          cases k
        · rw [compareM_no ha hb] at h
          rw [compareM_no hb hc] at k
          rw [compareM_no ha hc]
          exact bytesM_ord.trans _ _ _ h k
theorem cmpL_pre : ∀ (D : List (List UInt8)) {T : List (List UInt8)}, T ≠ [] → cmpL D (D ++ T) = -1
  | [], T, h => by
    cases T with
    | nil => exact absurd rfl h
    | cons _ _ => rfl
  | x :: D, T, h => by
    rw [List.cons_append, cmpL_cons_eq]
    exact cmpL_pre D h
theorem under_ahead {s d : List UInt8} (h : underM s d) : compareM d s = -1 := by
  obtain ⟨h1, h2, T, hT, e⟩ := under_iff.1 h
  rw [compareM_ok h2 h1, e]
  exact cmpL_pre _ hT
theorem under_trans {s p d : List UInt8} (h : underM s p) (k : underM p d) : underM s d := by
  obtain ⟨h1, h2, T, hT, e⟩ := under_iff.1 h
  obtain ⟨k1, k2, U, hU, e2⟩ := under_iff.1 k
  exact under_iff.2 ⟨h1, k2, U ++ T, by simp [hU], by rw [e, e2, List.append_assoc]⟩
theorem parent_under {s : List UInt8} (h : (parentM s).2 = true) : underM s (parentM s).1 := by
  obtain ⟨hs, ini, p, hi, e⟩ := parent_yes h
  rw [parent_some hs e hi]
  obtain ⟨_, _, e3⟩ := last_some e hi
  exact under_iff.2 ⟨hs, ini_ok hs e hi, [p], by simp, by rw [e, e3]⟩
theorem under_parent {s d : List UInt8} (h : underM s d) : (parentM s).2 = true ∧ ((parentM s).1 ≠ d → underM (parentM s).1 d) := by
  obtain ⟨hs, hd, T, hT, e⟩ := under_iff.1 h
  obtain ⟨T0, q, hq⟩ : ∃ T0 q, T = T0 ++ [q] := ⟨_, _, (List.dropLast_concat_getLast hT).symm⟩
  subst hq
  have e' : splitM s = (splitM d ++ T0) ++ [q] := by rw [e, List.append_assoc]
  have hi : splitM d ++ T0 ≠ [] := by simp [splitM_ne d]
  rw [parent_some hs e' hi]
  refine ⟨rfl, fun hne => ?_⟩
  obtain ⟨_, _, e3⟩ := last_some e' hi
  refine under_iff.2 ⟨ini_ok hs e' hi, hd, T0, fun h0 => ?_, e3⟩
  subst h0
  rw [List.append_nil] at hne e3
  exact hne (split_inj (by rw [e3]))
end Go.Proofs.Ytchgaedidfefoaa

set_option linter.unusedVariables false
set_option linter.unusedSimpArgs false
namespace Go.Proofs.Ytchgaedidfefoaa
open Go.RowKit
theorem Try.infoByte : (Try.prog.info? 5).map (fun i => (i.zero, i.size, i.bytes)) = some (some (.int .u8 0), 1, 1) := by kernel_rfl
set_option maxRecDepth 20000 in
theorem same_tr {Pv Pu : Nat → Prop} (v u : Value) (a b : List UInt8) : Tr Try.prog 44 #[v, u] [slc rByte Pv v a, slc rByte Pu u b] [] (T0 (.bool (decide (a = b)))) := by
  refine Tr.of (l := [(0, v), (1, u)]) Try.func44 rfl (n := 10) rfl (.cons rfl (.cons rfl .nil)) (fun w0 hro => ?_)
  obtain ⟨hv, hu⟩ := ro2 hro
  refine G.seq ?_
  refine G.region ?_
  refine G.op rfl (G.val rfl rfl (pv_assign rfl) ?_)
  refine G.nil ?_
  refine G.nThen ?_
  refine G.seq ?_
  refine G.region ?_
  refine G.op rfl (G.val rfl rfl (pv_move rfl) ?_)
  refine G.op rfl (G.val rfl rfl (pv_toStr Try.underlying29 Try.underlying5 Try.underlying9 rfl (by first | exact ro_sl (by assumption) | assumption)) ?_)
  refine G.op rfl (G.val rfl rfl (pv_move rfl) ?_)
  refine G.op rfl (G.val rfl rfl (pv_toStr Try.underlying29 Try.underlying5 Try.underlying9 rfl (by first | exact ro_sl (by assumption) | assumption)) ?_)
  refine G.op rfl (G.val rfl rfl (pv_eqlS rfl rfl) ?_)
  refine G.op rfl (G.val rfl rfl (pv_assign rfl) ?_)
  refine G.nil ?_
  refine G.nThen ?_
  refine G.ret ?_
  exact G.done1 rfl rfl .nil ⟨rfl, rfl⟩
end Go.Proofs.Ytchgaedidfefoaa

set_option linter.unusedVariables false
set_option linter.unusedSimpArgs false
namespace Go.Proofs.Ytchgaedidfefoaa
open Go.RowKit
/-- an entry -/
structure En where
  path : List UInt8
  kind : Int
  mode : Int
  data : List UInt8
  to : List UInt8
/-- .. and the value of its bytes' slice -/
abbrev ET := En × Value
def evC (x : ET) : List Value := [vStr x.1.path, vInt x.1.kind, vInt x.1.mode, x.2, vStr x.1.to]
def EnOk (e : En) : Prop := I64 e.kind ∧ I64 e.mode ∧ e.path.length ≤ 140737488355328 ∧ e.data.length ≤ 140737488355328 ∧ e.to.length ≤ 140737488355328
theorem rangeAt_loc {w w' : World} {b o : Nat} {cs : List Value} (h : w'.heap[b]? = w.heap[b]?) (hw : w.rangeAt b o cs) : w'.rangeAt b o cs := fun j v hj => (World.cell?_of_block h).trans (hw j v hj)
def rEV : Rdr ET where
  sz := 5
  R := fun Ps w b o x => Ps b ∧ w.rangeAt b o (evC x) ∧ IsSl rByte Ps w x.2 x.1.data ∧ EnOk x.1
  loc := fun h ⟨h1, h2, h3, h4⟩ => ⟨h1, rangeAt_loc (h _ h1) h2, h3.loc h, h4⟩
  mono := fun h ⟨h1, h2, h3, h4⟩ => ⟨h _ h1, h2, h3.mono h, h4⟩
def flatT (xs : List ET) : List Value := xs.flatMap evC
theorem evC_length (x : ET) : (evC x).length = 5 := rfl
theorem flatT_length (xs : List ET) : (flatT xs).length = xs.length * 5 := flatMap_length evC 5 evC_length xs
theorem flatT_get {xs : List ET} {i j : Nat} (hi : i < xs.length) (hj : j < 5) : (flatT xs)[i * 5 + j]? = (evC xs[i])[j]? := flatMap_get evC 5 evC_length xs i j hi hj
theorem flatT_app (xs ys : List ET) : flatT (xs ++ ys) = flatT xs ++ flatT ys := List.flatMap_append ..
theorem flatT_one (x : ET) : flatT [x] = evC x := by simp [flatT]
/-- entries' names, without their bytes' places -/
def ens (xs : List ET) : List En := xs.map (·.1)
theorem ens_length (xs : List ET) : (ens xs).length = xs.length := List.length_map ..
theorem ens_get {xs : List ET} {i : Nat} (h : i < xs.length) : (ens xs)[i]'(by rw [ens_length]; exact h) = xs[i].1 := List.getElem_map ..
theorem flat_at {xs : List ET} {sp : List Value} {i : Nat} (h : i < xs.length) (j : Nat) (hj : j < 5) : (flatT xs ++ sp)[0 + i * 5 + j]? = (evC xs[i])[j]? := by
  rw [List.getElem?_append_left (by rw [flatT_length]; omega), show 0 + i * 5 + j = i * 5 + j by omega]
  exact flatT_get h hj
theorem flat_row {xs : List ET} {sp : List Value} {i : Nat} (h : i < xs.length) : ((flatT xs ++ sp).drop (0 + i * 5)).take 5 = [vStr xs[i].1.path, vInt xs[i].1.kind, vInt xs[i].1.mode, xs[i].2, vStr xs[i].1.to] := by
  apply List.ext_getElem?
  intro j
  rcases Nat.lt_or_ge j 5 with hj | hj
  · rw [List.getElem?_take_of_lt hj, List.getElem?_drop]
    exact flat_at h j hj
  · rw [List.getElem?_eq_none (by rw [List.length_take]; omega)]
    exact (List.getElem?_eq_none (by simpa using hj)).symm
/-- the bytes' slice of an entry is laid anew -/
theorem flat_set {xs : List ET} {sp : List Value} {i : Nat} (h : i < xs.length) (d : Value) : (flatT xs ++ sp).set (0 + i * 5 + 3) d = flatT (xs.set i (xs[i].1, d)) ++ sp := by
  have hl : (flatT (xs.set i (xs[i].1, d))).length = xs.length * 5 := by rw [flatT_length, List.length_set]
  apply List.ext_getElem?
  intro j
  rcases Nat.lt_or_ge j (xs.length * 5) with hj | hj
  · obtain ⟨q, r, rfl, hr, hq⟩ : ∃ q r, j = q * 5 + r ∧ r < 5 ∧ q < xs.length := ⟨j / 5, j % 5, by omega, by omega, by omega⟩
    rw [List.getElem?_append_left (by rw [hl]; omega), flatT_get (by rw [List.length_set]; exact hq) hr]
    by_cases hiq : i = q
    · subst hiq
      rw [List.getElem_set_self]
      by_cases hr3 : r = 3
      · subst hr3
        rw [show 0 + i * 5 + 3 = i * 5 + 3 by omega, List.getElem?_set_self (by rw [List.length_append, flatT_length]; omega)]
        rfl
      · rw [List.getElem?_set_ne (by omega), List.getElem?_append_left (by rw [flatT_length]; omega), flatT_get hq hr]
        have : r = 0 ∨ r = 1 ∨ r = 2 ∨ r = 4 := by omega
        rcases this with rfl | rfl | rfl | rfl <;> rfl
    · rw [List.getElem_set_ne hiq, List.getElem?_set_ne (by omega), List.getElem?_append_left (by rw [flatT_length]; omega), flatT_get hq hr]
  · rw [List.getElem?_set_ne (by omega), List.getElem?_append_right (by rw [flatT_length]; omega), List.getElem?_append_right (by rw [hl]; omega), flatT_length, hl]
/-- entries of the call's own -/
def ownT (e : TypeId) (v : Value) (xs : List ET) : Ck := own e 5 v xs.length (flatT xs)
/-- their bytes -/
def datC (e : TypeId) (xs : List ET) : Ck := star (xs.map fun x => ownB e x.2 x.1.data)
section
variable {P : Program} {n : Nat} {w0 : World} {S : Nat → Prop} {l : Fr} {m : List Ck} {Q : Exit → Act → World → Prop} {K : Act → World → Prop}
/-- entries that are read, opened -/
theorem Ro.openT {Ps : Nat → Prop} {v : Value} {xs : List ET} (h : Ro w0 S (slc rEV Ps v xs)) : ∃ ad cap b off, v = .slice ad xs.length cap ∧ xs.length ≤ cap ∧ cap ≤ 9223372036854775807 ∧ (ad = none → cap = 0) ∧ (0 < xs.length → ad = some ⟨b, off, none⟩) ∧ ∀ i (hi : i < xs.length), Ro w0 S (elc rEV Ps b (off + i * 5) xs[i]) := h.open
theorem Ro.evRng {Ps : Nat → Prop} {b o : Nat} {x : ET} (h : Ro w0 S (elc rEV Ps b o x)) : Ro w0 S (rng b o [.string (sB x.1.path), .int .i64 x.1.kind, .int .i64 x.1.mode, x.2, .string (sB x.1.to)]) :=
  ⟨h.1.2.1, fun k hk => h.2 k (by obtain rfl : k = b := hk; exact h.1.1)⟩
theorem Ro.evDat {Ps : Nat → Prop} {b o : Nat} {x : ET} (h : Ro w0 S (elc rEV Ps b o x)) : Ro w0 S (slc rByte Ps x.2 x.1.data) := ⟨h.1.2.2.1, h.2⟩
theorem Ro.evOk {Ps : Nat → Prop} {b o : Nat} {x : ET} (h : Ro w0 S (elc rEV Ps b o x)) : EnOk x.1 := h.1.2.2.2
theorem Ro.slv {α : Type} {E : Rdr α} {Ps : Nat → Prop} {v : Value} {xs : List α} (h : Ro w0 S (slc E Ps v xs)) : ∃ ad cap, v = .slice ad xs.length cap := by
  obtain ⟨⟨ad, cap, b, off, e, _⟩, _⟩ := h
  exact ⟨ad, cap, e⟩
/-- fresh entries are read: their bytes lie in chunks, or in old blocks -/
theorem ownT_sl {e : TypeId} {v : Value} {xs : List ET} {w : World} {Ps : Nat → Prop} (h : w.ownsRow 0 e 5 v xs.length (flatT xs)) (hP : ∀ b, v.ownBlock = some b → Ps b) (hok : ∀ x ∈ xs, EnOk x.1) (hd : ∀ x ∈ xs, IsSl rByte Ps w x.2 x.1.data) : IsSl rEV Ps w v xs := by
  obtain ⟨ad, cap, b, hv, had, hnil, hnw⟩ := own_news h
  obtain ⟨h1, h2⟩ := h
  have hb : xs.length ≤ cap ∧ cap ≤ 9223372036854775807 := by
    rcases h2 with ⟨rfl, h0⟩ | ⟨g, cap', cur, rfl, _, _, hc, hm, _⟩
    · injection hv with e1 e2 e3
      subst e3
      omega
    · injection hv with e1 e2 e3
      subst e3
      exact ⟨hc, by unfold maxLen at hm; omega⟩
  refine ⟨ad, cap, b, 0, hv, hb.1, hb.2, hnil, had, fun i hi => ⟨hP b ?_, fun j u hj => ?_, hd _ (List.getElem_mem hi), hok _ (List.getElem_mem hi)⟩⟩
  · rw [hv, had (by omega)]
    rfl
  · have hj5 : j < 5 := (List.getElem?_eq_some_iff.1 hj).1
    have := hnw (i * 5 + j) u (by rw [flatT_get hi hj5]; exact hj)
    rw [show 0 + i * rEV.sz + j = 0 + (i * 5 + j) from by show 0 + i * 5 + j = _; omega]
    exact this
theorem datC_dat {w : World} {e : TypeId} {xs : List ET} (h : (datC e xs).φ w) : ∀ x ∈ xs, IsSl rByte (datC e xs).S w x.2 x.1.data := fun x hx => by
  have h1 : (ownB e x.2 x.1.data).φ w := h.1 _ (List.mem_map.2 ⟨x, hx, rfl⟩)
  exact (own_isSl' (p := fun _ => True) (OwnB.own h1) rfl (fun _ _ => trivial)).mono fun k hk => ⟨_, List.mem_map.2 ⟨x, hx, rfl⟩, hk⟩
/-- a tree of the call's own may be read -/
theorem may_tree {e e2 : TypeId} {v : Value} {xs : List ET} {r r' : List Ck} (h : Sel m (ownT e v xs) r) (h' : Sel m (datC e2 xs) r') (hok : ∀ x ∈ xs, EnOk x.1) : May w0 S m (slc rEV (fun b => v.ownBlock = some b ∨ (datC e2 xs).S b) v xs) :=
  .mix (fun w hw => ownT_sl (hw.holds _ h.mem) (fun b hb => .inl hb) hok fun x hx => (datC_dat (hw.holds _ h'.mem) x hx).mono fun k hk => .inr hk) fun b hb => .inr (by
    rcases hb with hb | hb
    · exact ⟨_, h.mem, hb⟩
    · exact ⟨_, h'.mem, hb⟩)
/-- .. whose bytes lie in old blocks -/
theorem may_treeR {e : TypeId} {Pd : Nat → Prop} {v : Value} {xs : List ET} {r : List Ck} (h : Sel m (ownT e v xs) r) (hok : ∀ x ∈ xs, EnOk x.1) (hP : ∀ b, Pd b → b < w0.heap.size ∧ ¬ S b) (hd : ∀ x ∈ xs, Ro w0 S (slc rByte Pd x.2 x.1.data)) : May w0 S m (slc rEV (fun b => v.ownBlock = some b ∨ Pd b) v xs) :=
  .mix (fun w hw => ownT_sl (hw.holds _ h.mem) (fun b hb => .inl hb) hok fun x hx => ((hd x hx).at hw : IsSl rByte Pd w x.2 x.1.data).mono fun k hk => .inr hk) fun b hb => by
    rcases hb with hb | hb
    · exact .inr ⟨_, h.mem, hb⟩
    · exact .inl (hP b hb)
end
end Go.Proofs.Ytchgaedidfefoaa

set_option linter.unusedVariables false
set_option linter.unusedSimpArgs false
namespace Go.Proofs.Ytchgaedidfefoaa
open Go.RowKit
/-- a block of bytes that was just laid is a slice with its room -/
theorem G.blkOwnB {n : Nat} {w0 : World} {S : Nat → Prop} {l : Fr} {m : List Ck} {K : Act → World → Prop} {b e : Nat} {xs : List UInt8} {r : List Ck} (hs : Sel m (blk b e (xs.map vByte)) r) (hm : xs.length ≤ 9223372036854775807) (h : G n w0 S l (ownB e (.slice (some ⟨b, 0, none⟩) xs.length xs.length) xs :: r) K) : G n w0 S l m K := fun a w ha hw =>
  h a w ha (hp_view (c := blk b e (xs.map vByte)) (d := ownB e (.slice (some ⟨b, 0, none⟩) xs.length xs.length) xs) (hw.sel hs) (fun hg => .inr ⟨b, [], by simp, by simpa using hm, by rw [List.append_nil]; exact hg⟩) fun k hk => by
    have : some b = some k := hk
    exact (Option.some.inj this).symm)
set_option maxRecDepth 20000 in
set_option maxHeartbeats 4000000 in
theorem copyB_tr {Pv : Nat → Prop} (v : Value) (a : List UInt8) (ha : a.length ≤ 140737488355328) : Tr Try.prog 47 #[v] [slc rByte Pv v a] [] (TX (fun _ : Value => True) (fun x => x) (fun x => [ownB 5 x a])) := by
  refine Tr.of (l := [(0, v)]) Try.func47 rfl (n := 6) rfl (.cons rfl .nil) (fun w0 hro => ?_)
  have hv := ro1 hro
  obtain ⟨av, cv, qv, ov, rfl, hcv, hmv, hnil, hadv, -⟩ := Ro.open hv
  refine G.seq ?_
  refine G.region ?_
  refine G.op rfl (G.val rfl rfl (pv_assign rfl) ?_)
  refine G.nil ?_
  refine G.nThen ?_
  refine G.seq ?_
  refine G.region ?_
  refine G.op rfl (G.lit0 rfl Try.underlying29 (by kernel_rfl) rfl ?_)
  intro b3
  refine G.blkOwnB (b := b3) (xs := []) (by repeat (first | with_reducible exact Sel.here | exact Sel.here | apply Sel.there)) (by decide) ?_
  refine G.op rfl (G.val rfl rfl (pv_move rfl) ?_)
  refine G.op rfl (G.appendB (xs := []) (ys := a) (Ps := Pv) rfl Try.underlying29 Try.infoByte rfl rfl (by repeat (first | with_reducible exact Sel.here | exact Sel.here | apply Sel.there)) (ro_sl hv) (by simp; omega) (by simp; omega) ?_)
  intro v'
  rw [List.nil_append a]
  refine G.op rfl (G.val rfl rfl (pv_assign rfl) ?_)
  refine G.nil ?_
  refine G.nThen ?_
  refine G.ret ?_
  exact G.doneX1 (v') (by first | exact trivial | ((try dsimp only); exact trivial)) rfl rfl rfl (by repeat (first | exact Sub.nil | (apply Sub.cons; (repeat (first | with_reducible exact Sel.here | exact Sel.here | apply Sel.there)))))
set_option maxRecDepth 20000 in
set_option maxHeartbeats 4000000 in
theorem cloneB_tr {Pv : Nat → Prop} (v : Value) (a : List UInt8) (ha : a.length ≤ 140737488355328) : Tr Try.prog 64 #[v] [slc rByte Pv v a] [] (TX (fun _ : Value => True) (fun x => x) (fun x => [ownB 5 x a])) := by
  refine Tr.of (l := [(0, v)]) Try.func64 rfl (n := 8) rfl (.cons rfl .nil) (fun w0 hro => ?_)
  have hv := ro1 hro
  obtain ⟨av, cv, qv, ov, rfl, hcv, hmv, hnil, hadv, -⟩ := Ro.open hv
  refine G.seq ?_
  refine G.region ?_
  refine G.op rfl (G.val rfl rfl (pv_assign rfl) ?_)
  refine G.nil ?_
  refine G.nThen ?_
  refine G.seq ?_
  refine G.seq ?_
  refine G.region ?_
  refine G.op rfl (G.val rfl rfl (pv_move rfl) ?_)
  refine G.op rfl (G.val rfl rfl (pv_eqlSl0 Try.underlying29 rfl rfl) ?_)
  refine G.nil ?_
  refine G.nThen ?_
  refine G.cond rfl (fun h4 => ?_) (fun h4 => ?_)
  · have hn : av = none := by simpa using h4
    have hc0 := hnil hn
    obtain rfl : a = [] := List.eq_nil_of_length_eq_zero (by omega)
    refine G.seq ?_
    refine G.region ?_
    refine G.op rfl (G.val rfl rfl (pv_assign rfl) ?_)
    refine G.nil ?_
    refine G.nThen ?_
    refine G.ret ?_
    refine G.rThen ?_
    refine G.ownBNil 5 ?_
    exact G.doneX1 (.slice none 0 0) (by first | exact trivial | ((try dsimp only); exact trivial)) rfl rfl rfl (by repeat (first | exact Sub.nil | (apply Sub.cons; (repeat (first | with_reducible exact Sel.here | exact Sel.here | apply Sel.there)))))
  · refine G.skip ?_
    refine G.nThen ?_
    refine G.seq ?_
    refine G.region ?_
    refine G.op rfl (G.lit0 rfl Try.underlying29 (by kernel_rfl) rfl ?_)
    intro b5
    refine G.blkOwnB (b := b5) (xs := []) (by repeat (first | with_reducible exact Sel.here | exact Sel.here | apply Sel.there)) (by decide) ?_
    refine G.op rfl (G.val rfl rfl (pv_move rfl) ?_)
    refine G.op rfl (G.appendB (xs := []) (ys := a) (Ps := Pv) rfl Try.underlying29 Try.infoByte rfl rfl (by repeat (first | with_reducible exact Sel.here | exact Sel.here | apply Sel.there)) (ro_sl hv) (by simp; omega) (by simp; omega) ?_)
    intro v'
    rw [List.nil_append a]
    refine G.op rfl (G.val rfl rfl (pv_assign rfl) ?_)
    refine G.nil ?_
    refine G.nThen ?_
    refine G.ret ?_
    exact G.doneX1 (v') (by first | exact trivial | ((try dsimp only); exact trivial)) rfl rfl rfl (by repeat (first | exact Sub.nil | (apply Sub.cons; (repeat (first | with_reducible exact Sel.here | exact Sel.here | apply Sel.there)))))
set_option maxRecDepth 20000 in
set_option maxHeartbeats 4000000 in
theorem bequal_tr {Pv Pu : Nat → Prop} (v u : Value) (a b : List UInt8) : Tr Try.prog 72 #[v, u] [slc rByte Pv v a, slc rByte Pu u b] [] (T0 (.bool (decide (a = b)))) := by
  refine Tr.of (l := [(0, v), (1, u)]) Try.func72 rfl (n := 10) rfl (.cons rfl (.cons rfl .nil)) (fun w0 hro => ?_)
  obtain ⟨hv, hu⟩ := ro2 hro
  refine G.seq ?_
  refine G.region ?_
  refine G.op rfl (G.val rfl rfl (pv_assign rfl) ?_)
  refine G.nil ?_
  refine G.nThen ?_
  refine G.seq ?_
  refine G.region ?_
  refine G.op rfl (G.val rfl rfl (pv_move rfl) ?_)
  refine G.op rfl (G.val rfl rfl (pv_toStr Try.underlying29 Try.underlying5 Try.underlying9 rfl (by first | exact ro_sl (by assumption) | assumption)) ?_)
  refine G.op rfl (G.val rfl rfl (pv_move rfl) ?_)
  refine G.op rfl (G.val rfl rfl (pv_toStr Try.underlying29 Try.underlying5 Try.underlying9 rfl (by first | exact ro_sl (by assumption) | assumption)) ?_)
  refine G.op rfl (G.val rfl rfl (pv_eqlS rfl rfl) ?_)
  refine G.op rfl (G.val rfl rfl (pv_assign rfl) ?_)
  refine G.nil ?_
  refine G.nThen ?_
  refine G.ret ?_
  exact G.done0G rfl (Rv.tmp rfl Rv.nil) (by first | rfl | exact int_eq (by omega) | (simp; done))
end Go.Proofs.Ytchgaedidfefoaa

set_option linter.unusedVariables false
set_option linter.unusedSimpArgs false
namespace Go.Proofs.Ytchgaedidfefoaa
open Go.RowKit
def argP (e : En) : Prop := e.kind < 1 ∨ 3 < e.kind ∨ e.mode < 0 ∨ 511 < e.mode ∨ (0 < e.data.length ∧ e.kind ≠ 2) ∨ (e.kind = 3 ∧ e.to.length = 0) ∨ (e.kind ≠ 3 ∧ 0 < e.to.length) ∨ 200 < e.to.length
instance (e : En) : Decidable (argP e) := inferInstanceAs (Decidable (_ ∨ _))
/-- what is wrong with an entry by itself -/
def oneM (e : En) : Int := if ¬ okP e.path then 4 else if argP e then 2 else if 1048576 < e.data.length then 3 else 0
theorem one_bytes {e : En} (h : ¬ okP e.path) : oneM e = 4 := if_pos h
theorem one_arg {e : En} (h : okP e.path) (h2 : argP e) : oneM e = 2 := (if_neg (fun k => k h)).trans (if_pos h2)
theorem one_long {e : En} (h : okP e.path) (h2 : ¬ argP e) (h3 : 1048576 < e.data.length) : oneM e = 3 := (if_neg (fun k => k h)).trans ((if_neg h2).trans (if_pos h3))
theorem one_ok {e : En} (h : okP e.path) (h2 : ¬ argP e) (h3 : ¬ 1048576 < e.data.length) : oneM e = 0 := (if_neg (fun k => k h)).trans ((if_neg h2).trans (if_neg h3))
theorem nil_len {s : List UInt8} : s = [] ↔ s.length = 0 := List.length_eq_zero_iff.symm
theorem dec_t {p : Prop} [Decidable p] (h : p) : Value.bool true = .bool (decide p) := by rw [decide_eq_true h]
theorem dec_f {p : Prop} [Decidable p] (h : ¬ p) : Value.bool false = .bool (decide p) := by rw [decide_eq_false h]
theorem dec_e {p q : Prop} [Decidable p] [Decidable q] (h : p ↔ q) : Value.bool (decide p) = .bool (decide q) := by rw [decide_eq_decide.2 h]
theorem dec_n {p : Prop} [Decidable p] {a b : Bool} (h : (!(a == b)) = true ↔ p) : Value.bool (!(a == b)) = .bool (decide p) := by
  congr 1
  cases hh : (!(a == b)) with
  | true => exact (decide_eq_true (h.1 hh)).symm
  | false => exact (decide_eq_false fun k => by rw [h.2 k] at hh; cases hh).symm
theorem bne_dec {p q : Prop} [Decidable p] [Decidable q] : (!(decide p == decide q)) = true ↔ ¬ (p ↔ q) := by
  by_cases hp : p <;> by_cases hq : q <;> simp [hp, hq]
set_option maxRecDepth 20000 in
set_option maxHeartbeats 4000000 in
theorem one_tr {Pd : Nat → Prop} (e : En) (d : Value) (hl : e.path.length ≤ 9223372036854775807) : Tr Try.prog 39 #[.agg #[.string (sB e.path), .int .i64 e.kind, .int .i64 e.mode, d, .string (sB e.to)]] [slc rByte Pd d e.data] [] (T0 (.int .i64 (oneM e))) := by
  refine Tr.of (l := [(0, .agg #[.string (sB e.path), .int .i64 e.kind, .int .i64 e.mode, d, .string (sB e.to)])]) Try.func39 rfl (n := 58) rfl (.cons rfl .nil) (fun w0 hro => ?_)
  have hd := ro1 hro
  obtain ⟨ad, cap, rfl⟩ := Ro.slv hd
  have hto := nil_len (s := e.to)
  refine G.seq ?_
  refine G.region ?_
  refine G.op rfl (G.box rfl rfl (cs := [_, _, _, _, _]) rfl ?_)
  intro b1
  refine G.op rfl (G.val rfl rfl (pv_assign rfl) ?_)
  refine G.nil ?_
  refine G.nThen ?_
  refine G.seq ?_
  refine G.drawT (nn := 8) (p := []) (rem := 255) [0, 1, 2, 0, 8, 16, 7, 127] [0, 1, 2, 0, 8, 16, 4, 32] (by kernel_rfl) ⟨rfl, by kernel_rfl, by kernel_rfl⟩ (by repeat (first | exact Sub.nil | (apply Sub.cons; (repeat (first | with_reducible exact Sel.here | exact Sel.here | apply Sel.there))))) (by kernel_rfl) (fun hT1 => ?_)
  refine G.takeT hT1 (i := 0) (rem' := 254) rfl rfl rfl (by kernel_rfl) (fun _ _ _ h => h) rfl (pv_fieldAddrK (sz := 0) (k := 1) Try.underlying31 rfl (by kernel_rfl) rfl rfl) (by repeat (first | exact Sub.nil | (apply Sub.cons; (repeat (first | with_reducible exact Sel.here | exact Sel.here | apply Sel.there))))) ?_
  refine G.takeT hT1 (i := 3) (rem' := 246) rfl rfl rfl (by kernel_rfl) (fun _ _ _ h => h) rfl (pv_fieldAddrK (sz := 0) (k := 1) Try.underlying31 rfl (by kernel_rfl) rfl rfl) (by repeat (first | exact Sub.nil | (apply Sub.cons; (repeat (first | with_reducible exact Sel.here | exact Sel.here | apply Sel.there))))) ?_
  refine G.takeT hT1 (i := 1) (rem' := 244) rfl rfl rfl (by kernel_rfl) (fun _ _ _ h => h) rfl (pv_load Try.underlying3 rfl rfl (by first | exact blk_cell (by (repeat (first | with_reducible exact Sel.here | exact Sel.here | apply Sel.there)); done) (by rfl) | exact rng_cell (by (repeat (first | with_reducible exact Sel.here | exact Sel.here | apply Sel.there)); done) (by rfl) | exact ro_blk (by assumption) (by rfl) | exact ro_rngC (by assumption) (by rfl) | exact ro_int (by assumption) | exact ro_byte (by assumption) | exact ro_str (by assumption) | with_reducible assumption | assumption)) (by repeat (first | exact Sub.nil | (apply Sub.cons; (repeat (first | with_reducible exact Sel.here | exact Sel.here | apply Sel.there))))) ?_
  refine G.takeT hT1 (i := 2) (rem' := 240) rfl rfl rfl (by kernel_rfl) (fun _ _ _ h => h) rfl (pv_eql rfl rfl) (by repeat (first | exact Sub.nil | (apply Sub.cons; (repeat (first | with_reducible exact Sel.here | exact Sel.here | apply Sel.there))))) ?_
  refine G.takeT hT1 (i := 6) (rem' := 176) rfl rfl rfl (by kernel_rfl) (fun _ _ _ h => h) rfl (pv_assign rfl) (by repeat (first | exact Sub.nil | (apply Sub.cons; (repeat (first | with_reducible exact Sel.here | exact Sel.here | apply Sel.there))))) ?_
  refine G.oneT hT1 (i := 4) (rem' := 160) (by kernel_rfl) (by kernel_rfl) ?_
  refine G.turnOp rfl rfl (G.val rfl rfl (pv_load Try.underlying3 rfl rfl (by first | exact blk_cell (by (repeat (first | with_reducible exact Sel.here | exact Sel.here | apply Sel.there)); done) (by rfl) | exact rng_cell (by (repeat (first | with_reducible exact Sel.here | exact Sel.here | apply Sel.there)); done) (by rfl) | exact ro_blk (by assumption) (by rfl) | exact ro_rngC (by assumption) (by rfl) | exact ro_int (by assumption) | exact ro_byte (by assumption) | exact ro_str (by assumption) | with_reducible assumption | assumption)) ?_)
  refine G.back (by repeat (first | exact Sub.nil | (apply Sub.cons; (repeat (first | with_reducible exact Sel.here | exact Sel.here | apply Sel.there))))) ?_
  refine G.takeT hT1 (i := 5) (rem' := 128) rfl rfl rfl (by kernel_rfl) (fun _ _ _ h => h) rfl (pv_eql rfl rfl) (by repeat (first | exact Sub.nil | (apply Sub.cons; (repeat (first | with_reducible exact Sel.here | exact Sel.here | apply Sel.there))))) ?_
  refine G.takeT hT1 (i := 7) (rem' := 0) rfl rfl rfl (by kernel_rfl) (fun _ _ _ h => h) rfl (pv_assign rfl) (by repeat (first | exact Sub.nil | (apply Sub.cons; (repeat (first | with_reducible exact Sel.here | exact Sel.here | apply Sel.there))))) ?_
  refine G.overT hT1 (by kernel_rfl) ?_
  refine G.nThen ?_
  refine G.seq ?_
  refine G.block ?_
  refine G.seq ?_
  refine G.region ?_
  refine G.op rfl (G.val rfl rfl (pv_fieldAddrK (sz := 0) (k := 0) Try.underlying31 rfl (by kernel_rfl) rfl rfl) ?_)
  refine G.op rfl (G.val rfl rfl (pv_load Try.underlying9 rfl rfl (by first | exact blk_cell (by (repeat (first | with_reducible exact Sel.here | exact Sel.here | apply Sel.there)); done) (by rfl) | exact rng_cell (by (repeat (first | with_reducible exact Sel.here | exact Sel.here | apply Sel.there)); done) (by rfl) | exact ro_blk (by assumption) (by rfl) | exact ro_rngC (by assumption) (by rfl) | exact ro_int (by assumption) | exact ro_byte (by assumption) | exact ro_str (by assumption) | with_reducible assumption | assumption)) ?_)
  refine G.op rfl (G.cR rfl rfl rfl rfl Try.func61 rfl rfl may0 (check_tr _ (by omega)) ?_)
  refine G.op rfl (G.val rfl rfl (pv_field1 Try.underlying73 rfl Try.underlying24 rfl rfl rfl) ?_)
  refine G.op rfl (G.val rfl rfl (pv_neq rfl rfl) ?_)
  refine G.op rfl (G.val rfl rfl (pv_assign rfl) ?_)
  refine G.nil ?_
  refine G.nThen ?_
  refine G.condP rfl (fun h11 => ?_) (fun h11 => ?_)
  · refine G.seq ?_
    refine G.region ?_
    refine G.op rfl (G.val rfl rfl (pv_assign rfl) ?_)
    refine G.nil ?_
    refine G.nThen ?_
    refine G.ret ?_
    refine G.rBlock ?_
    refine G.rThen ?_
    exact G.done0G rfl (Rv.tmp rfl Rv.nil) (by rw [one_bytes (by assumption)]; rfl)
  · have hok : okP e.path := Decidable.of_not_not (by assumption)
    refine G.seq ?_
    refine G.cutK (X := Unit) (ts := [1, 2]) (p := []) (fun _ => True) (fun _ => [(17, .bool (decide (argP e)))]) (fun _ => []) (.cons rfl (.cons rfl .nil)) (by repeat (first | exact Sub.nil | (apply Sub.cons; (repeat (first | with_reducible exact Sel.here | exact Sel.here | apply Sel.there))))) (.cons .nil) (by repeat (first | exact Ap.nil | apply Ap.cons)) ?_ ?_
    · refine G.seq ?_
      refine G.region ?_
      refine G.op rfl (G.val rfl rfl (pv_fieldAddrK (sz := 0) (k := 1) Try.underlying31 rfl (by kernel_rfl) rfl rfl) ?_)
      refine G.op rfl (G.val rfl rfl (pv_load Try.underlying3 rfl rfl (by first | exact blk_cell (by (repeat (first | with_reducible exact Sel.here | exact Sel.here | apply Sel.there)); done) (by rfl) | exact rng_cell (by (repeat (first | with_reducible exact Sel.here | exact Sel.here | apply Sel.there)); done) (by rfl) | exact ro_blk (by assumption) (by rfl) | exact ro_rngC (by assumption) (by rfl) | exact ro_int (by assumption) | exact ro_byte (by assumption) | exact ro_str (by assumption) | with_reducible assumption | assumption)) ?_)
      refine G.op rfl (G.val rfl rfl (pv_lss rfl rfl) ?_)
      refine G.op rfl (G.val rfl rfl (pv_move rfl) ?_)
      refine G.partP (t := 21) rfl (fun h21 => ?_) (fun h21 => ?_)
      · refine G.pass rfl rfl rfl rfl rfl rfl ?_
        refine G.pass rfl rfl rfl rfl rfl rfl ?_
        refine G.pass rfl rfl rfl rfl rfl rfl ?_
        refine G.op rfl (G.val rfl rfl (pv_pick rfl rfl) ?_)
        refine G.op rfl (G.val rfl rfl (pv_assign rfl) ?_)
        refine G.nil ?_
        refine G.nThen ?_
        refine G.condT rfl (rfl) ?_
        refine G.skip ?_
        exact G.meet (()) (by first | exact trivial | ((try dsimp only); exact trivial)) (.consE rfl (by first | exact dec_t (by unfold argP; omega) | exact dec_f (by unfold argP; omega) | exact dec_e (by unfold argP; omega) | exact dec_n (bne_dec.trans (by unfold argP; rw [hto]; omega)) | (rw [show _ = true from by assumption]; exact dec_t (by have h := bne_dec.1 (by assumption); rw [hto] at h; unfold argP; omega))) (.cons rfl (.cons rfl .nil))) (by repeat (first | exact Sub.nil | (apply Sub.cons; (repeat (first | with_reducible exact Sel.here | exact Sel.here | apply Sel.there)))))
      · refine G.want rfl rfl rfl (G.val rfl rfl (pv_fieldAddrK (sz := 0) (k := 1) Try.underlying31 rfl (by kernel_rfl) rfl rfl) ?_)
        refine G.want rfl rfl rfl (G.val rfl rfl (pv_load Try.underlying3 rfl rfl (by first | exact blk_cell (by (repeat (first | with_reducible exact Sel.here | exact Sel.here | apply Sel.there)); done) (by rfl) | exact rng_cell (by (repeat (first | with_reducible exact Sel.here | exact Sel.here | apply Sel.there)); done) (by rfl) | exact ro_blk (by assumption) (by rfl) | exact ro_rngC (by assumption) (by rfl) | exact ro_int (by assumption) | exact ro_byte (by assumption) | exact ro_str (by assumption) | with_reducible assumption | assumption)) ?_)
        refine G.want rfl rfl rfl (G.val rfl rfl (pv_gtr rfl rfl) ?_)
        refine G.op rfl (G.val rfl rfl (pv_pick rfl rfl) ?_)
        refine G.op rfl (G.val rfl rfl (pv_assign rfl) ?_)
        refine G.nil ?_
        refine G.nThen ?_
        refine G.condP rfl (fun h17 => ?_) (fun h17 => ?_)
        · refine G.skip ?_
          exact G.meet (()) (by first | exact trivial | ((try dsimp only); exact trivial)) (.consE rfl (by first | exact dec_t (by unfold argP; omega) | exact dec_f (by unfold argP; omega) | exact dec_e (by unfold argP; omega) | exact dec_n (bne_dec.trans (by unfold argP; rw [hto]; omega)) | (rw [show _ = true from by assumption]; exact dec_t (by have h := bne_dec.1 (by assumption); rw [hto] at h; unfold argP; omega))) (.cons rfl (.cons rfl .nil))) (by repeat (first | exact Sub.nil | (apply Sub.cons; (repeat (first | with_reducible exact Sel.here | exact Sel.here | apply Sel.there)))))
        · refine G.seq ?_
          refine G.region ?_
          refine G.op rfl (G.val rfl rfl (pv_fieldAddrK (sz := 0) (k := 2) Try.underlying31 rfl (by kernel_rfl) rfl rfl) ?_)
          refine G.op rfl (G.val rfl rfl (pv_load Try.underlying3 rfl rfl (by first | exact blk_cell (by (repeat (first | with_reducible exact Sel.here | exact Sel.here | apply Sel.there)); done) (by rfl) | exact rng_cell (by (repeat (first | with_reducible exact Sel.here | exact Sel.here | apply Sel.there)); done) (by rfl) | exact ro_blk (by assumption) (by rfl) | exact ro_rngC (by assumption) (by rfl) | exact ro_int (by assumption) | exact ro_byte (by assumption) | exact ro_str (by assumption) | with_reducible assumption | assumption)) ?_)
          refine G.op rfl (G.val rfl rfl (pv_lss rfl rfl) ?_)
          refine G.op rfl (G.val rfl rfl (pv_move rfl) ?_)
          refine G.partP (t := 29) rfl (fun h29 => ?_) (fun h29 => ?_)
          · refine G.pass rfl rfl rfl rfl rfl rfl ?_
            refine G.pass rfl rfl rfl rfl rfl rfl ?_
            refine G.pass rfl rfl rfl rfl rfl rfl ?_
            refine G.op rfl (G.val rfl rfl (pv_pick rfl rfl) ?_)
            refine G.op rfl (G.val rfl rfl (pv_assign rfl) ?_)
            refine G.nil ?_
            refine G.nThen ?_
            refine G.condT rfl (rfl) ?_
            refine G.skip ?_
            exact G.meet (()) (by first | exact trivial | ((try dsimp only); exact trivial)) (.consE rfl (by first | exact dec_t (by unfold argP; omega) | exact dec_f (by unfold argP; omega) | exact dec_e (by unfold argP; omega) | exact dec_n (bne_dec.trans (by unfold argP; rw [hto]; omega)) | (rw [show _ = true from by assumption]; exact dec_t (by have h := bne_dec.1 (by assumption); rw [hto] at h; unfold argP; omega))) (.cons rfl (.cons rfl .nil))) (by repeat (first | exact Sub.nil | (apply Sub.cons; (repeat (first | with_reducible exact Sel.here | exact Sel.here | apply Sel.there)))))
          · refine G.want rfl rfl rfl (G.val rfl rfl (pv_fieldAddrK (sz := 0) (k := 2) Try.underlying31 rfl (by kernel_rfl) rfl rfl) ?_)
            refine G.want rfl rfl rfl (G.val rfl rfl (pv_load Try.underlying3 rfl rfl (by first | exact blk_cell (by (repeat (first | with_reducible exact Sel.here | exact Sel.here | apply Sel.there)); done) (by rfl) | exact rng_cell (by (repeat (first | with_reducible exact Sel.here | exact Sel.here | apply Sel.there)); done) (by rfl) | exact ro_blk (by assumption) (by rfl) | exact ro_rngC (by assumption) (by rfl) | exact ro_int (by assumption) | exact ro_byte (by assumption) | exact ro_str (by assumption) | with_reducible assumption | assumption)) ?_)
            refine G.want rfl rfl rfl (G.val rfl rfl (pv_gtr rfl rfl) ?_)
            refine G.op rfl (G.val rfl rfl (pv_pick rfl rfl) ?_)
            refine G.op rfl (G.val rfl rfl (pv_assign rfl) ?_)
            refine G.nil ?_
            refine G.nThen ?_
            refine G.condP rfl (fun h17 => ?_) (fun h17 => ?_)
            · refine G.skip ?_
              exact G.meet (()) (by first | exact trivial | ((try dsimp only); exact trivial)) (.consE rfl (by first | exact dec_t (by unfold argP; omega) | exact dec_f (by unfold argP; omega) | exact dec_e (by unfold argP; omega) | exact dec_n (bne_dec.trans (by unfold argP; rw [hto]; omega)) | (rw [show _ = true from by assumption]; exact dec_t (by have h := bne_dec.1 (by assumption); rw [hto] at h; unfold argP; omega))) (.cons rfl (.cons rfl .nil))) (by repeat (first | exact Sub.nil | (apply Sub.cons; (repeat (first | with_reducible exact Sel.here | exact Sel.here | apply Sel.there)))))
            · refine G.seq ?_
              refine G.region ?_
              refine G.op rfl (G.val rfl rfl (pv_fieldAddrK (sz := 0) (k := 3) Try.underlying31 rfl (by kernel_rfl) rfl rfl) ?_)
              refine G.op rfl (G.val rfl rfl (pv_load Try.underlying29 rfl rfl (by first | exact blk_cell (by (repeat (first | with_reducible exact Sel.here | exact Sel.here | apply Sel.there)); done) (by rfl) | exact rng_cell (by (repeat (first | with_reducible exact Sel.here | exact Sel.here | apply Sel.there)); done) (by rfl) | exact ro_blk (by assumption) (by rfl) | exact ro_rngC (by assumption) (by rfl) | exact ro_int (by assumption) | exact ro_byte (by assumption) | exact ro_str (by assumption) | with_reducible assumption | assumption)) ?_)
              refine G.op rfl (G.val rfl rfl (pv_lenSl Try.underlying29 rfl) ?_)
              refine G.op rfl (G.val rfl rfl (pv_gtr rfl rfl) ?_)
              refine G.op rfl (G.val rfl rfl (pv_move rfl) ?_)
              refine G.partP (t := 38) rfl (fun h38 => ?_) (fun h38 => ?_)
              · refine G.want rfl rfl rfl (G.val rfl rfl (pv_move rfl) ?_)
                refine G.want rfl rfl rfl (G.val rfl rfl (pv_notP rfl) ?_)
                refine G.op rfl (G.val rfl rfl (pv_pick rfl rfl) ?_)
                refine G.op rfl (G.val rfl rfl (pv_assign rfl) ?_)
                refine G.nil ?_
                refine G.nThen ?_
                refine G.condP rfl (fun h17 => ?_) (fun h17 => ?_)
                · refine G.skip ?_
                  exact G.meet (()) (by first | exact trivial | ((try dsimp only); exact trivial)) (.consE rfl (by first | exact dec_t (by unfold argP; omega) | exact dec_f (by unfold argP; omega) | exact dec_e (by unfold argP; omega) | exact dec_n (bne_dec.trans (by unfold argP; rw [hto]; omega)) | (rw [show _ = true from by assumption]; exact dec_t (by have h := bne_dec.1 (by assumption); rw [hto] at h; unfold argP; omega))) (.cons rfl (.cons rfl .nil))) (by repeat (first | exact Sub.nil | (apply Sub.cons; (repeat (first | with_reducible exact Sel.here | exact Sel.here | apply Sel.there)))))
                · refine G.region ?_
                  refine G.op rfl (G.val rfl rfl (pv_move rfl) ?_)
                  refine G.op rfl (G.val rfl rfl (pv_fieldAddrK (sz := 0) (k := 4) Try.underlying31 rfl (by kernel_rfl) rfl rfl) ?_)
                  refine G.op rfl (G.val rfl rfl (pv_load Try.underlying9 rfl rfl (by first | exact blk_cell (by (repeat (first | with_reducible exact Sel.here | exact Sel.here | apply Sel.there)); done) (by rfl) | exact rng_cell (by (repeat (first | with_reducible exact Sel.here | exact Sel.here | apply Sel.there)); done) (by rfl) | exact ro_blk (by assumption) (by rfl) | exact ro_rngC (by assumption) (by rfl) | exact ro_int (by assumption) | exact ro_byte (by assumption) | exact ro_str (by assumption) | with_reducible assumption | assumption)) ?_)
                  refine G.op rfl (G.val rfl rfl (pv_neqS rfl rfl) ?_)
                  refine G.op rfl (G.val rfl rfl (pv_neqB Try.underlying4 rfl rfl) ?_)
                  refine G.op rfl (G.val rfl rfl (pv_move rfl) ?_)
                  refine G.part (t := 47) rfl (fun h47 => ?_) (fun h47 => ?_)
                  · have hb := bne_dec.1 h47
                    rw [ne_eq, hto] at hb
                    refine G.pass rfl rfl rfl rfl rfl rfl ?_
                    refine G.pass rfl rfl rfl rfl rfl rfl ?_
                    refine G.pass rfl rfl rfl rfl rfl rfl ?_
                    refine G.pass rfl rfl rfl rfl rfl rfl ?_
                    refine G.op rfl (G.val rfl rfl (pv_pick rfl rfl) ?_)
                    refine G.op rfl (G.val rfl rfl (pv_assign rfl) ?_)
                    refine G.nil ?_
                    exact G.meet (()) (by first | exact trivial | ((try dsimp only); exact trivial)) (.consE rfl (by first | exact dec_t (by unfold argP; omega) | exact dec_f (by unfold argP; omega) | exact dec_e (by unfold argP; omega) | exact dec_n (bne_dec.trans (by unfold argP; rw [hto]; omega)) | (rw [show _ = true from by assumption]; exact dec_t (by have h := bne_dec.1 (by assumption); rw [hto] at h; unfold argP; omega))) (.cons rfl (.cons rfl .nil))) (by repeat (first | exact Sub.nil | (apply Sub.cons; (repeat (first | with_reducible exact Sel.here | exact Sel.here | apply Sel.there)))))
                  · have hb : ¬ ¬ (e.kind = 3 ↔ ¬ e.to.length = 0) := fun h => by have := bne_dec.2 (show ¬ (e.kind = 3 ↔ e.to ≠ []) by rw [ne_eq, hto]; exact h); rw [h47] at this; cases this
                    refine G.want rfl rfl rfl (G.val rfl rfl (pv_fieldAddrK (sz := 0) (k := 4) Try.underlying31 rfl (by kernel_rfl) rfl rfl) ?_)
                    refine G.want rfl rfl rfl (G.val rfl rfl (pv_load Try.underlying9 rfl rfl (by first | exact blk_cell (by (repeat (first | with_reducible exact Sel.here | exact Sel.here | apply Sel.there)); done) (by rfl) | exact rng_cell (by (repeat (first | with_reducible exact Sel.here | exact Sel.here | apply Sel.there)); done) (by rfl) | exact ro_blk (by assumption) (by rfl) | exact ro_rngC (by assumption) (by rfl) | exact ro_int (by assumption) | exact ro_byte (by assumption) | exact ro_str (by assumption) | with_reducible assumption | assumption)) ?_)
                    refine G.want rfl rfl rfl (G.val rfl rfl (pv_lenS Try.underlying9 rfl) ?_)
                    refine G.want rfl rfl rfl (G.val rfl rfl (pv_gtr rfl rfl) ?_)
                    refine G.op rfl (G.val rfl rfl (pv_pick rfl rfl) ?_)
                    refine G.op rfl (G.val rfl rfl (pv_assign rfl) ?_)
                    refine G.nil ?_
                    exact G.meet (()) (by first | exact trivial | ((try dsimp only); exact trivial)) (.consE rfl (by first | exact dec_t (by unfold argP; omega) | exact dec_f (by unfold argP; omega) | exact dec_e (by unfold argP; omega) | exact dec_n (bne_dec.trans (by unfold argP; rw [hto]; omega)) | (rw [show _ = true from by assumption]; exact dec_t (by have h := bne_dec.1 (by assumption); rw [hto] at h; unfold argP; omega))) (.cons rfl (.cons rfl .nil))) (by repeat (first | exact Sub.nil | (apply Sub.cons; (repeat (first | with_reducible exact Sel.here | exact Sel.here | apply Sel.there)))))
              · refine G.pass rfl rfl rfl rfl rfl rfl ?_
                refine G.pass rfl rfl rfl rfl rfl rfl ?_
                refine G.op rfl (G.val rfl rfl (pv_pick rfl rfl) ?_)
                refine G.op rfl (G.val rfl rfl (pv_assign rfl) ?_)
                refine G.nil ?_
                refine G.nThen ?_
                refine G.condF rfl (rfl) ?_
                refine G.region ?_
                refine G.op rfl (G.val rfl rfl (pv_move rfl) ?_)
                refine G.op rfl (G.val rfl rfl (pv_fieldAddrK (sz := 0) (k := 4) Try.underlying31 rfl (by kernel_rfl) rfl rfl) ?_)
                refine G.op rfl (G.val rfl rfl (pv_load Try.underlying9 rfl rfl (by first | exact blk_cell (by (repeat (first | with_reducible exact Sel.here | exact Sel.here | apply Sel.there)); done) (by rfl) | exact rng_cell (by (repeat (first | with_reducible exact Sel.here | exact Sel.here | apply Sel.there)); done) (by rfl) | exact ro_blk (by assumption) (by rfl) | exact ro_rngC (by assumption) (by rfl) | exact ro_int (by assumption) | exact ro_byte (by assumption) | exact ro_str (by assumption) | with_reducible assumption | assumption)) ?_)
                refine G.op rfl (G.val rfl rfl (pv_neqS rfl rfl) ?_)
                refine G.op rfl (G.val rfl rfl (pv_neqB Try.underlying4 rfl rfl) ?_)
                refine G.op rfl (G.val rfl rfl (pv_move rfl) ?_)
                refine G.part (t := 47) rfl (fun h47 => ?_) (fun h47 => ?_)
                · have hb := bne_dec.1 h47
                  rw [ne_eq, hto] at hb
                  refine G.pass rfl rfl rfl rfl rfl rfl ?_
                  refine G.pass rfl rfl rfl rfl rfl rfl ?_
                  refine G.pass rfl rfl rfl rfl rfl rfl ?_
                  refine G.pass rfl rfl rfl rfl rfl rfl ?_
                  refine G.op rfl (G.val rfl rfl (pv_pick rfl rfl) ?_)
                  refine G.op rfl (G.val rfl rfl (pv_assign rfl) ?_)
                  refine G.nil ?_
                  exact G.meet (()) (by first | exact trivial | ((try dsimp only); exact trivial)) (.consE rfl (by first | exact dec_t (by unfold argP; omega) | exact dec_f (by unfold argP; omega) | exact dec_e (by unfold argP; omega) | exact dec_n (bne_dec.trans (by unfold argP; rw [hto]; omega)) | (rw [show _ = true from by assumption]; exact dec_t (by have h := bne_dec.1 (by assumption); rw [hto] at h; unfold argP; omega))) (.cons rfl (.cons rfl .nil))) (by repeat (first | exact Sub.nil | (apply Sub.cons; (repeat (first | with_reducible exact Sel.here | exact Sel.here | apply Sel.there)))))
                · have hb : ¬ ¬ (e.kind = 3 ↔ ¬ e.to.length = 0) := fun h => by have := bne_dec.2 (show ¬ (e.kind = 3 ↔ e.to ≠ []) by rw [ne_eq, hto]; exact h); rw [h47] at this; cases this
                  refine G.want rfl rfl rfl (G.val rfl rfl (pv_fieldAddrK (sz := 0) (k := 4) Try.underlying31 rfl (by kernel_rfl) rfl rfl) ?_)
                  refine G.want rfl rfl rfl (G.val rfl rfl (pv_load Try.underlying9 rfl rfl (by first | exact blk_cell (by (repeat (first | with_reducible exact Sel.here | exact Sel.here | apply Sel.there)); done) (by rfl) | exact rng_cell (by (repeat (first | with_reducible exact Sel.here | exact Sel.here | apply Sel.there)); done) (by rfl) | exact ro_blk (by assumption) (by rfl) | exact ro_rngC (by assumption) (by rfl) | exact ro_int (by assumption) | exact ro_byte (by assumption) | exact ro_str (by assumption) | with_reducible assumption | assumption)) ?_)
                  refine G.want rfl rfl rfl (G.val rfl rfl (pv_lenS Try.underlying9 rfl) ?_)
                  refine G.want rfl rfl rfl (G.val rfl rfl (pv_gtr rfl rfl) ?_)
                  refine G.op rfl (G.val rfl rfl (pv_pick rfl rfl) ?_)
                  refine G.op rfl (G.val rfl rfl (pv_assign rfl) ?_)
                  refine G.nil ?_
                  exact G.meet (()) (by first | exact trivial | ((try dsimp only); exact trivial)) (.consE rfl (by first | exact dec_t (by unfold argP; omega) | exact dec_f (by unfold argP; omega) | exact dec_e (by unfold argP; omega) | exact dec_n (bne_dec.trans (by unfold argP; rw [hto]; omega)) | (rw [show _ = true from by assumption]; exact dec_t (by have h := bne_dec.1 (by assumption); rw [hto] at h; unfold argP; omega))) (.cons rfl (.cons rfl .nil))) (by repeat (first | exact Sub.nil | (apply Sub.cons; (repeat (first | with_reducible exact Sel.here | exact Sel.here | apply Sel.there)))))
    · intro _ hJ
      try dsimp only at hJ
      try dsimp only
      refine G.condP rfl (fun h17 => ?_) (fun h17 => ?_)
      · refine G.seq ?_
        refine G.region ?_
        refine G.op rfl (G.val rfl rfl (pv_assign rfl) ?_)
        refine G.nil ?_
        refine G.nThen ?_
        refine G.ret ?_
        refine G.rBlock ?_
        refine G.rThen ?_
        exact G.done0G rfl (Rv.tmp rfl Rv.nil) (by rw [one_arg hok (by assumption)]; rfl)
      · refine G.seq ?_
        refine G.region ?_
        refine G.op rfl (G.val rfl rfl (pv_fieldAddrK (sz := 0) (k := 3) Try.underlying31 rfl (by kernel_rfl) rfl rfl) ?_)
        refine G.op rfl (G.val rfl rfl (pv_load Try.underlying29 rfl rfl (by first | exact blk_cell (by (repeat (first | with_reducible exact Sel.here | exact Sel.here | apply Sel.there)); done) (by rfl) | exact rng_cell (by (repeat (first | with_reducible exact Sel.here | exact Sel.here | apply Sel.there)); done) (by rfl) | exact ro_blk (by assumption) (by rfl) | exact ro_rngC (by assumption) (by rfl) | exact ro_int (by assumption) | exact ro_byte (by assumption) | exact ro_str (by assumption) | with_reducible assumption | assumption)) ?_)
        refine G.op rfl (G.val rfl rfl (pv_lenSl Try.underlying29 rfl) ?_)
        refine G.op rfl (G.val rfl rfl (pv_gtr rfl rfl) ?_)
        refine G.op rfl (G.val rfl rfl (pv_assign rfl) ?_)
        refine G.nil ?_
        refine G.nThen ?_
        refine G.condP rfl (fun h53 => ?_) (fun h53 => ?_)
        · refine G.seq ?_
          refine G.region ?_
          refine G.op rfl (G.val rfl rfl (pv_assign rfl) ?_)
          refine G.nil ?_
          refine G.nThen ?_
          refine G.ret ?_
          refine G.rBlock ?_
          refine G.rThen ?_
          exact G.done0G rfl (Rv.tmp rfl Rv.nil) (by rw [one_long hok (by assumption) (by omega)]; rfl)
        · refine G.skip ?_
          refine G.nBlock ?_
          refine G.nThen ?_
          refine G.seq ?_
          refine G.region ?_
          refine G.op rfl (G.val rfl rfl (pv_assign rfl) ?_)
          refine G.nil ?_
          refine G.nThen ?_
          refine G.ret ?_
          exact G.done0G rfl (Rv.tmp rfl Rv.nil) (by rw [one_ok hok (by assumption) (by omega)]; rfl)
end Go.Proofs.Ytchgaedidfefoaa

set_option linter.unusedVariables false
set_option linter.unusedSimpArgs false
namespace Go.Proofs.Ytchgaedidfefoaa
open Go.RowKit
instance : DecidableEq En := fun a b => decidable_of_iff (a.path = b.path ∧ a.kind = b.kind ∧ a.mode = b.mode ∧ a.data = b.data ∧ a.to = b.to) (by
  cases a
  cases b
  simp)
theorem en_eq {a b : En} : a = b ↔ a.path = b.path ∧ a.kind = b.kind ∧ a.mode = b.mode ∧ a.data = b.data ∧ a.to = b.to := by
  cases a
  cases b
  simp
theorem sB_beq (a b : List UInt8) : (sB a == sB b) = decide (a = b) := by
  show (a.toArray == b.toArray) = _
  rw [Bool.eq_iff_iff]
  simp
set_option maxRecDepth 20000 in
set_option maxHeartbeats 4000000 in
theorem alike_tr {Pa Pb : Nat → Prop} (a b : En) (da db : Value) : Tr Try.prog 53 #[.agg #[.string (sB a.path), .int .i64 a.kind, .int .i64 a.mode, da, .string (sB a.to)], .agg #[.string (sB b.path), .int .i64 b.kind, .int .i64 b.mode, db, .string (sB b.to)]] [slc rByte Pa da a.data, slc rByte Pb db b.data] [] (T0 (.bool (decide (a = b)))) := by
  refine Tr.of (l := [(0, .agg #[.string (sB a.path), .int .i64 a.kind, .int .i64 a.mode, da, .string (sB a.to)]), (1, .agg #[.string (sB b.path), .int .i64 b.kind, .int .i64 b.mode, db, .string (sB b.to)])]) Try.func53 rfl (n := 31) rfl (.cons rfl (.cons rfl .nil)) (fun w0 hro => ?_)
  obtain ⟨hda, hdb⟩ := ro2 hro
  refine G.seq ?_
  refine G.region ?_
  refine G.op rfl (G.box rfl rfl (cs := [_, _, _, _, _]) rfl ?_)
  intro b2
  refine G.op rfl (G.box rfl rfl (cs := [_, _, _, _, _]) rfl ?_)
  intro b3
  refine G.op rfl (G.val rfl rfl (pv_assign rfl) ?_)
  refine G.nil ?_
  refine G.nThen ?_
  refine G.seq ?_
  refine G.region ?_
  refine G.op rfl (G.val rfl rfl (pv_fieldAddrK (sz := 0) (k := 0) Try.underlying31 rfl (by kernel_rfl) rfl rfl) ?_)
  refine G.op rfl (G.val rfl rfl (pv_load Try.underlying9 rfl rfl (by first | exact blk_cell (by (repeat (first | with_reducible exact Sel.here | exact Sel.here | apply Sel.there)); done) (by rfl) | exact rng_cell (by (repeat (first | with_reducible exact Sel.here | exact Sel.here | apply Sel.there)); done) (by rfl) | exact ro_blk (by assumption) (by rfl) | exact ro_rngC (by assumption) (by rfl) | exact ro_int (by assumption) | exact ro_byte (by assumption) | exact ro_str (by assumption) | with_reducible assumption | assumption)) ?_)
  refine G.op rfl (G.val rfl rfl (pv_fieldAddrK (sz := 0) (k := 1) Try.underlying31 rfl (by kernel_rfl) rfl rfl) ?_)
  refine G.op rfl (G.val rfl rfl (pv_load Try.underlying3 rfl rfl (by first | exact blk_cell (by (repeat (first | with_reducible exact Sel.here | exact Sel.here | apply Sel.there)); done) (by rfl) | exact rng_cell (by (repeat (first | with_reducible exact Sel.here | exact Sel.here | apply Sel.there)); done) (by rfl) | exact ro_blk (by assumption) (by rfl) | exact ro_rngC (by assumption) (by rfl) | exact ro_int (by assumption) | exact ro_byte (by assumption) | exact ro_str (by assumption) | with_reducible assumption | assumption)) ?_)
  refine G.op rfl (G.val rfl rfl (pv_fieldAddrK (sz := 0) (k := 2) Try.underlying31 rfl (by kernel_rfl) rfl rfl) ?_)
  refine G.op rfl (G.val rfl rfl (pv_load Try.underlying3 rfl rfl (by first | exact blk_cell (by (repeat (first | with_reducible exact Sel.here | exact Sel.here | apply Sel.there)); done) (by rfl) | exact rng_cell (by (repeat (first | with_reducible exact Sel.here | exact Sel.here | apply Sel.there)); done) (by rfl) | exact ro_blk (by assumption) (by rfl) | exact ro_rngC (by assumption) (by rfl) | exact ro_int (by assumption) | exact ro_byte (by assumption) | exact ro_str (by assumption) | with_reducible assumption | assumption)) ?_)
  refine G.op rfl (G.val rfl rfl (pv_fieldAddrK (sz := 0) (k := 4) Try.underlying31 rfl (by kernel_rfl) rfl rfl) ?_)
  refine G.op rfl (G.val rfl rfl (pv_load Try.underlying9 rfl rfl (by first | exact blk_cell (by (repeat (first | with_reducible exact Sel.here | exact Sel.here | apply Sel.there)); done) (by rfl) | exact rng_cell (by (repeat (first | with_reducible exact Sel.here | exact Sel.here | apply Sel.there)); done) (by rfl) | exact ro_blk (by assumption) (by rfl) | exact ro_rngC (by assumption) (by rfl) | exact ro_int (by assumption) | exact ro_byte (by assumption) | exact ro_str (by assumption) | with_reducible assumption | assumption)) ?_)
  refine G.op rfl (G.val rfl rfl (pv_buildSt (z := [.string ⟨#[]⟩, .int .i64 0, .int .i64 0, .string ⟨#[]⟩]) (pl := [(0, 1), (1, 1), (2, 1), (3, 1)]) Try.underlying81 (by kernel_rfl) (by kernel_rfl) rfl (by repeat (first | exact Fl.nil | (apply Fl.cons; exact rfl; (first | exact cells_of (by first | rfl | with_reducible assumption) | exact rfl); exact rfl; exact rfl; repeat (first | exact Sn.nil | (apply Sn.cons; repeat (first | exact St.zero | apply St.succ))))))) ?_)
  refine G.op rfl (G.val rfl rfl (pv_fieldAddrK (sz := 0) (k := 0) Try.underlying31 rfl (by kernel_rfl) rfl rfl) ?_)
  refine G.op rfl (G.val rfl rfl (pv_load Try.underlying9 rfl rfl (by first | exact blk_cell (by (repeat (first | with_reducible exact Sel.here | exact Sel.here | apply Sel.there)); done) (by rfl) | exact rng_cell (by (repeat (first | with_reducible exact Sel.here | exact Sel.here | apply Sel.there)); done) (by rfl) | exact ro_blk (by assumption) (by rfl) | exact ro_rngC (by assumption) (by rfl) | exact ro_int (by assumption) | exact ro_byte (by assumption) | exact ro_str (by assumption) | with_reducible assumption | assumption)) ?_)
  refine G.op rfl (G.val rfl rfl (pv_fieldAddrK (sz := 0) (k := 1) Try.underlying31 rfl (by kernel_rfl) rfl rfl) ?_)
  refine G.op rfl (G.val rfl rfl (pv_load Try.underlying3 rfl rfl (by first | exact blk_cell (by (repeat (first | with_reducible exact Sel.here | exact Sel.here | apply Sel.there)); done) (by rfl) | exact rng_cell (by (repeat (first | with_reducible exact Sel.here | exact Sel.here | apply Sel.there)); done) (by rfl) | exact ro_blk (by assumption) (by rfl) | exact ro_rngC (by assumption) (by rfl) | exact ro_int (by assumption) | exact ro_byte (by assumption) | exact ro_str (by assumption) | with_reducible assumption | assumption)) ?_)
  refine G.op rfl (G.val rfl rfl (pv_fieldAddrK (sz := 0) (k := 2) Try.underlying31 rfl (by kernel_rfl) rfl rfl) ?_)
  refine G.op rfl (G.val rfl rfl (pv_load Try.underlying3 rfl rfl (by first | exact blk_cell (by (repeat (first | with_reducible exact Sel.here | exact Sel.here | apply Sel.there)); done) (by rfl) | exact rng_cell (by (repeat (first | with_reducible exact Sel.here | exact Sel.here | apply Sel.there)); done) (by rfl) | exact ro_blk (by assumption) (by rfl) | exact ro_rngC (by assumption) (by rfl) | exact ro_int (by assumption) | exact ro_byte (by assumption) | exact ro_str (by assumption) | with_reducible assumption | assumption)) ?_)
  refine G.op rfl (G.val rfl rfl (pv_fieldAddrK (sz := 0) (k := 4) Try.underlying31 rfl (by kernel_rfl) rfl rfl) ?_)
  refine G.op rfl (G.val rfl rfl (pv_load Try.underlying9 rfl rfl (by first | exact blk_cell (by (repeat (first | with_reducible exact Sel.here | exact Sel.here | apply Sel.there)); done) (by rfl) | exact rng_cell (by (repeat (first | with_reducible exact Sel.here | exact Sel.here | apply Sel.there)); done) (by rfl) | exact ro_blk (by assumption) (by rfl) | exact ro_rngC (by assumption) (by rfl) | exact ro_int (by assumption) | exact ro_byte (by assumption) | exact ro_str (by assumption) | with_reducible assumption | assumption)) ?_)
  refine G.op rfl (G.val rfl rfl (pv_buildSt (z := [.string ⟨#[]⟩, .int .i64 0, .int .i64 0, .string ⟨#[]⟩]) (pl := [(0, 1), (1, 1), (2, 1), (3, 1)]) Try.underlying81 (by kernel_rfl) (by kernel_rfl) rfl (by repeat (first | exact Fl.nil | (apply Fl.cons; exact rfl; (first | exact cells_of (by first | rfl | with_reducible assumption) | exact rfl); exact rfl; exact rfl; repeat (first | exact Sn.nil | (apply Sn.cons; repeat (first | exact St.zero | apply St.succ))))))) ?_)
  refine G.op rfl (G.val rfl rfl ((pv_eqlSt (xs := [.string (sB a.path), .int .i64 a.kind, .int .i64 a.mode, .string (sB a.to)]) (ys := [.string (sB b.path), .int .i64 b.kind, .int .i64 b.mode, .string (sB b.to)]) (r := ((sB a.path == sB b.path) && (decide (a.kind = b.kind) && (decide (a.mode = b.mode) && ((sB a.to == sB b.to) && true))))) Try.underlying81 (by kernel_rfl) (by kernel_rfl) rfl rfl (by kernel_rfl)).cast (v' := .bool (decide (a.path = b.path ∧ a.kind = b.kind ∧ a.mode = b.mode ∧ a.to = b.to))) (by rw [sB_beq, sB_beq]; simp)) ?_)
  refine G.op rfl (G.val rfl rfl (pv_move rfl) ?_)
  refine G.partP (t := 24) rfl (fun h24 => ?_) (fun h24 => ?_)
  · refine G.want rfl rfl rfl (G.val rfl rfl (pv_fieldAddrK (sz := 0) (k := 3) Try.underlying31 rfl (by kernel_rfl) rfl rfl) ?_)
    refine G.want rfl rfl rfl (G.val rfl rfl (pv_load Try.underlying29 rfl rfl (by first | exact blk_cell (by (repeat (first | with_reducible exact Sel.here | exact Sel.here | apply Sel.there)); done) (by rfl) | exact rng_cell (by (repeat (first | with_reducible exact Sel.here | exact Sel.here | apply Sel.there)); done) (by rfl) | exact ro_blk (by assumption) (by rfl) | exact ro_rngC (by assumption) (by rfl) | exact ro_int (by assumption) | exact ro_byte (by assumption) | exact ro_str (by assumption) | with_reducible assumption | assumption)) ?_)
    refine G.want rfl rfl rfl (G.val rfl rfl (pv_fieldAddrK (sz := 0) (k := 3) Try.underlying31 rfl (by kernel_rfl) rfl rfl) ?_)
    refine G.want rfl rfl rfl (G.val rfl rfl (pv_load Try.underlying29 rfl rfl (by first | exact blk_cell (by (repeat (first | with_reducible exact Sel.here | exact Sel.here | apply Sel.there)); done) (by rfl) | exact rng_cell (by (repeat (first | with_reducible exact Sel.here | exact Sel.here | apply Sel.there)); done) (by rfl) | exact ro_blk (by assumption) (by rfl) | exact ro_rngC (by assumption) (by rfl) | exact ro_int (by assumption) | exact ro_byte (by assumption) | exact ro_str (by assumption) | with_reducible assumption | assumption)) ?_)
    refine G.want rfl rfl rfl (G.cR rfl rfl rfl rfl Try.func72 rfl rfl (may2 (by first | (apply May.old; first | with_reducible assumption | assumption) | (apply Sel.may; (repeat (first | with_reducible exact Sel.here | exact Sel.here | apply Sel.there)); done) | (apply may_own; (repeat (first | with_reducible exact Sel.here | exact Sel.here | apply Sel.there)); exact rfl; exact (fun _ _ => trivial); done) | (apply may_ownB; (repeat (first | with_reducible exact Sel.here | exact Sel.here | apply Sel.there)); done)) (by first | (apply May.old; first | with_reducible assumption | assumption) | (apply Sel.may; (repeat (first | with_reducible exact Sel.here | exact Sel.here | apply Sel.there)); done) | (apply may_own; (repeat (first | with_reducible exact Sel.here | exact Sel.here | apply Sel.there)); exact rfl; exact (fun _ _ => trivial); done) | (apply may_ownB; (repeat (first | with_reducible exact Sel.here | exact Sel.here | apply Sel.there)); done))) (bequal_tr _ _ _ _) ?_)
    refine G.op rfl (G.val rfl rfl (pv_pick rfl rfl) ?_)
    refine G.op rfl (G.val rfl rfl (pv_assign rfl) ?_)
    refine G.nil ?_
    refine G.nThen ?_
    refine G.ret ?_
    exact G.done0G rfl (Rv.tmp rfl Rv.nil) (by have h := en_eq (a := a) (b := b); simp_all [retV1])
  · refine G.pass rfl rfl rfl rfl rfl rfl ?_
    refine G.pass rfl rfl rfl rfl rfl rfl ?_
    refine G.pass rfl rfl rfl rfl rfl rfl ?_
    refine G.pass rfl rfl rfl rfl rfl rfl ?_
    refine G.pass rfl rfl rfl rfl rfl rfl ?_
    refine G.op rfl (G.val rfl rfl (pv_pick rfl rfl) ?_)
    refine G.op rfl (G.val rfl rfl (pv_assign rfl) ?_)
    refine G.nil ?_
    refine G.nThen ?_
    refine G.ret ?_
    exact G.done0G rfl (Rv.tmp rfl Rv.nil) (by have h := en_eq (a := a) (b := b); simp_all [retV1])
end Go.Proofs.Ytchgaedidfefoaa

set_option linter.unusedVariables false
set_option linter.unusedSimpArgs false
namespace Go.Proofs.Ytchgaedidfefoaa
open Go.RowKit
theorem Ro.one1 {w0 : World} {S Ps : Nat → Prop} {v : Value} {a : List UInt8} (h : Ro w0 S (slc rByte Ps v a)) : v.oneCell' = true := by
  obtain ⟨ad, cap, rfl⟩ := Ro.slv h
  rfl
/-- entries in the order of their paths -/
def SortT (es : List En) : Prop := es.Pairwise fun a b => compareM a.path b.path = -1
/-- how many are ahead of a path -/
def placeK (es : List En) (s : List UInt8) : Nat := es.findIdx fun e => ! decide (compareM e.path s < 0)
def isAt (es : List En) (s : List UInt8) : Prop := ∃ e ∈ es, e.path = s
instance (es : List En) (s : List UInt8) : Decidable (isAt es s) := inferInstanceAs (Decidable (∃ e ∈ es, e.path = s))
theorem cmp_lt_iff (a b : List UInt8) : compareM a b < 0 ↔ compareM a b = -1 := by
  have := compareM_ord.rng a b
  omega
theorem sort_mono {es : List En} (h : SortT es) {s : List UInt8} {q r : Nat} (hr : r < es.length) (hq : q ≤ r) (hc : compareM es[r].path s < 0) : compareM (es[q]'(by omega)).path s < 0 := by
  rcases Nat.lt_or_ge q r with h1 | h1
  · have h2 := (List.pairwise_iff_getElem.1 h) q r (by omega) hr h1
    rw [cmp_lt_iff] at hc ⊢
    exact compareM_ord.trans _ _ _ h2 hc
  · obtain rfl : q = r := by omega
    exact hc
theorem placeK_at {es : List En} {s : List UInt8} {k : Nat} (hk : k ≤ es.length) (h1 : ∀ q (hq : q < es.length), q < k → compareM es[q].path s < 0) (h2 : ∀ q (hq : q < es.length), k ≤ q → ¬ compareM es[q].path s < 0) : placeK es s = k := by
  unfold placeK
  rcases Nat.lt_or_ge k es.length with h | h
  · refine (List.findIdx_eq h).2 ⟨by simpa using h2 k h (Nat.le_refl _), fun j hj => ?_⟩
    simpa using h1 j (by omega) hj
  · obtain rfl : k = es.length := by omega
    exact List.findIdx_eq_length_of_false fun x hx => by
      obtain ⟨j, hj, rfl⟩ := List.getElem_of_mem hx
      simpa using h1 j hj hj
theorem isAt_iff {es : List En} (hs : SortT es) {s : List UInt8} {k : Nat} (h1 : ∀ q (hq : q < es.length), q < k → compareM es[q].path s < 0) (hk : k < es.length) (h2 : ¬ compareM es[k].path s < 0) : isAt es s ↔ compareM es[k].path s = 0 := by
  constructor
  · rintro ⟨e, he, rfl⟩
    obtain ⟨j, hj, rfl⟩ := List.getElem_of_mem he
    have hjj : compareM es[j].path es[j].path = 0 := (compareM_ord.zero _ _).2 rfl
    rcases Nat.lt_or_ge j k with h | h
    · have := h1 j hj h
      omega
    · rcases Nat.lt_or_ge k j with h3 | h3
      · have := (List.pairwise_iff_getElem.1 hs) k j hk hj h3
        omega
      · obtain rfl : j = k := by omega
        exact hjj
  · intro h
    exact ⟨es[k], List.getElem_mem hk, (compareM_ord.zero _ _).1 h⟩
theorem isAt_none {es : List En} {s : List UInt8} (h1 : ∀ q (hq : q < es.length), compareM es[q].path s < 0) : ¬ isAt es s := by
  rintro ⟨e, he, rfl⟩
  obtain ⟨j, hj, rfl⟩ := List.getElem_of_mem he
  have := h1 j hj
  have : compareM es[j].path es[j].path = 0 := (compareM_ord.zero _ _).2 rfl
  omega
theorem search_end {xs : List ET} {s : List UInt8} {i : Nat} (hso : SortT (ens xs)) (hlt : i < xs.length) (hlo : ∀ q (hq : q < xs.length), q < i → compareM xs[q].1.path s < 0) (hhi : ∀ q (hq : q < xs.length), i ≤ q → ¬ compareM xs[q].1.path s < 0) : placeK (ens xs) s = i ∧ (isAt (ens xs) s ↔ compareM xs[i].1.path s = 0) := by
  have hl := ens_length xs
  have g1 : ∀ q (hq : q < (ens xs).length), q < i → compareM (ens xs)[q].path s < 0 := fun q hq hqi => by
    rw [ens_get (by omega)]
    exact hlo q (by omega) hqi
  have g2 : ∀ q (hq : q < (ens xs).length), i ≤ q → ¬ compareM (ens xs)[q].path s < 0 := fun q hq hqi => by
    rw [ens_get (by omega)]
    exact hhi q (by omega) hqi
  have h := isAt_iff hso g1 (show i < (ens xs).length by omega) (g2 i (by omega) (Nat.le_refl _))
  rw [ens_get hlt] at h
  exact ⟨placeK_at (by omega) g1 g2, h⟩
theorem search_none {xs : List ET} {s : List UInt8} (hlo : ∀ q (hq : q < xs.length), q < xs.length → compareM xs[q].1.path s < 0) : placeK (ens xs) s = xs.length ∧ ¬ isAt (ens xs) s := by
  have hl := ens_length xs
  have g1 : ∀ q (hq : q < (ens xs).length), compareM (ens xs)[q].path s < 0 := fun q hq => by
    rw [ens_get (by omega)]
    exact hlo q (by omega) (by omega)
  exact ⟨placeK_at (by omega) (fun q hq _ => g1 q hq) (fun q hq h => by omega), isAt_none g1⟩
set_option maxRecDepth 20000 in
set_option maxHeartbeats 4000000 in
theorem place1_tr (e : En) (d : Value) (s : List UInt8) (hl : e.path.length ≤ 9223372036854775807) (hs : s.length ≤ 9223372036854775807) : Tr Try.prog 63 #[.agg #[.string (sB e.path), .int .i64 e.kind, .int .i64 e.mode, d, .string (sB e.to)], .string (sB s)] [] [] (T0 (.int .i64 (compareM e.path s))) := by
  refine Tr.of (l := [(0, .agg #[.string (sB e.path), .int .i64 e.kind, .int .i64 e.mode, d, .string (sB e.to)]), (1, .string (sB s))]) Try.func63 rfl (n := 9) rfl (.cons rfl (.cons rfl .nil)) (fun w0 hro => ?_)
  refine G.seq ?_
  refine G.region ?_
  refine G.op rfl (G.box rfl rfl (cs := [_, _, _, _, _]) rfl ?_)
  intro b2
  refine G.op rfl (G.val rfl rfl (pv_assign rfl) ?_)
  refine G.nil ?_
  refine G.nThen ?_
  refine G.seq ?_
  refine G.region ?_
  refine G.op rfl (G.val rfl rfl (pv_fieldAddrK (sz := 0) (k := 0) Try.underlying31 rfl (by kernel_rfl) rfl rfl) ?_)
  refine G.op rfl (G.val rfl rfl (pv_load Try.underlying9 rfl rfl (by first | exact blk_cell (by (repeat (first | with_reducible exact Sel.here | exact Sel.here | apply Sel.there)); done) (by rfl) | exact rng_cell (by (repeat (first | with_reducible exact Sel.here | exact Sel.here | apply Sel.there)); done) (by rfl) | exact ro_blk (by assumption) (by rfl) | exact ro_rngC (by assumption) (by rfl) | exact ro_int (by assumption) | exact ro_byte (by assumption) | exact ro_str (by assumption) | with_reducible assumption | assumption)) ?_)
  refine G.op rfl (G.val rfl rfl (pv_move rfl) ?_)
  refine G.op rfl (G.cR rfl rfl rfl rfl Try.func17 rfl rfl may0 (compare_tr _ _ (by omega) (by omega)) ?_)
  refine G.op rfl (G.val rfl rfl (pv_assign rfl) ?_)
  refine G.nil ?_
  refine G.nThen ?_
  refine G.ret ?_
  exact G.done0G rfl (Rv.tmp rfl Rv.nil) (by first | rfl | exact int_eq (by omega) | (simp; done))
set_option maxRecDepth 20000 in
set_option maxHeartbeats 4000000 in
theorem search_tr {Ps : Nat → Prop} (v : Value) (xs : List ET) (s : List UInt8) (hs : s.length ≤ 9223372036854775807) (hn : xs.length ≤ 1000000) (hso : SortT (ens xs)) : Tr Try.prog 62 #[v, .string (sB s), .func (.func 63) #[] #[]] [slc rEV Ps v xs] [] (T0 (.tuple #[.int .i64 (placeK (ens xs) s : Int), .bool (decide (isAt (ens xs) s))])) := by
  refine Tr.of (l := [(0, v), (1, .string (sB s)), (2, .func (.func 63) #[] #[])]) Try.func62 rfl (n := 49) rfl (.cons rfl (.cons rfl (.cons rfl .nil))) (fun w0 hro => ?_)
  have hv := ro1 hro
  have hv' := hv
  obtain ⟨av, cv, bv, fv, rfl, hcapv, hmaxv, hnilv, hadv, helv⟩ := Ro.openT hv
  have hel' := ens_length xs
  refine G.seq ?_
  refine G.region ?_
  refine G.op rfl (G.val rfl rfl (pv_assign rfl) ?_)
  refine G.op rfl (G.val rfl rfl (pv_assign rfl) ?_)
  refine G.nil ?_
  refine G.nThen ?_
  refine G.seq ?_
  refine G.region ?_
  refine G.op rfl (G.val rfl rfl (pv_move rfl) ?_)
  refine G.op rfl (G.val rfl rfl (pv_lenSl Try.underlying22 rfl) ?_)
  refine G.op rfl (G.val rfl rfl (pv_assign rfl) ?_)
  refine G.nil ?_
  refine G.nThen ?_
  refine G.seq ?_
  refine G.region ?_
  refine G.op rfl (G.val rfl rfl (pv_move rfl) ?_)
  refine G.op rfl (G.val rfl rfl (pv_assign rfl) ?_)
  refine G.op rfl (G.val rfl rfl (pv_assign rfl) ?_)
  refine G.nil ?_
  refine G.nThen ?_
  refine G.seq ?_
  refine G.block ?_
  refine G.loopK (X := Nat × Nat) (ts := [0, 1, 2, 6, 7, 8]) (fun st => st.1 ≤ st.2 ∧ st.2 ≤ xs.length ∧ (∀ q (hq : q < xs.length), q < st.1 → compareM xs[q].1.path s < 0) ∧ (∀ q (hq : q < xs.length), st.2 ≤ q → ¬ compareM xs[q].1.path s < 0)) (fun st => [(9, .int .i64 (st.1 : Int)), (10, .int .i64 (st.2 : Int))]) (fun st => []) (fun st => st.2 - st.1) (x0 := (0, xs.length)) (.cons rfl (.cons rfl (.cons rfl (.cons rfl (.cons rfl (.cons rfl .nil)))))) (by repeat (first | exact Sub.nil | (apply Sub.cons; (repeat (first | with_reducible exact Sel.here | exact Sel.here | apply Sel.there))))) (.cons (.cons .nil)) (by repeat (first | exact Ap.nil | apply Ap.cons)) (by first | exact trivial | ((try dsimp only); exact ⟨Nat.zero_le _, Nat.le_refl _, fun q _ h => absurd h (by omega), fun q h1 h2 => absurd h1 (by omega)⟩)) (.consE rfl (by first | rfl | exact int_eq (by first | omega | (dsimp only; omega)) | exact congrArg _ (by omega)) (.consE rfl (by first | rfl | exact int_eq (by first | omega | (dsimp only; omega)) | exact congrArg _ (by omega)) .nil)) (fun st hJ => ?_)
  obtain ⟨i, j⟩ := st
  try dsimp only at hJ
  try dsimp only
  obtain ⟨hij, hj, hlo, hhi⟩ := hJ
  refine G.seq ?_
  refine G.seq ?_
  refine G.region ?_
  refine G.op rfl (G.val rfl rfl (pv_move rfl) ?_)
  refine G.op rfl (G.val rfl rfl (pv_move rfl) ?_)
  refine G.op rfl (G.val rfl rfl (pv_lss rfl rfl) ?_)
  refine G.nil ?_
  refine G.nThen ?_
  refine G.condP rfl (fun h17 => ?_) (fun h17 => ?_)
  · have hlt : (i + j) / 2 < xs.length := by omega
    have hEv := helv ((i + j) / 2) hlt
    have hRv := Ro.evRng hEv
    have hDv := Ro.evDat hEv
    obtain ⟨hk1v, hk2v, hlpv, hldv, hltv⟩ := Ro.evOk hEv
    have hCv := Ro.one1 hDv
    refine G.skip ?_
    refine G.nThen ?_
    refine G.block ?_
    refine G.seq ?_
    refine G.region ?_
    refine G.op rfl (G.val rfl rfl (pv_move rfl) ?_)
    refine G.op rfl (G.val rfl rfl (pv_move rfl) ?_)
    refine G.op rfl (G.val rfl rfl (pv_add64 rfl rfl (by omega)) ?_)
    refine G.op rfl (G.val rfl rfl ((pv_conv (by rw [Try.underlying3]; rfl) Try.underlying88 rfl).int (b := ((i + j : Nat) : Int)) (by rw [IntWalk.u64_in _ (by omega)]; omega)) ?_)
    refine G.op rfl (G.val rfl rfl ((pv_shr (s := 1) rfl rfl (by decide)).int (b := (((i + j) / 2 : Nat) : Int)) (by omega)) ?_)
    refine G.op rfl (G.val rfl rfl ((pv_conv (by rw [Try.underlying88]; rfl) Try.underlying3 rfl).int (b := (((i + j) / 2 : Nat) : Int)) (by rw [IntWalk.i64_in _ (by omega)])) ?_)
    refine G.op rfl (G.val rfl rfl (pv_assign rfl) ?_)
    refine G.nil ?_
    refine G.nThen ?_
    refine G.seq ?_
    refine G.region ?_
    refine G.op rfl (G.val rfl rfl (pv_move rfl) ?_)
    refine G.op rfl (G.val rfl rfl (pv_move rfl) ?_)
    refine G.op rfl (G.val rfl rfl (pv_move rfl) ?_)
    refine G.op rfl (G.val rfl rfl (pv_ixSl (sz := 5) Try.underlying22 (by kernel_rfl) rfl rfl (by first | with_reducible assumption | assumption | exact fun _ => rfl) rfl (by omega)) ?_)
    refine G.op rfl (G.val rfl rfl (pv_loadN (cs := [_, _, _, _, _]) Try.underlying31 rfl (by kernel_rfl) rfl (by first | exact blk_range (k := 5) (by (repeat (first | with_reducible exact Sel.here | exact Sel.here | apply Sel.there)); done) (by rfl) | exact ro_rng0 (by assumption) | exact rng_range (k := 5) (by (repeat (first | with_reducible exact Sel.here | exact Sel.here | apply Sel.there)); done) (by rfl) | exact ro_range (k := 5) (by assumption) (by rfl) | exact ro_rngR (k := 5) (by assumption) (by rfl))) ?_)
    refine G.op rfl (G.val rfl rfl (pv_move rfl) ?_)
    refine G.op rfl (G.cRv rfl rfl rfl rfl rfl Try.func63 rfl rfl (by rfl) may0 (place1_tr xs[(i + j) / 2].1 _ s (by omega) hs) ?_)
    refine G.op rfl (G.val rfl rfl (pv_lss rfl rfl) ?_)
    refine G.nil ?_
    refine G.nThen ?_
    refine G.condP rfl (fun h31 => ?_) (fun h31 => ?_)
    · have hneg := h31
      refine G.region ?_
      refine G.op rfl (G.val rfl rfl (pv_move rfl) ?_)
      refine G.op rfl (G.val rfl rfl (pv_add64 rfl rfl (by omega)) ?_)
      refine G.op rfl (G.val rfl rfl (pv_assign rfl) ?_)
      refine G.nil ?_
      refine G.nBlock ?_
      exact G.next (((i + j) / 2 + 1, j)) (by first | exact trivial | ((try dsimp only); exact ⟨by omega, hj, fun q hq hqi => by have := sort_mono hso (r := (i + j) / 2) (q := q) (s := s) (by omega) (by omega) (by rw [ens_get hlt]; exact hneg); rwa [ens_get hq] at this, hhi⟩)) (by (try dsimp only); omega) (.consE rfl (by first | rfl | exact int_eq (by first | omega | (dsimp only; omega)) | exact congrArg _ (by omega)) (.consE rfl (by first | rfl | exact int_eq (by first | omega | (dsimp only; omega)) | exact congrArg _ (by omega)) (.cons rfl (.cons rfl (.cons rfl (.cons rfl (.cons rfl (.cons rfl .nil)))))))) (by repeat (first | exact Sub.nil | (apply Sub.cons; (repeat (first | with_reducible exact Sel.here | exact Sel.here | apply Sel.there)))))
    · have hneg := h31
      refine G.region ?_
      refine G.op rfl (G.val rfl rfl (pv_move rfl) ?_)
      refine G.op rfl (G.val rfl rfl (pv_assign rfl) ?_)
      refine G.nil ?_
      refine G.nBlock ?_
      exact G.next ((i, (i + j) / 2)) (by first | exact trivial | ((try dsimp only); exact ⟨by omega, by omega, hlo, fun q hq hqi h => hneg (by have := sort_mono hso (r := q) (q := (i + j) / 2) (s := s) (by omega) hqi (by rw [ens_get hq]; exact h); rwa [ens_get hlt] at this)⟩)) (by (try dsimp only); omega) (.consE rfl (by first | rfl | exact int_eq (by first | omega | (dsimp only; omega)) | exact congrArg _ (by omega)) (.consE rfl (by first | rfl | exact int_eq (by first | omega | (dsimp only; omega)) | exact congrArg _ (by omega)) (.cons rfl (.cons rfl (.cons rfl (.cons rfl (.cons rfl (.cons rfl .nil)))))))) (by repeat (first | exact Sub.nil | (apply Sub.cons; (repeat (first | with_reducible exact Sel.here | exact Sel.here | apply Sel.there)))))
  · refine G.exit ?_
    refine G.eThen ?_
    refine G.eThen ?_
    refine G.eBlock ?_
    refine G.nThen ?_
    refine G.seq ?_
    refine G.region ?_
    refine G.op rfl (G.val rfl rfl (pv_move rfl) ?_)
    refine G.op rfl (G.val rfl rfl (pv_move rfl) ?_)
    refine G.op rfl (G.val rfl rfl (pv_move rfl) ?_)
    refine G.op rfl (G.val rfl rfl (pv_lss rfl rfl) ?_)
    refine G.op rfl (G.val rfl rfl (pv_move rfl) ?_)
    refine G.partP (t := 39) rfl (fun h39 => ?_) (fun h39 => ?_)
    · obtain rfl : i = j := by omega
      have hlt : i < xs.length := by omega
      have hEv := helv i hlt
      have hRv := Ro.evRng hEv
      have hDv := Ro.evDat hEv
      obtain ⟨hk1v, hk2v, hlpv, hldv, hltv⟩ := Ro.evOk hEv
      have hCv := Ro.one1 hDv
      refine G.want rfl rfl rfl (G.val rfl rfl (pv_move rfl) ?_)
      refine G.want rfl rfl rfl (G.val rfl rfl (pv_move rfl) ?_)
      refine G.want rfl rfl rfl (G.val rfl rfl (pv_move rfl) ?_)
      refine G.want rfl rfl rfl (G.val rfl rfl (pv_ixSl (sz := 5) Try.underlying22 (by kernel_rfl) rfl rfl (by first | with_reducible assumption | assumption | exact fun _ => rfl) rfl (by omega)) ?_)
      refine G.want rfl rfl rfl (G.val rfl rfl (pv_loadN (cs := [_, _, _, _, _]) Try.underlying31 rfl (by kernel_rfl) rfl (by first | exact blk_range (k := 5) (by (repeat (first | with_reducible exact Sel.here | exact Sel.here | apply Sel.there)); done) (by rfl) | exact ro_rng0 (by assumption) | exact rng_range (k := 5) (by (repeat (first | with_reducible exact Sel.here | exact Sel.here | apply Sel.there)); done) (by rfl) | exact ro_range (k := 5) (by assumption) (by rfl) | exact ro_rngR (k := 5) (by assumption) (by rfl))) ?_)
      refine G.want rfl rfl rfl (G.val rfl rfl (pv_move rfl) ?_)
      refine G.want rfl rfl rfl (G.cRv rfl rfl rfl rfl rfl Try.func63 rfl rfl (by rfl) may0 (place1_tr xs[i].1 _ s (by omega) hs) ?_)
      refine G.want rfl rfl rfl (G.val rfl rfl (pv_eql rfl rfl) ?_)
      refine G.op rfl (G.val rfl rfl (pv_pick rfl rfl) ?_)
      refine G.op rfl (G.val rfl rfl (pv_assign rfl) ?_)
      refine G.op rfl (G.val rfl rfl (pv_assign rfl) ?_)
      refine G.nil ?_
      refine G.nThen ?_
      refine G.ret ?_
      obtain ⟨hp, hi⟩ := search_end hso hlt hlo hhi
      exact G.done0G rfl (Rv.tmp rfl (Rv.tmp rfl Rv.nil)) (by rw [hp]; simp [retV2, hi])
    · refine G.pass rfl rfl rfl rfl rfl rfl ?_
      refine G.pass rfl rfl rfl rfl rfl rfl ?_
      refine G.pass rfl rfl rfl rfl rfl rfl ?_
      refine G.pass rfl rfl rfl rfl rfl rfl ?_
      refine G.pass rfl rfl rfl rfl rfl rfl ?_
      refine G.pass rfl rfl rfl rfl rfl rfl ?_
      refine G.pass rfl rfl rfl rfl rfl rfl ?_
      refine G.pass rfl rfl rfl rfl rfl rfl ?_
      refine G.op rfl (G.val rfl rfl (pv_pick rfl rfl) ?_)
      refine G.op rfl (G.val rfl rfl (pv_assign rfl) ?_)
      refine G.op rfl (G.val rfl rfl (pv_assign rfl) ?_)
      refine G.nil ?_
      refine G.nThen ?_
      refine G.ret ?_
      obtain rfl : i = xs.length := by omega
      obtain ⟨hp, hi⟩ := search_none (s := s) hlo
      exact G.done0G rfl (Rv.tmp rfl (Rv.tmp rfl Rv.nil)) (by rw [hp, decide_eq_false hi]; rfl)
set_option maxRecDepth 20000 in
set_option maxHeartbeats 4000000 in
theorem place_tr {Ps : Nat → Prop} (v : Value) (xs : List ET) (s : List UInt8) (hn : xs.length ≤ 1000000) (hso : SortT (ens xs)) (hs : s.length ≤ 9223372036854775807) : Tr Try.prog 40 #[v, .string (sB s)] [slc rEV Ps v xs] [] (T0 (.tuple #[.int .i64 (placeK (ens xs) s : Int), .bool (decide (isAt (ens xs) s))])) := by
  refine Tr.of (l := [(0, v), (1, .string (sB s))]) Try.func40 rfl (n := 11) rfl (.cons rfl (.cons rfl .nil)) (fun w0 hro => ?_)
  have hv := ro1 hro
  refine G.seq ?_
  refine G.region ?_
  refine G.op rfl (G.val rfl rfl (pv_assign rfl) ?_)
  refine G.op rfl (G.val rfl rfl (pv_assign rfl) ?_)
  refine G.nil ?_
  refine G.nThen ?_
  refine G.seq ?_
  refine G.region ?_
  refine G.op rfl (G.val rfl rfl (pv_move rfl) ?_)
  refine G.op rfl (G.val rfl rfl (pv_move rfl) ?_)
  refine G.op rfl (G.cR rfl rfl rfl rfl Try.func62 rfl rfl (may1 (by first | (apply May.old; first | with_reducible assumption | assumption) | (apply Sel.may; (repeat (first | with_reducible exact Sel.here | exact Sel.here | apply Sel.there)); done) | (apply may_own; (repeat (first | with_reducible exact Sel.here | exact Sel.here | apply Sel.there)); exact rfl; exact (fun _ _ => trivial); done) | (apply may_ownB; (repeat (first | with_reducible exact Sel.here | exact Sel.here | apply Sel.there)); done) | (apply may_tree; (repeat (first | with_reducible exact Sel.here | exact Sel.here | apply Sel.there)); (repeat (first | with_reducible exact Sel.here | exact Sel.here | apply Sel.there)); assumption; done))) (search_tr _ xs s hs hn hso) ?_)
  refine G.op rfl (G.val rfl rfl (pv_extract rfl rfl) ?_)
  refine G.op rfl (G.val rfl rfl (pv_extract rfl rfl) ?_)
  refine G.op rfl (G.val rfl rfl (pv_assign rfl) ?_)
  refine G.op rfl (G.val rfl rfl (pv_assign rfl) ?_)
  refine G.nil ?_
  refine G.nThen ?_
  refine G.ret ?_
  exact G.done0G rfl (Rv.tmp rfl (Rv.tmp rfl Rv.nil)) (by first | rfl | exact int_eq (by omega) | (simp; done))
end Go.Proofs.Ytchgaedidfefoaa

set_option linter.unusedVariables false
set_option linter.unusedSimpArgs false
namespace Go.Proofs.Ytchgaedidfefoaa
open Go.RowKit
/-- is an entry's parent there, ahead of it, as a directory? -/
def heldM (l : List En) (e : En) : Prop := (parentM e.path).2 = false ∨ ∃ x ∈ l, x.path = (parentM e.path).1 ∧ x.kind = 1
instance (l : List En) (e : En) : Decidable (heldM l e) := inferInstanceAs (Decidable (_ ∨ _))
/-- is the entry ahead not ahead? -/
def prevBad (es : List En) (i : Nat) : Prop := 0 < i ∧ match es[i - 1]?, es[i]? with
  | some p, some e => 0 ≤ compareM p.path e.path
  | _, _ => False
instance (es : List En) (i : Nat) : Decidable (prevBad es i) := by
  unfold prevBad
  cases es[i - 1]? <;> cases es[i]? <;> exact inferInstance
theorem prev_pos {es : List En} {i : Nat} (h0 : 0 < i) (h : i < es.length) : prevBad es i ↔ 0 ≤ compareM (es[i - 1]'(by omega)).path es[i].path := by
  unfold prevBad
  rw [List.getElem?_eq_getElem h, List.getElem?_eq_getElem (show i - 1 < es.length by omega)]
  simp [h0]
theorem prev_zero {es : List En} {i : Nat} (h0 : ¬ 0 < i) : ¬ prevBad es i := fun h => h0 h.1
/-- what is wrong with the i-th entry of a tree -/
def errT (es : List En) (i : Nat) : Int := match es[i]? with
  | none => 0
  | some e => if (if oneM e = 0 ∧ prevBad es i then 7 else oneM e) = 0 ∧ ¬ heldM (es.take i) e then 6 else (if oneM e = 0 ∧ prevBad es i then 7 else oneM e)
theorem errT_get {es : List En} {i : Nat} (h : i < es.length) : errT es i = if (if oneM es[i] = 0 ∧ prevBad es i then 7 else oneM es[i]) = 0 ∧ ¬ heldM (es.take i) es[i] then 6 else (if oneM es[i] = 0 ∧ prevBad es i then 7 else oneM es[i]) := by
  unfold errT
  rw [List.getElem?_eq_getElem h]
theorem err_one {es : List En} {i : Nat} (h : i < es.length) (h1 : ¬ oneM es[i] = 0) : errT es i = oneM es[i] := by
  rw [errT_get h, if_neg (fun k => by rw [if_neg (fun k => h1 k.1)] at k; exact h1 k.1), if_neg (fun k => h1 k.1)]
theorem err_prev {es : List En} {i : Nat} (h : i < es.length) (h1 : oneM es[i] = 0) (h2 : prevBad es i) : errT es i = 7 := by
  rw [errT_get h, if_neg (fun k => by rw [if_pos ⟨h1, h2⟩] at k; cases k.1), if_pos ⟨h1, h2⟩]
theorem err_held {es : List En} {i : Nat} (h : i < es.length) (h1 : oneM es[i] = 0) (h2 : ¬ prevBad es i) (h3 : ¬ heldM (es.take i) es[i]) : errT es i = 6 := by
  rw [errT_get h, if_pos ⟨by rw [if_neg (fun k => h2 k.2), h1], h3⟩]
theorem err_ok {es : List En} {i : Nat} (h : i < es.length) (h1 : oneM es[i] = 0) (h2 : ¬ prevBad es i) (h3 : heldM (es.take i) es[i]) : errT es i = 0 := by
  rw [errT_get h, if_neg (fun k => k.2 h3), if_neg (fun k => h2 k.2), h1]
theorem err_zero {es : List En} {i : Nat} (h : i < es.length) (h0 : errT es i = 0) : oneM es[i] = 0 ∧ ¬ prevBad es i ∧ heldM (es.take i) es[i] := by
  have a : oneM es[i] = 0 := Decidable.byContradiction fun k => by rw [err_one h k] at h0; exact k h0
  have b : ¬ prevBad es i := fun k => by rw [err_prev h a k] at h0; cases h0
  exact ⟨a, b, Decidable.byContradiction fun k => by rw [err_held h a b k] at h0; cases h0⟩
/-- what is wrong with a tree, and with which entry -/
def checkT (es : List En) : Int × Int := if 200 < es.length then (3, 0) else
  let k := (List.range es.length).findIdx fun i => ! decide (errT es i = 0)
  (errT es k, if errT es k = 0 then 0 else (k : Int))
theorem checkT_many {es : List En} (h : 200 < es.length) : checkT es = (3, 0) := if_pos h
theorem range_idx {p : Nat → Bool} {n i : Nat} (hi : i < n) (hp : p i = true) (h : ∀ q, q < i → p q = false) : (List.range n).findIdx p = i := by
  refine (List.findIdx_eq (by simpa using hi)).2 ⟨by simpa using hp, fun j hj => ?_⟩
  simpa using h j hj
theorem checkT_bad {es : List En} {i : Nat} {e : Int} (h200 : ¬ 200 < es.length) (hi : i < es.length) (h : ∀ q, q < i → errT es q = 0) (he : errT es i = e) (h0 : ¬ e = 0) : checkT es = (e, (i : Int)) := by
  unfold checkT
  rw [if_neg h200]
  have e1 : (List.range es.length).findIdx (fun i => ! decide (errT es i = 0)) = i := range_idx hi (by simp [he, h0]) (fun q hq => by simp [h q hq])
  simp only [e1, he, if_neg h0]
theorem checkT_ok {es : List En} (h200 : ¬ 200 < es.length) (h : ∀ q, q < es.length → errT es q = 0) : checkT es = (0, 0) := by
  unfold checkT
  rw [if_neg h200]
  have e1 : (List.range es.length).findIdx (fun i => ! decide (errT es i = 0)) = es.length := by
    have := List.findIdx_eq_length_of_false (p := fun i => ! decide (errT es i = 0)) (xs := List.range es.length) (fun x hx => by
      have := h x (by simpa using hx)
      simp [this])
    simpa using this
  have e2 : errT es es.length = 0 := by
    unfold errT
    rw [List.getElem?_eq_none (Nat.le_refl _)]
  simp only [e1, e2, if_true]
theorem checkT_zero {es : List En} (h : (checkT es).1 = 0) : es.length ≤ 200 ∧ (∀ q, q < es.length → errT es q = 0) ∧ checkT es = (0, 0) := by
  by_cases h200 : 200 < es.length
  · rw [checkT_many h200] at h
    cases h
  · have all : ∀ q, q < es.length → errT es q = 0 := by
      intro q
      induction q using Nat.strongRecOn with
      | _ q ih =>
        intro hq
        exact Decidable.byContradiction fun k => by
          rw [checkT_bad h200 hq (fun r hr => ih r hr (by omega)) rfl k] at h
          exact k h
    exact ⟨by omega, all, checkT_ok h200 all⟩
/-- a tree's beginning that may be is in order -/
theorem sort_take {es : List En} {i : Nat} (hi : i ≤ es.length) (h : ∀ q, q < i → errT es q = 0) : SortT (es.take i) := by
  have step : ∀ q (hq : q + 1 < i), compareM (es[q]'(by omega)).path (es[q + 1]'(by omega)).path = -1 := fun q hq => by
    have h1 := (err_zero (show q + 1 < es.length by omega) (h (q + 1) hq)).2.1
    rw [prev_pos (by omega) (by omega)] at h1
    have := compareM_ord.rng (es[q]'(by omega)).path (es[q + 1]'(by omega)).path
    simp only [Nat.add_sub_cancel] at h1
    omega
  have all : ∀ r q (hr : r < i) (hqr : q < r), compareM (es[q]'(by omega)).path (es[r]'(by omega)).path = -1 := by
    intro r
    induction r with
    | zero => intro q hr hq; omega
    | succ r ih =>
      intro q hr hq
      rcases Nat.lt_or_ge q r with h1 | h1
      · exact compareM_ord.trans _ _ _ (ih q (by omega) h1) (step r hr)
      · obtain rfl : q = r := by omega
        exact step q hr
  refine List.pairwise_iff_getElem.2 fun q r hq hr hqr => ?_
  simp only [List.length_take] at hq hr
  rw [List.getElem_take, List.getElem_take]
  exact all r q (by omega) hqr
theorem sort_all {es : List En} (h : ∀ q, q < es.length → errT es q = 0) : SortT es := by
  have := sort_take (Nat.le_refl _) h
  rwa [List.take_length] at this
theorem placeK_spec {es : List En} (hs : SortT es) {s : List UInt8} (h : isAt es s) : ∃ hk : placeK es s < es.length, es[placeK es s].path = s := by
  obtain ⟨e, he, rfl⟩ := h
  obtain ⟨j, hj, rfl⟩ := List.getElem_of_mem he
  have hp : placeK es es[j].path = j := placeK_at (by omega) (fun q hq hqj => by rw [cmp_lt_iff]; exact (List.pairwise_iff_getElem.1 hs) q j hq hj hqj) (fun q hq hjq => by
    rcases Nat.lt_or_ge j q with h1 | h1
    · have h2 := (List.pairwise_iff_getElem.1 hs) j q hj hq h1
      have := compareM_ord.anti es[j].path es[q].path
      omega
    · obtain rfl : j = q := by omega
      rw [(compareM_ord.zero _ _).2 rfl]
      omega)
  refine ⟨by omega, ?_⟩
  simp only [hp]
theorem sort_inj {es : List En} (hs : SortT es) {a b : En} (ha : a ∈ es) (hb : b ∈ es) (h : a.path = b.path) : a = b := by
  obtain ⟨i, hi, rfl⟩ := List.getElem_of_mem ha
  obtain ⟨j, hj, rfl⟩ := List.getElem_of_mem hb
  have hz : compareM es[i].path es[j].path = 0 := (compareM_ord.zero _ _).2 h
  rcases Nat.lt_trichotomy i j with h1 | h1 | h1
  · have := (List.pairwise_iff_getElem.1 hs) i j hi hj h1
    omega
  · subst h1
    rfl
  · have h2 := (List.pairwise_iff_getElem.1 hs) j i hj hi h1
    have := compareM_ord.anti es[i].path es[j].path
    omega
theorem held_none {l : List En} {e : En} (h : (parentM e.path).2 = true) (h2 : ¬ isAt l (parentM e.path).1) : ¬ heldM l e := fun k => by
  rcases k with k | ⟨x, hx, k1, k2⟩
  · rw [h] at k
    cases k
  · exact h2 ⟨x, hx, k1⟩
theorem held_kind {l : List En} {e : En} (hs : SortT l) (h : (parentM e.path).2 = true) (h2 : isAt l (parentM e.path).1) {x : En} (hx : l[placeK l (parentM e.path).1]? = some x) : heldM l e ↔ x.kind = 1 := by
  obtain ⟨hk, hp⟩ := placeK_spec hs h2
  rw [List.getElem?_eq_getElem hk] at hx
  injection hx with hx
  constructor
  · rintro (k | ⟨y, hy, k1, k2⟩)
    · rw [h] at k
      cases k
    · have : x = y := sort_inj hs (hx ▸ List.getElem_mem hk) hy (by rw [← hx, hp, k1])
      rw [this]
      exact k2
  · intro k
    exact .inr ⟨x, hx ▸ List.getElem_mem hk, by rw [← hx, hp], k⟩
theorem Ro.takeT {α : Type} {E : Rdr α} {w0 : World} {S Ps : Nat → Prop} {ad : Option Addr} {len cap i : Nat} {xs : List α} (h : Ro w0 S (slc E Ps (.slice ad len cap) xs)) (hi : i ≤ xs.length) : Ro w0 S (slc E Ps (.slice ad i cap) (xs.take i)) := by
  have := Ro.sub h (Nat.zero_le i) hi
  rwa [subV_zero, List.drop_zero] at this
theorem ens_take (xs : List ET) (i : Nat) : ens (xs.take i) = (ens xs).take i := by simp [ens, List.map_take]
theorem ens_at {xs : List ET} {i : Nat} (h : i < xs.length) : (ens xs)[i]? = some xs[i].1 := by simp [ens, h]
set_option maxRecDepth 20000 in
set_option maxHeartbeats 4000000 in
theorem tcheck_tr {Ps : Nat → Prop} (v : Value) (xs : List ET) : Tr Try.prog 11 #[v] [slc rEV Ps v xs] [] (T0 (.tuple #[.int .i64 (checkT (ens xs)).1, .int .i64 (checkT (ens xs)).2])) := by
  refine Tr.of (l := [(0, v)]) Try.func11 rfl (n := 69) rfl (.cons rfl .nil) (fun w0 hro => ?_)
  have hv := ro1 hro
  have hv' := hv
  obtain ⟨av, cv, bv, fv, rfl, hcapv, hmaxv, hnilv, hadv, helv⟩ := Ro.openT hv
  have hel' := ens_length xs
  refine G.seq ?_
  refine G.region ?_
  refine G.op rfl (G.val rfl rfl (pv_assign rfl) ?_)
  refine G.op rfl (G.val rfl rfl (pv_assign rfl) ?_)
  refine G.nil ?_
  refine G.nThen ?_
  refine G.seq ?_
  refine G.seq ?_
  refine G.region ?_
  refine G.op rfl (G.val rfl rfl (pv_move rfl) ?_)
  refine G.op rfl (G.val rfl rfl (pv_lenSl Try.underlying22 rfl) ?_)
  refine G.op rfl (G.val rfl rfl (pv_gtr rfl rfl) ?_)
  refine G.nil ?_
  refine G.nThen ?_
  refine G.condP rfl (fun h13 => ?_) (fun h13 => ?_)
  · refine G.seq ?_
    refine G.region ?_
    refine G.op rfl (G.val rfl rfl (pv_assign rfl) ?_)
    refine G.op rfl (G.val rfl rfl (pv_assign rfl) ?_)
    refine G.nil ?_
    refine G.nThen ?_
    refine G.ret ?_
    refine G.rThen ?_
    exact G.done0G rfl (Rv.tmp rfl (Rv.tmp rfl Rv.nil)) (by rw [checkT_many (by omega)]; rfl)
  · refine G.skip ?_
    refine G.nThen ?_
    refine G.seq ?_
    refine G.seq ?_
    refine G.region ?_
    refine G.op rfl (G.val rfl rfl (pv_move rfl) ?_)
    refine G.op rfl (G.val rfl rfl (pv_lenSl Try.underlying22 rfl) ?_)
    refine G.op rfl (G.val rfl rfl (pv_move rfl) ?_)
    refine G.nil ?_
    refine G.nThen ?_
    refine G.block ?_
    refine G.loopK (X := Nat) (ts := [0, 14, 15]) (fun i => i ≤ xs.length ∧ (∀ q, q < i → errT (ens xs) q = 0)) (fun i => [(16, .int .i64 (i : Int))]) (fun i => []) (fun i => xs.length - i) (x0 := 0) (.cons rfl (.cons rfl (.cons rfl .nil))) (by repeat (first | exact Sub.nil | (apply Sub.cons; (repeat (first | with_reducible exact Sel.here | exact Sel.here | apply Sel.there))))) (.cons .nil) (by repeat (first | exact Ap.nil | apply Ap.cons)) (by first | exact trivial | ((try dsimp only); exact ⟨Nat.zero_le _, fun q h => absurd h (by omega)⟩)) (.consE rfl (by first | rfl | exact int_eq (by first | omega | (dsimp only; omega)) | exact congrArg _ (by omega)) .nil) (fun i hJ => ?_)
    try dsimp only at hJ
    try dsimp only
    obtain ⟨hki, hJ⟩ := hJ
    refine G.seq ?_
    refine G.region ?_
    refine G.op rfl (G.val rfl rfl (pv_lss rfl rfl) ?_)
    refine G.nil ?_
    refine G.nThen ?_
    refine G.seq ?_
    refine G.condP rfl (fun h17 => ?_) (fun h17 => ?_)
    · have hJ0 := hJ
      have hlt : i < xs.length := by omega
      have hlt' : i < (ens xs).length := by omega
      have hg := ens_get hlt
      have hso := sort_take (es := ens xs) (i := i) (by omega) hJ
      have hTk := Ro.takeT hv' (i := i) (by omega)
      have hEv := helv i hlt
      have hRv := Ro.evRng hEv
      have hDv := Ro.evDat hEv
      obtain ⟨hk1v, hk2v, hlpv, hldv, hltv⟩ := Ro.evOk hEv
      have hCv := Ro.one1 hDv
      refine G.skip ?_
      refine G.nThen ?_
      refine G.seq ?_
      refine G.block ?_
      refine G.seq ?_
      refine G.region ?_
      refine G.op rfl (G.val rfl rfl (pv_move rfl) ?_)
      refine G.op rfl (G.val rfl rfl (pv_ixSl (sz := 5) Try.underlying22 (by kernel_rfl) rfl rfl (by first | with_reducible assumption | assumption | exact fun _ => rfl) rfl (by omega)) ?_)
      refine G.op rfl (G.val rfl rfl (pv_loadN (cs := [_, _, _, _, _]) Try.underlying31 rfl (by kernel_rfl) rfl (by first | exact blk_range (k := 5) (by (repeat (first | with_reducible exact Sel.here | exact Sel.here | apply Sel.there)); done) (by rfl) | exact ro_rng0 (by assumption) | exact rng_range (k := 5) (by (repeat (first | with_reducible exact Sel.here | exact Sel.here | apply Sel.there)); done) (by rfl) | exact ro_range (k := 5) (by assumption) (by rfl) | exact ro_rngR (k := 5) (by assumption) (by rfl))) ?_)
      refine G.op rfl (G.alloc (z := .agg #[.string ⟨#[]⟩, .int .i64 0, .int .i64 0, .slice none 0 0, .string ⟨#[]⟩]) (cs := [.string ⟨#[]⟩, .int .i64 0, .int .i64 0, .slice none 0 0, .string ⟨#[]⟩]) rfl (by kernel_rfl) rfl ?_)
      intro b5
      refine G.op rfl (G.val rfl rfl (pv_assign rfl) ?_)
      refine G.op rfl (G.storeN (by kernel_rfl) rfl rfl (by first | exact (all1_cons (by first | rfl | with_reducible assumption) (all1_cons (by first | rfl | with_reducible assumption) (all1_cons (by first | rfl | with_reducible assumption) (all1_cons (by first | rfl | with_reducible assumption) (all1_cons (by first | rfl | with_reducible assumption) all1_nil))))) | exact List.all_eq_true.2 (vByte_one _) | rfl) (by repeat (first | with_reducible exact Sel.here | exact Sel.here | apply Sel.there)) (by first | (simp; done) | exact Nat.le_of_ble_eq_true rfl) ?_)
      refine G.nil ?_
      refine G.nThen ?_
      refine G.seq ?_
      refine G.seq ?_
      refine G.region ?_
      refine G.op rfl (G.val rfl rfl (pv_loadN (cs := [_, _, _, _, _]) Try.underlying31 rfl (by kernel_rfl) rfl (by first | exact blk_range (k := 5) (by (repeat (first | with_reducible exact Sel.here | exact Sel.here | apply Sel.there)); done) (by rfl) | exact ro_rng0 (by assumption) | exact rng_range (k := 5) (by (repeat (first | with_reducible exact Sel.here | exact Sel.here | apply Sel.there)); done) (by rfl) | exact ro_range (k := 5) (by assumption) (by rfl) | exact ro_rngR (k := 5) (by assumption) (by rfl))) ?_)
      refine G.op rfl (G.cR rfl rfl rfl rfl Try.func39 rfl rfl (may1 (by first | (apply May.old; first | with_reducible assumption | assumption) | (apply Sel.may; (repeat (first | with_reducible exact Sel.here | exact Sel.here | apply Sel.there)); done) | (apply may_own; (repeat (first | with_reducible exact Sel.here | exact Sel.here | apply Sel.there)); exact rfl; exact (fun _ _ => trivial); done) | (apply may_ownB; (repeat (first | with_reducible exact Sel.here | exact Sel.here | apply Sel.there)); done) | (apply may_tree; (repeat (first | with_reducible exact Sel.here | exact Sel.here | apply Sel.there)); (repeat (first | with_reducible exact Sel.here | exact Sel.here | apply Sel.there)); assumption; done))) (one_tr _ _ (by omega)) ?_)
      refine G.op rfl (G.val rfl rfl (pv_assign rfl) ?_)
      refine G.nil ?_
      refine G.nThen ?_
      refine G.seq ?_
      refine G.region ?_
      refine G.op rfl (G.val rfl rfl (pv_move rfl) ?_)
      refine G.op rfl (G.val rfl rfl (pv_neq rfl rfl) ?_)
      refine G.nil ?_
      refine G.nThen ?_
      refine G.condP rfl (fun h24 => ?_) (fun h24 => ?_)
      · refine G.seq ?_
        refine G.region ?_
        refine G.op rfl (G.val rfl rfl (pv_move rfl) ?_)
        refine G.op rfl (G.val rfl rfl (pv_move rfl) ?_)
        refine G.op rfl (G.val rfl rfl (pv_assign rfl) ?_)
        refine G.op rfl (G.val rfl rfl (pv_assign rfl) ?_)
        refine G.nil ?_
        refine G.nThen ?_
        refine G.ret ?_
        refine G.rThen ?_
        refine G.rBlock ?_
        refine G.rThen ?_
        refine G.rThen ?_
        refine G.rBlock ?_
        refine G.rThen ?_
        exact G.done0G rfl (Rv.tmp rfl (Rv.tmp rfl Rv.nil)) (by rw [checkT_bad (by omega) hlt' hJ0 (err_one hlt' (by rw [hg]; assumption)) (by rw [hg]; assumption), hg]; rfl)
      · have h1 : oneM (ens xs)[i] = 0 := by rw [hg]; omega
        refine G.skip ?_
        refine G.nThen ?_
        refine G.seq ?_
        refine G.seq ?_
        refine G.cutK (X := Unit) (ts := [0, 4, 5, 14, 15, 16]) (p := []) (fun _ => True) (fun _ => [(40, .bool (decide (prevBad (ens xs) i)))]) (fun _ => []) (.cons rfl (.cons rfl (.cons rfl (.cons rfl (.cons rfl (.cons rfl .nil)))))) (by repeat (first | exact Sub.nil | (apply Sub.cons; (repeat (first | with_reducible exact Sel.here | exact Sel.here | apply Sel.there))))) (.cons .nil) (by repeat (first | exact Ap.nil | apply Ap.cons)) ?_ ?_
        · refine G.drawT (nn := 14) (p := []) (rem := 16383) [0, 1, 2, 4, 4, 20, 44, 68, 132, 4, 516, 1284, 2052, 4100] [0, 1, 2, 4, 4, 20, 44, 68, 132, 4, 516, 1284, 2052, 4100] (by kernel_rfl) ⟨rfl, by kernel_rfl, by kernel_rfl⟩ (by repeat (first | exact Sub.nil | (apply Sub.cons; (repeat (first | with_reducible exact Sel.here | exact Sel.here | apply Sel.there))))) (by kernel_rfl) (fun hT9 => ?_)
          refine G.takeT hT9 (i := 0) (rem' := 16382) rfl rfl rfl (by kernel_rfl) (fun _ _ _ h => h) rfl (pv_move rfl) (by repeat (first | exact Sub.nil | (apply Sub.cons; (repeat (first | with_reducible exact Sel.here | exact Sel.here | apply Sel.there))))) ?_
          refine G.takeT hT9 (i := 1) (rem' := 16380) rfl rfl rfl (by kernel_rfl) (fun _ _ _ h => h) rfl (pv_gtr rfl rfl) (by repeat (first | exact Sub.nil | (apply Sub.cons; (repeat (first | with_reducible exact Sel.here | exact Sel.here | apply Sel.there))))) ?_
          refine G.takeT hT9 (i := 2) (rem' := 16376) rfl rfl rfl (by kernel_rfl) (fun _ _ _ h => h) rfl (pv_move rfl) (by repeat (first | exact Sub.nil | (apply Sub.cons; (repeat (first | with_reducible exact Sel.here | exact Sel.here | apply Sel.there))))) ?_
          refine G.partP (t := 29) rfl (fun h29 => ?_) (fun h29 => ?_)
          · have hi0 : 0 < i := by omega
            have hEp := helv (i - 1) (by omega)
            have hRp := Ro.evRng hEp
            have hDp := Ro.evDat hEp
            obtain ⟨hk1p, hk2p, hlpp, hldp, hltp⟩ := Ro.evOk hEp
            have hCp := Ro.one1 hDp
            have hpv := prev_pos hi0 hlt'
            rw [hg, ens_get (show i - 1 < xs.length by omega)] at hpv
            refine G.takeT hT9 (i := 3) (rem' := 16368) rfl rfl rfl (by kernel_rfl) (fun _ _ _ h => h) rfl (pv_move rfl) (by repeat (first | exact Sub.nil | (apply Sub.cons; (repeat (first | with_reducible exact Sel.here | exact Sel.here | apply Sel.there))))) ?_
            refine G.takeT hT9 (i := 4) (rem' := 16352) rfl rfl rfl (by kernel_rfl) (fun _ _ _ h => h) rfl (pv_move rfl) (by repeat (first | exact Sub.nil | (apply Sub.cons; (repeat (first | with_reducible exact Sel.here | exact Sel.here | apply Sel.there))))) ?_
            refine G.takeT hT9 (i := 5) (rem' := 16320) rfl rfl rfl (by kernel_rfl) (fun _ _ _ h => h) rfl (pv_sub64 rfl rfl (by omega)) (by repeat (first | exact Sub.nil | (apply Sub.cons; (repeat (first | with_reducible exact Sel.here | exact Sel.here | apply Sel.there))))) ?_
            refine G.takeT hT9 (i := 6) (rem' := 16256) rfl rfl rfl (by kernel_rfl) (fun _ _ _ h => h) rfl (pv_ixSl (sz := 5) (k := i - 1) Try.underlying22 (by kernel_rfl) rfl rfl (by first | with_reducible assumption | assumption) (by omega) (by omega)) (by repeat (first | exact Sub.nil | (apply Sub.cons; (repeat (first | with_reducible exact Sel.here | exact Sel.here | apply Sel.there))))) ?_
            refine G.takeT hT9 (i := 7) (rem' := 16128) rfl rfl rfl (by kernel_rfl) (fun _ _ _ h => h) rfl (pv_fieldAddrK (sz := 0) (k := 0) Try.underlying31 rfl (by kernel_rfl) rfl rfl) (by repeat (first | exact Sub.nil | (apply Sub.cons; (repeat (first | with_reducible exact Sel.here | exact Sel.here | apply Sel.there))))) ?_
            refine G.takeT hT9 (i := 8) (rem' := 15872) rfl rfl rfl (by kernel_rfl) (fun _ _ _ h => h) rfl (pv_load Try.underlying9 rfl rfl (by first | exact blk_cell (by (repeat (first | with_reducible exact Sel.here | exact Sel.here | apply Sel.there)); done) (by rfl) | exact rng_cell (by (repeat (first | with_reducible exact Sel.here | exact Sel.here | apply Sel.there)); done) (by rfl) | exact ro_blk (by assumption) (by rfl) | exact ro_rngC (by assumption) (by rfl) | exact ro_int (by assumption) | exact ro_byte (by assumption) | exact ro_str (by assumption) | with_reducible assumption | assumption)) (by repeat (first | exact Sub.nil | (apply Sub.cons; (repeat (first | with_reducible exact Sel.here | exact Sel.here | apply Sel.there))))) ?_
            refine G.takeT hT9 (i := 9) (rem' := 15360) rfl rfl rfl (by kernel_rfl) (fun _ _ _ h => h) rfl (pv_fieldAddrK (sz := 0) (k := 0) Try.underlying31 rfl (by kernel_rfl) rfl rfl) (by repeat (first | exact Sub.nil | (apply Sub.cons; (repeat (first | with_reducible exact Sel.here | exact Sel.here | apply Sel.there))))) ?_
            refine G.oneT hT9 (i := 10) (rem' := 14336) (by kernel_rfl) (by kernel_rfl) ?_
            refine G.turnOp rfl rfl (G.val rfl rfl (pv_load Try.underlying9 rfl rfl (by first | exact blk_cell (by (repeat (first | with_reducible exact Sel.here | exact Sel.here | apply Sel.there)); done) (by rfl) | exact rng_cell (by (repeat (first | with_reducible exact Sel.here | exact Sel.here | apply Sel.there)); done) (by rfl) | exact ro_blk (by assumption) (by rfl) | exact ro_rngC (by assumption) (by rfl) | exact ro_int (by assumption) | exact ro_byte (by assumption) | exact ro_str (by assumption) | with_reducible assumption | assumption)) ?_)
            refine G.back (by repeat (first | exact Sub.nil | (apply Sub.cons; (repeat (first | with_reducible exact Sel.here | exact Sel.here | apply Sel.there))))) ?_
            refine G.oneT hT9 (i := 11) (rem' := 12288) (by kernel_rfl) (by kernel_rfl) ?_
            refine G.turnOp rfl rfl (G.cR rfl rfl rfl rfl Try.func17 rfl rfl may0 (compare_tr _ _ (by omega) (by omega)) ?_)
            refine G.back (by repeat (first | exact Sub.nil | (apply Sub.cons; (repeat (first | with_reducible exact Sel.here | exact Sel.here | apply Sel.there))))) ?_
            refine G.takeT hT9 (i := 12) (rem' := 8192) rfl rfl rfl (by kernel_rfl) (fun _ _ _ h => h) rfl (pv_geq rfl rfl) (by repeat (first | exact Sub.nil | (apply Sub.cons; (repeat (first | with_reducible exact Sel.here | exact Sel.here | apply Sel.there))))) ?_
            refine G.takeT hT9 (i := 13) (rem' := 0) rfl rfl rfl (by kernel_rfl) (fun _ _ _ h => h) rfl (pv_pick rfl rfl) (by repeat (first | exact Sub.nil | (apply Sub.cons; (repeat (first | with_reducible exact Sel.here | exact Sel.here | apply Sel.there))))) ?_
            refine G.overT hT9 (by kernel_rfl) ?_
            exact G.meet (()) (by first | exact trivial | ((try dsimp only); exact trivial)) (.consE rfl (dec_e hpv.symm) (.cons rfl (.cons rfl (.cons rfl (.cons rfl (.cons rfl (.cons rfl .nil))))))) (by repeat (first | exact Sub.nil | (apply Sub.cons; (repeat (first | with_reducible exact Sel.here | exact Sel.here | apply Sel.there)))))
          · refine G.takeFT hT9 (i := 3) (rem' := 16368) rfl rfl rfl (by kernel_rfl) (fun _ _ _ h => h) rfl (by repeat (first | exact Sub.nil | (apply Sub.cons; (repeat (first | with_reducible exact Sel.here | exact Sel.here | apply Sel.there))))) ?_
            refine G.takeFT hT9 (i := 4) (rem' := 16352) rfl rfl rfl (by kernel_rfl) (fun _ _ _ h => h) rfl (by repeat (first | exact Sub.nil | (apply Sub.cons; (repeat (first | with_reducible exact Sel.here | exact Sel.here | apply Sel.there))))) ?_
            refine G.takeFT hT9 (i := 5) (rem' := 16320) rfl rfl rfl (by kernel_rfl) (fun _ _ _ h => h) rfl (by repeat (first | exact Sub.nil | (apply Sub.cons; (repeat (first | with_reducible exact Sel.here | exact Sel.here | apply Sel.there))))) ?_
            refine G.takeFT hT9 (i := 6) (rem' := 16256) rfl rfl rfl (by kernel_rfl) (fun _ _ _ h => h) rfl (by repeat (first | exact Sub.nil | (apply Sub.cons; (repeat (first | with_reducible exact Sel.here | exact Sel.here | apply Sel.there))))) ?_
            refine G.takeFT hT9 (i := 7) (rem' := 16128) rfl rfl rfl (by kernel_rfl) (fun _ _ _ h => h) rfl (by repeat (first | exact Sub.nil | (apply Sub.cons; (repeat (first | with_reducible exact Sel.here | exact Sel.here | apply Sel.there))))) ?_
            refine G.takeFT hT9 (i := 8) (rem' := 15872) rfl rfl rfl (by kernel_rfl) (fun _ _ _ h => h) rfl (by repeat (first | exact Sub.nil | (apply Sub.cons; (repeat (first | with_reducible exact Sel.here | exact Sel.here | apply Sel.there))))) ?_
            refine G.takeFT hT9 (i := 9) (rem' := 15360) rfl rfl rfl (by kernel_rfl) (fun _ _ _ h => h) rfl (by repeat (first | exact Sub.nil | (apply Sub.cons; (repeat (first | with_reducible exact Sel.here | exact Sel.here | apply Sel.there))))) ?_
            refine G.takeFT hT9 (i := 10) (rem' := 14336) rfl rfl rfl (by kernel_rfl) (fun _ _ _ h => h) rfl (by repeat (first | exact Sub.nil | (apply Sub.cons; (repeat (first | with_reducible exact Sel.here | exact Sel.here | apply Sel.there))))) ?_
            refine G.takeFT hT9 (i := 11) (rem' := 12288) rfl rfl rfl (by kernel_rfl) (fun _ _ _ h => h) rfl (by repeat (first | exact Sub.nil | (apply Sub.cons; (repeat (first | with_reducible exact Sel.here | exact Sel.here | apply Sel.there))))) ?_
            refine G.takeFT hT9 (i := 12) (rem' := 8192) rfl rfl rfl (by kernel_rfl) (fun _ _ _ h => h) rfl (by repeat (first | exact Sub.nil | (apply Sub.cons; (repeat (first | with_reducible exact Sel.here | exact Sel.here | apply Sel.there))))) ?_
            refine G.takeT hT9 (i := 13) (rem' := 0) rfl rfl rfl (by kernel_rfl) (fun _ _ _ h => h) rfl (pv_pick rfl rfl) (by repeat (first | exact Sub.nil | (apply Sub.cons; (repeat (first | with_reducible exact Sel.here | exact Sel.here | apply Sel.there))))) ?_
            refine G.overT hT9 (by kernel_rfl) ?_
            exact G.meet (()) (by first | exact trivial | ((try dsimp only); exact trivial)) (.consE rfl (dec_f (prev_zero (by omega))) (.cons rfl (.cons rfl (.cons rfl (.cons rfl (.cons rfl (.cons rfl .nil))))))) (by repeat (first | exact Sub.nil | (apply Sub.cons; (repeat (first | with_reducible exact Sel.here | exact Sel.here | apply Sel.there)))))
        · intro _ hJ
          try dsimp only at hJ
          try dsimp only
          refine G.condP rfl (fun h40 => ?_) (fun h40 => ?_)
          · refine G.seq ?_
            refine G.region ?_
            refine G.op rfl (G.val rfl rfl (pv_move rfl) ?_)
            refine G.op rfl (G.val rfl rfl (pv_assign rfl) ?_)
            refine G.op rfl (G.val rfl rfl (pv_assign rfl) ?_)
            refine G.nil ?_
            refine G.nThen ?_
            refine G.ret ?_
            refine G.rThen ?_
            refine G.rBlock ?_
            refine G.rThen ?_
            refine G.rThen ?_
            refine G.rBlock ?_
            refine G.rThen ?_
            exact G.done0G rfl (Rv.tmp rfl (Rv.tmp rfl Rv.nil)) (by rw [checkT_bad (by omega) hlt' hJ0 (err_prev hlt' h1 (by assumption)) (by omega)]; rfl)
          · refine G.skip ?_
            refine G.nThen ?_
            refine G.seq ?_
            refine G.region ?_
            refine G.op rfl (G.val rfl rfl (pv_fieldAddrK (sz := 0) (k := 0) Try.underlying31 rfl (by kernel_rfl) rfl rfl) ?_)
            refine G.op rfl (G.val rfl rfl (pv_load Try.underlying9 rfl rfl (by first | exact blk_cell (by (repeat (first | with_reducible exact Sel.here | exact Sel.here | apply Sel.there)); done) (by rfl) | exact rng_cell (by (repeat (first | with_reducible exact Sel.here | exact Sel.here | apply Sel.there)); done) (by rfl) | exact ro_blk (by assumption) (by rfl) | exact ro_rngC (by assumption) (by rfl) | exact ro_int (by assumption) | exact ro_byte (by assumption) | exact ro_str (by assumption) | with_reducible assumption | assumption)) ?_)
            refine G.op rfl (G.cR rfl rfl rfl rfl Try.func15 rfl rfl may0 (parent_tr _ (by omega)) ?_)
            have hpl := parentM_len xs[i].1.path
            refine G.op rfl (G.val rfl rfl (pv_move rfl) ?_)
            refine G.op rfl (G.val rfl rfl (pv_extract rfl rfl) ?_)
            refine G.op rfl (G.val rfl rfl (pv_extract rfl rfl) ?_)
            refine G.op rfl (G.val rfl rfl (pv_assign rfl) ?_)
            refine G.op rfl (G.val rfl rfl (pv_assign rfl) ?_)
            refine G.nil ?_
            refine G.nThen ?_
            refine G.seq ?_
            refine G.region ?_
            refine G.op rfl (G.val rfl rfl (pv_move rfl) ?_)
            refine G.nil ?_
            refine G.nThen ?_
            refine G.cond rfl (fun h48 => ?_) (fun h48 => ?_)
            · have hpt : (parentM (ens xs)[i].path).2 = true := by rw [hg]; exact h48
              refine G.seq ?_
              refine G.region ?_
              refine G.op rfl (G.val rfl rfl (pv_move rfl) ?_)
              refine G.op rfl (G.val rfl rfl (pv_move rfl) ?_)
              refine G.op rfl (G.val rfl rfl (pv_subH (sz := 5) (k := i) Try.underlying22 (by kernel_rfl) rfl rfl rfl (by omega)) ?_)
              refine G.op rfl (G.val rfl rfl (pv_move rfl) ?_)
              refine G.op rfl (G.cR rfl rfl rfl rfl Try.func40 rfl rfl (may1 (by first | (apply May.old; first | with_reducible assumption | assumption) | (apply Sel.may; (repeat (first | with_reducible exact Sel.here | exact Sel.here | apply Sel.there)); done) | (apply may_own; (repeat (first | with_reducible exact Sel.here | exact Sel.here | apply Sel.there)); exact rfl; exact (fun _ _ => trivial); done) | (apply may_ownB; (repeat (first | with_reducible exact Sel.here | exact Sel.here | apply Sel.there)); done) | (apply may_tree; (repeat (first | with_reducible exact Sel.here | exact Sel.here | apply Sel.there)); (repeat (first | with_reducible exact Sel.here | exact Sel.here | apply Sel.there)); assumption; done))) (place_tr _ (xs.take i) _ (by rw [List.length_take]; omega) (by rw [ens_take]; exact hso) (by omega)) ?_)
              rw [ens_take]
              refine G.op rfl (G.val rfl rfl (pv_move rfl) ?_)
              refine G.op rfl (G.val rfl rfl (pv_extract rfl rfl) ?_)
              refine G.op rfl (G.val rfl rfl (pv_extract rfl rfl) ?_)
              refine G.op rfl (G.val rfl rfl (pv_assign rfl) ?_)
              refine G.op rfl (G.val rfl rfl (pv_assign rfl) ?_)
              refine G.nil ?_
              refine G.nThen ?_
              refine G.seq ?_
              refine G.cutK (X := Unit) (ts := [0, 4, 14, 15, 16]) (p := []) (fun _ => True) (fun _ => [(66, .bool (decide (¬ heldM ((ens xs).take i) (ens xs)[i])))]) (fun _ => []) (.cons rfl (.cons rfl (.cons rfl (.cons rfl (.cons rfl .nil))))) (by repeat (first | exact Sub.nil | (apply Sub.cons; (repeat (first | with_reducible exact Sel.here | exact Sel.here | apply Sel.there))))) (.cons .nil) (by repeat (first | exact Ap.nil | apply Ap.cons)) ?_ ?_
              · refine G.region ?_
                refine G.op rfl (G.val rfl rfl (pv_move rfl) ?_)
                refine G.op rfl (G.val rfl rfl (pv_notP rfl) ?_)
                refine G.op rfl (G.val rfl rfl (pv_move rfl) ?_)
                refine G.partP (t := 59) rfl (fun h59 => ?_) (fun h59 => ?_)
                · have hnh : ¬ heldM ((ens xs).take i) (ens xs)[i] := held_none hpt (by rw [hg]; assumption)
                  refine G.pass rfl rfl rfl rfl rfl rfl ?_
                  refine G.pass rfl rfl rfl rfl rfl rfl ?_
                  refine G.pass rfl rfl rfl rfl rfl rfl ?_
                  refine G.pass rfl rfl rfl rfl rfl rfl ?_
                  refine G.pass rfl rfl rfl rfl rfl rfl ?_
                  refine G.pass rfl rfl rfl rfl rfl rfl ?_
                  refine G.op rfl (G.val rfl rfl (pv_pick rfl rfl) ?_)
                  refine G.nil ?_
                  exact G.meet (()) (by first | exact trivial | ((try dsimp only); exact trivial)) (.consE rfl (dec_t hnh) (.cons rfl (.cons rfl (.cons rfl (.cons rfl (.cons rfl .nil)))))) (by repeat (first | exact Sub.nil | (apply Sub.cons; (repeat (first | with_reducible exact Sel.here | exact Sel.here | apply Sel.there)))))
                · have hat : isAt ((ens xs).take i) (parentM xs[i].1.path).1 := Decidable.of_not_not (by assumption)
                  obtain ⟨hkl, -⟩ := placeK_spec hso hat
                  rw [List.length_take] at hkl
                  obtain ⟨k, hk⟩ : ∃ k, placeK ((ens xs).take i) (parentM xs[i].1.path).1 = k := ⟨_, rfl⟩
                  have hkk := held_kind hso hpt (x := (xs[k]'(by omega)).1) (by rw [hg]; exact hat) (by rw [hg, hk, List.getElem?_take_of_lt (by omega)]; exact ens_at (by omega))
                  rw [hk] at hkl ⊢
                  have hEk := helv k (by omega)
                  have hRk := Ro.evRng hEk
                  have hDk := Ro.evDat hEk
                  obtain ⟨hk1k, hk2k, hlpk, hldk, hltk⟩ := Ro.evOk hEk
                  have hCk := Ro.one1 hDk
                  refine G.want rfl rfl rfl (G.val rfl rfl (pv_move rfl) ?_)
                  refine G.want rfl rfl rfl (G.val rfl rfl (pv_move rfl) ?_)
                  refine G.want rfl rfl rfl (G.val rfl rfl (pv_ixSl (sz := 5) (k := k) Try.underlying22 (by kernel_rfl) rfl rfl (by first | with_reducible assumption | assumption) (by omega) (by omega)) ?_)
                  refine G.want rfl rfl rfl (G.val rfl rfl (pv_fieldAddrK (sz := 0) (k := 1) Try.underlying31 rfl (by kernel_rfl) rfl rfl) ?_)
                  refine G.want rfl rfl rfl (G.val rfl rfl (pv_load Try.underlying3 rfl rfl (by first | exact blk_cell (by (repeat (first | with_reducible exact Sel.here | exact Sel.here | apply Sel.there)); done) (by rfl) | exact rng_cell (by (repeat (first | with_reducible exact Sel.here | exact Sel.here | apply Sel.there)); done) (by rfl) | exact ro_blk (by assumption) (by rfl) | exact ro_rngC (by assumption) (by rfl) | exact ro_int (by assumption) | exact ro_byte (by assumption) | exact ro_str (by assumption) | with_reducible assumption | assumption)) ?_)
                  refine G.want rfl rfl rfl (G.val rfl rfl (pv_neq rfl rfl) ?_)
                  refine G.op rfl (G.val rfl rfl (pv_pick rfl rfl) ?_)
                  refine G.nil ?_
                  exact G.meet (()) (by first | exact trivial | ((try dsimp only); exact trivial)) (.consE rfl (dec_e (not_congr hkk.symm)) (.cons rfl (.cons rfl (.cons rfl (.cons rfl (.cons rfl .nil)))))) (by repeat (first | exact Sub.nil | (apply Sub.cons; (repeat (first | with_reducible exact Sel.here | exact Sel.here | apply Sel.there)))))
              · intro _ hJ
                try dsimp only at hJ
                try dsimp only
                refine G.condP rfl (fun h66 => ?_) (fun h66 => ?_)
                · refine G.seq ?_
                  refine G.region ?_
                  refine G.op rfl (G.val rfl rfl (pv_move rfl) ?_)
                  refine G.op rfl (G.val rfl rfl (pv_assign rfl) ?_)
                  refine G.op rfl (G.val rfl rfl (pv_assign rfl) ?_)
                  refine G.nil ?_
                  refine G.nThen ?_
                  refine G.ret ?_
                  refine G.rBlock ?_
                  refine G.rThen ?_
                  refine G.rThen ?_
                  refine G.rBlock ?_
                  refine G.rThen ?_
                  exact G.done0G rfl (Rv.tmp rfl (Rv.tmp rfl Rv.nil)) (by rw [checkT_bad (by omega) hlt' hJ0 (err_held hlt' h1 (by assumption) (by assumption)) (by omega)]; rfl)
                · have hok0 : errT (ens xs) i = 0 := err_ok hlt' h1 (by assumption) (Decidable.of_not_not (by assumption))
                  refine G.skip ?_
                  refine G.nBlock ?_
                  refine G.nThen ?_
                  refine G.region ?_
                  refine G.op rfl (G.val rfl rfl (pv_add64 rfl rfl (by omega)) ?_)
                  refine G.op rfl (G.val rfl rfl (pv_move rfl) ?_)
                  refine G.nil ?_
                  exact G.next (i + 1) (by first | exact trivial | ((try dsimp only); exact ⟨by omega, fun q hq => by rcases Nat.lt_or_ge q i with h1 | h1; exact hJ0 q h1; obtain rfl : q = i := (by omega); exact hok0⟩)) (by (try dsimp only); omega) (.consE rfl (by first | rfl | exact int_eq (by first | omega | (dsimp only; omega)) | exact congrArg _ (by omega)) (.cons rfl (.cons rfl (.cons rfl .nil)))) (by repeat (first | exact Sub.nil | (apply Sub.cons; (repeat (first | with_reducible exact Sel.here | exact Sel.here | apply Sel.there)))))
            · have hok0 : errT (ens xs) i = 0 := err_ok hlt' h1 (by assumption) (.inl (by rw [hg]; exact h48))
              refine G.skip ?_
              refine G.nBlock ?_
              refine G.nThen ?_
              refine G.region ?_
              refine G.op rfl (G.val rfl rfl (pv_add64 rfl rfl (by omega)) ?_)
              refine G.op rfl (G.val rfl rfl (pv_move rfl) ?_)
              refine G.nil ?_
              exact G.next (i + 1) (by first | exact trivial | ((try dsimp only); exact ⟨by omega, fun q hq => by rcases Nat.lt_or_ge q i with h1 | h1; exact hJ0 q h1; obtain rfl : q = i := (by omega); exact hok0⟩)) (by (try dsimp only); omega) (.consE rfl (by first | rfl | exact int_eq (by first | omega | (dsimp only; omega)) | exact congrArg _ (by omega)) (.cons rfl (.cons rfl (.cons rfl .nil)))) (by repeat (first | exact Sub.nil | (apply Sub.cons; (repeat (first | with_reducible exact Sel.here | exact Sel.here | apply Sel.there)))))
    · refine G.exit ?_
      refine G.eThen ?_
      refine G.eThen ?_
      refine G.eBlock ?_
      refine G.nThen ?_
      refine G.seq ?_
      refine G.region ?_
      refine G.op rfl (G.val rfl rfl (pv_assign rfl) ?_)
      refine G.op rfl (G.val rfl rfl (pv_assign rfl) ?_)
      refine G.nil ?_
      refine G.nThen ?_
      refine G.ret ?_
      exact G.done0G rfl (Rv.tmp rfl (Rv.tmp rfl Rv.nil)) (by rw [checkT_ok (by omega) (fun q hq => hJ q (by omega))]; rfl)
end Go.Proofs.Ytchgaedidfefoaa

set_option linter.unusedVariables false
set_option linter.unusedSimpArgs false
namespace Go.Proofs.Ytchgaedidfefoaa
open Go.RowKit
def sizeM (es : List En) : Nat := (es.map fun e => e.data.length).sum
def totM (es : List En) : Nat := (es.map fun e => e.path.length + e.data.length + e.to.length).sum
theorem sum_take_succ (f : En → Nat) {es : List En} {i : Nat} (h : i < es.length) : ((es.take (i + 1)).map f).sum = ((es.take i).map f).sum + f es[i] := by
  rw [List.take_succ_eq_append_getElem h, List.map_append, List.sum_append]
  simp
theorem sizeM_succ {xs : List ET} {i : Nat} (h : i < xs.length) : sizeM ((ens xs).take (i + 1)) = sizeM ((ens xs).take i) + xs[i].1.data.length := by
  unfold sizeM
  rw [sum_take_succ _ (by rw [ens_length]; exact h), ens_get h]
theorem totM_succ {xs : List ET} {i : Nat} (h : i < xs.length) : totM ((ens xs).take (i + 1)) = totM ((ens xs).take i) + (xs[i].1.path.length + xs[i].1.data.length + xs[i].1.to.length) := by
  unfold totM
  rw [sum_take_succ _ (by rw [ens_length]; exact h), ens_get h]
theorem ens_eq {xs ys : List ET} (hl : xs.length = ys.length) (h : ∀ q (hq : q < xs.length), xs[q].1 = (ys[q]'(by omega)).1) : ens xs = ens ys := by
  apply List.ext_getElem
  · rw [ens_length, ens_length, hl]
  · intro i h1 h2
    rw [ens_length] at h1
    rw [ens_get h1, ens_get (by omega)]
    exact h i h1
theorem ens_ne {xs ys : List ET} {i : Nat} (hx : i < xs.length) (hy : i < ys.length) (h : xs[i].1 ≠ ys[i].1) : ¬ ens xs = ens ys := fun e => by
  have h1 := ens_get hx
  have h2 := ens_get hy
  simp only [e] at h1
  exact h (h1.symm.trans h2)
theorem ens_len_ne {xs ys : List ET} (h : ¬ (xs.length : Int) = ys.length) : ¬ ens xs = ens ys := fun e => h (by
  have := congrArg List.length e
  rw [ens_length, ens_length] at this
  omega)
set_option maxRecDepth 20000 in
set_option maxHeartbeats 4000000 in
theorem size_tr {Ps : Nat → Prop} (v : Value) (xs : List ET) (hn : xs.length ≤ 1000) : Tr Try.prog 22 #[v] [slc rEV Ps v xs] [] (T0 (.int .i64 (sizeM (ens xs) : Int))) := by
  refine Tr.of (l := [(0, v)]) Try.func22 rfl (n := 19) rfl (.cons rfl .nil) (fun w0 hro => ?_)
  have hv := ro1 hro
  have hv' := hv
  obtain ⟨av, cv, bv, fv, rfl, hcapv, hmaxv, hnilv, hadv, helv⟩ := Ro.openT hv
  have hel' := ens_length xs
  refine G.seq ?_
  refine G.region ?_
  refine G.op rfl (G.val rfl rfl (pv_assign rfl) ?_)
  refine G.nil ?_
  refine G.nThen ?_
  refine G.seq ?_
  refine G.region ?_
  refine G.op rfl (G.val rfl rfl (pv_assign rfl) ?_)
  refine G.nil ?_
  refine G.nThen ?_
  refine G.seq ?_
  refine G.seq ?_
  refine G.region ?_
  refine G.op rfl (G.val rfl rfl (pv_move rfl) ?_)
  refine G.op rfl (G.val rfl rfl (pv_lenSl Try.underlying22 rfl) ?_)
  refine G.op rfl (G.val rfl rfl (pv_move rfl) ?_)
  refine G.nil ?_
  refine G.nThen ?_
  refine G.block ?_
  refine G.loopK (X := Nat) (ts := [2, 6, 7]) (fun i => i ≤ xs.length ∧ (sizeM ((ens xs).take i) ≤ i * 140737488355328)) (fun i => [(8, .int .i64 (i : Int)), (3, .int .i64 (sizeM ((ens xs).take i) : Int))]) (fun i => []) (fun i => xs.length - i) (x0 := 0) (.cons rfl (.cons rfl (.cons rfl .nil))) (by repeat (first | exact Sub.nil | (apply Sub.cons; (repeat (first | with_reducible exact Sel.here | exact Sel.here | apply Sel.there))))) (.cons (.cons .nil)) (by repeat (first | exact Ap.nil | apply Ap.cons)) (by first | exact trivial | ((try dsimp only); exact ⟨Nat.zero_le _, by simp [sizeM]⟩)) (.consE rfl (by first | rfl | exact int_eq (by first | omega | (dsimp only; omega)) | exact congrArg _ (by omega)) (.consE rfl (by first | rfl | exact int_eq (by first | omega | (dsimp only; omega)) | exact congrArg _ (by omega)) .nil)) (fun i hJ => ?_)
  try dsimp only at hJ
  try dsimp only
  obtain ⟨hki, hJ⟩ := hJ
  refine G.seq ?_
  refine G.region ?_
  refine G.op rfl (G.val rfl rfl (pv_lss rfl rfl) ?_)
  refine G.nil ?_
  refine G.nThen ?_
  refine G.seq ?_
  refine G.condP rfl (fun h9 => ?_) (fun h9 => ?_)
  · have hlt : i < xs.length := by omega
    have hsz := sizeM_succ hlt
    have hEv := helv i hlt
    have hRv := Ro.evRng hEv
    have hDv := Ro.evDat hEv
    obtain ⟨hk1v, hk2v, hlpv, hldv, hltv⟩ := Ro.evOk hEv
    have hCv := Ro.one1 hDv
    obtain ⟨aD, cD, hx2⟩ := Ro.slv hDv
    rw [hx2] at hRv hCv
    refine G.skip ?_
    refine G.nThen ?_
    refine G.seq ?_
    refine G.block ?_
    refine G.seq ?_
    refine G.region ?_
    refine G.op rfl (G.val rfl rfl (pv_ixSl (sz := 5) Try.underlying22 (by kernel_rfl) rfl rfl (by first | with_reducible assumption | assumption | exact fun _ => rfl) rfl (by omega)) ?_)
    refine G.op rfl (G.val rfl rfl (pv_loadN (cs := [_, _, _, _, _]) Try.underlying31 rfl (by kernel_rfl) rfl (by first | exact blk_range (k := 5) (by (repeat (first | with_reducible exact Sel.here | exact Sel.here | apply Sel.there)); done) (by rfl) | exact ro_rng0 (by assumption) | exact rng_range (k := 5) (by (repeat (first | with_reducible exact Sel.here | exact Sel.here | apply Sel.there)); done) (by rfl) | exact ro_range (k := 5) (by assumption) (by rfl) | exact ro_rngR (k := 5) (by assumption) (by rfl))) ?_)
    refine G.op rfl (G.alloc (z := .agg #[.string ⟨#[]⟩, .int .i64 0, .int .i64 0, .slice none 0 0, .string ⟨#[]⟩]) (cs := [.string ⟨#[]⟩, .int .i64 0, .int .i64 0, .slice none 0 0, .string ⟨#[]⟩]) rfl (by kernel_rfl) rfl ?_)
    intro b5
    refine G.op rfl (G.storeN (by kernel_rfl) rfl rfl (by first | exact (all1_cons (by first | rfl | with_reducible assumption) (all1_cons (by first | rfl | with_reducible assumption) (all1_cons (by first | rfl | with_reducible assumption) (all1_cons (by first | rfl | with_reducible assumption) (all1_cons (by first | rfl | with_reducible assumption) all1_nil))))) | exact List.all_eq_true.2 (vByte_one _) | rfl) (by repeat (first | with_reducible exact Sel.here | exact Sel.here | apply Sel.there)) (by first | (simp; done) | exact Nat.le_of_ble_eq_true rfl) ?_)
    refine G.nil ?_
    refine G.nThen ?_
    refine G.region ?_
    refine G.op rfl (G.val rfl rfl (pv_move rfl) ?_)
    refine G.op rfl (G.val rfl rfl (pv_fieldAddrK (sz := 0) (k := 3) Try.underlying31 rfl (by kernel_rfl) rfl rfl) ?_)
    refine G.op rfl (G.val rfl rfl (pv_load Try.underlying29 rfl rfl (by first | exact blk_cell (by (repeat (first | with_reducible exact Sel.here | exact Sel.here | apply Sel.there)); done) (by rfl) | exact rng_cell (by (repeat (first | with_reducible exact Sel.here | exact Sel.here | apply Sel.there)); done) (by rfl) | exact ro_blk (by assumption) (by rfl) | exact ro_rngC (by assumption) (by rfl) | exact ro_int (by assumption) | exact ro_byte (by assumption) | exact ro_str (by assumption) | with_reducible assumption | assumption)) ?_)
    refine G.op rfl (G.val rfl rfl (pv_lenSl Try.underlying29 rfl) ?_)
    refine G.op rfl (G.val rfl rfl (pv_add64 rfl rfl (by omega)) ?_)
    refine G.op rfl (G.val rfl rfl (pv_assign rfl) ?_)
    refine G.nil ?_
    refine G.nBlock ?_
    refine G.nThen ?_
    refine G.region ?_
    refine G.op rfl (G.val rfl rfl (pv_add64 rfl rfl (by omega)) ?_)
    refine G.op rfl (G.val rfl rfl (pv_move rfl) ?_)
    refine G.nil ?_
    exact G.next (i + 1) (by first | exact trivial | ((try dsimp only); exact ⟨by omega, by rw [hsz]; omega⟩)) (by (try dsimp only); omega) (.consE rfl (by first | rfl | exact int_eq (by first | omega | (dsimp only; omega)) | exact congrArg _ (by omega)) (.consE rfl (by first | rfl | exact int_eq (by first | omega | (dsimp only; omega)) | exact congrArg _ (by omega)) (.cons rfl (.cons rfl (.cons rfl .nil))))) (by repeat (first | exact Sub.nil | (apply Sub.cons; (repeat (first | with_reducible exact Sel.here | exact Sel.here | apply Sel.there)))))
  · refine G.exit ?_
    refine G.eThen ?_
    refine G.eThen ?_
    refine G.eBlock ?_
    refine G.nThen ?_
    refine G.seq ?_
    refine G.region ?_
    refine G.op rfl (G.val rfl rfl (pv_move rfl) ?_)
    refine G.op rfl (G.val rfl rfl (pv_assign rfl) ?_)
    refine G.nil ?_
    refine G.nThen ?_
    refine G.ret ?_
    obtain rfl : i = xs.length := by omega
    rw [← hel', List.take_length]
    exact G.done0G rfl (Rv.tmp rfl Rv.nil) (by first | rfl | exact int_eq (by omega) | (simp; done))
end Go.Proofs.Ytchgaedidfefoaa

