/- Merged of WS, Bk, WN, WQ, FrameG, Law, Opg, KB, FW, FX, FY, FR, FV, FK, NA, VC, PA, Shelf, PB, PC, PE, PF, PG. Conditions: none. -/
import Derived.Test.YtngbglhmiefcpaaGreatLa
import Derived.ProofKit
import Derived.OpenShut
import Derived.SizedLaws
import Derived.JoinedCond
import Derived.Deep.CondSized
import Derived.Deep.SlicePairs
import Derived.ChangeSlices
import Derived.Lib.SmallJoins
import Derived.Test.YtngbglhmiefcpaaGreatRows
import Derived.Deep.Slices
import Derived.Test.YtngbglhmiefcpaaGreatProg
import Derived.Laws.BitsLemmas
import Derived.Shelf.Strings.Search1
import Derived.Shelf.Strings.Search2
import Derived.Shelf.Strings.Cut
import Derived.Shelf.LaysM
import Derived.Shelf.Strings.Shaped
import Derived.Shelf.Strings.LastIndex
set_option maxRecDepth 20000
set_option linter.unusedVariables false
set_option linter.unusedSimpArgs false
namespace Go.Proofs.YtngbglhmiefcpaaGreat
open Go.RowKit
set_option maxRecDepth 100000
def mark (D : Nat) : List Deferred := [{ target := .collected D, args := #[] }]
def dfr (D : Nat) : Ck := obc D (.deferred (some []))
def rnd {X : Type} (w1 : World) (S1 : Nat → Prop) (J : Bool → Nat → X → Prop) (B : Bool → Nat → X → List Ck) (jmp : X → Code) (c : Ck) (i : Nat) : Exit → Act → World → Prop
 | .normal, _, w => ∃ y, J true (i + 1) y ∧ Hp w1 S1 w (c :: B true (i + 1) y)
 | .ret, _, w => ∃ y, J false (i + 1) y ∧ jmp y = .ret ∧ Hp w1 S1 w (c :: B false (i + 1) y)
 | .exit k, _, w => ∃ y, J false (i + 1) y ∧ jmp y = .exit k ∧ Hp w1 S1 w (c :: B false (i + 1) y)
 | _, _, _ => False
section
variable {P : Program} {n : Nat} {w0 : World} {S : Nat → Prop} {l : Fr} {m : List Ck} {Q : Exit → Act → World → Prop} {K : Act → World → Prop} {r : Option Nat} {ds : List Deferred}
theorem noOut {w1 : World} {pre : List Ck} {post : Value → List Ck → Prop} {w : World} (h : TrR w1 pre post .outgrown w) : False := by
 obtain ⟨_, _, h, _⟩ := h
 cases h
theorem I.rN {X : Type} {J : Bool → Nat → X → Prop} {B : Bool → Nat → X → List Ck} {jmp : X → Code} {c : Ck} {i : Nat} {q : List Ck} (y : X) (hJ : J true (i + 1) y) (hs : Sub m (c :: B true (i + 1) y) q) : G n w0 S l m (dq ds (rnd w0 S J B jmp c i .normal)) := fun a w ha hw =>
 ⟨y, hJ, (hw.perm hs.perm).sub (List.sublist_append_left _ _)⟩
theorem I.rR {X : Type} {J : Bool → Nat → X → Prop} {B : Bool → Nat → X → List Ck} {jmp : X → Code} {c : Ck} {i : Nat} {q : List Ck} (y : X) (hJ : J false (i + 1) y) (hj : jmp y = .ret) (hs : Sub m (c :: B false (i + 1) y) q) : G n w0 S l m (dq ds (rnd w0 S J B jmp c i .ret)) := fun a w ha hw =>
 ⟨y, hJ, hj, (hw.perm hs.perm).sub (List.sublist_append_left _ _)⟩
theorem I.asg {l' : Fr} {Q' : Exit → Act → World → Prop} (hl : Fw l l') : G n w0 S l m (dq [] (Exit.then (fun a w => At a n l' ∧ Hp w0 S w m) Q' .normal)) := fun a w ha hw => by
 unfold dq
 rw [da_nil ha]
 exact ⟨ha.weak hl, hw⟩
def recL (fn : FuncId) (tmps : Array Value) (p1 p2 : Nat) (assign body : Code) (D : Nat) (st : LoopState) (pe : Option Code) : Loop := { state := st, pending := pe, fn, tmps, params := #[p1, p2], assign, body, defers := D }
def stL (b : Bool) : LoopState := if b then .ready else .done
def peL {X : Type} (jmp : X → Code) (b : Bool) (x : X) : Option Code := if b then none else some (jmp x)
def cL {X : Type} (rc : LoopState → Option Code → Loop) (lp D : Nat) (B : Bool → Nat → X → List Ck) (jmp : X → Code) (b : Bool) (i : Nat) (x : X) : Ck := star (obc lp (.loop (rc (stL b) (peL jmp b x))) :: dfr D :: B b i x)
theorem I.fin {X : Type} {fnx p1 p2 D lp i : Nat} {tmps : Array Value} {assign body : Code} {J : Bool → Nat → X → Prop} {B : Bool → Nat → X → List Ck} {jmp : X → Code} {w1 w4 : World} {S1 : Nat → Prop} {b : Bool} {jump : Option Code} {y : X}
 (hJ : J b (i + 1) y) (hj : jump = peL jmp b y) (hH : Hp w1 S1 w4 (star [obc lp (.loop (recL fnx tmps p1 p2 assign body D .busy none)), dfr D] :: B b (i + 1) y)) :
 ∃ v w5, (Instr.endRound lp jump).run P w4 = .ok v w5 ∧ ∃ v' m', Ending.returned v = .returned v' ∧ TX (fun z : Bool × X => J z.1 (i + 1) z.2) (fun z => .bool z.1) (fun z => [cL (recL fnx tmps p1 p2 assign body D) lp D B jmp z.1 (i + 1) z.2]) v' m' ∧ Hp w1 S1 w5 m' := by
 have hH5 := Hp.unstar (m := [_, _]) hH
 have hl4 : w4.heap[lp]? = some (.loop (recL fnx tmps p1 p2 assign body D .busy none)) := hH5.holds _ (List.mem_cons_self ..)
 have her := run_endRound (P := P) jump hl4
 have ev : jump.isNone = b := by
  rw [hj]
  cases b <;> rfl
 have eR : ({ (recL fnx tmps p1 p2 assign body D .busy none) with state := if jump.isNone then .ready else .done, pending := jump } : Loop) = recL fnx tmps p1 p2 assign body D (stL b) (peL jmp b y) := by
  rw [ev, hj]
  rfl
 rw [eR, ev] at her
 have hH6 := Hp.putO (.loop (recL fnx tmps p1 p2 assign body D (stL b) (peL jmp b y))) hH5
 refine ⟨_, _, her, _, _, rfl, ⟨(b, y), hJ, rfl, rfl⟩, ?_⟩
 refine Hp.star (m := _ :: _ :: B b (i + 1) y) (r := []) ?_
 rw [List.append_nil]
 exact hH6
theorem I.round {X : Type} {fnx p1 p2 D lp i : Nat} {a : Act} {assign body : Code} {v1 v2 : Value} {l2 : Fr} {J : Bool → Nat → X → Prop} {B : Bool → Nat → X → List Ck} {jmp : X → Code} {x : X} (ha : At a n l) (hp1 : Nat.blt p1 n = true) (hp2 : Nat.blt p2 n = true)
 (hassign : ∀ w1 S1 m1, G n w1 S1 ((p2, v2) :: (p1, v1) :: l) m1 (dq [] (assign.wpIn (fR (some lp)) 0 P (Exit.then (fun a w => At a n l2 ∧ Hp w1 S1 w m1) (fun _ _ _ => False)))))
 (hbody : ∀ w1 S1 c, G n w1 S1 l2 (c :: B true i x) (dq [] (body.wpIn (fR (some lp)) 0 P (rnd w1 S1 J B jmp c i)))) :
 TrY P lp [v1, v2].toArray [cL (recL fnx a.tmps p1 p2 assign body D) lp D B jmp true i x] (TX (fun z : Bool × X => J z.1 (i + 1) z.2) (fun z => .bool z.1) (fun z => [cL (recL fnx a.tmps p1 p2 assign body D) lp D B jmp z.1 (i + 1) z.2])) := by
 intro w1 hw1
 have hds : a.defers = [] := ha.defs
 obtain ⟨S1, hS1⟩ : ∃ S1, U [cL (recL fnx a.tmps p1 p2 assign body D) lp D B jmp true i x] = S1 := ⟨_, rfl⟩
 rw [hS1] at hw1 ⊢
 have hu : Hp w1 S1 w1 (obc lp (.loop (recL fnx a.tmps p1 p2 assign body D .ready none)) :: dfr D :: B true i x) := by
  have := Hp.unstar hw1
  rw [List.append_nil] at this
  exact this
 have hl : w1.heap[lp]? = some (.loop (recL fnx a.tmps p1 p2 assign body D .ready none)) := hu.holds _ (List.mem_cons_self ..)
 have hy := run_yield (P := P) (args := #[v1, v2]) hl rfl
 refine ⟨_, _, _, _, hy, roundIn_of_wpIn (F := Fence.wide) trivial ?_⟩
 have hA : At (n := n) { tmps := (a.tmps.setIfInBounds p1 v1).setIfInBounds p2 v2, defers := [] } ((p2, v2) :: (p1, v1) :: l) := by
  have h2 := (ha.put hp1 v1).put hp2 v2
  have e : ((a.put (some p1) v1).put (some p2) v2) = { tmps := (a.tmps.setIfInBounds p1 v1).setIfInBounds p2 v2, defers := [] } := by
   simp [Act.put, hds]
  rwa [e] at h2
 have h3 := hassign w1 S1 _ _ w1 hA hu
 unfold dq at h3
 rw [da_nil hA] at h3
 have eT : ((#[p1, p2] : Array Nat).zip #[v1, v2]).foldl (fun t (x : Nat × Value) => t.setIfInBounds x.1 x.2) a.tmps = (a.tmps.setIfInBounds p1 v1).setIfInBounds p2 v2 := by simp
 show assign.wpIn (fR (some lp)) 0 P _ { tmps := ((#[p1, p2] : Array Nat).zip #[v1, v2]).foldl (fun t (x : Nat × Value) => t.setIfInBounds x.1 x.2) a.tmps, defers := [] } w1
 rw [eT]
 refine wpIn_mono h3 ?_
 intro e a1 w2 hq
 cases e with
 | exit id => exact hq.elim
 | goto t => exact hq.elim
 | ret => exact hq.elim
 | panic ch => exact hq.elim
 | outgrown => exact hq.elim
 | normal =>
  obtain ⟨hA1, hH1⟩ := hq
  have hl1 : w2.heap[lp]? = some (.loop (recL fnx a.tmps p1 p2 assign body D .ready none)) := hH1.holds _ (List.mem_cons_self ..)
  have hbr := run_beginRound (P := P) hl1 rfl
  refine ⟨_, hbr, ?_⟩
  have hH2 := Hp.putO (.loop (recL fnx a.tmps p1 p2 assign body D .busy none)) hH1
  have hH3 := Hp.star (m := [_, _]) (r := B true i x) hH2
  have h4 := hbody w1 S1 _ a1 _ hA1 hH3
  unfold dq at h4
  rw [da_nil hA1] at h4
  refine wpIn_mono h4 ?_
  intro e a2 w4 hq
  cases e with
  | normal =>
   obtain ⟨y, hJy, hH4⟩ := hq
   exact I.fin (b := true) hJy rfl hH4
  | ret =>
   obtain ⟨y, hJy, hj, hH4⟩ := hq
   exact I.fin (b := false) hJy (by rw [← hj]; rfl) hH4
  | exit k =>
   obtain ⟨y, hJy, hj, hH4⟩ := hq
   exact I.fin (b := false) hJy (by rw [← hj]; rfl) hH4
  | goto t => exact hq.elim
  | panic ch => exact hq.elim
  | outgrown => exact hq.elim
theorem I.rangeF {X : Type} {gf nn p1 p2 : Nat} {lb : Array Value} {ro pre q : List Ck} {encs : Nat → Value × Value} {g : Operand} {assign body : Code} {fn : Func} {c : Code}
 (J : Bool → Nat → X → Prop) (B : Bool → Nat → X → List Ck) (jmp : X → Code) (L2 : Nat → Fr) {x0 : X}
 (hg : ev l g = some (.func (.func gf) #[] lb)) (hf : P.funcs[gf]? = some fn) (hb : fn.body = some c) (hnm : (fn.name == "runtime.NumGoroutine") = false)
 (hseq : SeqT P gf lb ro pre nn (fun i => [(encs i).1, (encs i).2]))
 (hm : Sub m (B true 0 x0 ++ pre) q) (hro : ∀ c ∈ ro, May w0 S q c) (h0 : J true 0 x0)
 (hp1 : Nat.blt p1 n = true) (hp2 : Nat.blt p2 n = true)
 (hassign : ∀ w1 S1 lp m1 i, i < nn → G n w1 S1 ((p2, (encs i).2) :: (p1, (encs i).1) :: l) m1 (dq [] (assign.wpIn (fR (some lp)) 0 P (Exit.then (fun a w => At a n (L2 i) ∧ Hp w1 S1 w m1) (fun _ _ _ => False)))))
 (hbody : ∀ w1 S1 lp c i x, i < nn → J true i x → G n w1 S1 (L2 i) (c :: B true i x) (dq [] (body.wpIn (fR (some lp)) 0 P (rnd w1 S1 J B jmp c i))))
 (hdone : ∀ D x, J true nn x → G n w0 S l (dfr D :: (B true nn x ++ q)) (dq (mark D) (Q .normal)))
 (hstop : ∀ D i x, i ≤ nn → J false i x → G n w0 S l (dfr D :: (B false i x ++ q)) (dq (mark D) ((jmp x).wpIn (fR none) 0 P Q))) :
 G n w0 S l m (dq [] ((Code.rangeFunc g #[p1, p2] assign body).wpIn (fR none) 0 P Q)) := fun a w ha hw => by
 unfold dq
 rw [da_nil ha]
 have hds : a.defers = [] := ha.defs
 have hw' := hw.perm hm.perm
 refine wpIn_rangeFunc (F := fR none) (n := 0) ?_
 intro fnx _
 obtain ⟨W1, hW1⟩ : ∃ W1, (w.alloc (.deferred (some []))).alloc (.loop (recL fnx a.tmps p1 p2 assign body w.heap.size .ready none)) = W1 := ⟨_, rfl⟩
 have hp1W : Hp w0 S W1 (cL (recL fnx a.tmps p1 p2 assign body w.heap.size) (w.heap.size + 1) w.heap.size B jmp true 0 x0 :: pre ++ q) := by
  rw [← hW1]
  have h2 := (hw'.allocO (.deferred (some []))).allocO (.loop (recL fnx a.tmps p1 p2 assign body w.heap.size .ready none))
  rw [World.size_alloc, List.append_assoc] at h2
  exact Hp.star (m := _ :: _ :: B true 0 x0) (r := pre ++ q) h2
 have hT := hseq (w.heap.size + 1) X J (cL (recL fnx a.tmps p1 p2 assign body w.heap.size) (w.heap.size + 1) w.heap.size B jmp) x0 h0 fun i x hi hJ => I.round ha hp1 hp2 (fun w1 S1 m1 => hassign w1 S1 _ m1 i hi) (fun w1 S1 c => hbody w1 S1 _ c i x hi hJ)
 have hpp : Hp W1 (U (cL (recL fnx a.tmps p1 p2 assign body w.heap.size) (w.heap.size + 1) w.heap.size B jmp true 0 x0 :: pre)) W1 (cL (recL fnx a.tmps p1 p2 assign body w.heap.size) (w.heap.size + 1) w.heap.size B jmp true 0 x0 :: pre) := ⟨Chg.refl _ _, fun c hc => hp1W.holds c (List.mem_append_left _ hc), fun c hc b hb => ⟨.inl ⟨c, hc, hb⟩, (hp1W.own c (List.mem_append_left _ hc) b hb).2⟩, (List.pairwise_append.1 hp1W.dis).1⟩
 have hcall := hT W1 (fun c hc => (hro c hc).ro hp1W) hpp
 have henter : (Instr.enterLoop fnx a.tmps #[p1, p2] assign body (fR none).round).run P w = .ok (w.heap.size + 1, mark w.heap.size) W1 := by
  rw [← hW1]
  exact run_enterLoop_outer _ _ _ _ _
 have hres : (resolve a.eval (rangeCall g (w.heap.size + 1)) 0).run P W1 = .ok { target := .fn (.func gf) lb, args := #[.func (.yield (w.heap.size + 1)) #[] #[]] } W1 := by
  simp only [resolve, rangeCall, ha.eval hg]
  simp [Deferred.ofValue, Sem.run_bind, Sem.run_pure, Result.andThen, Act.eval, Sem.run]
 have hinv := run_invokeF (P := P) (args := #[.func (.yield (w.heap.size + 1)) #[] #[]]) (cap := lb) hf hb hnm W1
 have hz : (fR none).depth.isSome = true → 1 ≤ 0 := fun h => by simp [fR, Fence.wide] at h
 suffices hfin : CallsIn (fR none) 0 P gf (#[.func (.yield (w.heap.size + 1)) #[] #[]] ++ lb) W1 (rangePost (fR none) 0 P (w.heap.size + 1) Q { a with defers := mark w.heap.size ++ a.defers }) from
  ⟨w.heap.size + 1, mark w.heap.size, W1, _, W1, gf, _, W1, henter, hres, fun _ _ => trivial, hinv, hz, hfin⟩
 refine calls_fR (callsIn_wide.2 (hcall.mono ?_))
 rintro e w3 ⟨v, m', rfl, ⟨⟨b, i, y⟩, ⟨hJ, hle, hall⟩, rfl, rfl⟩, hm'⟩
 have hu2 := Hp.unstar (m := _ :: _ :: B b i y) (r := q) (hp1W.turn hm')
 have hl3 : w3.heap[w.heap.size + 1]? = some (.loop (recL fnx a.tmps p1 p2 assign body w.heap.size (stL b) (peL jmp b y))) := hu2.holds _ (List.mem_cons_self ..)
 have hend := run_endLoop (P := P) hl3 (by cases b <;> simp [recL, stL])
 have hu3 := (Hp.putO (.loop { recL fnx a.tmps p1 p2 assign body w.heap.size (stL b) (peL jmp b y) with state := .exhausted }) hu2).tail
 have eD : ({ a with defers := mark w.heap.size ++ a.defers } : Act) = da (mark w.heap.size) a := by
  unfold da
  rw [hds]
  rfl
 refine ⟨_, _, hend, ?_⟩
 rw [eD]
 cases b with
 | true =>
  have hJ' : i = nn := hall rfl
  subst hJ'
  exact hdone _ y hJ a _ ha hu3
 | false => exact hstop _ i y hle hJ a _ ha hu3
theorem I.rangeK {X : Type} {gf nn p1 p2 : Nat} {lb : Array Value} {ro pre q : List Ck} {encs : Nat → Value × Value} {g : Operand} {assign body : Code} {fn : Func} {c : Code}
 (J : Bool → Nat → X → Prop) (B : Bool → Nat → X → List Ck) (jmp : X → Code) (A : Nat → Fr) {x0 : X} {ts : List Nat} {l1 : Fr} {L2 : Nat → Fr}
 (hg : ev l g = some (.func (.func gf) #[] lb)) (hf : P.funcs[gf]? = some fn) (hb : fn.body = some c) (hnm : (fn.name == "runtime.NumGoroutine") = false)
 (hseq : SeqT P gf lb ro pre nn (fun i => [(encs i).1, (encs i).2]))
 (hm : Sub m (B true 0 x0 ++ pre) q) (hro : ∀ c ∈ ro, May w0 S q c) (h0 : J true 0 x0)
 (hp1 : Nat.blt p1 n = true) (hp2 : Nat.blt p2 n = true) (hk : Kp l ts l1) (hL : Ap A l1 L2)
 (hassign : ∀ w1 S1 lp m1 i, i < nn → G n w1 S1 ((p2, (encs i).2) :: (p1, (encs i).1) :: l) m1 (dq [] (assign.wpIn (fR (some lp)) 0 P (Exit.then (fun a w => At a n (L2 i) ∧ Hp w1 S1 w m1) (fun _ _ _ => False)))))
 (hbody : ∀ w1 S1 lp c i x, i < nn → J true i x → G n w1 S1 (L2 i) (c :: B true i x) (dq [] (body.wpIn (fR (some lp)) 0 P (rnd w1 S1 J B jmp c i))))
 (hdone : ∀ D x, J true nn x → G n w0 S l (dfr D :: (B true nn x ++ q)) (dq (mark D) (Q .normal)))
 (hstop : ∀ D i x, i ≤ nn → J false i x → G n w0 S l (dfr D :: (B false i x ++ q)) (dq (mark D) ((jmp x).wpIn (fR none) 0 P Q))) :
 G n w0 S l m (dq [] ((Code.rangeFunc g #[p1, p2] assign body).wpIn (fR none) 0 P Q)) :=
 I.rangeF J B jmp L2 hg hf hb hnm hseq hm hro h0 hp1 hp2 hassign hbody hdone hstop
theorem Tr.ofM {f : FuncId} {args : Array Value} {ro pre : List Ck} {post : Value → List Ck → Prop} {fn : Func} {c : Code} {n : Nat} {l : Fr} (hf : P.funcs[f]? = some fn) (hb : fn.body = some c) (hn : args.size + (fn.ntmps - args.size) = n) (hl : Fa args l)
 (h : ∀ w0, (∀ c ∈ ro, Ro w0 (U pre) c) → G n w0 (U pre) l pre (dq [] (c.wpIn (fR none) 0 P (bodyPostM (fR none) 0 P fn (TrR w0 pre post))))) : Tr P f args ro pre post := fun w hro hp => by
 refine (callsIn_wide (n := 0)).1 (calls_wide (r := none) (callsIn_of_wp_marks hf hb trivial ?_))
 have hA : At { tmps := args ++ Array.replicate (fn.ntmps - args.size) undef, defers := [] } n l := ⟨by simp [hn], rfl, fun t v ht => by
  have := hl.get t v ht
  rw [Array.getElem?_append_left]
  ·exact this
  ·exact (Array.getElem?_eq_some_iff.1 this).1⟩
 exact h w hro _ _ hA hp
theorem I.leave {fn : Func} {R : Ending → World → Prop} {D : Nat} {q : List Ck} {rs : List ResultVar} {vs : List Value} (hr : fn.results = rs.toArray) (hs : Sel m (dfr D) q) (hv : Rv P w0 S l q rs vs) (h : ∀ w, Hp w0 S w q → R (.returned (retV vs)) w) : G n w0 S l m (dq (mark D) (bodyPostM (fR none) 0 P fn R .ret)) := fun a w ha hw => by
 have hw2 := hw.sel hs
 show LeavesInM (fR none) 0 P fn a.tmps R (a.defers ++ mark D) .returning w
 rw [ha.defs]
 have hw3 := (Hp.putO (.deferred none) hw2).tail
 exact ⟨by simp, .inl ⟨D, _, rfl, run_takeDeferred (hw2.holds _ (List.mem_cons_self ..)), _, hv.results hr ha hw3, h _ hw3⟩⟩
theorem I.leave0 {fn : Func} {R : Ending → World → Prop} {rs : List ResultVar} {vs : List Value} (hr : fn.results = rs.toArray) (hv : Rv P w0 S l m rs vs) (h : ∀ w, Hp w0 S w m → R (.returned (retV vs)) w) : G n w0 S l m (dq [] (bodyPostM (fR none) 0 P fn R .ret)) := fun a w ha hw => by
 show LeavesInM (fR none) 0 P fn a.tmps R (a.defers ++ []) .returning w
 rw [ha.defs]
 exact ⟨_, hv.results hr ha hw, h _ hw⟩
section
variable {X : Type} {J : X → Prop} {V : X → Value} {M : X → List Ck} {fn : Func} {pre q q2 : List Ck} {rs : List ResultVar} {vs : List Value} {D : Nat} {v : Value}
theorem I.doneM (x : X) (hJ : J x) (hr : fn.results = rs.toArray) (hs : Sel m (dfr D) q) (hv : Rv P w0 (U pre) l q rs vs) (he : retV vs = V x) (hm : Sub q (M x) q2) : G n w0 (U pre) l m (dq (mark D) (bodyPostM (fR none) 0 P fn (TrR w0 pre (TX J V M)) .ret)) :=
 I.leave hr hs hv fun w hw => ⟨_, M x, rfl, ⟨x, hJ, he, rfl⟩, (hw.perm hm.perm).sub (List.sublist_append_left _ _)⟩
theorem I.doneT (hr : fn.results = rs.toArray) (hs : Sel m (dfr D) q) (hv : Rv P w0 (U pre) l q rs vs) (he : retV vs = v) : G n w0 (U pre) l m (dq (mark D) (bodyPostM (fR none) 0 P fn (TrR w0 pre (T0 v)) .ret)) :=
 I.leave hr hs hv fun w hw => ⟨_, [], rfl, ⟨he, rfl⟩, hw.sub (List.nil_sublist _)⟩
theorem I.doneT0 (hr : fn.results = rs.toArray) (hv : Rv P w0 (U pre) l m rs vs) (he : retV vs = v) : G n w0 (U pre) l m (dq [] (bodyPostM (fR none) 0 P fn (TrR w0 pre (T0 v)) .ret)) :=
 I.leave0 hr hv fun w hw => ⟨_, [], rfl, ⟨he, rfl⟩, hw.sub (List.nil_sublist _)⟩
theorem I.doneI (x : X) (hJ : J x) (hr : fn.results = #[]) (he : .tuple #[] = V x) (hm : Sub m (M x) q2) : G n w0 (U pre) l m (dq [] (bodyPost P fn (TrR w0 pre (TX J V M)) .normal)) := I.stop (G.doneXE x hJ hr he hm)
theorem I.doneIr (x : X) (hJ : J x) (hr : fn.results = #[]) (he : .tuple #[] = V x) (hm : Sub m (M x) q2) : G n w0 (U pre) l m (dq [] (bodyPost P fn (TrR w0 pre (TX J V M)) .ret)) := I.stop (G.doneX0 x hJ hr he hm)
end
end
end Go.Proofs.YtngbglhmiefcpaaGreat
set_option maxRecDepth 100000
namespace Go.Proofs.YtngbglhmiefcpaaGreat
open Go.RowKit
section
open Go.RowKit
variable {w0 : World} {S : Nat → Prop} {m : List Ck}
theorem subT {p r : List Ck} (h : Sub m p r := by repeat (first | exact Sub.nil | (apply Sub.cons; (repeat (first | with_reducible exact Sel.here | exact Sel.here | apply Sel.there))))) : Sub m p r := h
theorem selD {c : Ck} {r : List Ck} (h : Sel m c r := by (repeat (first | with_reducible exact Sel.here | exact Sel.here | apply Sel.there)); done) : Sel m c r := h
theorem selT {c : Ck} {r : List Ck} (h : Sel m c r := by repeat (first | with_reducible exact Sel.here | exact Sel.here | apply Sel.there)) : Sel m c r := h
theorem celT {b o : Nat} {v : Value} (h : ∀ w, Hp w0 S w m → w.cell? ⟨b, o, none⟩ = some v := by first | exact blk_cell (by (repeat (first | with_reducible exact Sel.here | exact Sel.here | apply Sel.there)); done) (by rfl) | exact rng_cell (by (repeat (first | with_reducible exact Sel.here | exact Sel.here | apply Sel.there)); done) (by rfl) | exact ro_blk (by assumption) (by rfl) | exact ro_rngC (by assumption) (by rfl) | exact ro_int (by assumption) | exact ro_byte (by assumption) | exact ro_str (by assumption) | with_reducible assumption | assumption) : ∀ w, Hp w0 S w m → w.cell? ⟨b, o, none⟩ = some v := h
theorem flT {pl : List (Nat × Nat)} {cs cs' : List Value} {ps : List (Nat × Value)} (h : Fl pl cs ps cs' := by repeat (first | exact Fl.nil | (apply Fl.cons; exact rfl; (first | exact cells_of (by first | rfl | with_reducible assumption) | exact rfl); exact rfl; exact rfl; repeat (first | exact Sn.nil | (apply Sn.cons; repeat (first | exact St.zero | apply St.succ)))))) : Fl pl cs ps cs' := h
theorem veqT {a b : Value} (h : a = b := by first | rfl | exact int_eq (by first | omega | (dsimp only; omega)) | exact congrArg _ (by omega)) : a = b := h
theorem allT {vs : List Value} (h : vs.all (·.oneCell') = true := by first | ((repeat (first | exact all1_nil | (apply all1_cons; first | rfl | with_reducible assumption))); done) | exact List.all_eq_true.2 (vByte_one _) | rfl) : vs.all (·.oneCell') = true := h
theorem eqT {α : Sort _} {a b : α} (h : a = b := by first | rfl | with_reducible assumption) : a = b := h
theorem leT {a b : Nat} (h : a ≤ b := by first | (simp; done) | exact Nat.le_of_ble_eq_true rfl) : a ≤ b := h
theorem trT {p : Prop} (h : p := by first | exact trivial | ((try dsimp only) <;> exact trivial)) : p := h
theorem kr {α : Sort _} {a b : α} (h : a = b := by kernel_rfl) : a = b := h
theorem apT {X α : Type} {a c : X → List α} {b : List α} (h : Ap a b c := by repeat (first | exact Ap.nil | apply Ap.cons)) : Ap a b c := h
end
section
open Go.RowKit
variable {P : Program} {n : Nat} {w0 : World} {S : Nat → Prop} {l : Fr} {m : List Ck} {Q : Exit → Act → World → Prop} {ty : TypeId} {pos : String} {after : Array Edge}
theorem G.mvT {ops : Array Oper} {d : Nat} {x : Operand} {v : Value} {rest : List Oper} (hn : Nat.blt d n = true) (hx : ev l x = some v) (h : G n w0 S ((d, v) :: l) m (wpList P ops Q rest)) : G n w0 S l m (wpList P ops Q (⟨some d, .move x, ty, pos, after, none⟩ :: rest)) := G.op rfl (G.val rfl hn (pv_move hx) h)
theorem G.asT {ops : Array Oper} {d : Nat} {x : Operand} {v : Value} {rest : List Oper} (hn : Nat.blt d n = true) (hx : ev l x = some v) (h : G n w0 S ((d, v) :: l) m (wpList P ops Q rest)) : G n w0 S l m (wpList P ops Q (⟨some d, .assign x, ty, pos, after, none⟩ :: rest)) := G.op rfl (G.val rfl hn (pv_assign hx) h)
end
section
open Go.RowKit
structure Ar (cs : List Nat) (p q : Prop) : Prop where
 go : q → p
variable {P : Program} {n : Nat} {w0 : World} {S : Nat → Prop} {l : Fr} {m mS r : List Ck} {Q : Exit → Act → World → Prop} {K : Act → World → Prop} {ty : TypeId} {pos : String} {after : Array Edge} {cs c1 : List Nat} {q : Prop}
 {dst : Option Tmp} {g : Option (Nat × Bool)} {rest : List Oper} {ops : Array Oper} {o oi : Oper} {d i j t nn fuel rem rem' : Nat} {v : Value} {deps frs : List Nat}
def szB (P : Program) (t : TypeId) : Bool := match P.info? t with
 | some i => Nat.blt 0 i.size
 | none => false
theorem szB_spec (h : szB P t = true) : ∃ s, (P.info? t).map (·.size) = some (s + 1) := by
 unfold szB at h
 split at h
 ·rename_i i e
  have h2 : 0 < i.size := by simpa using h
  exact ⟨i.size - 1, by rw [e]; simp; omega⟩
 ·cases h
structure Pc (c c1 : List Nat) (P : Program) (n : Nat) (w0 : World) (S : Nat → Prop) (l : Fr) (m : List Ck) (o : Oper) (v : Value) : Prop where
 pv : PV P n w0 S l m o v
theorem Pc.mv {x : Operand} (hx : ev l x = some v) : Pc (0 :: cs) cs P n w0 S l m ⟨dst, .move x, ty, pos, after, g⟩ v := ⟨pv_move hx⟩
theorem Pc.as {x : Operand} (hx : ev l x = some v) : Pc (1 :: cs) cs P n w0 S l m ⟨dst, .assign x, ty, pos, after, g⟩ v := ⟨pv_assign hx⟩
theorem Pc.pk {c x y : Operand} {b : Bool} (hc : ev l c = some (.bool b)) (hv : ev l (if b then x else y) = some v) : Pc (2 :: cs) cs P n w0 S l m ⟨dst, .pick c x y, ty, pos, after, g⟩ v := ⟨pv_pick hc hv⟩
theorem Pc.fk {b o i k : Nat} {t : TypeId} {x : Operand} {fs : Array Field} {f : Field} (hu : P.underlying t = some (.struct fs)) (hf : fs[i]? = some f) (hsz : szB P f.type = true) (hx : ev l x = some (.pointer (some ⟨b, o, none⟩))) (hk : f.offset = k) : Pc (3 :: k :: cs) cs P n w0 S l m ⟨dst, .fieldAddr t x i, ty, pos, after, g⟩ (.pointer (some ⟨b, o + k, none⟩)) := by
 obtain ⟨s, hs⟩ := szB_spec hsz
 exact ⟨pv_fieldAddrK hu hf hs hx hk⟩
theorem Pc.ld {t : TypeId} {x : Operand} {b o : Nat} {d : TypeDesc} (hu : P.underlying t = some d) (hd : d.isRow = false) (hx : ev l x = some (.pointer (some ⟨b, o, none⟩))) (hc : ∀ w, Hp w0 S w m → w.cell? ⟨b, o, none⟩ = some v) : Pc (4 :: cs) cs P n w0 S l m ⟨dst, .load t x, ty, pos, after, g⟩ v := ⟨pv_load hu hd hx hc⟩
theorem Pc.ln {ad : Option Addr} {len cap : Nat} {t e : TypeId} {x : Operand} (hu : P.underlying t = some (.slice e)) (hx : ev l x = some (.slice ad len cap)) : Pc (5 :: cs) cs P n w0 S l m ⟨dst, .call ⟨.builtin .len, #[x], #[t]⟩, ty, pos, after, g⟩ (.int .i64 len) := ⟨pv_lenSl hu hx⟩
theorem Pc.ad {a b : Int} {t u : TypeId} {x y : Operand} (hx : ev l x = some (.int .i64 a)) (hy : ev l y = some (.int .i64 b)) (h : -9223372036854775808 ≤ a + b ∧ a + b ≤ 9223372036854775807) : Pc (6 :: cs) cs P n w0 S l m ⟨dst, .binOp .add t x y u, ty, pos, after, g⟩ (.int .i64 (a + b)) := ⟨pv_add64 hx hy h⟩
theorem Pc.ex {x : Operand} {i : Nat} {vs : Array Value} (hx : ev l x = some (.tuple vs)) (hi : vs[i]? = some v) : Pc (7 :: cs) cs P n w0 S l m ⟨dst, .extract x i, ty, pos, after, g⟩ v := ⟨pv_extract hx hi⟩
theorem Pc.nc {x : Operand} {ad : Addr} (hx : ev l x = some (.pointer (some ad))) : Pc (8 :: cs) cs P n w0 S l m ⟨dst, .nilCheck x, ty, pos, after, g⟩ (.pointer (some ad)) := ⟨pv_nilCheck hx⟩
theorem Pc.lss {k : IntKind} {a b : Int} {t u : TypeId} {x y : Operand} (hx : ev l x = some (.int k a)) (hy : ev l y = some (.int k b)) : Pc (9 :: cs) cs P n w0 S l m ⟨dst, .binOp .lss t x y u, ty, pos, after, g⟩ (.bool (decide (a < b))) := ⟨pv_lss hx hy⟩
theorem Pc.gtr {k : IntKind} {a b : Int} {t u : TypeId} {x y : Operand} (hx : ev l x = some (.int k a)) (hy : ev l y = some (.int k b)) : Pc (10 :: cs) cs P n w0 S l m ⟨dst, .binOp .gtr t x y u, ty, pos, after, g⟩ (.bool (decide (b < a))) := ⟨pv_gtr hx hy⟩
theorem Pc.leq {k : IntKind} {a b : Int} {t u : TypeId} {x y : Operand} (hx : ev l x = some (.int k a)) (hy : ev l y = some (.int k b)) : Pc (11 :: cs) cs P n w0 S l m ⟨dst, .binOp .leq t x y u, ty, pos, after, g⟩ (.bool (decide (a ≤ b))) := ⟨pv_leq hx hy⟩
theorem Pc.geq {k : IntKind} {a b : Int} {t u : TypeId} {x y : Operand} (hx : ev l x = some (.int k a)) (hy : ev l y = some (.int k b)) : Pc (12 :: cs) cs P n w0 S l m ⟨dst, .binOp .geq t x y u, ty, pos, after, g⟩ (.bool (decide (b ≤ a))) := ⟨pv_geq hx hy⟩
theorem Pc.eql {k : IntKind} {a b : Int} {t u : TypeId} {x y : Operand} (hx : ev l x = some (.int k a)) (hy : ev l y = some (.int k b)) : Pc (13 :: cs) cs P n w0 S l m ⟨dst, .binOp .eql t x y u, ty, pos, after, g⟩ (.bool (decide (a = b))) := ⟨pv_eql hx hy⟩
theorem Pc.neq {k : IntKind} {a b : Int} {t u : TypeId} {x y : Operand} (hx : ev l x = some (.int k a)) (hy : ev l y = some (.int k b)) : Pc (14 :: cs) cs P n w0 S l m ⟨dst, .binOp .neq t x y u, ty, pos, after, g⟩ (.bool (decide (a ≠ b))) := ⟨pv_neq hx hy⟩
theorem Pc.np {p : Prop} [Decidable p] {t : TypeId} {x : Operand} (hx : ev l x = some (.bool (decide p))) : Pc (15 :: cs) cs P n w0 S l m ⟨dst, .unOp .not t x, ty, pos, after, g⟩ (.bool (decide (¬ p))) := ⟨pv_notP hx⟩
theorem Pc.fa {b o i : Nat} {t : TypeId} {x : Operand} {fs : Array Field} {f : Field} (hu : P.underlying t = some (.struct fs)) (hf : fs[i]? = some f) (hsz : szB P f.type = true) (hx : ev l x = some (.pointer (some ⟨b, o, none⟩))) : Pc (16 :: cs) cs P n w0 S l m ⟨dst, .fieldAddr t x i, ty, pos, after, g⟩ (.pointer (some ⟨b, o + f.offset, none⟩)) := by
 obtain ⟨s, hs⟩ := szB_spec hsz
 exact ⟨pv_fieldAddr hu hf hs hx⟩
theorem Pc.su {a b : Int} {t u : TypeId} {x y : Operand} (hx : ev l x = some (.int .i64 a)) (hy : ev l y = some (.int .i64 b)) (h : -9223372036854775808 ≤ a - b ∧ a - b ≤ 9223372036854775807) : Pc (19 :: cs) cs P n w0 S l m ⟨dst, .binOp .sub t x y u, ty, pos, after, g⟩ (.int .i64 (a - b)) := ⟨pv_sub64 hx hy h⟩
theorem Pc.ix {b off len cap k : Nat} (sz : Nat) {ad : Option Addr} {j : Int} {kd : IntKind} {t e : TypeId} {x i : Operand} (hu : P.underlying t = some (.slice e)) (hsz : (P.info? e).map (·.size) = some sz) (hx : ev l x = some (.slice ad len cap)) (hi : ev l i = some (.int kd j)) (ha' : 0 < len → ad = some ⟨b, off, none⟩) (hj : j = (k : Int)) (hk : k < len) : Pc (20 :: sz :: cs) cs P n w0 S l m ⟨dst, .indexAddr t x i, ty, pos, after, g⟩ (.pointer (some ⟨b, off + k * sz, none⟩)) := ⟨pv_ixSl hu hsz hx hi ha' hj hk⟩
theorem Pc.lS {a : List UInt8} {t : TypeId} {x : Operand} (hu : P.underlying t = some .string) (hx : ev l x = some (.string (sB a))) : Pc (21 :: cs) cs P n w0 S l m ⟨dst, .call ⟨.builtin .len, #[x], #[t]⟩, ty, pos, after, g⟩ (.int .i64 a.length) := ⟨pv_lenS hu hx⟩
theorem Pc.xS {a : List UInt8} {k : Nat} {j : Int} {kd : IntKind} {t : TypeId} {x i : Operand} (hu : P.underlying t = some .string) (hx : ev l x = some (.string (sB a))) (hi : ev l i = some (.int kd j)) (hj : j = (k : Int)) (hk : k < a.length) : Pc (22 :: cs) cs P n w0 S l m ⟨dst, .index t x i, ty, pos, after, g⟩ (.int .u8 (a[k].toNat : Int)) := ⟨pv_ixS hu hx hi hj hk⟩
theorem Pc.nS {a b : List UInt8} {t u : TypeId} {x y : Operand} (hx : ev l x = some (.string (sB a))) (hy : ev l y = some (.string (sB b))) : Pc (23 :: cs) cs P n w0 S l m ⟨dst, .binOp .neq t x y u, ty, pos, after, g⟩ (.bool (decide (a ≠ b))) := ⟨pv_neqS hx hy⟩
theorem Pc.eS {a b : List UInt8} {t u : TypeId} {x y : Operand} (hx : ev l x = some (.string (sB a))) (hy : ev l y = some (.string (sB b))) : Pc (24 :: cs) cs P n w0 S l m ⟨dst, .binOp .eql t x y u, ty, pos, after, g⟩ (.bool (decide (a = b))) := ⟨pv_eqlS hx hy⟩
theorem Pc.no {b : Bool} {t : TypeId} {x : Operand} (hx : ev l x = some (.bool b)) : Pc (25 :: cs) cs P n w0 S l m ⟨dst, .unOp .not t x, ty, pos, after, g⟩ (.bool (!b)) := ⟨pv_not hx⟩
theorem Pc.mf {fn : Fn} {first captured : Array Operand} {vs us : List Value} (h1 : evs l first.toList = some vs) (h2 : evs l captured.toList = some us) : Pc (26 :: cs) cs P n w0 S l m ⟨dst, .makeFunc fn first captured, ty, pos, after, g⟩ (.func fn vs.toArray us.toArray) := ⟨pv_makeFunc h1 h2⟩
theorem Ar.nil {p : Prop} : Ar [] p p := ⟨id⟩
theorem Ar.mv {x : Operand} (hn : Nat.blt d n = true) (hx : ev l x = some v) (h : Ar cs (G n w0 S ((d, v) :: l) m (wpList P ops Q rest)) q) : Ar (0 :: cs) (G n w0 S l m (wpList P ops Q (⟨some d, .move x, ty, pos, after, none⟩ :: rest))) q := ⟨fun k => G.mvT hn hx (h.go k)⟩
theorem Ar.as {x : Operand} (hn : Nat.blt d n = true) (hx : ev l x = some v) (h : Ar cs (G n w0 S ((d, v) :: l) m (wpList P ops Q rest)) q) : Ar (1 :: cs) (G n w0 S l m (wpList P ops Q (⟨some d, .assign x, ty, pos, after, none⟩ :: rest))) q := ⟨fun k => G.asT hn hx (h.go k)⟩
theorem Ar.op (hg : o.guard = none) (hd : o.dst = some d) (hn : Nat.blt d n = true) (hv : Pc cs c1 P n w0 S l m o v) (h : Ar c1 (G n w0 S ((d, v) :: l) m (wpList P ops Q rest)) q) : Ar (2 :: cs) (G n w0 S l m (wpList P ops Q (o :: rest))) q := ⟨fun k => G.op hg (G.val hd hn hv.pv (h.go k))⟩
theorem Ar.wa {b : Bool} (hg : o.guard = some (j, b)) (hj : (ops[j]?).bind (·.dst) = some t) (ht : Fr.get l t = some (.bool b)) (hd : o.dst = some d) (hn : Nat.blt d n = true) (hv : Pc cs c1 P n w0 S l m o v) (h : Ar c1 (G n w0 S ((d, v) :: l) m (wpList P ops Q rest)) q) : Ar (3 :: cs) (G n w0 S l m (wpList P ops Q (o :: rest))) q := ⟨fun k => G.want hg hj ht (G.val hd hn hv.pv (h.go k))⟩
theorem Ar.pa {b c : Bool} (hg : o.guard = some (j, b)) (hj : (ops[j]?).bind (·.dst) = some t) (ht : Fr.get l t = some (.bool c)) (hbc : Bool.xor b c = true) (hd : o.dst = some d) (hn : Nat.blt d n = true) (h : Ar cs (G n w0 S ((d, undef) :: l) m (wpList P ops Q rest)) q) : Ar (4 :: cs) (G n w0 S l m (wpList P ops Q (o :: rest))) q := ⟨fun k => G.pass hg hj ht hbc hd hn (h.go k)⟩
theorem Ar.pu {b : Bool} (hg : o.guard = some (j, b)) (hj : (ops[j]?).bind (·.dst) = some t) (ht : Fr.get l t = some undef) (hd : o.dst = some d) (hn : Nat.blt d n = true) (h : Ar cs (G n w0 S ((d, undef) :: l) m (wpList P ops Q rest)) q) : Ar (6 :: cs) (G n w0 S l m (wpList P ops Q (o :: rest))) q := ⟨fun k => G.passU hg hj ht hd hn (h.go k)⟩
theorem Ar.nl (h : Ar cs (G n w0 S l m (Q .normal)) q) : Ar (7 :: cs) (G n w0 S l m (wpList P ops Q [])) q := ⟨fun k => G.nil (h.go k)⟩
theorem Ar.nt (h : Ar cs (G n w0 S l m K) q) : Ar (8 :: cs) (G n w0 S l m (Exit.then K Q .normal)) q := ⟨fun k => G.nThen (h.go k)⟩
theorem Ar.sq {x y : Code} (h : Ar cs (G n w0 S l m (x.wp P (Exit.then (y.wp P Q) Q))) q) : Ar (9 :: cs) (G n w0 S l m ((Code.seq x y).wp P Q)) q := ⟨fun k => G.seq (h.go k)⟩
theorem Ar.rg {id : Nat} {ops : List Oper} (h : Ar cs (G n w0 S l m (wpList P ops.toArray Q ops)) q) : Ar (10 :: cs) (G n w0 S l m ((Code.region id ops.toArray false).wp P Q)) q := ⟨fun k => G.region (h.go k)⟩
theorem Ar.re (h : Ar cs (G n w0 S l m (Q .ret)) q) : Ar (11 :: cs) (G n w0 S l m (Code.ret.wp P Q)) q := ⟨fun k => G.ret (h.go k)⟩
theorem Ar.rt (h : Ar cs (G n w0 S l m (Q .ret)) q) : Ar (12 :: cs) (G n w0 S l m (Exit.then K Q .ret)) q := ⟨fun k => G.rThen (h.go k)⟩
theorem Ar.sk (h : Ar cs (G n w0 S l m (Q .normal)) q) : Ar (13 :: cs) (G n w0 S l m (Code.skip.wp P Q)) q := ⟨fun k => G.skip (h.go k)⟩
theorem Ar.et {id : Nat} (h : Ar cs (G n w0 S l m (Q (.exit id))) q) : Ar (14 :: cs) (G n w0 S l m (Exit.then K Q (.exit id))) q := ⟨fun k => G.eThen (h.go k)⟩
theorem Ar.bl {id : Nat} {c : Code} (h : Ar cs (G n w0 S l m (c.wp P (Exit.inBlock id Q))) q) : Ar (15 :: cs) (G n w0 S l m ((Code.block id c).wp P Q)) q := ⟨fun k => G.block (h.go k)⟩
theorem Ar.nb {id : Nat} (h : Ar cs (G n w0 S l m (Q .normal)) q) : Ar (16 :: cs) (G n w0 S l m (Exit.inBlock id Q .normal)) q := ⟨fun k => G.nBlock (h.go k)⟩
theorem Ar.rb {id : Nat} (h : Ar cs (G n w0 S l m (Q .ret)) q) : Ar (17 :: cs) (G n w0 S l m (Exit.inBlock id Q .ret)) q := ⟨fun k => G.rBlock (h.go k)⟩
theorem Ar.xi {id : Nat} (h : Ar cs (G n w0 S l m (Q (.exit id))) q) : Ar (18 :: cs) (G n w0 S l m ((Code.exit id).wp P Q)) q := ⟨fun k => G.exit (h.go k)⟩
theorem Ar.eb {id : Nat} (h : Ar cs (G n w0 S l m (Q .normal)) q) : Ar (19 :: cs) (G n w0 S l m (Exit.inBlock id Q (.exit id))) q := ⟨fun k => G.eBlock (h.go k)⟩
theorem Ar.sN {t : TypeId} {x y : Operand} {b o : Nat} {T : TypeId} {us vs : List Value} (hi : (P.info? t).map (·.size) = some vs.length) (hx : ev l x = some (.pointer (some ⟨b, o, none⟩))) (hy : ev l y = some (.agg vs.toArray)) (hv : vs.all (·.oneCell') = true) (hs : Sel m (blk b T us) r) (ho : o + vs.length ≤ us.length)
 (h : Ar cs (G n w0 S l (blk b T (putN us o vs) :: r) (wpList P ops Q rest)) q) : Ar (20 :: cs) (G n w0 S l m (wpList P ops Q (⟨none, .store t x y, ty, pos, after, none⟩ :: rest))) q := ⟨fun k => G.op rfl (G.storeN hi hx hy hv hs ho (h.go k))⟩
theorem Ar.so {t : TypeId} {x y : Operand} {b o : Nat} {T : TypeId} {us : List Value} (hi : (P.info? t).map (·.size) = some 1) (hx : ev l x = some (.pointer (some ⟨b, o, none⟩))) (hy : ev l y = some v) (hv : v.oneCell' = true) (hs : Sel m (blk b T us) r) (ho : o < us.length)
 (h : Ar cs (G n w0 S l (blk b T (us.set o v) :: r) (wpList P ops Q rest)) q) : Ar (21 :: cs) (G n w0 S l m (wpList P ops Q (⟨none, .store t x y, ty, pos, after, none⟩ :: rest))) q := ⟨fun k => G.op rfl (G.store hi hx hy hv hs ho (h.go k))⟩
theorem Ar.tk (i rem' : Nat) (hT : Tab ops deps frs nn) (hi : ops[i]? = some oi) (hd : oi.dst = some d) (hn : Nat.blt d n = true) (hk : tkB deps frs rem i rem' = true) (hQ : ∀ c a w, Q (.panic c) (a.put oi.dst v) w → Q (.panic c) a w) (hw : wantB ops l oi = some true) (hv : Pc cs c1 P n w0 S l mS oi v) (hs : Sub m mS r)
 (h : Ar c1 (G n w0 S ((d, v) :: l) m (GA P ops Q (fun w => Hp w0 S w mS) nn fuel rem')) q) : Ar (22 :: i :: rem' :: cs) (G n w0 S l m (GA P ops Q (fun w => Hp w0 S w mS) nn (fuel + 1) rem)) q := ⟨fun k => G.takeT hT hi hd hn hk hQ hw hv.pv hs (h.go k)⟩
theorem Ar.tf (i rem' : Nat) (hT : Tab ops deps frs nn) (hi : ops[i]? = some oi) (hd : oi.dst = some d) (hn : Nat.blt d n = true) (hk : tkB deps frs rem i rem' = true) (hQ : ∀ c a w, Q (.panic c) (a.put oi.dst undef) w → Q (.panic c) a w) (hw : wantB ops l oi = some false) (hs : Sub m mS r)
 (h : Ar cs (G n w0 S ((d, undef) :: l) m (GA P ops Q (fun w => Hp w0 S w mS) nn fuel rem')) q) : Ar (23 :: i :: rem' :: cs) (G n w0 S l m (GA P ops Q (fun w => Hp w0 S w mS) nn (fuel + 1) rem)) q := ⟨fun k => G.takeFT hT hi hd hn hk hQ hw hs (h.go k)⟩
theorem Ar.on {Sx : World → Prop} (i rem' : Nat) (hT : Tab ops deps frs nn) (hr : rdB deps rem [i] = true) (hb : rmB rem i rem' = true) (h : Ar cs (G n w0 S l m (wpOp P ops Q i (fun a w => Sx w ∧ GA P ops Q Sx nn fuel rem' a w))) q) : Ar (24 :: i :: rem' :: cs) (G n w0 S l m (GA P ops Q Sx nn (fuel + 1) rem)) q := ⟨fun k => G.oneT hT hr hb (h.go k)⟩
theorem Ar.tu (hi : ops[i]? = some oi) (hw : wantB ops l oi = some true) (hd : oi.dst = some d) (hn : Nat.blt d n = true) (hv : Pc cs c1 P n w0 S l m oi v) (h : Ar c1 (G n w0 S ((d, v) :: l) m K) q) : Ar (25 :: cs) (G n w0 S l m (wpOp P ops Q i K)) q := ⟨fun k => G.turnOp hi hw (G.val hd hn hv.pv (h.go k))⟩
theorem Ar.bk (hs : Sub m mS r) (h : Ar cs (G n w0 S l m K) q) : Ar (26 :: cs) (G n w0 S l m (fun a w => Hp w0 S w mS ∧ K a w)) q := ⟨fun k => G.back hs (h.go k)⟩
theorem Ar.ov {Sx : World → Prop} (hT : Tab ops deps frs nn) (hr : rdB deps rem [] = true) (h : Ar cs (G n w0 S l m (Q .normal)) q) : Ar (27 :: cs) (G n w0 S l m (GA P ops Q Sx nn fuel rem)) q := ⟨fun k => G.overT hT hr (h.go k)⟩
theorem Ar.tN {t : TypeId} {x y : Operand} {b o : Nat} {T : TypeId} {us vs : List Value} (ho' : ops[i]? = some ⟨none, .store t x y, ty, pos, after, g⟩) (hw : wantB ops l ⟨none, .store t x y, ty, pos, after, g⟩ = some true) (hi : (P.info? t).map (·.size) = some vs.length) (hx : ev l x = some (.pointer (some ⟨b, o, none⟩))) (hy : ev l y = some (.agg vs.toArray)) (hv : vs.all (·.oneCell') = true) (hs : Sel m (blk b T us) r) (ho : o + vs.length ≤ us.length)
 (h : Ar cs (G n w0 S l (blk b T (putN us o vs) :: r) K) q) : Ar (29 :: cs) (G n w0 S l m (wpOp P ops Q i K)) q := ⟨fun k => G.turnOp ho' hw (G.storeN hi hx hy hv hs ho (h.go k))⟩
theorem Ar.ts {t : TypeId} {x y : Operand} {b o : Nat} {T : TypeId} {us : List Value} (ho' : ops[i]? = some ⟨none, .store t x y, ty, pos, after, g⟩) (hw : wantB ops l ⟨none, .store t x y, ty, pos, after, g⟩ = some true) (hi : (P.info? t).map (·.size) = some 1) (hx : ev l x = some (.pointer (some ⟨b, o, none⟩))) (hy : ev l y = some v) (hv : v.oneCell' = true) (hs : Sel m (blk b T us) r) (ho : o < us.length)
 (h : Ar cs (G n w0 S l (blk b T (us.set o v) :: r) K) q) : Ar (30 :: cs) (G n w0 S l m (wpOp P ops Q i K)) q := ⟨fun k => G.turnOp ho' hw (G.store hi hx hy hv hs ho (h.go k))⟩
section
variable {ds : List Deferred} {rr : Option Nat}
theorem Ar.inT (h : Ar cs (G n w0 S l m (dq ds K)) q) : Ar (31 :: cs) (G n w0 S l m (dq ds (Exit.then K Q .normal))) q := ⟨fun k => I.nThen (h.go k)⟩
theorem Ar.iS {x y : Code} (h : Ar cs (G n w0 S l m (dq ds (x.wpIn (fR rr) 0 P (Exit.then (y.wpIn (fR rr) 0 P Q) Q)))) q) : Ar (32 :: cs) (G n w0 S l m (dq ds ((Code.seq x y).wpIn (fR rr) 0 P Q))) q := ⟨fun k => I.seq (h.go k)⟩
theorem Ar.iR {id : Nat} {ops : List Oper} (hd : ops.all noDefer = true) (hQ : ¬ LetsOut Q) (h : Ar cs (G n w0 S l m (wpList P ops.toArray (dqq ds Q) ops)) q) : Ar (33 :: cs) (G n w0 S l m (dq ds ((Code.region id ops.toArray false).wpIn (fR rr) 0 P Q))) q := ⟨fun k => I.region hd hQ (h.go k)⟩
theorem Ar.iN (h : Ar cs (G n w0 S l m (dq ds (Q .normal))) q) : Ar (34 :: cs) (G n w0 S l m (wpList P ops (dqq ds Q) [])) q := ⟨fun k => I.nil (h.go k)⟩
theorem Ar.irT (h : Ar cs (G n w0 S l m (dq ds (Q .ret))) q) : Ar (35 :: cs) (G n w0 S l m (dq ds (Exit.then K Q .ret))) q := ⟨fun k => I.rThen (h.go k)⟩
theorem Ar.irB {id : Nat} (h : Ar cs (G n w0 S l m (dq ds (Q .ret))) q) : Ar (36 :: cs) (G n w0 S l m (dq ds (Exit.inBlock id Q .ret))) q := ⟨fun k => I.rBlock (h.go k)⟩
theorem Ar.iRe (h : Ar cs (G n w0 S l m (dq ds (Q .ret))) q) : Ar (37 :: cs) (G n w0 S l m (dq ds (Code.ret.wpIn (fR rr) 0 P Q))) q := ⟨fun k => I.ret (h.go k)⟩
theorem Ar.iB {id : Nat} {c : Code} (h : Ar cs (G n w0 S l m (dq ds (c.wpIn (fR rr) 0 P (Exit.inBlock id Q)))) q) : Ar (38 :: cs) (G n w0 S l m (dq ds ((Code.block id c).wpIn (fR rr) 0 P Q))) q := ⟨fun k => I.block (h.go k)⟩
theorem Ar.iSk (h : Ar cs (G n w0 S l m (dq ds (Q .normal))) q) : Ar (39 :: cs) (G n w0 S l m (dq ds (Code.skip.wpIn (fR rr) 0 P Q))) q := ⟨fun k => I.skip (h.go k)⟩
theorem Ar.inB {id : Nat} (h : Ar cs (G n w0 S l m (dq ds (Q .normal))) q) : Ar (40 :: cs) (G n w0 S l m (dq ds (Exit.inBlock id Q .normal))) q := ⟨fun k => I.nBlock (h.go k)⟩
theorem Ar.ieT {id : Nat} (h : Ar cs (G n w0 S l m (dq ds (Q (.exit id)))) q) : Ar (41 :: cs) (G n w0 S l m (dq ds (Exit.then K Q (.exit id)))) q := ⟨fun k => I.eThen (h.go k)⟩
theorem Ar.iX {id : Nat} (h : Ar cs (G n w0 S l m (dq ds (Q (.exit id)))) q) : Ar (42 :: cs) (G n w0 S l m (dq ds ((Code.exit id).wpIn (fR rr) 0 P Q))) q := ⟨fun k => I.exit (h.go k)⟩
theorem Ar.ieB {id : Nat} (h : Ar cs (G n w0 S l m (dq ds (Q .normal))) q) : Ar (43 :: cs) (G n w0 S l m (dq ds (Exit.inBlock id Q (.exit id)))) q := ⟨fun k => I.eBlock (h.go k)⟩
end
theorem Pc.ck (c : Nat) (h : Pc (c :: cs) c1 P n w0 S l m o v) : Pc (c :: cs) c1 P n w0 S l m o v := h
theorem Ar.ck (c : Nat) {p : Prop} (h : Ar (c :: cs) p q) : Ar (c :: cs) p q := h
theorem Ar.cz (c : Nat) {p : Prop} (h : Ar (60 :: c :: cs) p q) : Ar (60 :: c :: cs) p q := h
theorem Pc.cu (i : Nat) (h : PV P n w0 S l m o v) : Pc (50 :: i :: cs) cs P n w0 S l m o v := ⟨h⟩
theorem Ar.cu {p p1 : Prop} (i : Nat) (f : p1 → p) (h : Ar cs p1 q) : Ar (60 :: i :: cs) p q := ⟨fun k => f (h.go k)⟩
end
theorem adT {p : Prop} (h : p := by first | with_reducible assumption | assumption | exact fun _ => rfl) : p := h
theorem noT {p : Prop} (h : p := by rintro ⟨_, _, h⟩; first | exact h | exact noOut h) : p := h
theorem Y0 {p : Prop} (h : p := by first | exact frz_int selD (by assumption) | exact blk_cell selD (by rfl) | exact rng_cell selD (by rfl) | exact ro_blk (by assumption) (by rfl) | exact ro_rngC (by assumption) (by rfl) | exact ro_int (by assumption) | exact ro_byte (by assumption) | exact ro_str (by assumption) | with_reducible assumption | assumption) : p := h
theorem Y1 {p : Prop} (h : p := by first | (apply May.old; first | with_reducible assumption | assumption) | (apply Sel.may; (repeat (first | with_reducible exact Sel.here | exact Sel.here | apply Sel.there)); done) | (apply may_own; (repeat (first | with_reducible exact Sel.here | exact Sel.here | apply Sel.there)); exact rfl; exact (fun _ _ => trivial); done) | (apply may_ownB; (repeat (first | with_reducible exact Sel.here | exact Sel.here | apply Sel.there)); done) | (apply may_ownI; (repeat (first | with_reducible exact Sel.here | exact Sel.here | apply Sel.there)); assumption; done) | (apply may_ownN; (repeat (first | with_reducible exact Sel.here | exact Sel.here | apply Sel.there)); assumption; done)) : p := h
theorem Y2 {p : Prop} (h : p := by first | (apply May.old; first | with_reducible assumption | assumption) | (apply Sel.may; (repeat (first | with_reducible exact Sel.here | exact Sel.here | apply Sel.there)); done) | (apply may_own; (repeat (first | with_reducible exact Sel.here | exact Sel.here | apply Sel.there)); exact rfl; exact (fun _ _ => trivial); done) | (apply may_ownB; (repeat (first | with_reducible exact Sel.here | exact Sel.here | apply Sel.there)); done) | (apply may_tree; (repeat (first | with_reducible exact Sel.here | exact Sel.here | apply Sel.there)); (repeat (first | with_reducible exact Sel.here | exact Sel.here | apply Sel.there)); assumption; done)) : p := h
theorem Y3 {p : Prop} (h : p := by first | (apply May.old; first | with_reducible assumption | assumption) | (apply Sel.may; (repeat (first | with_reducible exact Sel.here | exact Sel.here | apply Sel.there)); done) | (apply may_own; (repeat (first | with_reducible exact Sel.here | exact Sel.here | apply Sel.there)); exact rfl; exact (fun _ _ => trivial); done) | (apply may_ownB; (repeat (first | with_reducible exact Sel.here | exact Sel.here | apply Sel.there)); done) | (apply may_ownI; (repeat (first | with_reducible exact Sel.here | exact Sel.here | apply Sel.there)); assumption; done) | (apply may_ownN; (repeat (first | with_reducible exact Sel.here | exact Sel.here | apply Sel.there)); assumption; done) | (apply may_tree; (repeat (first | with_reducible exact Sel.here | exact Sel.here | apply Sel.there)); (repeat (first | with_reducible exact Sel.here | exact Sel.here | apply Sel.there)); assumption; done)) : p := h
theorem Y4 {p : Prop} (h : p := by first | exact blk_cell selD (roll_n hr) | exact blk_cell selD (roll_s hr) | exact blk_cell selD (by rfl) | exact rng_cell selD (by rfl) | exact ro_blk (by assumption) (by rfl) | exact ro_rngC (by assumption) (by rfl) | exact ro_int (by assumption) | exact ro_byte (by assumption) | exact ro_str (by assumption) | with_reducible assumption | assumption) : p := h
theorem Y5 {p : Prop} (h : p := by first | exact blk_range (k := 5) selD (by rfl) | exact ro_rng0 (by assumption) | exact rng_range (k := 5) selD (by rfl) | exact ro_range (k := 5) (by assumption) (by rfl) | exact ro_rngR (k := 5) (by assumption) (by rfl)) : p := h
theorem Y6 {p : Prop} (h : p := by first | (apply May.old; first | with_reducible assumption | assumption) | (apply Sel.may; (repeat (first | with_reducible exact Sel.here | exact Sel.here | apply Sel.there)); done) | (apply may_own; (repeat (first | with_reducible exact Sel.here | exact Sel.here | apply Sel.there)); exact rfl; exact (fun _ _ => trivial); done) | (apply may_ownB; (repeat (first | with_reducible exact Sel.here | exact Sel.here | apply Sel.there)); done) | (refine may_frz ?_ ?_; rotate_left; assumption; (repeat (first | with_reducible exact Sel.here | exact Sel.here | apply Sel.there)); done)) : p := h
theorem Y7 {p : Prop} (h : p := by first | rfl | exact int_eq (by omega) | (simp; done)) : p := h
theorem Y8 {p : Prop} (h : p := by first | (apply May.old; first | with_reducible assumption | assumption) | (apply Sel.may; (repeat (first | with_reducible exact Sel.here | exact Sel.here | apply Sel.there)); done) | (apply may_own; (repeat (first | with_reducible exact Sel.here | exact Sel.here | apply Sel.there)); exact rfl; exact (fun _ _ => trivial); done) | (apply may_ownB; (repeat (first | with_reducible exact Sel.here | exact Sel.here | apply Sel.there)); done)) : p := h
theorem Y9 {p : Prop} (h : p := by first | exact dec_t (by unfold argP; omega) | exact dec_f (by unfold argP; omega) | exact dec_e (by unfold argP; omega) | exact dec_n (bne_dec.trans (by unfold argP; rw [hto]; omega)) | (rw [show _ = true from by assumption]; exact dec_t (by have h := bne_dec.1 (by assumption); rw [hto] at h; unfold argP; omega))) : p := h
theorem Y10 {p : Prop} (h : p := by first | exact blk_range (k := 4) selD (by rfl) | exact ro_rng0 (by assumption) | exact rng_range (k := 4) selD (by rfl) | exact ro_range (k := 4) (by assumption) (by rfl) | exact ro_rngR (k := 4) (by assumption) (by rfl)) : p := h
theorem Y11 {p : Prop} (h : p := by first | exact blk_range (k := 4) selD (by rfl) | exact rng_range (k := 4) selD (by rfl) | exact ro_range (k := 4) (by assumption) (by rfl) | exact ro_rngR (k := 4) (by assumption) (by rfl)) : p := h
theorem Y12 {p : Prop} (h : p := by first | omega | (simp only [List.length_append, List.length_nil, putM_length]; omega)) : p := h
theorem Y13 {p : Prop} (h : p := by first | exact blk_range (k := 6) selD (by rfl) | exact ro_rng0 (by assumption) | exact rng_range (k := 6) selD (by rfl) | exact ro_range (k := 6) (by assumption) (by rfl) | exact ro_rngR (k := 6) (by assumption) (by rfl)) : p := h
theorem Y14 {p : Prop} (h : p := by first | exact dec_t (by unfold badP2 linkP; omega) | exact dec_f (by unfold badP2 linkP; omega) | exact dec_e (by unfold badP2 linkP; omega)) : p := h
theorem Y15 {p : Prop} (h : p := by first | exact (decide_eq_true (by omega)).symm | exact (decide_eq_false (by omega)).symm | (rw [decide_eq_decide]; omega)) : p := h
theorem Y16 {p : Prop} (h : p := by rw [List.drop_zero, List.length_map, lq]; exact Nat.le_refl _) : p := h
theorem Y17 {p : Prop} (h : p := by first | exact dec_t (by unfold numI; omega) | exact dec_f (by unfold numI; omega) | exact dec_e (by unfold numI; omega)) : p := h
theorem Y18 {p : Prop} (h : p := by first | exact dec_t (.inl (by omega)) | exact dec_e ⟨fun h => .inr ⟨by omega, h⟩, fun h => h.elim (fun h => absurd h (by omega)) (·.2)⟩ | exact dec_f (fun h => h.elim (fun h => by omega) (fun h => by omega))) : p := h
theorem Y19 {p : Prop} (h : p := by rw [List.length_map, lq]; kernel_rfl) : p := h
theorem Y20 {p : Prop} (h : p := by first | exact blk_range (k := 2) selD (by rfl) | exact rng_range (k := 2) selD (by rfl) | exact ro_range (k := 2) (by assumption) (by rfl) | exact ro_rngR (k := 2) (by assumption) (by rfl)) : p := h
theorem Y21 {p : Prop} (h : p := by first | exact dec_t (by unfold headBad; omega) | exact dec_f (by unfold headBad; omega) | exact dec_e (by unfold headBad; omega)) : p := h
theorem Y22 {p : Prop} (h : p := by first | exact dec_e ⟨fun h => ⟨by assumption, hpv.2 h⟩, fun h => hpv.1 h.2⟩ | exact dec_f (fun h => absurd h.1 (by assumption)) | exact dec_f (fun h => prev_zero (by omega) h.2)) : p := h
theorem Y23 {p : Prop} (h : p := by first | exact blk_range (k := 4) selD (by rfl)) : p := h
theorem Y24 {p : Prop} (h : p := by first | exact dec_t (by unfold rngI; omega) | exact dec_f (by unfold rngI; omega) | exact dec_e (by unfold rngI; omega)) : p := h
theorem Y25 {p : Prop} (h : p := by first | exact trivial | ((try dsimp only) <;> exact by omega)) : p := h
theorem Y26 {p : Prop} (h : p := by first | exact trivial | ((try dsimp only) <;> exact ⟨hz, rfl⟩)) : p := h
theorem Y27 {p : Prop} (h : p := by first | exact trivial | ((try dsimp only) <;> exact Nat.zero_le _)) : p := h
theorem Y28 {p : Prop} (h : p := by first | exact dec_t (by rw [ne_eq, he]; simp_all) | exact dec_e (by rw [ne_eq ys[i].1, he] at *; simp_all) | exact dec_e (by rw [ne_eq xs[i].1, he]; simp_all)) : p := h
theorem Y29 {p : Prop} (h : p := by first | exact blk_cell selD (roll_x hr) | exact blk_cell selD (by rfl) | exact rng_cell selD (by rfl) | exact ro_blk (by assumption) (by rfl) | exact ro_rngC (by assumption) (by rfl) | exact ro_int (by assumption) | exact ro_byte (by assumption) | exact ro_str (by assumption) | with_reducible assumption | assumption) : p := h
theorem Y30 {p : Prop} (h : p := by first | exact trivial | ((try dsimp only) <;> exact hJ)) : p := h
theorem Y31 {p : Prop} (h : p := by first | exact trivial | ((try dsimp only) <;> exact ⟨by omega, fun q hq => by rcases Nat.lt_or_ge q i with h1 | h1; exact hJ0 q h1; obtain rfl : q = i := (by omega); exact hok0⟩)) : p := h
theorem Y32 {p : Prop} (h : p := by first | with_reducible assumption | assumption) : p := h
theorem Y33 {p : Prop} (h : p := by first | exact trivial | ((try dsimp only) <;> exact ⟨rfl, hz, _, _, rfl⟩)) : p := h
theorem Y34 {p : Prop} (h : p := by first | exact trivial | ((try dsimp only) <;> exact ⟨by omega, ⟨by rw [hc1, hck, hcm], by rw [its_snoc, hys, hmk, hit], by omega, by rw [List.length_append, hyl]; rfl⟩⟩)) : p := h
theorem Y35 {p : Prop} (h : p := by show Value.bool _ = Value.bool (againP z.pm _); unfold againP; rw [pm_l]; show _ = Value.bool (decide (z.ph = 5 ∧ n0 ns = 6 ∧ z.rounds < 3 ∧ 0 < z.l.length)); refine congrArg Value.bool ?_; exact (decide_eq_false (by omega)).symm) : p := h
theorem Y36 {p : Prop} (h : p := by first | exact blk_range (k := 2) selD (by rfl)) : p := h
theorem Y37 {p : Prop} (h : p := by (repeat (first | with_reducible exact Sel.here | exact Sel.here | apply Sel.there))) : p := h
theorem Y38 {p : Prop} (h : p := by first | exact dec_e (by omega) | exact dec_f (by omega) | exact dec_t (by omega)) : p := h
theorem Y39 {p : Prop} (h : p := by first | exact dec_t (by unfold numP; omega) | exact dec_f (by unfold numP; omega) | exact dec_e (by unfold numP; omega)) : p := h
theorem Y40 {p : Prop} (h : p := by first | exact dec_e ⟨fun h => ⟨by assumption, h⟩, fun h => h.2⟩ | exact dec_f (fun h => absurd h.1 (by assumption))) : p := h
theorem Y41 {p : Prop} (h : p := by first | exact trivial | ((try dsimp only) <;> exact ⟨rfl, by rw [piecesC_succ, List.map_append, hl]; rfl⟩)) : p := h
theorem Y42 {p : Prop} (h : p := by rw [ord_eq hx hy (by assumption)]; simp_all [retV1]) : p := h
theorem Y43 {p : Prop} (h : p := by first | exact trivial | ((try dsimp only) <;> exact ⟨by omega, ⟨by rw [cks_tk, hck, hpi, collC_take _ hlt'], by have := tkV_len cks' l[i].1 l[i].2; omega⟩⟩)) : p := h
theorem Y44 {p : Prop} (h : p := by simp_all [compareM, okP, retV1]) : p := h
theorem Y45 {p : Prop} (h : p := by show Value.bool _ = Value.bool (overP z.pm n e); unfold overP; show _ = Value.bool (z.over && (decide (z.num = n) && decide (z.e = e))); simp [*]) : p := h
theorem Y46 {p : Prop} (h : p := by first | exact blk_range (k := 5) selD (by rfl)) : p := h
theorem Y47 {p : Prop} (h : p := by rw [roll_len hr]; first | done | omega) : p := h
theorem Y48 {p : Prop} (h : p := by first | exact trivial | ((try dsimp only) <;> exact ⟨rfl, rfl⟩)) : p := h
theorem Y49 {p : Prop} (h : p := by exact Nat.lt_of_lt_of_le HBB.out hB) : p := h
theorem Y50 {p : Prop} (h : p := by first | exact trivial | ((try dsimp only) <;> exact (by unfold chunksC; rw [if_pos (by omega), List.map_append, hl]; rfl))) : p := h
theorem Y51 {p : Prop} (h : p := by first | exact dec_t (by unfold linkP; omega) | exact dec_f (by unfold linkP; omega) | exact dec_e (by unfold linkP; omega)) : p := h
theorem Y52 {p : Prop} (h : p := by rw [List.drop_zero]; exact List.take_of_length_le (Nat.le_of_eq (chC_len _))) : p := h
theorem Y53 {p : Prop} (h : p := by first | exact trivial | ((try dsimp only) <;> exact rfl)) : p := h
theorem Y54 {p : Prop} (h : p := by first | exact trivial | ((try dsimp only) <;> exact ⟨Up.refl _ _, hz, rfl⟩)) : p := h
theorem Y55 {p : Prop} (h : p := by first | exact trivial | ((try dsimp only) <;> exact ⟨Up.refl _ _, (fun y hy => by cases hy), rfl, by omega, rfl⟩)) : p := h
theorem Y56 {p : Prop} (h : p := by first | exact trivial | ((try dsimp only) <;> exact ⟨Nat.zero_le _, (by rw [List.take_zero, List.take_zero])⟩)) : p := h
theorem Y57 {p : Prop} (h : p := by first | exact trivial | ((try dsimp only) <;> exact ⟨Nat.zero_le _, fun q _ h => absurd h (by omega)⟩)) : p := h
theorem Y58 {p : Prop} (h : p := by intro u hu; obtain rfl : u = v16 := (by simpa using hu); exact hv16) : p := h
theorem Y59 {p : Prop} (h : p := by first | exact trivial | ((try dsimp only) <;> exact ⟨Nat.zero_le _, fun q h => absurd h (by omega)⟩)) : p := h
theorem Y60 {p : Prop} (h : p := by show k = 16 ∨ k = 19 ∨ k = 20; omega) : p := h
theorem und {P : Program} {t : TypeId} {d : TypeDesc} (h : P.underlying t = some d := by first | exact Tryz.underlying3 | exact Tryz.underlying4 | exact Tryz.underlying5 | exact Tryz.underlying9 | exact Tryz.underlying22 | exact Tryz.underlying27 | exact Tryz.underlying29 | exact Tryz.underlying30 | exact Tryz.underlying31 | exact Tryz.underlying33 | exact Tryz.underlying35 | exact Tryz.underlying37 | exact Tryz.underlying39 | exact Tryz.underlying40 | exact Tryz.underlying51 | exact Tryz.underlying52 | exact Tryz.underlying54 | exact Tryz.underlying55 | exact Tryz.underlying63 | exact Tryz.underlying66 | exact Tryz.underlying72 | exact Tryz.underlying80 | exact Tryz.underlying83 | exact Tryz.underlying85 | exact Tryz.underlying90 | exact Tryz.underlying92 | exact Tryz.underlying98 | exact Tryz.underlying100 | exact Tryz.underlying102 | exact Tryz.underlying104 | exact Tryz.underlying107 | exact Tryz.underlying115 | exact Tryz.underlying117 | exact Tryz.underlying120 | exact Tryz.underlying122 | exact Tryz.underlying124 | exact Tryz.underlying127 | exact Tryz.underlying128 | exact Tryz.underlying136 | exact Tryz.underlying139 | exact Tryz.underlying142 | exact Tryz.underlying144 | exact Tryz.underlying155 | exact Tryz.underlying157 | exact Tryz.underlying163 | exact Tryz.underlying165 | exact Tryz.underlying167 | exact Tryz.underlying172 | exact Tryz.underlying173 | exact Tryz.underlying175 | exact Tryz.underlying181 | exact Tryz.underlying183 | exact Tryz.underlying187 | exact Tryz.underlying188 | exact Tryz.underlying192 | exact Tryz.underlying195 | exact Tryz.underlying204 | exact Tryz.underlying207 | exact Tryz.underlying213 | exact Tryz.underlying214) : P.underlying t = some d := h
section
open Go.RowKit
variable {P : Program} {n : Nat} {w0 : World} {S : Nat → Prop} {l : Fr} {m : List Ck} {o : Oper} {v : Value} {c c1 : List Nat} {p q : Prop}
theorem pcT (h : Pc c c1 P n w0 S l m o v := by first | (apply Pc.ck 0; exact Pc.mv rfl) | (apply Pc.ck 1; exact Pc.as rfl) | (apply Pc.ck 2; exact Pc.pk rfl rfl) | (apply Pc.ck 3; exact Pc.fk und rfl kr rfl rfl) | (apply Pc.ck 4; exact Pc.ld und rfl rfl celT) | (apply Pc.ck 5; exact Pc.ln und rfl) | (apply Pc.ck 6; exact Pc.ad rfl rfl (by omega)) | (apply Pc.ck 7; exact Pc.ex rfl rfl) | (apply Pc.ck 8; exact Pc.nc rfl) | (apply Pc.ck 9; exact Pc.lss rfl rfl) | (apply Pc.ck 10; exact Pc.gtr rfl rfl) | (apply Pc.ck 11; exact Pc.leq rfl rfl) | (apply Pc.ck 12; exact Pc.geq rfl rfl) | (apply Pc.ck 13; exact Pc.eql rfl rfl) | (apply Pc.ck 14; exact Pc.neq rfl rfl) | (apply Pc.ck 15; exact Pc.np rfl) | (apply Pc.ck 16; exact Pc.fa und rfl kr rfl) | (apply Pc.ck 19; exact Pc.su rfl rfl (by omega)) | (apply Pc.ck 20; exact Pc.ix _ und kr rfl rfl adT rfl (by omega)) | (apply Pc.ck 21; exact Pc.lS und rfl) | (apply Pc.ck 22; exact Pc.xS und rfl rfl rfl (by omega)) | (apply Pc.ck 23; exact Pc.nS rfl rfl) | (apply Pc.ck 24; exact Pc.eS rfl rfl) | (apply Pc.ck 25; exact Pc.no rfl) | (apply Pc.ck 26; exact Pc.mf rfl rfl) | (apply Pc.cu 0; exact pv_load und rfl rfl Y0) | (apply Pc.cu 1; exact pv_buildSt (z := [.string ⟨#[]⟩, .int .i64 0, .int .i64 0, .int .i64 0, .int .i64 0, .int .i64 0, .int .i64 0]) (pl := [(0, 1), (1, 1), (2, 1), (3, 1), (4, 1), (5, 1), (6, 1)]) und kr kr rfl flT) | (apply Pc.cu 2; exact pv_buildSt (z := [.int .i64 0, .slice none 0 0, .slice none 0 0, .slice none 0 0]) (pl := [(0, 1), (1, 1), (2, 1), (3, 1)]) und kr kr rfl flT) | (apply Pc.cu 3; exact pv_buildSt (z := [.string ⟨#[]⟩, .int .i64 0, .int .i64 0, .int .i64 0, .int .i64 0, .int .i64 0, .int .i64 0]) (pl := [(0, 1), (1, 2), (3, 2), (5, 2)]) und kr kr rfl flT) | (apply Pc.cu 4; exact pv_eqlP0 und rfl rfl) | (apply Pc.cu 5; exact pv_loadN (cs := [_, _, _, _, _]) und rfl kr rfl Y5) | (apply Pc.cu 6; exact pv_buildSt (z := [.int .i64 0, .int .i64 0]) (pl := [(0, 1), (1, 1)]) und kr kr rfl flT) | (apply Pc.cu 7; exact pv_load und rfl rfl Y4) | (apply Pc.cu 8; exact pv_loadN (cs := [_, _, _, _]) und rfl kr rfl Y11) | (apply Pc.cu 9; exact pv_loadN (cs := [_, _, _, _]) und rfl kr rfl Y10) | (apply Pc.cu 10; exact pv_loadN (cs := [_, _, _, _, _, _]) und rfl kr rfl Y13) | (apply Pc.cu 11; exact pv_buildSt (z := [.int .i64 0, .int .i64 0, .int .i64 0, .int .i64 0, .slice none 0 0]) (pl := [(0, 1), (1, 1), (2, 1), (3, 1), (4, 1)]) und kr kr rfl flT) | (apply Pc.cu 12; exact pv_extract (v := .int .i64 0) rfl rfl) | (apply Pc.cu 13; exact pv_rem64 rfl rfl (by omega) (by omega)) | (apply Pc.cu 14; exact pv_loadN (cs := [_, _]) und rfl kr rfl Y20) | (apply Pc.cu 15; exact pv_load und rfl rfl (blk_cell (v := .bool true) .here rfl)) | (apply Pc.cu 16; exact pv_subL (sz := 5) (k := 1) und kr rfl rfl rfl (by omega))) : Pc c c1 P n w0 S l m o v := h
theorem go (cs : List Nat) (k : q) (h : Ar cs p q := by repeat (first | exact Ar.nil | (apply Ar.ck 0; apply Ar.mv; exact rfl; exact rfl) | (apply Ar.ck 1; apply Ar.as; exact rfl; exact rfl) | (apply Ar.ck 2; apply Ar.op; exact rfl; exact rfl; exact rfl; exact pcT) | (apply Ar.ck 3; apply Ar.wa; exact rfl; exact rfl; exact rfl; exact rfl; exact rfl; exact pcT) | (apply Ar.ck 4; apply Ar.pa; exact rfl; exact rfl; exact rfl; exact rfl; exact rfl; exact rfl) | (apply Ar.ck 7; apply Ar.nl) | (apply Ar.ck 8; apply Ar.nt) | (apply Ar.ck 9; apply Ar.sq) | (apply Ar.ck 10; apply Ar.rg) | (apply Ar.ck 22; apply Ar.tk; exact (by with_reducible assumption); exact rfl; exact rfl; exact rfl; exact kr; exact (fun _ _ _ h => h); exact rfl; exact pcT; exact subT) | (apply Ar.ck 23; apply Ar.tf; exact (by with_reducible assumption); exact rfl; exact rfl; exact rfl; exact kr; exact (fun _ _ _ h => h); exact rfl; exact subT) | (apply Ar.ck 24; apply Ar.on; exact (by with_reducible assumption); exact kr; exact kr) | (apply Ar.ck 25; apply Ar.tu; exact rfl; exact rfl; exact rfl; exact rfl; exact pcT) | (apply Ar.ck 26; apply Ar.bk; exact subT) | (apply Ar.ck 27; apply Ar.ov; exact (by with_reducible assumption); exact kr) | (apply Ar.ck 11; apply Ar.re) | (apply Ar.ck 12; apply Ar.rt) | (apply Ar.ck 13; apply Ar.sk) | (apply Ar.ck 14; apply Ar.et) | (apply Ar.ck 15; apply Ar.bl) | (apply Ar.ck 16; apply Ar.nb) | (apply Ar.ck 17; apply Ar.rb) | (apply Ar.ck 18; apply Ar.xi) | (apply Ar.ck 19; apply Ar.eb) | (apply Ar.ck 6; apply Ar.pu; exact rfl; exact rfl; exact rfl; exact rfl; exact rfl) | (apply Ar.ck 20; apply Ar.sN; exact kr; exact rfl; exact rfl; exact allT; exact selT; exact leT) | (apply Ar.ck 21; apply Ar.so; exact kr; exact rfl; exact rfl; exact eqT; exact selT; exact leT) | (apply Ar.ck 29; apply Ar.tN; exact rfl; exact rfl; exact kr; exact rfl; exact rfl; exact allT; exact selT; exact leT) | (apply Ar.ck 30; apply Ar.ts; exact rfl; exact rfl; exact kr; exact rfl; exact rfl; exact eqT; exact selT; exact leT) | (apply Ar.ck 31; apply Ar.inT) | (apply Ar.ck 32; apply Ar.iS) | (apply Ar.ck 33; apply Ar.iR; exact kr; exact noT) | (apply Ar.ck 34; apply Ar.iN) | (apply Ar.ck 35; apply Ar.irT) | (apply Ar.ck 36; apply Ar.irB) | (apply Ar.ck 37; apply Ar.iRe) | (apply Ar.ck 38; apply Ar.iB) | (apply Ar.ck 39; apply Ar.iSk) | (apply Ar.ck 40; apply Ar.inB) | (apply Ar.ck 41; apply Ar.ieT) | (apply Ar.ck 42; apply Ar.iX) | (apply Ar.ck 43; apply Ar.ieB) | (apply Ar.cz 0; apply Ar.cu 0; exact fun k => G.condF rfl (rfl) k) | (apply Ar.cz 1; apply Ar.cu 1; exact fun k => G.condT rfl (rfl) k) | (apply Ar.cz 2; apply Ar.cu 2; exact fun k => G.op rfl (G.box rfl rfl (cs := [_, _, _, _]) rfl k)) | (apply Ar.cz 3; apply Ar.cu 3; exact fun k => G.back Sub.nil k) | (apply Ar.cz 4; apply Ar.cu 4; exact fun k => G.ownNil 52 16 k) | (apply Ar.cz 5; apply Ar.cu 5; exact fun k => G.op rfl (G.alloc (z := .agg #[.int .i64 0, .slice none 0 0, .slice none 0 0, .slice none 0 0]) (cs := [.int .i64 0, .slice none 0 0, .slice none 0 0, .slice none 0 0]) rfl kr rfl k)) | (apply Ar.cz 6; apply Ar.cu 6; exact fun k => G.tailD k) | (apply Ar.cz 7; apply Ar.cu 7; exact fun k => G.ownNil 3 1 k) | (apply Ar.cz 8; apply Ar.cu 8; exact fun k => G.ownBNil 5 k) | (apply Ar.cz 9; apply Ar.cu 9; exact fun k => G.op rfl (G.box rfl rfl (cs := [_, _, _, _, _]) rfl k)) | (apply Ar.cz 10; apply Ar.cu 10; exact fun k => G.op rfl (G.alloc (z := .agg #[.int .i64 0, .int .i64 0, .int .i64 0, .int .i64 0, .slice none 0 0]) (cs := [.int .i64 0, .int .i64 0, .int .i64 0, .int .i64 0, .slice none 0 0]) rfl kr rfl k)) | (apply Ar.cz 11; apply Ar.cu 11; exact fun k => G.ownNil 54 17 k) | (apply Ar.cz 12; apply Ar.cu 12; exact fun k => G.op rfl (G.lit1 (vs := [_]) rfl und kr rfl (by decide) (by decide) rfl rfl k)) | (apply Ar.cz 13; apply Ar.cu 13; exact fun k => G.turnOp rfl rfl (G.store kr rfl rfl (by rfl) selT Y47 k)) | (apply Ar.cz 14; apply Ar.cu 14; exact fun k => G.turnOp rfl rfl (G.lit0 rfl und kr rfl k)) | (apply Ar.cz 15; apply Ar.cu 15; exact fun k => IL.op rfl (IL.lift kr (G.val rfl rfl (pv_move rfl) k))) | (apply Ar.cz 16; apply Ar.cu 16; exact fun k => G.op rfl (G.box rfl rfl (cs := [_, _, _, _, _, _]) rfl k)) | (apply Ar.cz 17; apply Ar.cu 17; exact fun k => G.op rfl (G.alloc (z := .agg #[.string ⟨#[]⟩, .int .i64 0, .int .i64 0, .int .i64 0, .string ⟨#[]⟩, .slice none 0 0]) (cs := [.string ⟨#[]⟩, .int .i64 0, .int .i64 0, .int .i64 0, .string ⟨#[]⟩, .slice none 0 0]) rfl kr rfl k)) | (apply Ar.cz 18; apply Ar.cu 18; exact fun k => G.turnOp rfl rfl (G.lit1 (vs := [_]) rfl und kr rfl (by decide) (by decide) rfl rfl k)) | (apply Ar.cz 19; apply Ar.cu 19; exact fun k => G.want rfl rfl rfl (G.lit1 (vs := [_]) rfl und kr rfl (by decide) (by decide) rfl rfl k)) | (apply Ar.cz 20; apply Ar.cu 20; exact fun k => G.op rfl (G.alloc (z := .agg #[.int .i64 0, .int .i64 0]) (cs := [.int .i64 0, .int .i64 0]) rfl kr rfl k)) | (apply Ar.cz 21; apply Ar.cu 21; exact fun k => G.op rfl (G.alloc (z := .agg #[.string ⟨#[]⟩, .int .i64 0, .int .i64 0, .int .i64 0, .int .i64 0, .int .i64 0, .int .i64 0]) (cs := [.string ⟨#[]⟩, .int .i64 0, .int .i64 0, .int .i64 0, .int .i64 0, .int .i64 0, .int .i64 0]) rfl kr rfl k)) | (apply Ar.cz 22; apply Ar.cu 22; exact fun k => G.op rfl (G.alloc (z := .agg #[.int .u8 0, .int .u8 0, .int .u8 0, .int .u8 0, .int .u8 0, .int .u8 0, .int .u8 0, .int .u8 0, .int .u8 0, .int .u8 0, .int .u8 0, .int .u8 0, .int .u8 0, .int .u8 0, .int .u8 0, .int .u8 0]) (cs := [.int .u8 0, .int .u8 0, .int .u8 0, .int .u8 0, .int .u8 0, .int .u8 0, .int .u8 0, .int .u8 0, .int .u8 0, .int .u8 0, .int .u8 0, .int .u8 0, .int .u8 0, .int .u8 0, .int .u8 0, .int .u8 0]) rfl kr rfl k)) | (apply Ar.cz 23; apply Ar.cu 23; exact fun k => G.op rfl (G.alloc (z := .agg #[.int .i64 0, .slice none 0 0, .slice none 0 0, .slice none 0 0, .nilFunc]) (cs := [.int .i64 0, .slice none 0 0, .slice none 0 0, .slice none 0 0, .nilFunc]) rfl kr rfl k)))) : p := h.go k
end
end Go.Proofs.YtngbglhmiefcpaaGreat
namespace Go.Proofs.YtngbglhmiefcpaaGreat
open Go.RowKit
set_option maxRecDepth 100000
section
variable {α : Type} {f : α → List Value} {k : Nat}
theorem rows_len (hf : ∀ x, (f x).length = k) (xs : List α) : (xs.flatMap f).length = xs.length * k := flatMap_length f k hf xs
end
def recL1 (fn : FuncId) (tmps : Array Value) (p1 : Nat) (assign body : Code) (D : Nat) (st : LoopState) (pe : Option Code) : Loop := { state := st, pending := pe, fn, tmps, params := #[p1], assign, body, defers := D }
section
variable {P : Program} {n : Nat} {w0 : World} {S : Nat → Prop} {l : Fr} {m : List Ck} {Q : Exit → Act → World → Prop} {K : Act → World → Prop} {r : Option Nat} {ds : List Deferred}
def TrYr (P : Program) (lp : Nat) (args : Array Value) (ro pre : List Ck) (post : Value → List Ck → Prop) : Prop :=
 ∀ w, (∀ c ∈ ro, Ro w (U pre) c) → Hp w (U pre) w pre → YieldAt Fence.wide 0 P lp args w fun e w' => ∃ v m', e = .returned v ∧ post v m' ∧ Hp w (U pre) w' m'
theorem IL.yieldR {X : Type} {J : X → Prop} {V : X → Value} {M M' : X → List Ck} {o : Oper} {d lp : Nat} {x : Operand} {xs : List Operand} {ts : Array TypeId} {vs : List Value} {ro pre q : List Ck} (hd : o.dst = some d) (hn : Nat.blt d n = true)
 (ho : o.op = .call { callee := .value x, args := xs.toArray, argTypes := ts }) (hv : ev l x = some (.func (.yield lp) #[] #[])) (hx : evs l xs = some vs)
 (hm : Sub m pre q) (hro : ∀ c ∈ ro, May w0 S q c) (ht : TrYr P lp vs.toArray ro pre (TX J V M)) (hM : Ap M q M') (h : ∀ x, J x → G n w0 S ((d, V x) :: l) (M' x) (dq ds K)) : G n w0 S l m (dq ds (fun a w => o.wpIn (fR none) 0 P a w K Q)) := fun a w ha hw => by
 have hw' := hw.perm hm.perm
 have hp : Hp w (U pre) w pre := ⟨Chg.refl _ _, fun c hc => hw'.holds c (List.mem_append_left _ hc), fun c hc b hb => ⟨.inl ⟨c, hc, hb⟩, (hw'.own c (List.mem_append_left _ hc) b hb).2⟩, (List.pairwise_append.1 hw'.dis).1⟩
 obtain ⟨fn, tmps, assign, body, hy, hR⟩ := ht w (fun c hc => (hro c hc).ro hw') hp
 refine ⟨fun _ _ => trivial, ?_⟩
 have hrun : (o.semAt (fR none).round (da ds a).eval).run P w = .ok (.round lp fn tmps assign body) w := by
  rw [da_eval]
  show (execOp a.eval o).run P w = _
  have e1 : xs.toArray.map a.eval = vs.toArray := by rw [← ha.evs hx]; simp
  simp [execOp, ho, resolve, Deferred.ofValue, e1, ha.eval hv, invoke, Sem.run_bind, Sem.run_pure, Result.andThen, hy]
 rw [hrun, Oper.uponIn_round]
 refine ⟨fun h => by simp [fR, Fence.wide] at h, hR.mono ?_⟩
 rintro e w2 ⟨v, m', rfl, ⟨x, hJ, rfl, rfl⟩, hm'⟩
 show K ((da ds a).put _ _) _
 rw [da_put, hd]
 have := hw'.turn hm'
 rw [hM.eq x] at this
 exact h x hJ _ _ (ha.put hn _) this
def SeqR (P : Program) (g : FuncId) (lb : Array Value) (ro pre : List Ck) (nn : Nat) (encs : Nat → List Value) : Prop :=
 ∀ (rr : List Ck) (lp : Nat) (X : Type) (J : Bool → Nat → X → Prop) (C : Bool → Nat → X → Ck) (x0 : X), J true 0 x0 →
  (∀ i x, i < nn → J true i x → TrYr P lp (encs i).toArray rr [C true i x] (TX (fun z : Bool × X => J z.1 (i + 1) z.2) (fun z => .bool z.1) (fun z => [C z.1 (i + 1) z.2]))) →
  Tr P g (#[.func (.yield lp) #[] #[]] ++ lb) (rr ++ ro) (C true 0 x0 :: pre) (TX (fun z : Bool × Nat × X => J z.1 z.2.1 z.2.2 ∧ z.2.1 ≤ nn ∧ (z.1 = true → z.2.1 = nn)) (fun _ => .tuple #[]) (fun z => [C z.1 z.2.1 z.2.2]))
theorem I.fin1 {X : Type} {fnx p1 D lp i : Nat} {tmps : Array Value} {assign body : Code} {J : Bool → Nat → X → Prop} {B : Bool → Nat → X → List Ck} {jmp : X → Code} {w1 w4 : World} {S1 : Nat → Prop} {b : Bool} {jump : Option Code} {y : X}
 (hJ : J b (i + 1) y) (hj : jump = peL jmp b y) (hH : Hp w1 S1 w4 (star [obc lp (.loop (recL1 fnx tmps p1 assign body D .busy none)), dfr D] :: B b (i + 1) y)) :
 ∃ v w5, (Instr.endRound lp jump).run P w4 = .ok v w5 ∧ ∃ v' m', Ending.returned v = .returned v' ∧ TX (fun z : Bool × X => J z.1 (i + 1) z.2) (fun z => .bool z.1) (fun z => [cL (recL1 fnx tmps p1 assign body D) lp D B jmp z.1 (i + 1) z.2]) v' m' ∧ Hp w1 S1 w5 m' := by
 have hH5 := Hp.unstar (m := [_, _]) hH
 have hl4 : w4.heap[lp]? = some (.loop (recL1 fnx tmps p1 assign body D .busy none)) := hH5.holds _ (List.mem_cons_self ..)
 have her := run_endRound (P := P) jump hl4
 have ev : jump.isNone = b := by
  rw [hj]
  cases b <;> rfl
 have eR : ({ (recL1 fnx tmps p1 assign body D .busy none) with state := if jump.isNone then .ready else .done, pending := jump } : Loop) = recL1 fnx tmps p1 assign body D (stL b) (peL jmp b y) := by
  rw [ev, hj]
  rfl
 rw [eR, ev] at her
 have hH6 := Hp.putO (.loop (recL1 fnx tmps p1 assign body D (stL b) (peL jmp b y))) hH5
 refine ⟨_, _, her, _, _, rfl, ⟨(b, y), hJ, rfl, rfl⟩, ?_⟩
 refine Hp.star (m := _ :: _ :: B b (i + 1) y) (r := []) ?_
 rw [List.append_nil]
 exact hH6
theorem I.round1 {X : Type} {fnx p1 D lp i : Nat} {a : Act} {assign body : Code} {v1 : Value} {l2 : Fr} {J : Bool → Nat → X → Prop} {B : Bool → Nat → X → List Ck} {jmp : X → Code} {x : X} {rr : List Ck} (ha : At a n l) (hp1 : Nat.blt p1 n = true)
 (hassign : ∀ w1 S1 m1, G n w1 S1 ((p1, v1) :: l) m1 (dq [] (assign.wpIn (fR (some lp)) 0 P (Exit.then (fun a w => At a n l2 ∧ Hp w1 S1 w m1) (fun _ _ _ => False)))))
 (hbody : ∀ w1 S1 c, (∀ c ∈ rr, Ro w1 S1 c) → G n w1 S1 l2 (c :: B true i x) (dq [] (body.wpIn (fR (some lp)) 0 P (rnd w1 S1 J B jmp c i)))) :
 TrYr P lp [v1].toArray rr [cL (recL1 fnx a.tmps p1 assign body D) lp D B jmp true i x] (TX (fun z : Bool × X => J z.1 (i + 1) z.2) (fun z => .bool z.1) (fun z => [cL (recL1 fnx a.tmps p1 assign body D) lp D B jmp z.1 (i + 1) z.2])) := by
 intro w1 hrr hw1
 have hds : a.defers = [] := ha.defs
 obtain ⟨S1, hS1⟩ : ∃ S1, U [cL (recL1 fnx a.tmps p1 assign body D) lp D B jmp true i x] = S1 := ⟨_, rfl⟩
 rw [hS1] at hw1 hrr ⊢
 have hu : Hp w1 S1 w1 (obc lp (.loop (recL1 fnx a.tmps p1 assign body D .ready none)) :: dfr D :: B true i x) := by
  have := Hp.unstar hw1
  rw [List.append_nil] at this
  exact this
 have hl : w1.heap[lp]? = some (.loop (recL1 fnx a.tmps p1 assign body D .ready none)) := hu.holds _ (List.mem_cons_self ..)
 have hy := run_yield (P := P) (args := #[v1]) hl rfl
 refine ⟨_, _, _, _, hy, roundIn_of_wpIn (F := Fence.wide) trivial ?_⟩
 have hA : At (n := n) { tmps := a.tmps.setIfInBounds p1 v1, defers := [] } ((p1, v1) :: l) := by
  have h2 := ha.put hp1 v1
  have e : (a.put (some p1) v1) = { tmps := a.tmps.setIfInBounds p1 v1, defers := [] } := by
   simp [Act.put, hds]
  rwa [e] at h2
 have h3 := hassign w1 S1 _ _ w1 hA hu
 unfold dq at h3
 rw [da_nil hA] at h3
 have eT : ((#[p1] : Array Nat).zip #[v1]).foldl (fun t (x : Nat × Value) => t.setIfInBounds x.1 x.2) a.tmps = a.tmps.setIfInBounds p1 v1 := by simp
 show assign.wpIn (fR (some lp)) 0 P _ { tmps := ((#[p1] : Array Nat).zip #[v1]).foldl (fun t (x : Nat × Value) => t.setIfInBounds x.1 x.2) a.tmps, defers := [] } w1
 rw [eT]
 refine wpIn_mono h3 ?_
 intro e a1 w2 hq
 cases e with
 | exit id => exact hq.elim
 | goto t => exact hq.elim
 | ret => exact hq.elim
 | panic ch => exact hq.elim
 | outgrown => exact hq.elim
 | normal =>
  obtain ⟨hA1, hH1⟩ := hq
  have hl1 : w2.heap[lp]? = some (.loop (recL1 fnx a.tmps p1 assign body D .ready none)) := hH1.holds _ (List.mem_cons_self ..)
  have hbr := run_beginRound (P := P) hl1 rfl
  refine ⟨_, hbr, ?_⟩
  have hH2 := Hp.putO (.loop (recL1 fnx a.tmps p1 assign body D .busy none)) hH1
  have hH3 := Hp.star (m := [_, _]) (r := B true i x) hH2
  have h4 := hbody w1 S1 _ hrr a1 _ hA1 hH3
  unfold dq at h4
  rw [da_nil hA1] at h4
  refine wpIn_mono h4 ?_
  intro e a2 w4 hq
  cases e with
  | normal =>
   obtain ⟨y, hJy, hH4⟩ := hq
   exact I.fin1 (b := true) hJy rfl hH4
  | ret =>
   obtain ⟨y, hJy, hj, hH4⟩ := hq
   exact I.fin1 (b := false) hJy (by rw [← hj]; rfl) hH4
  | exit k =>
   obtain ⟨y, hJy, hj, hH4⟩ := hq
   exact I.fin1 (b := false) hJy (by rw [← hj]; rfl) hH4
  | goto t => exact hq.elim
  | panic ch => exact hq.elim
  | outgrown => exact hq.elim
theorem I.rangeF1 {X : Type} {gf nn p1 : Nat} {lb : Array Value} {rr ro pre q : List Ck} {encs : Nat → Value} {g : Operand} {assign body : Code} {fn : Func} {c : Code}
 (J : Bool → Nat → X → Prop) (B : Bool → Nat → X → List Ck) (jmp : X → Code) (L2 : Nat → Fr) {x0 : X}
 (hg : ev l g = some (.func (.func gf) #[] lb)) (hf : P.funcs[gf]? = some fn) (hb : fn.body = some c) (hnm : (fn.name == "runtime.NumGoroutine") = false)
 (hseq : SeqR P gf lb ro pre nn (fun i => [encs i]))
 (hm : Sub m (B true 0 x0 ++ pre) q) (hro : ∀ c ∈ rr ++ ro, May w0 S q c) (h0 : J true 0 x0)
 (hp1 : Nat.blt p1 n = true)
 (hassign : ∀ w1 S1 lp m1 i, i < nn → G n w1 S1 ((p1, encs i) :: l) m1 (dq [] (assign.wpIn (fR (some lp)) 0 P (Exit.then (fun a w => At a n (L2 i) ∧ Hp w1 S1 w m1) (fun _ _ _ => False)))))
 (hbody : ∀ w1 S1 lp c i x, i < nn → J true i x → (∀ c ∈ rr, Ro w1 S1 c) → G n w1 S1 (L2 i) (c :: B true i x) (dq [] (body.wpIn (fR (some lp)) 0 P (rnd w1 S1 J B jmp c i))))
 (hdone : ∀ D x, J true nn x → G n w0 S l (dfr D :: (B true nn x ++ q)) (dq (mark D) (Q .normal)))
 (hstop : ∀ D i x, i ≤ nn → J false i x → G n w0 S l (dfr D :: (B false i x ++ q)) (dq (mark D) ((jmp x).wpIn (fR none) 0 P Q))) :
 G n w0 S l m (dq [] ((Code.rangeFunc g #[p1] assign body).wpIn (fR none) 0 P Q)) := fun a w ha hw => by
 unfold dq
 rw [da_nil ha]
 have hds : a.defers = [] := ha.defs
 have hw' := hw.perm hm.perm
 refine wpIn_rangeFunc (F := fR none) (n := 0) ?_
 intro fnx _
 obtain ⟨W1, hW1⟩ : ∃ W1, (w.alloc (.deferred (some []))).alloc (.loop (recL1 fnx a.tmps p1 assign body w.heap.size .ready none)) = W1 := ⟨_, rfl⟩
 have hp1W : Hp w0 S W1 (cL (recL1 fnx a.tmps p1 assign body w.heap.size) (w.heap.size + 1) w.heap.size B jmp true 0 x0 :: pre ++ q) := by
  rw [← hW1]
  have h2 := (hw'.allocO (.deferred (some []))).allocO (.loop (recL1 fnx a.tmps p1 assign body w.heap.size .ready none))
  rw [World.size_alloc, List.append_assoc] at h2
  exact Hp.star (m := _ :: _ :: B true 0 x0) (r := pre ++ q) h2
 have hT := hseq rr (w.heap.size + 1) X J (cL (recL1 fnx a.tmps p1 assign body w.heap.size) (w.heap.size + 1) w.heap.size B jmp) x0 h0 fun i x hi hJ => I.round1 ha hp1 (fun w1 S1 m1 => hassign w1 S1 _ m1 i hi) (fun w1 S1 c hr => hbody w1 S1 _ c i x hi hJ hr)
 have hpp : Hp W1 (U (cL (recL1 fnx a.tmps p1 assign body w.heap.size) (w.heap.size + 1) w.heap.size B jmp true 0 x0 :: pre)) W1 (cL (recL1 fnx a.tmps p1 assign body w.heap.size) (w.heap.size + 1) w.heap.size B jmp true 0 x0 :: pre) := ⟨Chg.refl _ _, fun c hc => hp1W.holds c (List.mem_append_left _ hc), fun c hc b hb => ⟨.inl ⟨c, hc, hb⟩, (hp1W.own c (List.mem_append_left _ hc) b hb).2⟩, (List.pairwise_append.1 hp1W.dis).1⟩
 have hcall := hT W1 (fun c hc => (hro c hc).ro hp1W) hpp
 have henter : (Instr.enterLoop fnx a.tmps #[p1] assign body (fR none).round).run P w = .ok (w.heap.size + 1, mark w.heap.size) W1 := by
  rw [← hW1]
  exact run_enterLoop_outer _ _ _ _ _
 have hres : (resolve a.eval (rangeCall g (w.heap.size + 1)) 0).run P W1 = .ok { target := .fn (.func gf) lb, args := #[.func (.yield (w.heap.size + 1)) #[] #[]] } W1 := by
  simp only [resolve, rangeCall, ha.eval hg]
  simp [Deferred.ofValue, Sem.run_bind, Sem.run_pure, Result.andThen, Act.eval, Sem.run]
 have hinv := run_invokeF (P := P) (args := #[.func (.yield (w.heap.size + 1)) #[] #[]]) (cap := lb) hf hb hnm W1
 have hz : (fR none).depth.isSome = true → 1 ≤ 0 := fun h => by simp [fR, Fence.wide] at h
 suffices hfin : CallsIn (fR none) 0 P gf (#[.func (.yield (w.heap.size + 1)) #[] #[]] ++ lb) W1 (rangePost (fR none) 0 P (w.heap.size + 1) Q { a with defers := mark w.heap.size ++ a.defers }) from
  ⟨w.heap.size + 1, mark w.heap.size, W1, _, W1, gf, _, W1, henter, hres, fun _ _ => trivial, hinv, hz, hfin⟩
 refine calls_fR (callsIn_wide.2 (hcall.mono ?_))
 rintro e w3 ⟨v, m', rfl, ⟨⟨b, i, y⟩, ⟨hJ, hle, hall⟩, rfl, rfl⟩, hm'⟩
 have hu2 := Hp.unstar (m := _ :: _ :: B b i y) (r := q) (hp1W.turn hm')
 have hl3 : w3.heap[w.heap.size + 1]? = some (.loop (recL1 fnx a.tmps p1 assign body w.heap.size (stL b) (peL jmp b y))) := hu2.holds _ (List.mem_cons_self ..)
 have hend := run_endLoop (P := P) hl3 (by cases b <;> simp [recL1, stL])
 have hu3 := (Hp.putO (.loop { recL1 fnx a.tmps p1 assign body w.heap.size (stL b) (peL jmp b y) with state := .exhausted }) hu2).tail
 have eD : ({ a with defers := mark w.heap.size ++ a.defers } : Act) = da (mark w.heap.size) a := by
  unfold da
  rw [hds]
  rfl
 refine ⟨_, _, hend, ?_⟩
 rw [eD]
 cases b with
 | true =>
  have hJ' : i = nn := hall rfl
  subst hJ'
  exact hdone _ y hJ a _ ha hu3
 | false => exact hstop _ i y hle hJ a _ ha hu3
theorem I.rangeK1 {X : Type} {gf nn p1 : Nat} {lb : Array Value} {rr ro pre q : List Ck} {encs : Nat → Value} {g : Operand} {assign body : Code} {fn : Func} {c : Code}
 (J : Bool → Nat → X → Prop) (B : Bool → Nat → X → List Ck) (jmp : X → Code) (A : Nat → Fr) {x0 : X} {ts : List Nat} {l1 : Fr} {L2 : Nat → Fr}
 (hg : ev l g = some (.func (.func gf) #[] lb)) (hf : P.funcs[gf]? = some fn) (hb : fn.body = some c) (hnm : (fn.name == "runtime.NumGoroutine") = false)
 (hseq : SeqR P gf lb ro pre nn (fun i => [encs i]))
 (hm : Sub m (B true 0 x0 ++ pre) q) (hro : ∀ c ∈ rr ++ ro, May w0 S q c) (h0 : J true 0 x0)
 (hp1 : Nat.blt p1 n = true) (hk : Kp l ts l1) (hL : Ap A l1 L2)
 (hassign : ∀ w1 S1 lp m1 i, i < nn → G n w1 S1 ((p1, encs i) :: l) m1 (dq [] (assign.wpIn (fR (some lp)) 0 P (Exit.then (fun a w => At a n (L2 i) ∧ Hp w1 S1 w m1) (fun _ _ _ => False)))))
 (hbody : ∀ w1 S1 lp c i x, i < nn → J true i x → (∀ c ∈ rr, Ro w1 S1 c) → G n w1 S1 (L2 i) (c :: B true i x) (dq [] (body.wpIn (fR (some lp)) 0 P (rnd w1 S1 J B jmp c i))))
 (hdone : ∀ D x, J true nn x → G n w0 S l (dfr D :: (B true nn x ++ q)) (dq (mark D) (Q .normal)))
 (hstop : ∀ D i x, i ≤ nn → J false i x → G n w0 S l (dfr D :: (B false i x ++ q)) (dq (mark D) ((jmp x).wpIn (fR none) 0 P Q))) :
 G n w0 S l m (dq [] ((Code.rangeFunc g #[p1] assign body).wpIn (fR none) 0 P Q)) :=
 I.rangeF1 J B jmp L2 hg hf hb hnm hseq hm hro h0 hp1 hassign hbody hdone hstop
def onlyN (K : Act → World → Prop) : Exit → Act → World → Prop
 | .normal => K
 | _ => fun _ _ => False
theorem I.drawN {ops : Array Oper} {id nn rem : Nat} {mS p : List Ck} (deps frs : List Nat) (hd : ops.all noDefer = true) (hm : P.follows .mixedOrders = true) (hT : Tab ops deps frs nn) (hs : Sub m p mS) (hr : Nat.beq rem (2 ^ nn - 1) = true) (h : Tab ops deps frs nn → G n w0 S l m (GA P ops (dqq ds (onlyN (Q .normal))) (fun w => Hp w0 S w mS) nn nn rem)) : G n w0 S l m (dq ds ((Code.region id ops true).wpIn (fR r) 0 P Q)) := fun a w ha hw =>
 wpIn_mono (I.drawT (Q := onlyN (Q .normal)) deps frs hd (fun ⟨_, _, h⟩ => h) hm hT hs hr h a w ha hw) fun e a1 w1 hq => by
  cases e with
  | normal => exact hq
  | exit id => exact hq.elim
  | goto g => exact hq.elim
  | ret => exact hq.elim
  | panic ch => exact hq.elim
  | outgrown => exact hq.elim
theorem I.overN {ops : Array Oper} {deps frs : List Nat} {nn fuel rem : Nat} {Sx : World → Prop} (hT : Tab ops deps frs nn) (hr : rdB deps rem [] = true) (h : G n w0 S l m (dq ds K)) : G n w0 S l m (GA P ops (dqq ds (onlyN K)) Sx nn fuel rem) := G.overT hT hr h
end
end Go.Proofs.YtngbglhmiefcpaaGreat
set_option maxRecDepth 100000
namespace Go.Proofs.YtngbglhmiefcpaaGreat
open Go.ChangeShapes Go.WideShapes Go.ChangeAt Go.RowKit Go.Deep
theorem Tryz.own : ownKnob Tryz.prog.godebug = none := by kernel_rfl
theorem Tryz.laidOut : laidOutB Tryz.prog = true := by kernel_rfl
theorem trodAll_below {H : Type} {enc : TypeId × Value → H} {W W' : World} (hb : Below W.heap.size W W') : ∀ (ts : List TypeId) (vs : List Value) (ds : List (DataW H)) (ps : List MemPlace),
 (∀ t ∈ ts, Tryz.prog.readableRec t = true ∧ t < Tryz.prog.types.size) → DataW.TrodAll enc Tryz.prog W 0 (fun _ => true) true ts vs ds ps → (∀ x ∈ ps, x.block < W.heap.size) →
 DataW.TrodAll enc Tryz.prog W' 0 (fun b => decide (b < W.heap.size)) true ts vs ds ps
 | [], [], [], ps, _, h, _ => h
 | t :: ts, v :: vs, d :: ds, ps, ht, h, hlt => by
  obtain ⟨p, q, h1, h2, rfl⟩ := h
  have h3 := ht t (by simp)
  exact ⟨p, q, Below.trod Tryz.laidOut h3.1 h3.2 h1 hb (fun x hx => hlt x (by simp [hx])), trodAll_below hb ts vs ds q (fun t' h' => ht t' (by simp [h'])) h2 (fun x hx => hlt x (by simp [hx])), rfl⟩
 | [], _ :: _, _, _, _, h, _ => h.elim
 | [], [], _ :: _, _, _, h, _ => h.elim
 | _ :: _, [], _, _, _, h, _ => h.elim
 | _ :: _, _ :: _, [], _, _, h, _ => h.elim
theorem law_post {H : Type} {enc : TypeId × Value → H} {s : ChangeSpec} {fn : Func} {W W' : World} {args : Array Value} {ds gs : List (DataW H)} {before : List MemPlace}
 (hW : DataW.Whole enc Tryz.prog fn.params.toList s.vars false W args.toList ds gs before) (hts : ∀ t ∈ fn.params.toList, Tryz.prog.readableRec t = true ∧ t < Tryz.prog.types.size) (hv : s.vars = []) (hres : fn.resultTypes = #[4])
 (hr : (s.fn H (ds ++ gs)).results = [.lit (.bool true)]) (ha : (s.fn H (ds ++ gs)).args = ds) (hvv : (s.fn H (ds ++ gs)).vars = []) (hb : Below W.heap.size W W') :
 s.post enc Tryz.prog fn false true false false W args (.bool true) W' := by
 have hlt := hW.lt
 obtain ⟨p, q, hA, hV, hpq, _, _⟩ := id hW
 refine ⟨ds, gs, before, [], p, [], hW, ?_, ?_, ?_, hb.frame _, fun h => by cases h⟩
 ·rw [hr, hres]
  exact trodAll_mk1 (shut_bool Tryz.underlying4 true)
 ·rw [ha]
  exact trodAll_below hb _ _ _ _ hts hA fun x hx => hlt x (by rw [hpq]; simp [hx])
 rw [hv, hvv]; rfl
section
variable {H : Type} {enc : TypeId × Value → H} {W : World}
theorem add_none {a : Addr} {v : Value} {b o : Nat} {n : Nat} (h : W.cell? (a.add n) = some v) (e : a = ⟨b, o, none⟩) : W.cell? ⟨b, o + n, none⟩ = some v := by
 subst e
 unfold Addr.add at h
 split at h
 ·subst_vars; exact h
 exact h
theorem spot_none {a : Addr} {v : Value} (h : W.cell? a = some v) : a = ⟨a.block, a.off, none⟩ := by
 have := World.cell?_spot h
 cases a
 simp at this
 subst this
 rfl
theorem wf_I64 {x : Int} (h : (Lit.int .i64 x).wf = true) : I64 x := by
 simp only [Lit.wf, Bool.and_eq_true, decide_eq_true_eq] at h
 exact ⟨h.1, h.2⟩
theorem open_intv {r : Reach} {base : Nat} {v : Value} {d : DataW H} {p : List MemPlace} (hok : Value.okWide Tryz.prog W r base 3 v) (h : DataW.Trod enc Tryz.prog W 0 (fun _ => true) true 3 v d p) :
 ∃ x : Int, v = .int .i64 x ∧ I64 x := by
 obtain ⟨x, rfl, _, _, w⟩ := open_int Tryz.underlying3 hok h
 exact ⟨x, rfl, wf_I64 w⟩
end
end Go.Proofs.YtngbglhmiefcpaaGreat
namespace Go.Proofs.YtngbglhmiefcpaaGreat
open Go.RowKit
set_option maxRecDepth 100000
theorem U_nil : U [] = fun _ => False := by
 funext b
 simp [U]
theorem law_callsR {P : Program} {f : FuncId} {args : Array Value} {ro : List Ck} (h : Tr P f args ro [] (T0 (.bool true))) (w : World) (hro : ∀ c ∈ ro, Ro w (fun _ => False) c) : Calls P f args w fun e w' => e = .returned (.bool true) ∧ Below w.heap.size w w' := by
 refine (h w (fun c hc => by rw [U_nil]; exact hro c hc) ⟨Chg.refl _ _, by simp, by simp, .nil⟩).mono ?_
 rintro e w' ⟨v, m', he, ⟨hv, -⟩, hw⟩
 have hc := hw.chg
 rw [U_nil] at hc
 exact ⟨by rw [he, hv], Chg.below_of_none hc⟩
theorem ro_new {c : Ck} {w : World} (h : c.φ w) (hb : ∀ b, c.S b → b < w.heap.size) : Ro w (fun _ => False) c := ⟨h, fun b hc => ⟨hb b hc, id⟩⟩
end Go.Proofs.YtngbglhmiefcpaaGreat
set_option maxRecDepth 100000
namespace Go.Proofs.YtngbglhmiefcpaaGreat
open Go.ChangeShapes Go.WideShapes Go.ChangeAt Go.RowKit Go.Deep
def rUnit : Rdr Unit := ⟨0, fun _ _ _ _ _ => True, fun _ h => h, fun _ h => h⟩
def rProd {α β : Type} (E : Rdr α) (F : Rdr β) : Rdr (α × β) where
 sz := E.sz + F.sz
 R := fun Ps w b o x => E.R Ps w b o x.1 ∧ F.R Ps w b (o + E.sz) x.2
 loc := fun h ⟨h1, h2⟩ => ⟨E.loc h h1, F.loc h h2⟩
 mono := fun h ⟨h1, h2⟩ => ⟨E.mono h h1, F.mono h h2⟩
def rArr {α : Type} (n : Nat) (E : Rdr α) : Rdr (List α) where
 sz := n * E.sz
 R := fun Ps w b o xs => xs.length = n ∧ ∀ i (h : i < xs.length), E.R Ps w b (o + i * E.sz) xs[i]
 loc := fun h ⟨h1, h2⟩ => ⟨h1, fun i hi => E.loc h (h2 i hi)⟩
 mono := fun h ⟨h1, h2⟩ => ⟨h1, fun i hi => E.mono h (h2 i hi)⟩
def rStrB : Rdr (List UInt8) := r1 vStr fun x => x.length ≤ 140737488355328
def rSlB {α : Type} (E : Rdr α) : Rdr (List α) where
 sz := 1
 R := fun Ps w b o xs => (rSl E).R Ps w b o xs ∧ xs.length ≤ 140737488355328
 loc := fun h ⟨h1, h2⟩ => ⟨(rSl E).loc h h1, h2⟩
 mono := fun h ⟨h1, h2⟩ => ⟨(rSl E).mono h h1, h2⟩
section
variable {H : Type} {enc : TypeId × Value → H} {P : Program} {W : World}
def At0 (w : World) (b o : Nat) (cs : List Value) : Prop := ∀ (j : Nat) v, cs[j]? = some v → w.cell? ⟨b, o + j, none⟩ = some v
theorem At0.drop {w : World} {b o : Nat} {cs : List Value} (h : At0 w b o cs) (k n : Nat) : At0 w b (o + k) ((cs.drop k).take n) := fun j v hj => by
 rw [List.getElem?_take] at hj
 split at hj
 ·rw [List.getElem?_drop] at hj
  rw [Nat.add_assoc]
  exact h _ v hj
 cases hj
theorem list_of_each {α : Type} {q : Nat → α → Prop} : ∀ n : Nat, (∀ i, i < n → ∃ y, q i y) → ∃ ys : List α, ys.length = n ∧ ∀ i (h : i < ys.length), q i ys[i]
 | 0, _ => ⟨[], rfl, fun i h => absurd h (by simp)⟩
 | n + 1, h => by
  obtain ⟨ys, hl, hy⟩ := list_of_each n fun i hi => h i (by omega)
  obtain ⟨y, hn⟩ := h n (by omega)
  refine ⟨ys ++ [y], by simp [hl], fun i hi => ?_⟩
  rcases Nat.lt_or_ge i n with hlt | hge
  ·rw [List.getElem_append_left (by omega)]
   exact hy i (by omega)
  have hin : i = n := by simp [hl] at hi; omega
  subst hin
  rw [List.getElem_append_right (by omega)]
  simpa [hl] using hn
structure Opn (H : Type) (enc : TypeId × Value → H) (P : Program) (W : World) {α : Type} (t : TypeId) (E : Rdr α) : Prop where
 sz : P.cellsOf t = E.sz
 mem : ∀ fuel cs x b o, DataW.trod enc P W 0 (fun _ => true) true fuel t cs = some x → (∀ k ∈ DataW.weights P t x.1, k ≤ reachBytes) → At0 W b o cs → b < W.heap.size → ∃ a, E.R (· < W.heap.size) W b o a
theorem weightsAll_memG {e : TypeId} : ∀ {l : List (DataW H)} {d : DataW H}, d ∈ l → ∀ n ∈ d.weights P e, n ∈ DataW.weightsAll P e l
 | x :: l, d, hd, n, hn => by
  simp only [DataW.weightsAll, List.mem_append]
  rcases List.mem_cons.1 hd with rfl | h
  ·exact Or.inl hn
  exact Or.inr (weightsAll_memG h n hn)
theorem opn_int {t : TypeId} (ht : P.underlying t = some (.int .i64)) (hc : P.cellsOf t = 1) : Opn H enc P W t rInt := ⟨hc, fun fuel cs x b o h hwt hA hb => by
 obtain ⟨n, rfl, _, hw⟩ := DataW.trod_int ht h
 exact ⟨n, hb, by show W.cell? ⟨b, o, none⟩ = some (.int .i64 n); simpa using hA 0 _ rfl, wf_I64 hw⟩⟩
theorem opn_byte {t : TypeId} (ht : P.underlying t = some (.int .u8)) (hc : P.cellsOf t = 1) : Opn H enc P W t rByte := ⟨hc, fun fuel cs x b o h hwt hA hb => by
 obtain ⟨n, rfl, _, hw⟩ := DataW.trod_int ht h
 simp only [Lit.wf, Bool.and_eq_true, decide_eq_true_eq] at hw
 have h0 : (0 : Int) ≤ n := hw.1
 have h1 : n ≤ 255 := hw.2
 refine ⟨UInt8.ofNat n.toNat, hb, ?_, trivial⟩
 have e : vByte (UInt8.ofNat n.toNat) = .int .u8 n := by
  unfold vByte
  congr 1
  rw [UInt8.toNat_ofNat']
  omega
 rw [e]
 simpa using hA 0 _ rfl⟩
theorem opn_str {t : TypeId} (ht : P.underlying t = some .string) (hc : P.cellsOf t = 1) : Opn H enc P W t rStrB := ⟨hc, fun fuel cs x b o h hwt hA hb => by
 obtain ⟨s, rfl, rfl, hs⟩ := DataW.trod_string ht h
 refine ⟨s.data.toList, hb, ?_, by have := hwt s.data.toList.length (by simp [DataW.weights]); unfold reachBytes at this; show s.data.toList.length ≤ _; omega⟩
 have := hA 0 _ rfl
 simpa [vStr, sB] using this⟩
theorem opn_slice {α : Type} {t e : TypeId} {E : Rdr α} (ht : P.underlying t = some (.slice e)) (hby : 0 < P.bytesOf e) (hE : Opn H enc P W e E) (hpos : 0 < E.sz) : ∀ fuel cs x, DataW.trod enc P W 0 (fun _ => true) true fuel t cs = some x → (∀ k ∈ DataW.weights P t x.1, k ≤ reachBytes) → ∃ v xs, cs = [v] ∧ IsSl E (· < W.heap.size) W v xs ∧ xs.length ≤ 140737488355328 := fun fuel cs x h hwt => by
 rcases open_slice ht h with ⟨rfl, rfl⟩ | ⟨a, len, cap, m, n, D, Pl, rfl, _, hl, hm, hmm, rfl, hx⟩
 ·exact ⟨_, [], rfl, ⟨none, 0, 0, 0, rfl, Nat.le_refl _, by omega, fun _ => rfl, fun h => absurd h (by simp), fun i hi => absurd hi (by simp)⟩, by simp⟩
 simp only [if_true] at hmm
 subst hmm
 rw [hE.sz] at hx
 have e0 : a.add 0 = a := by unfold Addr.add; simp
 simp only [DataW.weights, ht] at hwt
 have hlen := hwt _ (List.mem_cons_self ..)
 have each : ∀ i, i < len → ∃ y, E.R (· < W.heap.size) W a.block (a.off + i * E.sz) y := fun i hi => by
  obtain ⟨c0, h0, _⟩ := hx 0 (by omega)
  rw [Nat.zero_mul, e0] at h0
  obtain ⟨cs', h1, h2⟩ := hx i (by omega)
  obtain ⟨_, hl0, hc0⟩ := World.cells?_some h0
  obtain ⟨_, hl1, hc1⟩ := World.cells?_some h1
  have g0 := (hc0 0 (by omega)).trans (List.getElem?_eq_getElem (by omega))
  rw [e0] at g0
  have hs := spot_none g0
  refine hE.mem _ cs' _ _ _ h2 (fun k hk => hwt k (List.mem_cons_of_mem _ (List.mem_append_left _ (weightsAll_memG (List.mem_map.2 ⟨i, List.mem_range.2 hi, rfl⟩) k hk)))) (fun j v hj => ?_) (cell_lt g0)
  have hjl : j < cs'.length := (List.getElem?_eq_some_iff.1 hj).1
  have := (hc1 j (by omega)).trans hj
  rw [add_add] at this
  have := add_none this hs
  rw [show a.off + i * E.sz + j = a.off + (i * E.sz + j) by omega]
  exact this
 obtain ⟨ys, hyl, hy⟩ := list_of_each len each
 refine ⟨_, ys, rfl, ⟨some a, m, a.block, a.off, by rw [hyl], by rw [hyl]; exact hl, by unfold maxLen at hm; omega, by simp, fun h0 => ?_, hy⟩, ?_⟩
 ·have h0' : 0 < len := by rw [hyl] at h0; exact h0
  obtain ⟨c0, h1, _⟩ := hx 0 (by omega)
  rw [Nat.zero_mul, e0] at h1
  obtain ⟨_, hl0, hc0⟩ := World.cells?_some h1
  have g0 := (hc0 0 (by omega)).trans (List.getElem?_eq_getElem (by omega))
  rw [e0] at g0
  exact congrArg some (spot_none g0)
 rw [hyl]
 simp only [List.length_map, List.length_range] at hlen
 unfold reachBytes at hlen
 have := Nat.le_mul_of_pos_right (len + (m - len)) hby
 omega
theorem opn_rSl {α : Type} {t e : TypeId} {E : Rdr α} (ht : P.underlying t = some (.slice e)) (hc : P.cellsOf t = 1) (hby : 0 < P.bytesOf e) (hE : Opn H enc P W e E) (hpos : 0 < E.sz) : Opn H enc P W t (rSlB E) := ⟨hc, fun fuel cs x b o h hwt hA hb => by
 obtain ⟨v, xs, rfl, hs, hl⟩ := opn_slice ht hby hE hpos fuel cs x h hwt
 exact ⟨xs, ⟨hb, v, by simpa using hA 0 _ rfl, hs⟩, hl⟩⟩
theorem opn_arr {α : Type} {t e : TypeId} {E : Rdr α} {n : Nat} (ht : P.underlying t = some (.array n e)) (hc : P.cellsOf t = n * E.sz) (hE : Opn H enc P W e E) : Opn H enc P W t (rArr n E) := ⟨hc, fun fuel cs x b o h hwt hA hb => by
 obtain ⟨xs, k, rfl, rfl, hl, hxl, hx⟩ := DataW.trod_array ht h
 simp only [DataW.weights, ht] at hwt
 have each : ∀ i, i < n → ∃ y, E.R (· < W.heap.size) W b (o + i * E.sz) y := fun i hi => by
  have hy := hx i hi
  rw [List.getElem?_eq_getElem (by omega)] at hy
  rw [hE.sz] at hy
  exact hE.mem _ _ _ _ _ hy (fun k hk => hwt k (weightsAll_memG (List.mem_map.2 ⟨_, List.getElem_mem (by omega), rfl⟩) k hk)) (hA.drop _ _) hb
 obtain ⟨ys, hyl, hy⟩ := list_of_each n each
 exact ⟨ys, hyl, hy⟩⟩
inductive OpnFs (H : Type) (enc : TypeId × Value → H) (P : Program) (W : World) : {α : Type} → List Field → Nat → Rdr α → Prop
 | nil {off : Nat} : OpnFs H enc P W [] off rUnit
 | cons {α β : Type} {f : Field} {fs : List Field} {E : Rdr α} {F : Rdr β} {off : Nat} (h : Opn H enc P W f.type E) (ho : f.offset = off) (r : OpnFs H enc P W fs (off + E.sz) F) : OpnFs H enc P W (f :: fs) off (rProd E F)
theorem opn_fields {α : Type} {fs : List Field} {off : Nat} {F : Rdr α} (h : OpnFs H enc P W fs off F) : ∀ {fuel : Nat} {cs : List Value} {b o : Nat} {xs : List (DataW H × List MemPlace)}, xs.length = fs.length → (∀ (i : Nat) (f : Field), fs[i]? = some f → DataW.trod enc P W 0 (fun _ => true) true fuel f.type ((cs.drop f.offset).take (P.cellsOf f.type)) = xs[i]?) →
 (∀ k ∈ DataW.weightsEach P (fs.map (·.type)) (xs.map (·.1)), k ≤ reachBytes) → At0 W b o cs → b < W.heap.size → ∃ a, F.R (· < W.heap.size) W b (o + off) a := by
 induction h with
 | nil => intro fuel cs b o xs _ _ _ _ _; exact ⟨(), trivial⟩
 | cons h ho r ih =>
  intro fuel cs b o xs hl hx hwt hA hb
  cases xs with
  | nil => simp at hl
  | cons y ys =>
   simp only [List.map_cons, DataW.weightsEach, List.mem_append] at hwt
   have h0 := hx 0 _ rfl
   obtain ⟨a, ha⟩ := h.mem _ _ _ _ _ h0 (fun k hk => hwt k (.inl hk)) (hA.drop _ _) hb
   obtain ⟨c, hc⟩ := ih (by simpa using hl) (fun i f hf => hx (i + 1) f hf) (fun k hk => hwt k (.inr hk)) hA hb
   rw [ho] at ha
   exact ⟨(a, c), ha, by rw [Nat.add_assoc]; exact hc⟩
theorem opn_struct {α : Type} {t : TypeId} {fs : Array Field} {F : Rdr α} (ht : P.underlying t = some (.struct fs)) (hc : P.cellsOf t = F.sz) (h : OpnFs H enc P W fs.toList 0 F) : Opn H enc P W t F := ⟨hc, fun fuel cs x b o hx hwt hA hb => by
 obtain ⟨xs, k, rfl, rfl, hl, hxl, hxx⟩ := DataW.trod_struct ht hx
 simp only [DataW.weights, ht] at hwt
 have := opn_fields h (xs := xs) (by simpa using hxl) (fun i f hf => hxx i f (by simpa using hf)) hwt hA hb
 simpa using this⟩
theorem opn_arg {α : Type} {t e : TypeId} {E : Rdr α} {v : Value} {d : DataW H} {p : List MemPlace} {r : Reach} {base : Nat} (ht : P.underlying t = some (.slice e)) (hby : 0 < P.bytesOf e) (hE : Opn H enc P W e E) (hpos : 0 < E.sz) (hok : Value.okWide P W r base t v) (h : DataW.Trod enc P W 0 (fun _ => true) true t v d p)
 {ts : List TypeId} {ds : List (DataW H)} {j : Nat} (hsz : (DataW.weightsEach P ts ds).all (· ≤ reachBytes) = true) (hts : ts[j]? = some t) (hds : ds[j]? = some d) :
 ∃ xs : List α, Ro W (fun _ => False) (slc E (· < W.heap.size) v xs) ∧ xs.length ≤ 140737488355328 := by
 obtain ⟨a1, len, cap, rfl⟩ := okWide_slice ht hok
 obtain ⟨fuel, hf⟩ := h
 obtain ⟨v, xs, e1, hs, hl⟩ := opn_slice ht hby hE hpos fuel _ _ hf fun k hk => of_decide_eq_true (List.all_eq_true.1 hsz k (DataW.weights_mem_each hts hds k hk))
 simp [Value.cells] at e1
 exact ⟨xs, ro_new (e1 ▸ hs) (fun b hb => hb), hl⟩
end
section
variable {w0 : World} {S : Nat → Prop} {Ps : Nat → Prop} {b o : Nat}
theorem Ro.arr8 {n : Nat} {xs : List UInt8} (h : Ro w0 S (elc (rArr n rByte) Ps b o xs)) : xs.length = n ∧ ∀ {m : List Ck} w, Hp w0 S w m → w.rangeAt b o (xs.map vByte) := by
 refine ⟨h.1.1, fun {m} w hw j v hj => ?_⟩
 rw [List.getElem?_map] at hj
 obtain ⟨y, hy, rfl⟩ := Option.map_eq_some_iff.1 hj
 obtain ⟨hlt, rfl⟩ := List.getElem?_eq_some_iff.1 hy
 have := (h.at hw).2 j hlt
 have := this.2.1
 rwa [show o + j * rByte.sz = o + j from by show o + j * 1 = _; omega] at this
end
end Go.Proofs.YtngbglhmiefcpaaGreat
namespace Go.Proofs.YtngbglhmiefcpaaGreat
open Go.RowKit
theorem Tryz.infoByte : (Tryz.prog.info? 5).map (fun i => (i.zero, i.size, i.bytes)) = some (some (.int .u8 0), 1, 1) := by kernel_rfl
theorem Tryz.infoByte' : (Tryz.prog.info? 5).map (fun i => (i.zero.map (·.cells.size), i.size, i.bytes)) = some (some 1, 1, 1) := by kernel_rfl
theorem Tryz.sizeByte : (Tryz.prog.info? 5).map (·.size) = some 1 := by kernel_rfl
theorem same_tr {Pv Pu : Nat → Prop} (v u : Value) (a b : List UInt8) : Tr Tryz.prog 24 #[v, u] [slc rByte Pv v a, slc rByte Pu u b] [] (T0 (.bool (decide (a = b)))) := by
 refine Tr.of (l := [(0, v), (1, u)]) Tryz.func24 rfl (n := 10) rfl (.cons rfl (.cons rfl .nil)) (fun w0 hro => ?_)
 obtain ⟨hv, hu⟩ := ro2 hro
 refine go [9,10,1,7,8,9,10,0] ?_
 refine G.op rfl (G.val rfl rfl (pv_toStr Tryz.underlying31 Tryz.underlying5 Tryz.underlying9 rfl (by first | exact ro_sl (by assumption) | assumption)) ?_)
 refine go [0] ?_
 refine G.op rfl (G.val rfl rfl (pv_toStr Tryz.underlying31 Tryz.underlying5 Tryz.underlying9 rfl (by first | exact ro_sl (by assumption) | assumption)) ?_)
 refine go [2,24,1,7,8,11] ?_
 exact G.done1 rfl rfl .nil ⟨rfl, rfl⟩
theorem xor90 (x : UInt8) : bits .xor .u8 (x.toNat : Int) 90 = ((x ^^^ 90).toNat : Int) := by
 have : ∀ a : Fin 256, bits .xor .u8 (a.val : Int) 90 = (((UInt8.ofNat a.val) ^^^ 90).toNat : Int) := by decide +kernel
 have h := this ⟨x.toNat, x.toNat_lt⟩
 simpa using h
theorem over_tr (b len cap : Nat) (a : List UInt8) (hc : a.length = cap) (hm : cap ≤ 9223372036854775807) (hl : len ≤ cap) : Tr Tryz.prog 62 #[.slice (some ⟨b, 0, none⟩) len cap] [] [blk b 5 (a.map vByte)] (TX (fun a' : List UInt8 => a'.length = cap) (fun _ => .tuple #[]) (fun a' => [blk b 5 (a'.map vByte)])) := by
 refine Tr.of (l := [(0, .slice (some ⟨b, 0, none⟩) len cap)]) Tryz.func62 rfl (n := 22) rfl (.cons rfl .nil) (fun w0 hro => ?_)
 refine go [9,10,0,0] ?_
 refine G.op rfl (G.val rfl rfl (pv_capSl Tryz.underlying31 rfl) ?_)
 refine G.op rfl (G.val rfl rfl (pv_subH (sz := 1) (k := cap) Tryz.underlying31 Tryz.sizeByte rfl rfl rfl (Nat.le_refl _)) ?_)
 refine go [1,7,8,9,10,1,7,8,15] ?_
 refine G.loop (X := Nat × List UInt8) (fun (k, a') => k ≤ cap ∧ a'.length = cap) (fun (k, a') => [(2, .slice (some ⟨b, 0, none⟩) cap cap), (3, .int .i64 k)]) (fun (k, a') => [blk b 5 (a'.map vByte)]) (fun (k, a') => cap - k) (x0 := (0, a)) (⟨Nat.zero_le _, hc⟩) (.consE rfl veqT (.consE rfl veqT .nil)) (.cons selT .nil) (fun ⟨k, a'⟩ hJ => ?_)
 show G _ _ _ [(2, .slice (some ⟨b, 0, none⟩) cap cap), (3, .int .i64 k)] [blk b 5 (a'.map vByte)] _
 obtain ⟨hk, hlen⟩ := hJ
 refine go [9,9,10,0,0,2,5,2,9,7,8] ?_
 refine G.condP rfl (fun h11 => ?_) (fun h11 => ?_)
 ·have hk' : k < a'.length := by omega
  refine go [13,8,9,15,10,0,0,0,0] ?_
  refine G.op rfl (G.val rfl rfl (pv_ixSl (sz := 1) (k := k) Tryz.underlying31 Tryz.sizeByte rfl rfl (fun _ => rfl) rfl (by omega)) ?_)
  refine G.op rfl (G.val rfl rfl (pv_load (v := vByte a'[k]) Tryz.underlying5 rfl rfl (blk_cell (o := 0 + k * 1) .here (by simp [hk']))) ?_)
  refine G.op rfl (G.val rfl rfl ((pv_xor rfl rfl).int (xor90 a'[k])) ?_)
  refine G.op rfl (G.val rfl rfl (pv_ixSl (sz := 1) (k := k) Tryz.underlying31 Tryz.sizeByte rfl rfl (fun _ => rfl) rfl (by omega)) ?_)
  refine G.op rfl (G.store (o := k) Tryz.sizeByte (by simp [ev, Fr.get]) rfl rfl .here (by simp; omega) ?_)
  refine go [7,16,8,10,0,2,6,1,7] ?_
  exact G.next ((k + 1, a'.set k (a'[k] ^^^ 0x5A))) (by exact ⟨by omega, by simpa using hlen⟩) (by dsimp only; omega) (.consE rfl veqT (.consE rfl veqT .nil)) (.cons (by rw [List.map_set]; exact .here) .nil)
 refine go [18,14,14,19] ?_
 exact G.doneE (m' := [blk b 5 (a'.map vByte)]) rfl (.cons .here .nil) ⟨a', hlen, rfl, rfl⟩
def sizeM (x : Int) : Nat := if x < 0 ∨ 2147483647 < x then 0 else if x < 128 then 1 else if x < 16384 then 2 else if x < 2097152 then 3 else if x < 268435456 then 4 else 5
def qM (x : Int) (k : Nat) : Int := x / (128 : Int) ^ k
theorem qM_one (x : Int) : x / 2 ^ 7 = qM x 1 := rfl
theorem qM_step (x : Int) (k : Nat) : qM x k / 128 = qM x (k + 1) := by
 show x / (128 : Int) ^ k / 128 = x / (128 : Int) ^ (k + 1)
 rw [Int.pow_succ, ← Int.ediv_ediv_of_nonneg (Int.le_of_lt (Int.pow_pos (by omega)))]
theorem size_end (x : Int) (k : Nat) (h0 : 0 ≤ x) (h1 : x ≤ 2147483647) (k1 : 1 ≤ k) (k5 : k ≤ 5) (hk : k = 1 ∨ 0 < qM x (k - 1)) (he : ¬ 0 < qM x k) : sizeM x = k := by
 have : k = 1 ∨ k = 2 ∨ k = 3 ∨ k = 4 ∨ k = 5 := by omega
 unfold sizeM
 rcases this with rfl | rfl | rfl | rfl | rfl <;> simp [qM] at hk he <;> split <;> (try omega) <;> split <;> (try omega) <;> split <;> (try omega) <;> split <;> (try omega) <;> split <;> omega
theorem size_more (x : Int) (k : Nat) (h1 : x ≤ 2147483647) (k5 : k ≤ 5) (he : 0 < qM x k) : k + 1 ≤ 5 := by
 rcases Nat.lt_or_ge k 5 with h | h
 ·omega
 obtain rfl : k = 5 := by omega
 simp [qM] at he
 omega
theorem sizeM_le (x : Int) : sizeM x ≤ 5 := by unfold sizeM; (repeat' split) <;> omega
theorem sizeM_pos {x : Int} (h : sizeM x ≠ 0) : 0 ≤ x ∧ x ≤ 2147483647 := by
 unfold sizeM at h
 split at h
 ·exact absurd rfl h
 omega
theorem sizeM_zero {x : Int} (h : sizeM x = 0) : x < 0 ∨ 2147483647 < x := by
 unfold sizeM at h
 split at h
 ·assumption
 (repeat' split at h) <;> omega
theorem sizeM_ok {x : Int} (h0 : 0 ≤ x) (h1 : x ≤ 2147483647) : 1 ≤ sizeM x := by
 have := fun h => sizeM_zero (x := x) h
 omega
theorem qM_nonneg {x : Int} (h : 0 ≤ x) (k : Nat) : 0 ≤ qM x k := Int.ediv_nonneg h (Int.le_of_lt (Int.pow_pos (by omega)))
theorem qM_le {x : Int} (h : 0 ≤ x) (k : Nat) : qM x k ≤ x := Int.ediv_le_self _ h
theorem qM_small (x : Int) (k : Nat) (he : 128 ≤ x / 128 ^ (k - 1)) (h1 : 1 ≤ k) : 0 < qM x k := by
 have := qM_step x (k - 1)
 rw [show k - 1 + 1 = k by omega] at this
 unfold qM at this ⊢
 omega
set_option maxHeartbeats 4000000 in
theorem size_tr (x : Int) : Tr Tryz.prog 78 #[.int .i64 x] [] [] (T0 (.int .i64 (sizeM x))) := by
 refine Tr.of (l := [(0, .int .i64 x)]) Tryz.func78 rfl (n := 19) rfl (.cons rfl .nil) (fun w0 hro => ?_)
 refine go [9,10,1,7,8,9,9,10,0,2,9,0] ?_
 refine G.partP (t := 6) rfl (fun h6 => ?_) (fun h6 => ?_)
 ·refine go [4,4,2,2,7,8,60,1,9,10,1,7,8,11,12] ?_
  first
  | exact G.done1 rfl rfl .nil ⟨congrArg (fun k : Nat => Value.int .i64 k) (size_end x k (by omega) (by omega) (by omega) (by omega) hJ.2.2 (by assumption)).symm, rfl⟩
  | exact G.done1 rfl rfl .nil ⟨by simp [sizeM, *], rfl⟩
 refine go [3,0,3,10,2,2,7,8] ?_
 refine G.condP rfl (fun h9 => ?_) (fun h9 => ?_)
 ·refine go [9,10,1,7,8,11,12] ?_
  first
  | exact G.done1 rfl rfl .nil ⟨congrArg (fun k : Nat => Value.int .i64 k) (size_end x k (by omega) (by omega) (by omega) (by omega) hJ.2.2 (by assumption)).symm, rfl⟩
  | exact G.done1 rfl rfl .nil ⟨by simp [sizeM, *], rfl⟩
 refine go [13,8,9,10,1,7,8,9,9,10,0] ?_
 refine G.op rfl (G.val rfl rfl ((pv_shr (s := 7) rfl rfl (by decide)).int (qM_one x)) ?_)
 refine go [1,7,8,15] ?_
 refine G.loop (X := Nat) (fun k => 1 ≤ k ∧ k ≤ 5 ∧ (k = 1 ∨ 0 < qM x (k - 1))) (fun k => [(3, .int .i64 k), (0, .int .i64 (qM x k))]) (fun k => []) (fun k => 6 - k) (x0 := 1) (by omega) (.consE rfl veqT (.consE rfl veqT .nil)) Sub.nil (fun k hJ => ?_)
 show G _ _ _ [(3, .int .i64 k), (0, .int .i64 (qM x k))] [] _
 refine go [9,9,10,0,2,10,7,8] ?_
 refine G.condP rfl (fun h13 => ?_) (fun h13 => ?_)
 ·refine go [13,8,9,15,10,0,2,6,1,7,16,8,10,0] ?_
  refine G.op rfl (G.val rfl rfl ((pv_shr (s := 7) rfl rfl (by decide)).int (qM_step x k)) ?_)
  refine go [1,7] ?_
  exact G.next (k + 1) (by exact ⟨by omega, size_more x k (by omega) (by omega) (by assumption), .inr (by assumption)⟩) (by have := hJ; omega) (.consE rfl veqT (.consE rfl veqT .nil)) Sub.nil
 refine go [18,14,14,19,8,9,10,0,1,7,8,11] ?_
 first
 | exact G.done1 rfl rfl .nil ⟨congrArg (fun k : Nat => Value.int .i64 k) (size_end x k (by omega) (by omega) (by omega) (by omega) hJ.2.2 (by assumption)).symm, rfl⟩
 | exact G.done1 rfl rfl .nil ⟨by simp [sizeM, *], rfl⟩
set_option maxHeartbeats 4000000 in
theorem sizeR_tr (x : Int) : Tr Tryz.prog 152 #[.int .i64 x] [] [] (T0 (.int .i64 (sizeM x))) := by
 refine Tr.of (l := [(0, .int .i64 x)]) Tryz.func152 rfl (n := 17) rfl (.cons rfl .nil) (fun w0 hro => ?_)
 refine go [9,10,1,7,8,9,9,10,0,2,9,0] ?_
 refine G.partP (t := 6) rfl (fun h6 => ?_) (fun h6 => ?_)
 ·refine go [4,4,2,2,7,8,60,1,9,10,1,7,8,11,12] ?_
  first
  | exact G.done1 rfl rfl .nil ⟨congrArg (fun k : Nat => Value.int .i64 k) (size_end x k (by omega) (by omega) (by omega) (by omega) hJ.2.2 (by rw [← (show k - 1 + 1 = k by omega), ← qM_step]; omega)).symm, rfl⟩
  | exact G.done1 rfl rfl .nil ⟨by simp [sizeM, *], rfl⟩
 refine go [3,0,3,10,2,2,7,8] ?_
 refine G.condP rfl (fun h9 => ?_) (fun h9 => ?_)
 ·refine go [9,10,1,7,8,11,12] ?_
  first
  | exact G.done1 rfl rfl .nil ⟨congrArg (fun k : Nat => Value.int .i64 k) (size_end x k (by omega) (by omega) (by omega) (by omega) hJ.2.2 (by rw [← (show k - 1 + 1 = k by omega), ← qM_step]; omega)).symm, rfl⟩
  | exact G.done1 rfl rfl .nil ⟨by simp [sizeM, *], rfl⟩
 refine go [13,8,9,10,1,7,8,9,15] ?_
 refine G.loop (X := Nat) (fun k => 1 ≤ k ∧ k ≤ 5 ∧ (k = 1 ∨ 0 < qM x (k - 1))) (fun k => [(3, .int .i64 k), (0, .int .i64 (qM x (k - 1)))]) (fun k => []) (fun k => 6 - k) (x0 := 1) (by omega) (.cons rfl (.consE rfl (congrArg (Value.int .i64) (by simp [qM])) .nil)) Sub.nil (fun k hJ => ?_)
 show G _ _ _ [(3, .int .i64 k), (0, .int .i64 (qM x (k - 1)))] [] _
 refine go [9,9,10,0,2,12,7,8] ?_
 refine G.condP rfl (fun h11 => ?_) (fun h11 => ?_)
 ·refine go [13,8,15,9,10,0] ?_
  have q0 := qM_nonneg (x := x) (by omega) (k - 1)
  have q1 := qM_le (x := x) (by omega) (k - 1)
  refine G.op rfl (G.val rfl rfl ((pv_quo64 rfl rfl (by omega) (by omega)).int ((qM_step x (k - 1)).trans (by rw [show k - 1 + 1 = k + 1 - 1 by omega]))) ?_)
  refine go [1,7,8,10,0,2,6,1,7,16] ?_
  exact G.next (k + 1) (by exact ⟨by omega, size_more x k (by omega) (by omega) (qM_small x k (by assumption) (by omega)), .inr (qM_small x k (by assumption) (by omega))⟩) (by have := hJ; omega) (.consE rfl veqT (.consE rfl veqT .nil)) Sub.nil
 refine go [18,14,14,19,8,9,10,0,1,7,8,11] ?_
 first
 | exact G.done1 rfl rfl .nil ⟨congrArg (fun k : Nat => Value.int .i64 k) (size_end x k (by omega) (by omega) (by omega) (by omega) hJ.2.2 (by rw [← (show k - 1 + 1 = k by omega), ← qM_step]; omega)).symm, rfl⟩
 | exact G.done1 rfl rfl .nil ⟨by simp [sizeM, *], rfl⟩
def byteAt (x : Int) (i : Nat) : UInt8 := UInt8.ofNat ((qM x i % 128).toNat + if i = 0 then 0 else 128)
def putTo (x : Int) (c : Nat) : List UInt8 := (List.range c).map fun t => byteAt x (sizeM x - 1 - t)
def putM (x : Int) : List UInt8 := putTo x (sizeM x)
theorem putTo_succ (x : Int) (c : Nat) : putTo x (c + 1) = putTo x c ++ [byteAt x (sizeM x - 1 - c)] := by simp [putTo, List.range_succ]
theorem putTo_length (x : Int) (c : Nat) : (putTo x c).length = c := by simp [putTo]
theorem putM_length (x : Int) : (putM x).length = sizeM x := putTo_length x _
theorem byteAt_val (x : Int) (i : Nat) : ((byteAt x i).toNat : Int) = qM x i % 128 + if i = 0 then 0 else 128 := by
 unfold byteAt
 rw [UInt8.toNat_ofNat']
 have h0 := Int.emod_nonneg (qM x i) (show (128 : Int) ≠ 0 by omega)
 have h1 := Int.emod_lt_of_pos (qM x i) (show (0 : Int) < 128 by omega)
 split <;> omega
theorem shr_qM (x : Int) (i : Nat) : x / 2 ^ (7 * i) = qM x i := by
 unfold qM
 rw [Int.pow_mul]
 rfl
set_option maxHeartbeats 4000000 in
theorem put_tr (x : Int) : Tr Tryz.prog 153 #[.int .i64 x] [] [] (TX (fun _ : Value => True) (fun v => v) (fun v => [own 5 1 v (sizeM x) ((putM x).map vByte)])) := by
 refine Tr.of (l := [(0, .int .i64 x)]) Tryz.func153 rfl (n := 28) rfl (.cons rfl .nil) (fun w0 hro => ?_)
 refine go [9,10,1,7,8,9,10,1,7,8,9,9,10,0] ?_
 refine G.op rfl (G.call0 rfl rfl rfl rfl Tryz.func152 rfl rfl (sizeR_tr x) may0 ?_)
 have hs5 := sizeM_le x
 refine go [2,19,1,7,8,15] ?_
 refine G.ownNil 5 1 ?_
 refine G.loop (X := Nat × Value) (fun (c, v) => c ≤ sizeM x) (fun (c, v) => [(3, v), (4, .int .i64 ((sizeM x : Int) - 1 - c)), (0, .int .i64 x)]) (fun (c, v) => [own 5 1 v c ((putTo x c).map vByte)]) (fun (c, v) => sizeM x - c) (x0 := (0, .slice none 0 0)) (Nat.zero_le _) (.consE rfl veqT (.consE rfl veqT (.consE rfl veqT .nil))) (.cons selT .nil) (fun ⟨c, v⟩ hJ => ?_)
 show G _ _ _ [(3, v), (4, .int .i64 ((sizeM x : Int) - 1 - c)), (0, .int .i64 x)] [own 5 1 v c ((putTo x c).map vByte)] _
 have hc : c ≤ sizeM x := hJ
 refine go [9,9,10,0,2,12,7,8] ?_
 refine G.condP rfl (fun h10 => ?_) (fun h10 => ?_)
 ·have hx := sizeM_pos (x := x) (by omega)
  have hq0 := qM_nonneg hx.1 (sizeM x - 1 - c)
  have hq1 := qM_le hx.1 (sizeM x - 1 - c)
  obtain ⟨i, hi⟩ : ∃ i, i = sizeM x - 1 - c := ⟨_, rfl⟩
  rw [← hi] at hq0 hq1
  have hil : i ≤ 4 := by omega
  refine go [13,8,9,15,9,10,0,0] ?_
  refine G.op rfl (G.val rfl rfl ((pv_mul64 rfl rfl (by omega)).int (show _ = ((7 * i : Nat) : Int) by omega)) ?_)
  refine G.op rfl (G.val rfl rfl ((pv_shr rfl rfl (show 7 * i ≤ 64 by omega)).int (shr_qM x i)) ?_)
  refine go [2,50,13,1,7,8,9] ?_
  have hb := byteAt_val x i
  refine G.cut (X := Unit) (fun _ => True) (fun _ => [(5, .int .i64 ((byteAt x i).toNat : Int)), (3, v), (4, .int .i64 ((sizeM x : Int) - 1 - c)), (0, .int .i64 x)]) (fun _ => [own 5 1 v c ((putTo x c).map vByte)]) ?_ ?_
  ·refine go [9,10,0,2,10,7,8] ?_
   refine G.condP rfl (fun h19 => ?_) (fun h19 => ?_)
   ·refine go [10,0,2,6,1,7] ?_
    exact G.meet (()) (by exact trivial) (.consE rfl (congrArg (Value.int .i64) (by rw [hb]; split <;> omega)) (.cons rfl (.cons rfl (.cons rfl .nil)))) (.cons selT .nil)
   refine G.skip ?_
   exact G.meet (()) (by exact trivial) (.consE rfl (congrArg (Value.int .i64) (by rw [hb]; split <;> omega)) (.cons rfl (.cons rfl (.cons rfl .nil)))) (.cons selT .nil)
  rintro _ _
  show G _ _ _ [(5, .int .i64 ((byteAt x i).toNat : Int)), (3, v), (4, .int .i64 ((sizeM x : Int) - 1 - c)), (0, .int .i64 x)] [own 5 1 v c ((putTo x c).map vByte)] _
  refine go [10,0,0] ?_
  have hbl := (byteAt x i).toNat_lt
  refine G.op rfl (G.val rfl rfl ((pv_conv (by rw [Tryz.underlying3]; rfl) Tryz.underlying5 rfl).int (wrap_u8 (by omega))) ?_)
  refine go [60,12] ?_
  intro b25
  refine G.op rfl (G.append (news := [vByte (byteAt x i)]) (b := b25) (off := 0) rfl Tryz.underlying31 Tryz.infoByte' rfl rfl rfl (.there .here) (fun _ => rfl) (fun h => by cases h) rfl (blk_news (k := 1) .here rfl) (vByte_one [byteAt x i]) (by omega) (by omega) ?_)
  intro v'
  rw [hi]
  refine go [1,7,16,8,10,0,2,19,1,7] ?_
  exact G.next ((c + 1, v')) (by show c + 1 ≤ sizeM x; omega) (by dsimp only; omega) (.consE rfl veqT (.consE rfl veqT (.consE rfl veqT .nil))) (by show Sub _ [own 5 1 v' (c + 1) ((putTo x (c + 1)).map vByte)] _; rw [putTo_succ, List.map_append]; exact .cons .here .nil)
 obtain rfl : c = sizeM x := by omega
 refine go [18,14,14,19,8,9,10,0,1,7,8,11] ?_
 exact G.done1 (m' := [own 5 1 v (sizeM x) ((putM x).map vByte)]) rfl rfl (.cons .here .nil) ⟨v, trivial, rfl, rfl⟩
def byteHi (x : Int) (i : Nat) : UInt8 := UInt8.ofNat ((qM x i % 128).toNat + 128)
def allM (x : Int) (j : Nat) : List Value := (List.range 5).map fun p => if 4 - p < j then vByte (byteHi x (4 - p)) else .int .u8 0
theorem allM_length (x : Int) (j : Nat) : (allM x j).length = 5 := by simp [allM]
theorem allM_set (x : Int) (j : Nat) (hj : j < 5) : (allM x j).set (4 - j) (vByte (byteHi x j)) = allM x (j + 1) := by
 have : j = 0 ∨ j = 1 ∨ j = 2 ∨ j = 3 ∨ j = 4 := by omega
 rcases this with rfl | rfl | rfl | rfl | rfl <;> rfl
theorem allM_end (x : Int) (k : Nat) (hk : sizeM x = k) (h1 : 1 ≤ k) (h5 : k ≤ 5) : ((allM x k).set 4 (vByte (byteAt x 0))).drop (5 - k) = (putM x).map vByte := by
 unfold putM putTo
 rw [hk]
 have : k = 1 ∨ k = 2 ∨ k = 3 ∨ k = 4 ∨ k = 5 := by omega
 rcases this with rfl | rfl | rfl | rfl | rfl <;> rfl
theorem allM_last (x : Int) (k : Nat) (h1 : 1 ≤ k) (h5 : k ≤ 5) : (allM x k)[4]? = some (vByte (byteHi x 0)) := by
 have : k = 1 ∨ k = 2 ∨ k = 3 ∨ k = 4 ∨ k = 5 := by omega
 rcases this with rfl | rfl | rfl | rfl | rfl <;> rfl
theorem byteHi_val (x : Int) (i : Nat) : ((byteHi x i).toNat : Int) = qM x i % 128 + 128 := by
 unfold byteHi
 rw [UInt8.toNat_ofNat']
 have h0 := Int.emod_nonneg (qM x i) (show (128 : Int) ≠ 0 by omega)
 have h1 := Int.emod_lt_of_pos (qM x i) (show (0 : Int) < 128 by omega)
 omega
theorem or128 (x : Int) (h0 : 0 ≤ x) (h1 : x < 128) : bits .or .u8 x 128 = x + 128 := by
 have : ∀ a : Fin 128, bits .or .u8 (a.val : Int) 128 = (a.val : Int) + 128 := by decide +kernel
 have h := this ⟨x.toNat, by omega⟩
 simp only at h
 rwa [show ((x.toNat : Nat) : Int) = x by omega] at h
theorem and127b (x : Int) (h0 : 0 ≤ x) (h1 : x < 256) : bits .and .u8 x 127 = x % 128 := by
 have : ∀ a : Fin 256, bits .and .u8 (a.val : Int) 127 = (a.val : Int) % 128 := by decide +kernel
 have h := this ⟨x.toNat, by omega⟩
 simp only at h
 rwa [show ((x.toNat : Nat) : Int) = x by omega] at h
set_option maxHeartbeats 4000000 in
theorem wint_tr (D : Nat) (bad : Bool) (v : Value) (bs : List UInt8) (x : Int) (k : Nat) (hk : sizeM x = k) (h1 : 1 ≤ k) (hb : bs.length ≤ 1000000000) : Tr Tryz.prog 54 #[.pointer (some ⟨D, 0, none⟩), .int .i64 x] [] [blk D 142 [.bool true, .bool bad, v], own 5 1 v bs.length (bs.map vByte)]
 (TX (fun _ : Value => True) (fun _ => .tuple #[]) (fun v => [blk D 142 [.bool true, .bool bad, v], own 5 1 v (bs.length + k) ((bs ++ putM x).map vByte)])) := by
 have hx := sizeM_pos (x := x) (by omega)
 have h5 := sizeM_le x
 rw [hk] at h5
 refine Tr.of (l := [(0, .pointer (some ⟨D, 0, none⟩)), (1, .int .i64 x)]) Tryz.func54 rfl (n := 61) rfl (.cons rfl (.cons rfl .nil)) (fun w0 hro => ?_)
 refine go [9,9,10,0,2,50,4,0,3,0,3,8,3,16,3,50,15,3,25,2,2,7,8,60,0,13,8,9,10,0] ?_
 refine G.op rfl (G.call0 rfl rfl rfl rfl Tryz.func78 rfl rfl (by have := size_tr x; rw [hk] at this; exact this) may0 ?_)
 refine go [1,7,8,9] ?_
 refine G.cut (X := Unit) (fun _ => True) (fun _ => [(0, .pointer (some ⟨D, 0, none⟩)), (1, .int .i64 x), (4, .int .i64 k)]) (fun _ => [blk D 142 [.bool true, .bool bad, v], own 5 1 v bs.length (bs.map vByte)]) ?_ ?_
 ·refine go [10,0,0,2,8,2,16] ?_
  refine G.op rfl (G.val rfl rfl (pv_load Tryz.underlying4 rfl rfl (blk_cell (v := .bool bad) .here rfl)) ?_)
  refine go [0] ?_
  refine G.part (t := 23) rfl (fun h23 => ?_) (fun h23 => ?_)
  ·obtain rfl : bad = true := (by assumption)
   refine go [4,4,2,2,2,8,2,16,21,7] ?_
   exact G.meet (()) (by exact trivial) (.consE rfl veqT (.consE rfl veqT (.consE rfl veqT .nil))) (.cons selT (.cons selT .nil))
  obtain rfl : bad = false := (by assumption)
  refine go [3,0] ?_
  refine G.want rfl rfl rfl (G.val rfl rfl ((pv_eql rfl rfl).cast (by rw [decide_eq_false (by omega)])) ?_)
  refine go [2,2,2,8,2,16,21,7] ?_
  exact G.meet (()) (by exact trivial) (.consE rfl veqT (.consE rfl veqT (.consE rfl veqT .nil))) (.cons selT (.cons selT .nil))
 rintro _ _
 show G _ _ _ [(0, .pointer (some ⟨D, 0, none⟩)), (1, .int .i64 x), (4, .int .i64 k)] [blk D 142 [.bool true, .bool bad, v], own 5 1 v bs.length (bs.map vByte)] _
 refine go [9,10] ?_
 refine G.op rfl (G.alloc (z := .agg (Array.replicate 5 (.int .u8 0))) (cs := allM x 0) rfl kr rfl ?_)
 intro b5
 refine go [7,8,9,9,10,0,0,7,8,15] ?_
 refine G.loop (X := Nat) (fun k' => k' ≤ k) (fun k' => [(30, .int .i64 k'), (29, .int .i64 k), (0, .pointer (some ⟨D, 0, none⟩)), (1, .int .i64 x), (4, .int .i64 k), (5, .pointer (some ⟨b5, 0, none⟩))]) (fun k' => [blk b5 144 (allM x k'), blk D 142 [.bool true, .bool bad, v], own 5 1 v bs.length (bs.map vByte)]) (fun k' => k - k') (x0 := 0) (Nat.zero_le _) (.consE rfl veqT (.consE rfl veqT (.consE rfl veqT (.consE rfl veqT (.consE rfl veqT (.consE rfl veqT .nil)))))) (.cons selT (.cons selT (.cons selT .nil))) (fun k' hJ => ?_)
 show G _ _ _ [(30, .int .i64 k'), (29, .int .i64 k), (0, .pointer (some ⟨D, 0, none⟩)), (1, .int .i64 x), (4, .int .i64 k), (5, .pointer (some ⟨b5, 0, none⟩))] [blk b5 144 (allM x k'), blk D 142 [.bool true, .bool bad, v], own 5 1 v bs.length (bs.map vByte)] _
 refine go [9,10,2,9,7,8,9] ?_
 refine G.condP rfl (fun h31 => ?_) (fun h31 => ?_)
 ·have hq0 := qM_nonneg hx.1 k'
  have hq1 := qM_le hx.1 k'
  have hbh := byteHi_val x k'
  refine go [13,8,9,15,9,10,0,1,7,8,10,0,2,19,0,0] ?_
  refine G.op rfl (G.val rfl rfl ((pv_mul64 rfl rfl (by omega)).int (show _ = ((7 * k' : Nat) : Int) by omega)) ?_)
  refine G.op rfl (G.val rfl rfl ((pv_shr rfl rfl (show 7 * k' ≤ 64 by omega)).int (shr_qM x k')) ?_)
  refine G.op rfl (G.val rfl rfl ((pv_and rfl rfl).int (and_mask 7 (by omega) _ hq0 (by omega))) ?_)
  refine G.op rfl (G.val rfl rfl ((pv_conv (by rw [Tryz.underlying3]; rfl) Tryz.underlying5 rfl).int (wrap_u8 (show 0 ≤ qM x k' % 128 ∧ qM x k' % 128 ≤ 255 by omega))) ?_)
  refine G.op rfl (G.val rfl rfl ((pv_or rfl rfl).int ((or128 _ (by omega) (by omega)).trans hbh.symm)) ?_)
  refine G.op rfl (G.val rfl rfl (pv_ixA (k := 4 - k') (sz := 1) Tryz.underlying144 Tryz.sizeByte rfl rfl (by omega) (by omega)) ?_)
  refine G.op rfl (G.store (o := 4 - k') Tryz.sizeByte (by simp [ev, Fr.get]) rfl rfl .here (by rw [allM_length]; omega) ?_)
  refine go [7,16,8,10,2,6,0,7] ?_
  exact G.next (k' + 1) (by omega) (by omega) (.consE rfl veqT (.consE rfl veqT (.consE rfl veqT (.consE rfl veqT (.consE rfl veqT (.consE rfl veqT .nil)))))) (by rw [← allM_set x k' (by omega)]; exact .cons .here (.cons .here (.cons .here .nil)))
 obtain rfl : k = k' := by omega
 refine go [18,14,14,19,8,9,9,10,0,2,10,7,8] ?_
 refine G.condT rfl (decide_eq_true (by omega)) ?_
 refine go [10] ?_
 refine G.op rfl (G.val rfl rfl (pv_ixA (k := 4) (sz := 1) Tryz.underlying144 Tryz.sizeByte rfl rfl rfl (by omega)) ?_)
 refine G.op rfl (G.val rfl rfl (pv_load Tryz.underlying5 rfl rfl (blk_cell (o := 0 + 4 * 1) .here (allM_last x k h1 h5))) ?_)
 have hbh := byteHi_val x 0
 have hba := byteAt_val x 0
 refine G.op rfl (G.val rfl rfl ((pv_and rfl rfl).int ((and127b _ (by omega) (by omega)).trans (show _ = ((byteAt x 0).toNat : Int) by rw [hbh, hba]; simp))) ?_)
 refine G.op rfl (G.val rfl rfl (pv_ixA (k := 4) (sz := 1) Tryz.underlying144 Tryz.sizeByte rfl rfl rfl (by omega)) ?_)
 refine G.op rfl (G.store (o := 4) Tryz.sizeByte rfl rfl rfl .here (by rw [allM_length]; omega) ?_)
 refine go [7,8] ?_
 refine G.drawn kr (k := 12) rfl [] ?_
 refine G.take (i := 0) rfl rfl rfl kr kr kr (fun _ _ _ h => h) rfl (pv_move rfl) Sub.nil ?_
 refine G.take (i := 1) rfl rfl rfl kr kr kr (fun _ _ _ h => h) rfl (pv_move rfl) Sub.nil ?_
 refine G.take (i := 2) rfl rfl rfl kr kr kr (fun _ _ _ h => h) rfl (pv_nilCheck rfl) Sub.nil ?_
 refine G.take (i := 3) rfl rfl rfl kr kr kr (fun _ _ _ h => h) rfl (pv_fieldAddr (sz := 0) Tryz.underlying142 rfl kr rfl) Sub.nil ?_
 refine G.take (i := 5) rfl rfl rfl kr kr kr (fun _ _ _ h => h) rfl (pv_move rfl) Sub.nil ?_
 refine G.take (i := 6) rfl rfl rfl kr kr kr (fun _ _ _ h => h) rfl (pv_sub64 rfl rfl (by omega)) Sub.nil ?_
 refine G.take (i := 7) rfl rfl rfl kr kr kr (fun _ _ _ h => h) rfl (pv_subArO (k := 5 - k) (k' := k) (sz := 1) Tryz.underlying144 Tryz.sizeByte rfl rfl (by omega) (by omega)) Sub.nil ?_
 refine G.one (i := 4) kr ?_
 refine G.turnOp rfl rfl (G.val rfl rfl (pv_load Tryz.underlying31 rfl rfl (blk_cell (v := v) (.there .here) rfl)) ?_)
 refine go [60,3] ?_
 refine G.one (i := 8) kr ?_
 refine G.turnOp rfl rfl (G.append (k := bs.length) (j := k) (cs := bs.map vByte) (news := (putM x).map vByte) (b := b5) (off := subOff 5 (5 - k) 0 1) rfl Tryz.underlying31 Tryz.infoByte' rfl rfl rfl (.there (.there .here)) (fun _ => rfl) (fun h => by cases h) (by rw [List.length_map, putM_length, hk, Nat.mul_one]) (blk_news (k := k) .here (by rw [subOff_lt (by omega), Nat.zero_add, Nat.mul_one]; show (((allM x k).set 4 (vByte (byteAt x 0))).drop (5 - k)).take k = _; rw [allM_end x k hk h1 h5, List.take_of_length_le (by rw [List.length_map, putM_length, hk]; exact Nat.le_refl _)])) (vByte_one _) (by omega) (by omega) ?_)
 intro v'
 refine G.ownFact .here (fun hv1 _ => ?_)
 refine go [60,3] ?_
 refine G.take (i := 9) rfl rfl rfl kr kr kr (fun _ _ _ h => h) rfl (pv_nilCheck rfl) Sub.nil ?_
 refine G.take (i := 10) rfl rfl rfl kr kr kr (fun _ _ _ h => h) rfl (pv_fieldAddr (sz := 0) Tryz.underlying142 rfl kr rfl) Sub.nil ?_
 refine G.one (i := 11) kr ?_
 refine G.turnOp rfl rfl (G.store (o := 2) kr rfl rfl hv1 (.there (.there .here)) (by simp) ?_)
 refine go [60,3] ?_
 refine G.over kr ?_
 exact G.doneE (m' := [blk D 142 [.bool true, .bool bad, v'], own 5 1 v' (bs.length + k) ((bs ++ putM x).map vByte)]) rfl (.cons .here (.cons (by rw [List.map_append]; exact .here) .nil)) ⟨v', trivial, rfl, rfl⟩
set_option maxHeartbeats 4000000 in
theorem wint_bad (D : Nat) (bad : Bool) (v : Value) (bs : List UInt8) (x : Int) (hk : sizeM x = 0) (hb : bs.length ≤ 1000000000) : Tr Tryz.prog 54 #[.pointer (some ⟨D, 0, none⟩), .int .i64 x] [] [blk D 142 [.bool true, .bool bad, v], own 5 1 v bs.length (bs.map vByte)]
 (TX (fun _ : Value => True) (fun _ => .tuple #[]) (fun v => [blk D 142 [.bool true, .bool true, v], own 5 1 v bs.length (bs.map vByte)])) := by
 refine Tr.of (l := [(0, .pointer (some ⟨D, 0, none⟩)), (1, .int .i64 x)]) Tryz.func54 rfl (n := 61) rfl (.cons rfl (.cons rfl .nil)) (fun w0 hro => ?_)
 refine go [9,9,10,0,2,50,4,0,3,0,3,8,3,16,3,50,15,3,25,2,2,7,8,60,0,13,8,9,10,0] ?_
 refine G.op rfl (G.call0 rfl rfl rfl rfl Tryz.func78 rfl rfl (by have := size_tr x; rw [hk] at this; exact this) may0 ?_)
 refine go [1,7,8,9] ?_
 refine G.cut (X := Unit) (fun _ => True) (fun _ => [(0, .pointer (some ⟨D, 0, none⟩)), (1, .int .i64 x), (4, .int .i64 0)]) (fun _ => [blk D 142 [.bool true, .bool true, v], own 5 1 v bs.length (bs.map vByte)]) ?_ ?_
 ·refine go [10,0,0,2,8,2,16] ?_
  refine G.op rfl (G.val rfl rfl (pv_load Tryz.underlying4 rfl rfl (blk_cell (v := .bool bad) .here rfl)) ?_)
  refine go [0] ?_
  refine G.part (t := 23) rfl (fun h23 => ?_) (fun h23 => ?_)
  ·obtain rfl : bad = true := (by assumption)
   refine go [4,4,2,2,2,8,2,16,21,7] ?_
   exact G.meet (()) (by exact trivial) (.consE rfl veqT (.consE rfl veqT (.consE rfl veqT .nil))) (.cons selT (.cons selT .nil))
  refine go [3,0,3,13,2,2,2,8,2,16,21,7] ?_
  exact G.meet (()) (by exact trivial) (.consE rfl veqT (.consE rfl veqT (.consE rfl veqT .nil))) (.cons selT (.cons selT .nil))
 rintro _ _
 show G _ _ _ [(0, .pointer (some ⟨D, 0, none⟩)), (1, .int .i64 x), (4, .int .i64 0)] [blk D 142 [.bool true, .bool true, v], own 5 1 v bs.length (bs.map vByte)] _
 refine go [9,10] ?_
 refine G.op rfl (G.alloc (z := .agg (Array.replicate 5 (.int .u8 0))) (cs := allM x 0) rfl kr rfl ?_)
 intro b5
 refine go [7,8,9,9,10,0,0,7,8,15] ?_
 refine G.loop (X := Unit) (fun _ => True) (fun _ => [(30, .int .i64 0), (29, .int .i64 0), (0, .pointer (some ⟨D, 0, none⟩)), (4, .int .i64 0), (5, .pointer (some ⟨b5, 0, none⟩))]) (fun _ => [blk b5 144 (allM x 0), blk D 142 [.bool true, .bool true, v], own 5 1 v bs.length (bs.map vByte)]) (fun _ => 0) (x0 := ()) (trivial) (.consE rfl veqT (.consE rfl veqT (.consE rfl veqT (.consE rfl veqT (.consE rfl veqT .nil))))) (.cons selT (.cons selT (.cons selT .nil))) (fun _ hJ => ?_)
 show G _ _ _ [(30, .int .i64 0), (29, .int .i64 0), (0, .pointer (some ⟨D, 0, none⟩)), (4, .int .i64 0), (5, .pointer (some ⟨b5, 0, none⟩))] [blk b5 144 (allM x 0), blk D 142 [.bool true, .bool true, v], own 5 1 v bs.length (bs.map vByte)] _
 refine go [9,10,2,9,7,8,9,60,0,18,14,14,19,8,9,9,10,0,2,10,7,8,60,0,13,8] ?_
 refine G.drawn kr (k := 12) rfl [] ?_
 refine G.take (i := 0) rfl rfl rfl kr kr kr (fun _ _ _ h => h) rfl (pv_move rfl) Sub.nil ?_
 refine G.take (i := 1) rfl rfl rfl kr kr kr (fun _ _ _ h => h) rfl (pv_move rfl) Sub.nil ?_
 refine G.take (i := 2) rfl rfl rfl kr kr kr (fun _ _ _ h => h) rfl (pv_nilCheck rfl) Sub.nil ?_
 refine G.take (i := 3) rfl rfl rfl kr kr kr (fun _ _ _ h => h) rfl (pv_fieldAddr (sz := 0) Tryz.underlying142 rfl kr rfl) Sub.nil ?_
 refine G.take (i := 5) rfl rfl rfl kr kr kr (fun _ _ _ h => h) rfl (pv_move rfl) Sub.nil ?_
 refine G.take (i := 6) rfl rfl rfl kr kr kr (fun _ _ _ h => h) rfl (pv_sub64 rfl rfl (by omega)) Sub.nil ?_
 refine G.take (i := 7) rfl rfl rfl kr kr kr (fun _ _ _ h => h) rfl (pv_subArO (k := 5) (k' := 0) (sz := 1) Tryz.underlying144 Tryz.sizeByte rfl rfl (by omega) (by omega)) Sub.nil ?_
 refine G.one (i := 4) kr ?_
 refine G.turnOp rfl rfl (G.val rfl rfl (pv_load Tryz.underlying31 rfl rfl (blk_cell (v := v) (.there .here) rfl)) ?_)
 refine go [60,3] ?_
 refine G.one (i := 8) kr ?_
 refine G.turnOp rfl rfl (G.append (k := bs.length) (j := 0) (cs := bs.map vByte) (news := []) (b := b5) (off := subOff 5 5 0 1) rfl Tryz.underlying31 Tryz.infoByte' rfl rfl rfl (.there (.there .here)) (fun _ => rfl) (fun h => by cases h) rfl (fun w hw j u hu => by simp at hu) (by simp) (by omega) (by omega) ?_)
 intro v'
 refine G.ownFact .here (fun hv1 _ => ?_)
 refine go [60,3] ?_
 refine G.take (i := 9) rfl rfl rfl kr kr kr (fun _ _ _ h => h) rfl (pv_nilCheck rfl) Sub.nil ?_
 refine G.take (i := 10) rfl rfl rfl kr kr kr (fun _ _ _ h => h) rfl (pv_fieldAddr (sz := 0) Tryz.underlying142 rfl kr rfl) Sub.nil ?_
 refine G.one (i := 11) kr ?_
 refine G.turnOp rfl rfl (G.store (o := 2) kr rfl rfl hv1 (.there (.there .here)) (by simp) ?_)
 refine go [60,3] ?_
 refine G.over kr ?_
 exact G.doneE (m' := [blk D 142 [.bool true, .bool true, v'], own 5 1 v' bs.length (bs.map vByte)]) rfl (.cons .here (.cons (by rw [Nat.add_zero, List.append_nil]; exact .here) .nil)) ⟨v', trivial, rfl, rfl⟩
theorem wint_any (D : Nat) (bad : Bool) (v : Value) (bs : List UInt8) (x : Int) (hb : bs.length ≤ 1000000000) : Tr Tryz.prog 54 #[.pointer (some ⟨D, 0, none⟩), .int .i64 x] [] [blk D 142 [.bool true, .bool bad, v], own 5 1 v bs.length (bs.map vByte)]
 (TX (fun _ : Value => True) (fun _ => .tuple #[]) (fun v => [blk D 142 [.bool true, .bool (bad || decide (sizeM x = 0)), v], own 5 1 v (bs ++ putM x).length ((bs ++ putM x).map vByte)])) := by
 by_cases hk : sizeM x = 0
 ·have h := wint_bad D bad v bs x hk hb
  have e : putM x = [] := by unfold putM; rw [hk]; rfl
  rw [e, decide_eq_true hk, Bool.or_true, List.append_nil]
  exact h
 have h := wint_tr D bad v bs x (sizeM x) rfl (by omega) hb
 rw [decide_eq_false hk, Bool.or_false, List.length_append, putM_length]
 exact h
theorem wintR_any (D : Nat) (bad : Bool) (v : Value) (bs : List UInt8) (x : Int) (hb : bs.length ≤ 1000000000) : Tr Tryz.prog 126 #[.pointer (some ⟨D, 0, none⟩), .int .i64 x] [] [blk D 181 [v, .bool bad], own 5 1 v bs.length (bs.map vByte)]
 (TX (fun _ : Value => True) (fun _ => .tuple #[]) (fun v => [blk D 181 [v, .bool (bad || decide (sizeM x = 0))], own 5 1 v (bs ++ putM x).length ((bs ++ putM x).map vByte)])) := by
 have h5 := sizeM_le x
 refine Tr.of (l := [(0, .pointer (some ⟨D, 0, none⟩)), (1, .int .i64 x)]) Tryz.func126 rfl (n := 20) rfl (.cons rfl (.cons rfl .nil)) (fun w0 hro => ?_)
 refine G.seq ?_
 refine G.cut (X := Unit) (fun _ => True) (fun _ => [(0, .pointer (some ⟨D, 0, none⟩)), (1, .int .i64 x)]) (fun _ => [blk D 181 [v, .bool (bad || decide (sizeM x = 0))], own 5 1 v bs.length (bs.map vByte)]) ?_ ?_
 ·refine go [9,10,0] ?_
  refine G.op rfl (G.call0 rfl rfl rfl rfl Tryz.func152 rfl rfl (sizeR_tr x) may0 ?_)
  refine go [2,13,7,8] ?_
  refine G.condP rfl (fun h6 => ?_) (fun h6 => ?_)
  ·refine go [10,0,2,8,2,16] ?_
   refine G.op rfl (G.store (o := 1) kr rfl rfl rfl .here (by simp) ?_)
   refine G.nil ?_
   exact G.meet (()) (by exact trivial) (.consE rfl veqT (.consE rfl veqT .nil)) (.cons (by first | (rw [decide_eq_true (show sizeM x = 0 by omega), Bool.or_true]; exact .here) | (rw [decide_eq_false (show ¬ sizeM x = 0 by omega), Bool.or_false]; exact .here)) (.cons .here .nil))
  refine G.skip ?_
  exact G.meet (()) (by exact trivial) (.consE rfl veqT (.consE rfl veqT .nil)) (.cons (by first | (rw [decide_eq_true (show sizeM x = 0 by omega), Bool.or_true]; exact .here) | (rw [decide_eq_false (show ¬ sizeM x = 0 by omega), Bool.or_false]; exact .here)) (.cons .here .nil))
 rintro _ _
 show G _ _ _ [(0, .pointer (some ⟨D, 0, none⟩)), (1, .int .i64 x)] [blk D 181 [v, .bool (bad || decide (sizeM x = 0))], own 5 1 v bs.length (bs.map vByte)] _
 refine G.drawn kr (k := 11) rfl [] ?_
 refine G.take (i := 0) rfl rfl rfl kr kr kr (fun _ _ _ h => h) rfl (pv_move rfl) Sub.nil ?_
 refine G.take (i := 1) rfl rfl rfl kr kr kr (fun _ _ _ h => h) rfl (pv_move rfl) Sub.nil ?_
 refine G.take (i := 2) rfl rfl rfl kr kr kr (fun _ _ _ h => h) rfl (pv_nilCheck rfl) Sub.nil ?_
 refine G.take (i := 3) rfl rfl rfl kr kr kr (fun _ _ _ h => h) rfl (pv_fieldAddr (sz := 0) Tryz.underlying181 rfl kr rfl) Sub.nil ?_
 refine G.take (i := 5) rfl rfl rfl kr kr kr (fun _ _ _ h => h) rfl (pv_move rfl) Sub.nil ?_
 refine G.two (i := 4) (j := 6) kr ?_ ?_
 ·refine G.turnOp rfl rfl (G.val rfl rfl (pv_load Tryz.underlying31 rfl rfl (blk_cell (v := v) selT rfl)) ?_)
  refine go [60,3] ?_
  refine G.one (i := 6) kr ?_
  refine G.turnOp rfl rfl (G.c1 rfl rfl rfl rfl Tryz.func153 rfl rfl (put_tr x) Sub.nil may0 ?_)
  rintro u -
  refine go [60,3] ?_
  refine G.one (i := 7) kr ?_
  refine G.turnOp rfl rfl (G.appendO (k := bs.length) (j := sizeM x) (cs := bs.map vByte) rfl Tryz.underlying31 Tryz.infoByte' rfl rfl rfl (.there (.there .here)) .here (vByte_one _) (by omega) (by omega) ?_)
  intro v'
  refine G.ownFact .here (fun hv1 _ => ?_)
  refine go [60,3] ?_
  refine G.take (i := 8) rfl rfl rfl kr kr kr (fun _ _ _ h => h) rfl (pv_nilCheck rfl) Sub.nil ?_
  refine G.take (i := 9) rfl rfl rfl kr kr kr (fun _ _ _ h => h) rfl (pv_fieldAddr (sz := 0) Tryz.underlying181 rfl kr rfl) Sub.nil ?_
  refine G.one (i := 10) kr ?_
  refine G.turnOp rfl rfl (G.store (o := 0) kr rfl rfl hv1 selT (by simp) ?_)
  refine go [60,3] ?_
  refine G.over kr ?_
  exact G.doneE (m' := [blk D 181 [v', .bool (bad || decide (sizeM x = 0))], own 5 1 v' (bs ++ putM x).length ((bs ++ putM x).map vByte)]) rfl (.cons .here (.cons (by rw [List.length_append, putM_length, List.map_append]; repeat (first | with_reducible exact Sel.here | apply Sel.there)) .nil)) ⟨v', trivial, rfl, rfl⟩
 refine G.turnOp rfl rfl (G.c1 rfl rfl rfl rfl Tryz.func153 rfl rfl (put_tr x) Sub.nil may0 ?_)
 rintro u -
 refine go [60,3] ?_
 refine G.one (i := 4) kr ?_
 refine G.turnOp rfl rfl (G.val rfl rfl (pv_load Tryz.underlying31 rfl rfl (blk_cell (v := v) selT rfl)) ?_)
 refine go [60,3] ?_
 refine G.one (i := 7) kr ?_
 refine G.turnOp rfl rfl (G.appendO (k := bs.length) (j := sizeM x) (cs := bs.map vByte) rfl Tryz.underlying31 Tryz.infoByte' rfl rfl rfl (.there (.there .here)) .here (vByte_one _) (by omega) (by omega) ?_)
 intro v'
 refine G.ownFact .here (fun hv1 _ => ?_)
 refine go [60,3] ?_
 refine G.take (i := 8) rfl rfl rfl kr kr kr (fun _ _ _ h => h) rfl (pv_nilCheck rfl) Sub.nil ?_
 refine G.take (i := 9) rfl rfl rfl kr kr kr (fun _ _ _ h => h) rfl (pv_fieldAddr (sz := 0) Tryz.underlying181 rfl kr rfl) Sub.nil ?_
 refine G.one (i := 10) kr ?_
 refine G.turnOp rfl rfl (G.store (o := 0) kr rfl rfl hv1 selT (by simp) ?_)
 refine go [60,3] ?_
 refine G.over kr ?_
 exact G.doneE (m' := [blk D 181 [v', .bool (bad || decide (sizeM x = 0))], own 5 1 v' (bs ++ putM x).length ((bs ++ putM x).map vByte)]) rfl (.cons .here (.cons (by rw [List.length_append, putM_length, List.map_append]; repeat (first | with_reducible exact Sel.here | apply Sel.there)) .nil)) ⟨v', trivial, rfl, rfl⟩
def bytesM (b : List UInt8) : List UInt8 := putM b.length ++ b
theorem putM_le (x : Int) : (putM x).length ≤ 5 := by rw [putM_length]; exact sizeM_le x
theorem wbytes_tr (D : Nat) (bad : Bool) (v u : Value) (bs b : List UInt8) {Pu : Nat → Prop} (hb : bs.length ≤ 900000000) (hl : b.length ≤ 10000000) : Tr Tryz.prog 117 #[.pointer (some ⟨D, 0, none⟩), u] [slc rByte Pu u b] [blk D 142 [.bool true, .bool bad, v], own 5 1 v bs.length (bs.map vByte)]
 (TX (fun _ : Value => True) (fun _ => .tuple #[]) (fun v => [blk D 142 [.bool true, .bool (bad || decide (sizeM (b.length : Int) = 0)), v], own 5 1 v (bs ++ bytesM b).length ((bs ++ bytesM b).map vByte)])) := by
 refine Tr.of (l := [(0, .pointer (some ⟨D, 0, none⟩)), (1, u)]) Tryz.func117 rfl (n := 26) rfl (.cons rfl (.cons rfl .nil)) (fun w0 hro => ?_)
 have hu := ro1 hro
 have hu' := hu
 obtain ⟨ad, cap, bb, off, rfl, -⟩ := Ro.open hu
 have hp5 := putM_le b.length
 refine go [9,9,10,0,2,50,4,0,3,0,3,8,3,16,3,50,15,3,25,2,2,7,8,60,0,13,8,9,10,0,0,2,5] ?_
 refine G.op rfl (G.c2 rfl rfl rfl rfl Tryz.func54 rfl rfl (wint_any D bad v bs b.length (by omega)) (.cons selT (.cons selT .nil)) may0 ?_)
 rintro v2 -
 refine go [7,8,10,0,0,2,8,2,16] ?_
 refine G.op rfl (G.val rfl rfl (pv_load Tryz.underlying31 rfl rfl (by first | exact blk_cell selT rfl | exact ro_int (by assumption) | exact ro_byte (by assumption) | exact ro_str (by assumption) | with_reducible assumption | assumption)) ?_)
 refine go [0] ?_
 refine G.op rfl (G.appendS (k := (bs ++ putM b.length).length) (cs := (bs ++ putM b.length).map vByte) rfl Tryz.underlying31 Tryz.infoByte' rfl rfl (.there .here) (ro_sl hu) (vByte_one _) (by simp only [List.length_append]; omega) (by simp only [List.length_append]; omega) ?_)
 intro v'
 refine G.ownFact .here (fun hv1 _ => ?_)
 refine go [2,8,2,16] ?_
 refine G.op rfl (G.store (o := 2) kr rfl rfl hv1 selT (by simp) ?_)
 refine G.nil ?_
 exact G.doneE (m' := [blk D 142 [.bool true, .bool (bad || decide (sizeM (b.length : Int) = 0)), v'], own 5 1 v' (bs ++ bytesM b).length ((bs ++ bytesM b).map vByte)]) rfl (.cons .here (.cons (by rw [show bs ++ bytesM b = (bs ++ putM b.length) ++ b by simp [bytesM], ← own_app]; exact .here) .nil)) ⟨v', trivial, rfl, rfl⟩
theorem wbytesR_tr (D : Nat) (bad : Bool) (v u : Value) (bs b : List UInt8) {Pu : Nat → Prop} (hb : bs.length ≤ 900000000) (hl : b.length ≤ 10000000) : Tr Tryz.prog 154 #[.pointer (some ⟨D, 0, none⟩), u] [slc rByte Pu u b] [blk D 181 [v, .bool bad], own 5 1 v bs.length (bs.map vByte)]
 (TX (fun _ : Value => True) (fun _ => .tuple #[]) (fun v => [blk D 181 [v, .bool (bad || decide (sizeM (b.length : Int) = 0))], own 5 1 v (bs ++ bytesM b).length ((bs ++ bytesM b).map vByte)])) := by
 refine Tr.of (l := [(0, .pointer (some ⟨D, 0, none⟩)), (1, u)]) Tryz.func154 rfl (n := 17) rfl (.cons rfl (.cons rfl .nil)) (fun w0 hro => ?_)
 have hu := ro1 hro
 have hu' := hu
 obtain ⟨ad, cap, bb, off, rfl, -⟩ := Ro.open hu
 have hp5 := putM_le b.length
 refine go [9,10,0,0,2,5] ?_
 refine G.op rfl (G.c2 rfl rfl rfl rfl Tryz.func126 rfl rfl (wintR_any D bad v bs b.length (by omega)) (.cons selT (.cons selT .nil)) may0 ?_)
 rintro v2 -
 refine go [7,8,10,0,0,2,8,2,16] ?_
 refine G.op rfl (G.val rfl rfl (pv_load Tryz.underlying31 rfl rfl (by first | exact blk_cell selT rfl | exact ro_int (by assumption) | exact ro_byte (by assumption) | exact ro_str (by assumption) | with_reducible assumption | assumption)) ?_)
 refine go [0] ?_
 refine G.op rfl (G.appendS (k := (bs ++ putM b.length).length) (cs := (bs ++ putM b.length).map vByte) rfl Tryz.underlying31 Tryz.infoByte' rfl rfl (.there .here) (ro_sl hu) (vByte_one _) (by simp only [List.length_append]; omega) (by simp only [List.length_append]; omega) ?_)
 intro v'
 refine G.ownFact .here (fun hv1 _ => ?_)
 refine go [2,8,2,16] ?_
 refine G.op rfl (G.store (o := 0) kr rfl rfl hv1 selT (by simp) ?_)
 refine G.nil ?_
 exact G.doneE (m' := [blk D 181 [v', .bool (bad || decide (sizeM (b.length : Int) = 0))], own 5 1 v' (bs ++ bytesM b).length ((bs ++ bytesM b).map vByte)]) rfl (.cons .here (.cons (by rw [show bs ++ bytesM b = (bs ++ putM b.length) ++ b by simp [bytesM], ← own_app]; exact .here) .nil)) ⟨v', trivial, rfl, rfl⟩
theorem wtext_tr (D : Nat) (bad : Bool) (v : Value) (bs b : List UInt8) (hb : bs.length ≤ 900000000) (hl : b.length ≤ 10000000) : Tr Tryz.prog 79 #[.pointer (some ⟨D, 0, none⟩), .string (sB b)] [] [blk D 142 [.bool true, .bool bad, v], own 5 1 v bs.length (bs.map vByte)]
 (TX (fun _ : Value => True) (fun _ => .tuple #[]) (fun v => [blk D 142 [.bool true, .bool (bad || decide (sizeM (b.length : Int) = 0)), v], own 5 1 v (bs ++ bytesM b).length ((bs ++ bytesM b).map vByte)])) := by
 refine Tr.of (l := [(0, .pointer (some ⟨D, 0, none⟩)), (1, .string (sB b))]) Tryz.func79 rfl (n := 8) rfl (.cons rfl (.cons rfl .nil)) (fun w0 hro => ?_)
 refine go [10,0,0] ?_
 refine G.op rfl (G.toBytes rfl Tryz.underlying9 Tryz.underlying31 Tryz.underlying5 rfl (by omega) ?_)
 intro b6 u
 refine G.op rfl (G.c2 rfl rfl rfl rfl Tryz.func117 rfl rfl (wbytes_tr D bad v u bs b (Pu := (· = b6)) hb hl) (.cons selT (.cons selT .nil)) (may1 (by first | exact .old Y32 | exact Sel.may selT)) ?_)
 rintro v2 -
 refine G.nil ?_
 exact G.doneE (m' := [blk D 142 [.bool true, .bool (bad || decide (sizeM (b.length : Int) = 0)), v2], own 5 1 v2 (bs ++ bytesM b).length ((bs ++ bytesM b).map vByte)]) rfl (.cons .here (.cons .here .nil)) ⟨v2, trivial, rfl, rfl⟩
theorem wtextR_tr (D : Nat) (bad : Bool) (v : Value) (bs b : List UInt8) (hb : bs.length ≤ 900000000) (hl : b.length ≤ 10000000) : Tr Tryz.prog 127 #[.pointer (some ⟨D, 0, none⟩), .string (sB b)] [] [blk D 181 [v, .bool bad], own 5 1 v bs.length (bs.map vByte)]
 (TX (fun _ : Value => True) (fun _ => .tuple #[]) (fun v => [blk D 181 [v, .bool (bad || decide (sizeM (b.length : Int) = 0))], own 5 1 v (bs ++ bytesM b).length ((bs ++ bytesM b).map vByte)])) := by
 refine Tr.of (l := [(0, .pointer (some ⟨D, 0, none⟩)), (1, .string (sB b))]) Tryz.func127 rfl (n := 8) rfl (.cons rfl (.cons rfl .nil)) (fun w0 hro => ?_)
 refine go [10,0,0] ?_
 refine G.op rfl (G.toBytes rfl Tryz.underlying9 Tryz.underlying31 Tryz.underlying5 rfl (by omega) ?_)
 intro b6 u
 refine G.op rfl (G.c2 rfl rfl rfl rfl Tryz.func154 rfl rfl (wbytesR_tr D bad v u bs b (Pu := (· = b6)) hb hl) (.cons selT (.cons selT .nil)) (may1 (by first | exact .old Y32 | exact Sel.may selT)) ?_)
 rintro v2 -
 refine G.nil ?_
 exact G.doneE (m' := [blk D 181 [v2, .bool (bad || decide (sizeM (b.length : Int) = 0))], own 5 1 v2 (bs ++ bytesM b).length ((bs ++ bytesM b).map vByte)]) rfl (.cons .here (.cons .here .nil)) ⟨v2, trivial, rfl, rfl⟩
def vID (id : List UInt8) : Value := .agg (id.map vByte).toArray
theorem wid_tr (D : Nat) (bad : Bool) (v : Value) (bs id : List UInt8) (hid : id.length = 16) (hb : bs.length ≤ 1000000000) : Tr Tryz.prog 80 #[.pointer (some ⟨D, 0, none⟩), vID id] [] [blk D 142 [.bool true, .bool bad, v], own 5 1 v bs.length (bs.map vByte)]
 (TX (fun _ : Value => True) (fun _ => .tuple #[]) (fun v => [blk D 142 [.bool true, .bool bad, v], own 5 1 v (bs ++ id).length ((bs ++ id).map vByte)])) := by
 refine Tr.of (l := [(0, .pointer (some ⟨D, 0, none⟩)), (1, vID id)]) Tryz.func80 rfl (n := 21) rfl (.cons rfl (.cons rfl .nil)) (fun w0 hro => ?_)
 refine go [9,10] ?_
 refine G.op rfl (G.box (cs := id.map vByte) rfl rfl rfl ?_)
 intro b3
 refine go [7,8,9,10,0] ?_
 refine G.op rfl (G.val rfl rfl (pv_neqP0 Tryz.underlying107 rfl rfl) ?_)
 refine go [0,3,0,3,8,3,16] ?_
 refine G.want rfl rfl rfl (G.val rfl rfl (pv_load Tryz.underlying4 rfl rfl (blk_cell (v := .bool true) (.there .here) rfl)) ?_)
 refine go [2,2,7,8,60,1] ?_
 refine G.drawn kr (k := 10) rfl [] ?_
 refine G.take (i := 0) rfl rfl rfl kr kr kr (fun _ _ _ h => h) rfl (pv_move rfl) Sub.nil ?_
 refine G.take (i := 1) rfl rfl rfl kr kr kr (fun _ _ _ h => h) rfl (pv_move rfl) Sub.nil ?_
 refine G.take (i := 2) rfl rfl rfl kr kr kr (fun _ _ _ h => h) rfl (pv_nilCheck rfl) Sub.nil ?_
 refine G.take (i := 3) rfl rfl rfl kr kr kr (fun _ _ _ h => h) rfl (pv_fieldAddr (sz := 0) Tryz.underlying142 rfl kr rfl) Sub.nil ?_
 refine G.take (i := 5) rfl rfl rfl kr kr kr (fun _ _ _ h => h) rfl (pv_subAr (len := 16) Tryz.underlying52 kr rfl) Sub.nil ?_
 refine G.one (i := 4) kr ?_
 refine G.turnOp rfl rfl (G.val rfl rfl (pv_load Tryz.underlying31 rfl rfl (blk_cell (v := v) (.there .here) rfl)) ?_)
 refine go [60,3] ?_
 refine G.one (i := 6) kr ?_
 refine G.turnOp rfl rfl (G.append (k := bs.length) (j := 16) (cs := bs.map vByte) (news := id.map vByte) (b := b3) (off := 0) rfl Tryz.underlying31 Tryz.infoByte' rfl rfl rfl (.there (.there .here)) (fun _ => rfl) (fun h => by cases h) (by rw [List.length_map, hid]) (blk_news (k := 16) .here (by rw [List.drop_zero, List.take_of_length_le (by rw [List.length_map, hid]; exact Nat.le_refl _)])) (vByte_one _) (by omega) (by omega) ?_)
 intro v'
 refine G.ownFact .here (fun hv1 _ => ?_)
 refine go [60,3] ?_
 refine G.take (i := 7) rfl rfl rfl kr kr kr (fun _ _ _ h => h) rfl (pv_nilCheck rfl) Sub.nil ?_
 refine G.take (i := 8) rfl rfl rfl kr kr kr (fun _ _ _ h => h) rfl (pv_fieldAddr (sz := 0) Tryz.underlying142 rfl kr rfl) Sub.nil ?_
 refine G.one (i := 9) kr ?_
 refine G.turnOp rfl rfl (G.store (o := 2) kr rfl rfl hv1 selT (by simp) ?_)
 refine go [60,3] ?_
 refine G.over kr ?_
 exact G.doneE (m' := [blk D 142 [.bool true, .bool bad, v'], own 5 1 v' (bs ++ id).length ((bs ++ id).map vByte)]) rfl (.cons selT (.cons (by rw [List.length_append, hid, List.map_append]; repeat (first | with_reducible exact Sel.here | apply Sel.there)) .nil)) ⟨v', trivial, rfl, rfl⟩
theorem widR_tr (D : Nat) (bad : Bool) (v : Value) (bs id : List UInt8) (hid : id.length = 16) (hb : bs.length ≤ 1000000000) : Tr Tryz.prog 128 #[.pointer (some ⟨D, 0, none⟩), vID id] [] [blk D 181 [v, .bool bad], own 5 1 v bs.length (bs.map vByte)]
 (TX (fun _ : Value => True) (fun _ => .tuple #[]) (fun v => [blk D 181 [v, .bool bad], own 5 1 v (bs ++ id).length ((bs ++ id).map vByte)])) := by
 refine Tr.of (l := [(0, .pointer (some ⟨D, 0, none⟩)), (1, vID id)]) Tryz.func128 rfl (n := 13) rfl (.cons rfl (.cons rfl .nil)) (fun w0 hro => ?_)
 refine go [9,10] ?_
 refine G.op rfl (G.box (cs := id.map vByte) rfl rfl rfl ?_)
 intro b3
 refine go [7,8] ?_
 refine G.drawn kr (k := 10) rfl [] ?_
 refine G.take (i := 0) rfl rfl rfl kr kr kr (fun _ _ _ h => h) rfl (pv_move rfl) Sub.nil ?_
 refine G.take (i := 1) rfl rfl rfl kr kr kr (fun _ _ _ h => h) rfl (pv_move rfl) Sub.nil ?_
 refine G.take (i := 2) rfl rfl rfl kr kr kr (fun _ _ _ h => h) rfl (pv_nilCheck rfl) Sub.nil ?_
 refine G.take (i := 3) rfl rfl rfl kr kr kr (fun _ _ _ h => h) rfl (pv_fieldAddr (sz := 0) Tryz.underlying181 rfl kr rfl) Sub.nil ?_
 refine G.take (i := 5) rfl rfl rfl kr kr kr (fun _ _ _ h => h) rfl (pv_subAr (len := 16) Tryz.underlying52 kr rfl) Sub.nil ?_
 refine G.one (i := 4) kr ?_
 refine G.turnOp rfl rfl (G.val rfl rfl (pv_load Tryz.underlying31 rfl rfl (blk_cell (v := v) (.there .here) rfl)) ?_)
 refine go [60,3] ?_
 refine G.one (i := 6) kr ?_
 refine G.turnOp rfl rfl (G.append (k := bs.length) (j := 16) (cs := bs.map vByte) (news := id.map vByte) (b := b3) (off := 0) rfl Tryz.underlying31 Tryz.infoByte' rfl rfl rfl (.there (.there .here)) (fun _ => rfl) (fun h => by cases h) (by rw [List.length_map, hid]) (blk_news (k := 16) .here (by rw [List.drop_zero, List.take_of_length_le (by rw [List.length_map, hid]; exact Nat.le_refl _)])) (vByte_one _) (by omega) (by omega) ?_)
 intro v'
 refine G.ownFact .here (fun hv1 _ => ?_)
 refine go [60,3] ?_
 refine G.take (i := 7) rfl rfl rfl kr kr kr (fun _ _ _ h => h) rfl (pv_nilCheck rfl) Sub.nil ?_
 refine G.take (i := 8) rfl rfl rfl kr kr kr (fun _ _ _ h => h) rfl (pv_fieldAddr (sz := 0) Tryz.underlying181 rfl kr rfl) Sub.nil ?_
 refine G.one (i := 9) kr ?_
 refine G.turnOp rfl rfl (G.store (o := 0) kr rfl rfl hv1 selT (by simp) ?_)
 refine go [60,3] ?_
 refine G.over kr ?_
 exact G.doneE (m' := [blk D 181 [v', .bool bad], own 5 1 v' (bs ++ id).length ((bs ++ id).map vByte)]) rfl (.cons selT (.cons (by rw [List.length_append, hid, List.map_append]; repeat (first | with_reducible exact Sel.here | apply Sel.there)) .nil)) ⟨v', trivial, rfl, rfl⟩
inductive Rn where
 | ok (n next : Nat)
 | bad (e p : Nat)
def getGo (b : List UInt8) (at_ : Nat) : Nat → Nat → Nat → Rn
 | 0, _, _ => .bad 5 at_
 | f + 1, k, n => match b[at_ + k]? with
  | none => .bad 4 b.length
  | some c => if 128 ≤ c.toNat then getGo b at_ f (k + 1) (n * 128 + c.toNat % 128) else if 2147483647 < n * 128 + c.toNat % 128 then .bad 5 at_ else .ok (n * 128 + c.toNat % 128) (at_ + k + 1)
theorem getGo_none {b : List UInt8} {a k n : Nat} (hk : k < 5) (h : a + k = b.length) : getGo b a (5 - k) k n = .bad 4 b.length := by
 obtain ⟨f, hf⟩ : ∃ f, 5 - k = f + 1 := ⟨4 - k, by omega⟩
 rw [hf, getGo, List.getElem?_eq_none (by omega)]
theorem getGo_hi {b : List UInt8} {a k n : Nat} (hk : k < 5) (h : a + k < b.length) (hc : 128 ≤ b[a + k].toNat) : getGo b a (5 - k) k n = getGo b a (5 - (k + 1)) (k + 1) (n * 128 + b[a + k].toNat % 128) := by
 obtain ⟨f, hf⟩ : ∃ f, 5 - k = f + 1 := ⟨4 - k, by omega⟩
 rw [hf, getGo, List.getElem?_eq_getElem h]
 simp only
 rw [if_pos hc, show 5 - (k + 1) = f by omega]
theorem new_tr : Tr Tryz.prog 53 #[] [] [] (TX (fun _ : Nat => True) (fun D => .pointer (some ⟨D, 0, none⟩)) (fun D => [blk D 142 [.bool true, .bool false, .slice none 0 0], own 5 1 (.slice none 0 0) ([] : List UInt8).length (([] : List UInt8).map vByte)])) := by
 refine Tr.of (l := []) Tryz.func53 rfl (n := 3) rfl Fa.nil (fun w0 hro => ?_)
 refine go [9,10,1,7,8,9,10] ?_
 refine G.op rfl (G.val rfl rfl (pv_build (cells := #[.bool true, .bool false, .slice none 0 0]) (fun a ha => ha.pevs rfl) kr) ?_)
 refine G.op rfl (G.box rfl rfl (cs := [.bool true, .bool false, .slice none 0 0]) rfl ?_)
 intro b2
 refine G.ownNil 5 1 ?_
 refine go [1,7,8,11] ?_
 exact G.done1 rfl rfl (.cons selT (.cons selT .nil)) ⟨b2, trivial, rfl, rfl⟩
theorem ro_own {w0 : World} {S : Nat → Prop} {m : List Ck} {e : TypeId} {v : Value} {xs : List UInt8} (h : Ro w0 S (own e 1 v xs.length (xs.map vByte))) : ∀ w, Hp w0 S w m → IsSl (r1 vByte fun _ => True) (fun b => v.ownBlock = some b) w v xs := fun w hw => own_isSl' (h.at hw) rfl fun _ _ => trivial
def preN (x : Int) (i : Nat) : Nat := (qM x (sizeM x - i)).toNat
theorem preN_step {x : Int} {i : Nat} (h : sizeM x ≠ 0) (hi : i < sizeM x) : preN x i * 128 + (byteAt x (sizeM x - 1 - i)).toNat % 128 = preN x (i + 1) := by
 have h0 := sizeM_pos h
 have hb := byteAt_val x (sizeM x - 1 - i)
 have h1 := qM_step x (sizeM x - 1 - i)
 rw [show sizeM x - 1 - i + 1 = sizeM x - i by omega] at h1
 have h2 := qM_nonneg h0.1 (sizeM x - i)
 have h3 := qM_nonneg h0.1 (sizeM x - 1 - i)
 unfold preN
 rw [show sizeM x - (i + 1) = sizeM x - 1 - i by omega]
 split at hb <;> omega
theorem byteAt_hi {x : Int} {i : Nat} (h : i ≠ 0) : 128 ≤ (byteAt x i).toNat := by
 have := byteAt_val x i
 rw [if_neg h] at this
 have h0 := Int.emod_nonneg (qM x i) (show (128 : Int) ≠ 0 by omega)
 omega
section
variable {x : Int} {b : List UInt8} {L : Nat}
theorem go_cut (h : sizeM x ≠ 0) (hb : ∀ i, i < L → b[i]? = some (byteAt x (sizeM x - 1 - i))) (hL : L < sizeM x) (hl : b.length = L) : ∀ j i, i + j = L → getGo b 0 (5 - i) i (preN x i) = .bad 4 L
 | 0, i, hi => by
  have := sizeM_le x
  rw [getGo_none (by omega) (by omega), hl]
 | j + 1, i, hi => by
  have h5 := sizeM_le x
  have hbi := hb i (by omega)
  have hlt : 0 + i < b.length := by omega
  have e : b[0 + i] = byteAt x (sizeM x - 1 - i) := by
   have h3 : b[0 + i]? = some (byteAt x (sizeM x - 1 - i)) := by rw [Nat.zero_add]; exact hbi
   exact Option.some.inj ((List.getElem?_eq_getElem hlt).symm.trans h3)
  rw [getGo_hi (by omega) hlt (by rw [e]; exact byteAt_hi (by omega)), e, preN_step h (by omega)]
  exact go_cut h hb hL hl j (i + 1) (by omega)
end
def rID : Rdr (List UInt8) := rArr 16 rByte
def flatI (ids : List (List UInt8)) : List Value := ids.flatMap fun x => x.map vByte
def all16 (ids : List (List UInt8)) : Prop := ∀ x ∈ ids, x.length = 16
theorem all16.cons {x : List UInt8} {ids : List (List UInt8)} (h : all16 (x :: ids)) : x.length = 16 ∧ all16 ids := ⟨h x (List.mem_cons_self ..), fun y hy => h y (List.mem_cons_of_mem _ hy)⟩
theorem flatI_length : ∀ {ids : List (List UInt8)}, all16 ids → (flatI ids).length = ids.length * 16
 | [], _ => rfl
 | x :: ids, h => by
  have := flatI_length h.cons.2
  unfold flatI at this ⊢
  rw [List.flatMap_cons, List.length_append, List.length_map, this, h.cons.1, List.length_cons]
  omega
theorem flatI_get : ∀ {ids : List (List UInt8)}, all16 ids → ∀ (i j : Nat) (hi : i < ids.length), j < 16 → (flatI ids)[i * 16 + j]? = (ids[i].map vByte)[j]?
 | x :: ids, h, 0, j, hi, hj => by
  unfold flatI
  rw [List.flatMap_cons, List.getElem?_append_left (by rw [List.length_map, h.cons.1]; omega)]
  simp
 | x :: ids, h, i + 1, j, hi, hj => by
  have := flatI_get h.cons.2 i j (by simpa using hi) hj
  unfold flatI at this ⊢
  rw [List.flatMap_cons, List.getElem?_append_right (by rw [List.length_map, h.cons.1]; omega), List.length_map, h.cons.1, show (i + 1) * 16 + j - 16 = i * 16 + j by omega, this]
  rfl
theorem flatI_app (a b : List (List UInt8)) : flatI (a ++ b) = flatI a ++ flatI b := List.flatMap_append
theorem flatI_one (ids : List (List UInt8)) : ∀ u ∈ flatI ids, u.oneCell' = true := fun u hu => by
 obtain ⟨x, hx, hu⟩ := List.mem_flatMap.1 hu
 exact vByte_one x u hu
theorem flatI_at {ids : List (List UInt8)} (h : all16 ids) {q : Nat} {u : Value} (hq : (flatI ids)[q]? = some u) : ∃ (hi : q / 16 < ids.length), (ids[q / 16].map vByte)[q % 16]? = some u := by
 have hlt := (List.getElem?_eq_some_iff.1 hq).1
 rw [flatI_length h] at hlt
 have hi : q / 16 < ids.length := by omega
 refine ⟨hi, ?_⟩
 have := flatI_get h (q / 16) (q % 16) hi (by omega)
 rw [← this, show q / 16 * 16 + q % 16 = q by omega]
 exact hq
section
variable {P : Program} {n : Nat} {w0 : World} {S : Nat → Prop} {l : Fr} {m : List Ck} {Q : Exit → Act → World → Prop} {K : Act → World → Prop}
theorem IsSl.flat {Ps : Nat → Prop} {w : World} {v : Value} {ids : List (List UInt8)} (h : IsSl rID Ps w v ids) : all16 ids ∧ ∃ ad cap b off, v = .slice ad ids.length cap ∧ (0 < ids.length → ad = some ⟨b, off, none⟩) ∧ (ad = none → cap = 0) ∧ News w b off (flatI ids) := by
 obtain ⟨ad, cap, b, off, e, hs⟩ := h
 have h16 : all16 ids := fun x hx => by
  obtain ⟨i, hi, rfl⟩ := List.getElem_of_mem hx
  exact (hs.cell i hi).1
 refine ⟨h16, ad, cap, b, off, e, hs.had, hs.hnil, fun q u hq => ?_⟩
 obtain ⟨hi, hu⟩ := flatI_at h16 hq
 rw [List.getElem?_map] at hu
 obtain ⟨y, hy, rfl⟩ := Option.map_eq_some_iff.1 hu
 obtain ⟨hj, rfl⟩ := List.getElem?_eq_some_iff.1 hy
 have := ((hs.cell _ hi).2 _ hj).2.1
 have e1 : off + q / 16 * rID.sz + q % 16 * rByte.sz = off + q := by show off + q / 16 * 16 + q % 16 * 1 = off + q; omega
 rwa [e1] at this
theorem own_isI {e : TypeId} {v : Value} {ids : List (List UInt8)} {w : World} (h : w.ownsRow 0 e 16 v ids.length (flatI ids)) (h16 : all16 ids) : IsSl rID (fun b => v.ownBlock = some b) w v ids := by
 have h0 := h
 rcases h.2 with ⟨rfl, h2⟩ | ⟨g', cap, cur, rfl, _, hg, hc, hm, hs, ht⟩
 ·obtain rfl : ids = [] := List.length_eq_zero_iff.1 h2
  exact ⟨none, 0, 0, 0, rfl, Nat.le_refl _, by omega, fun _ => rfl, fun h => absurd h (by simp), fun i hi => absurd hi (by simp)⟩
 refine ⟨_, cap, g', 0, rfl, hc, by unfold maxLen at hm; omega, (fun h => by cases h), fun _ => rfl, fun i hi => ⟨h16 _ (List.getElem_mem hi), fun j hj => ⟨rfl, ?_, trivial⟩⟩⟩
 have hj' : j < 16 := by have := h16 _ (List.getElem_mem hi); omega
 have := h0.cells (g := g') rfl (i * 16 + j) (vByte ids[i][j]) (by rw [flatI_get h16 i j hi hj', List.getElem?_map, List.getElem?_eq_getElem hj]; rfl)
 rw [addr_mid] at this
 have e1 : 0 + i * rID.sz + j * rByte.sz = 0 + (i * 16 + j) := by show 0 + i * 16 + j * 1 = _; omega
 rw [e1]
 exact this
theorem may_ownI {e : TypeId} {v : Value} {ids : List (List UInt8)} {r : List Ck} (h : Sel m (own e 16 v ids.length (flatI ids)) r) (h16 : all16 ids) : May w0 S m (slc rID (fun b => v.ownBlock = some b) v ids) := .view h.mem (fun w hw => own_isI hw h16) fun b h => h
theorem may_ownN {e : TypeId} {v : Value} {xs : List Int} {r : List Ck} (h : Sel m (own e 1 v xs.length (xs.map vInt)) r) (h64 : ∀ x ∈ xs, I64 x) : May w0 S m (slc rInt (fun b => v.ownBlock = some b) v xs) := may_own h rfl h64
theorem Ro.all16 {Ps : Nat → Prop} {v : Value} {ids : List (List UInt8)} (h : Ro w0 S (slc rID Ps v ids)) : all16 ids := (IsSl.flat h.1).1
theorem G.appendI {ty : TypeId} {pos : String} {after : Array Edge} {g : Option (Nat × Bool)} {Ps : Nat → Prop} {t e d k : Nat} {s x : Operand} {v u : Value} {cs : List Value} {ids : List (List UInt8)} {r : List Ck} (hn : Nat.blt d n = true) (hu : P.underlying t = some (.slice e)) (hi : (P.info? e).map (fun i => (i.zero.map (·.cells.size), i.size, i.bytes)) = some (some 16, 16, 16))
 (hs : ev l s = some v) (hx : ev l x = some u) (hsel : Sel m (own e 16 v k cs) r) (hsl : ∀ w, Hp w0 S w m → IsSl rID Ps w u ids) (hbig : (k + ids.length) * 16 ≤ 140737488355328)
 (h : ∀ v', G n w0 S ((d, v') :: l) (own e 16 v' (k + ids.length) (cs ++ flatI ids) :: r) K) : G n w0 S l m (fun a w => Oper.wp P ⟨some d, .call ⟨.builtin .append, #[s, x], #[t, t]⟩, ty, pos, after, g⟩ a w K Q) := fun a w ha hw => by
 obtain ⟨h16, ad, cap, b, off, rfl, had, hnil, _⟩ := (hsl w hw).flat
 refine G.append (K := K) (Q := Q) (w0 := w0) (S := S) (m := m) (l := l) (off := off) (b := b) hn hu hi rfl hs hx hsel had hnil (flatI_length h16) (fun w2 hw2 => ?_) (flatI_one ids) hbig (by omega) h a w ha hw
 obtain ⟨_, ad2, cap2, b2, off2, e2, had2, _, hn2⟩ := (hsl w2 hw2).flat
 injection e2 with e3 e4 e5
 subst e3
 intro i y hy
 have hj : 0 < ids.length := by
  obtain ⟨hlt, _⟩ := flatI_at h16 hy
  omega
 have := (had hj).symm.trans (had2 hj)
 injection this with this
 injection this with e6 e7
 subst e6 e7
 exact hn2 i y hy
end
theorem takes_next {α : Type} {a b : List α} {k : Nat} (h : a.take k = b.take k) (ha : k < a.length) (hb : k < b.length) (e : a[k] = b[k]) : a.take (k + 1) = b.take (k + 1) := by
 rw [List.take_succ_eq_append_getElem ha, List.take_succ_eq_append_getElem hb, h, e]
theorem takes_off {α : Type} {a b : List α} {k : Nat} (ha : k < a.length) (hb : k < b.length) (e : ¬ a[k] = b[k]) : ¬ a = b := fun h => by
 subst h
 exact e rfl
theorem takes_all {α : Type} {a b : List α} {k : Nat} (h : a.take k = b.take k) (ha : a.length ≤ k) (hb : b.length ≤ k) : a = b := by
 rwa [List.take_of_length_le ha, List.take_of_length_le hb] at h
theorem Tryz.infoInt' : (Tryz.prog.info? 3).map (fun i => (i.zero.map (·.cells.size), i.size, i.bytes)) = some (some 1, 1, 8) := by kernel_rfl
theorem Tryz.infoID' : (Tryz.prog.info? 52).map (fun i => (i.zero.map (·.cells.size), i.size, i.bytes)) = some (some 16, 16, 16) := by kernel_rfl
set_option maxHeartbeats 4000000 in
theorem sameInts_tr {Pv Pu : Nat → Prop} (v u : Value) (a b : List Int) : Tr Tryz.prog 45 #[v, u] [slc rInt Pv v a, slc rInt Pu u b] [] (T0 (.bool (decide (a = b)))) := by
 refine Tr.of (l := [(0, v), (1, u)]) Tryz.func45 rfl (n := 26) rfl (.cons rfl (.cons rfl .nil)) (fun w0 hro => ?_)
 obtain ⟨hv, hu⟩ := ro2 hro
 obtain ⟨ad, ca, ba, oa, rfl, hca, hma, -, had, hea⟩ := Ro.open hv
 obtain ⟨ad2, cb, bb, ob, rfl, hcb, hmb, -, hbd, heb⟩ := Ro.open hu
 refine go [9,10,1,7,8,9,9,10,0,2,5,0,2,5,2,14,7,8] ?_
 refine G.condP rfl (fun h10 => ?_) (fun h10 => ?_)
 ·refine go [9,10,1,7,8,11,12] ?_
  exact G.done1 rfl rfl .nil ⟨congrArg Value.bool ((decide_eq_false (fun e => by subst e; omega)).symm), rfl⟩
 refine go [13,8,9,9,10,1,7,8,15] ?_
 refine G.loopK (X := Nat) (ts := [0, 1]) (fun k => k ≤ a.length ∧ (a.take k = b.take k)) (fun k => [(5, .int .i64 (k : Int))]) (fun k => []) (fun k => a.length - k) (x0 := 0) (.cons rfl (.cons rfl .nil)) subT (.cons .nil) apT Y56 (.consE rfl veqT .nil) (fun k hJ => ?_)
 try dsimp only at hJ
 try dsimp only
 obtain ⟨hkk, hJ⟩ := hJ
 refine go [9,9,10,0,0,2,5,2,9,7,8] ?_
 refine G.condP rfl (fun h14 => ?_) (fun h14 => ?_)
 ·have hka : k < a.length := by omega
  have hkb : k < b.length := by omega
  have hA := hea k hka
  have hB := heb k hkb
  refine go [13,8,9,15,9] ?_
  refine G.drawT (nn := 9) (p := []) (rem := 511) [0, 0, 3, 4, 0, 0, 48, 64, 136] [0, 0, 3, 4, 0, 0, 48, 64, 136] kr ⟨rfl, by kernel_rfl, by kernel_rfl⟩ subT kr (fun hT6 => ?_)
  refine go [22,0,510,0,22,1,508,0,22,2,504,20,1,22,4,488,0,22,5,456,0,22,6,392,20,1,22,3,384,4,24,7,256,25,4,26,22,8,0,14,27,8] ?_
  refine G.condP rfl (fun h25 => ?_) (fun h25 => ?_)
  ·refine go [9,10,1,7,8,11,17,12,12,17,12] ?_
   exact G.done1 rfl rfl .nil ⟨congrArg Value.bool ((decide_eq_false (takes_off hka hkb h25)).symm), rfl⟩
  refine go [13,16,8,10,0,2,6,1,7] ?_
  exact G.next (k + 1) (by first | exact trivial | ((try dsimp only) <;> exact ⟨by omega, takes_next hJ hka hkb (by first | exact Decidable.of_not_not h25 | (simpa using h25))⟩)) (by (try dsimp only); omega) (.consE rfl veqT (.cons rfl (.cons rfl .nil))) subT
 refine go [18,14,14,19,8,9,10,1,7,8,11] ?_
 exact G.done1 rfl rfl .nil ⟨congrArg Value.bool ((decide_eq_true (takes_all hJ (by omega) (by omega))).symm), rfl⟩
set_option maxHeartbeats 4000000 in
theorem sameIDs_tr {Pv Pu : Nat → Prop} (v u : Value) (a b : List (List UInt8)) : Tr Tryz.prog 25 #[v, u] [slc rID Pv v a, slc rID Pu u b] [] (T0 (.bool (decide (a = b)))) := by
 refine Tr.of (l := [(0, v), (1, u)]) Tryz.func25 rfl (n := 26) rfl (.cons rfl (.cons rfl .nil)) (fun w0 hro => ?_)
 obtain ⟨hv, hu⟩ := ro2 hro
 obtain ⟨ad, ca, ba, oa, rfl, hca, hma, -, had, hea⟩ := Ro.open hv
 obtain ⟨ad2, cb, bb, ob, rfl, hcb, hmb, -, hbd, heb⟩ := Ro.open hu
 refine go [9,10,1,7,8,9,9,10,0,2,5,0,2,5,2,14,7,8] ?_
 refine G.condP rfl (fun h10 => ?_) (fun h10 => ?_)
 ·refine go [9,10,1,7,8,11,12] ?_
  exact G.done1 rfl rfl .nil ⟨congrArg Value.bool ((decide_eq_false (fun e => by subst e; omega)).symm), rfl⟩
 refine go [13,8,9,9,10,1,7,8,15] ?_
 refine G.loopK (X := Nat) (ts := [0, 1]) (fun k => k ≤ a.length ∧ (a.take k = b.take k)) (fun k => [(5, .int .i64 (k : Int))]) (fun k => []) (fun k => a.length - k) (x0 := 0) (.cons rfl (.cons rfl .nil)) subT (.cons .nil) apT Y56 (.consE rfl veqT .nil) (fun k hJ => ?_)
 try dsimp only at hJ
 try dsimp only
 obtain ⟨hkk, hJ⟩ := hJ
 refine go [9,9,10,0,0,2,5,2,9,7,8] ?_
 refine G.condP rfl (fun h14 => ?_) (fun h14 => ?_)
 ·have hka : k < a.length := by omega
  have hkb : k < b.length := by omega
  have hA := hea k hka
  have hB := heb k hkb
  obtain ⟨la, ra⟩ := Ro.arr8 hA
  obtain ⟨lb, rb⟩ := Ro.arr8 hB
  refine go [13,8,9,15,9] ?_
  refine G.drawT (nn := 9) (p := []) (rem := 511) [0, 0, 3, 4, 0, 0, 48, 64, 136] [0, 0, 3, 4, 0, 0, 48, 64, 136] kr ⟨rfl, by kernel_rfl, by kernel_rfl⟩ subT kr (fun hT6 => ?_)
  refine go [22,0,510,0,22,1,508,0,22,2,504,20,16,22,4,488,0,22,5,456,0,22,6,392,20,16] ?_
  refine G.takeT hT6 (i := 3) (rem' := 384) rfl rfl rfl kr (fun _ _ _ h => h) rfl (pv_loadN (cs := a[k].map vByte) Tryz.underlying52 rfl (by rw [List.length_map, la]; kernel_rfl) rfl ra) subT ?_
  refine go [24,7,256] ?_
  refine G.turnOp rfl rfl (G.val rfl rfl (pv_loadN (cs := b[k].map vByte) Tryz.underlying52 rfl (by rw [List.length_map, lb]; kernel_rfl) rfl rb) ?_)
  refine go [26] ?_
  refine G.takeT hT6 (i := 8) (rem' := 0) rfl rfl rfl kr (fun _ _ _ h => h) rfl (pv_neqAr8 (a := a[k]) (b := b[k]) Tryz.underlying52 rfl kr Tryz.underlying5 kr rfl rfl la lb) subT ?_
  refine go [27,8] ?_
  refine G.cond rfl (fun h25 => ?_) (fun h25 => ?_)
  ·refine go [9,10,1,7,8,11,17,12,12,17,12] ?_
   exact G.done1 rfl rfl .nil ⟨congrArg Value.bool ((decide_eq_false (takes_off hka hkb (by simpa using h25))).symm), rfl⟩
  refine go [13,16,8,10,0,2,6,1,7] ?_
  exact G.next (k + 1) (by first | exact trivial | ((try dsimp only) <;> exact ⟨by omega, takes_next hJ hka hkb (by first | exact Decidable.of_not_not h25 | (simpa using h25))⟩)) (by (try dsimp only); omega) (.consE rfl veqT (.cons rfl (.cons rfl .nil))) subT
 refine go [18,14,14,19,8,9,10,1,7,8,11] ?_
 exact G.done1 rfl rfl .nil ⟨congrArg Value.bool ((decide_eq_true (takes_all hJ (by omega) (by omega))).symm), rfl⟩
end Go.Proofs.YtngbglhmiefcpaaGreat
namespace Go.Proofs.YtngbglhmiefcpaaGreat
open Go.RowKit
def wtM (c : UInt8) : Int := ((c.toNat : Int) * 2 + 1) * 2654435761 % 4294967296
def rsum (b : List UInt8) : Int := b.foldl (fun n c => (n * 3 + wtM c) % 4294967296) 0
def lastW (m : List UInt8) : List UInt8 := m.drop (m.length - 16)
def rollM (s : Int) (o c : UInt8) : Int := ((s - wtM o * 14348907) * 3 + wtM c) % 4294967296
theorem wtM_rng (c : UInt8) : 0 ≤ wtM c ∧ wtM c < 4294967296 := by unfold wtM; omega
theorem rsum_snoc (b : List UInt8) (c : UInt8) : rsum (b ++ [c]) = (rsum b * 3 + wtM c) % 4294967296 := by simp [rsum, List.foldl_append]
theorem mod_ex (x M : Int) : ∃ k, x % M = x + M * k := ⟨-(x / M), by have := Int.emod_add_mul_ediv x M; grind⟩
theorem fold_lin : ∀ (b : List UInt8) (n : Int), ∃ k, b.foldl (fun n c => (n * 3 + wtM c) % 4294967296) n = n * 3 ^ b.length + b.foldl (fun n c => (n * 3 + wtM c) % 4294967296) 0 + 4294967296 * k
 | [], n => ⟨0, by simp⟩
 | c :: b, n => by
  obtain ⟨k1, h1⟩ := fold_lin b ((n * 3 + wtM c) % 4294967296)
  obtain ⟨k2, h2⟩ := fold_lin b ((0 * 3 + wtM c) % 4294967296)
  obtain ⟨k3, h3⟩ := mod_ex (n * 3 + wtM c) 4294967296
  obtain ⟨k4, h4⟩ := mod_ex (0 * 3 + wtM c) 4294967296
  refine ⟨k1 - k2 + (k3 - k4) * 3 ^ b.length, ?_⟩
  rw [List.foldl_cons, List.foldl_cons, h1, h2, h3, h4, List.length_cons, Int.pow_succ]
  grind
theorem rsum_cons (a : UInt8) (l : List UInt8) (h : l.length = 15) : ∃ k, rsum (a :: l) = wtM a * 14348907 + rsum l + 4294967296 * k := by
 unfold rsum
 obtain ⟨k1, h1⟩ := fold_lin l ((0 * 3 + wtM a) % 4294967296)
 have h2 : (0 * 3 + wtM a) % 4294967296 = wtM a := by have := wtM_rng a; omega
 rw [h2, h] at h1
 exact ⟨k1, by rw [List.foldl_cons, h2, h1]; rfl⟩
theorem roll_win (a c : UInt8) (l : List UInt8) (h : l.length = 15) : rollM (rsum (a :: l)) a c = rsum (l ++ [c]) := by
 obtain ⟨k, hk⟩ := rsum_cons a l h
 rw [rsum_snoc, hk]
 unfold rollM
 have : (wtM a * 14348907 + rsum l + 4294967296 * k - wtM a * 14348907) * 3 + wtM c = rsum l * 3 + wtM c + 4294967296 * (k * 3) := by omega
 rw [this, Int.add_mul_emod_self_left]
theorem lastW_small {m : List UInt8} (h : m.length ≤ 16) : lastW m = m := by
 unfold lastW
 rw [show m.length - 16 = 0 by omega, List.drop_zero]
theorem lastW_snoc {m : List UInt8} (h : m.length < 16) (c : UInt8) : rsum (lastW (m ++ [c])) = (rsum (lastW m) * 3 + wtM c) % 4294967296 := by
 rw [lastW_small (show (m ++ [c]).length ≤ 16 by simp; omega), lastW_small (by omega), rsum_snoc]
theorem lastW_roll {m : List UInt8} (h : 16 ≤ m.length) (c : UInt8) : rsum (lastW (m ++ [c])) = rollM (rsum (lastW m)) (m[m.length - 16]'(by omega)) c := by
 have e1 : lastW m = m[m.length - 16]'(by omega) :: m.drop (m.length - 15) := by
  unfold lastW
  rw [List.drop_eq_getElem_cons (by omega), show m.length - 16 + 1 = m.length - 15 by omega]
 have e2 : lastW (m ++ [c]) = m.drop (m.length - 15) ++ [c] := by
  unfold lastW
  rw [List.length_append, List.length_singleton, List.drop_append_of_le_length (by omega), show m.length + 1 - 16 = m.length - 15 by omega]
 rw [e1, e2, roll_win _ _ _ (by rw [List.length_drop]; omega)]
def rollC (ring : List UInt8) (n : Nat) (s : Int) (rest : List Value) : List Value := ring.map vByte ++ (.int .i64 (n : Int) :: .int .u32 s :: .bool true :: rest)
def rollN (k : Nat) : Nat := if k < 16 then k else 16 + k % 16
structure RollAt (ring : List UInt8) (n : Nat) (s : Int) (m : List UInt8) : Prop where
 len : ring.length = 16
 num : n = rollN m.length
 sum : s = rsum (lastW m)
 at' : ∀ j (h : j < m.length), m.length ≤ j + 16 → ring[j % 16]? = some m[j]
theorem roll_zero : RollAt (List.replicate 16 0) 0 0 [] := ⟨rfl, rfl, rfl, fun j h => absurd h (by simp)⟩
variable {ring : List UInt8} {n : Nat} {s : Int} {rest : List Value}
theorem roll_n (h : ring.length = 16) : (rollC ring n s rest)[0 + 16]? = some (.int .i64 (n : Int)) := by
 unfold rollC
 rw [List.getElem?_append_right (by rw [List.length_map]; omega), List.length_map, h]
 rfl
theorem roll_s (h : ring.length = 16) : (rollC ring n s rest)[0 + 17]? = some (.int .u32 s) := by
 unfold rollC
 rw [List.getElem?_append_right (by rw [List.length_map]; omega), List.length_map, h]
 rfl
theorem roll_m (h : ring.length = 16) : (rollC ring n s rest)[0 + 18]? = some (.bool true) := by
 unfold rollC
 rw [List.getElem?_append_right (by rw [List.length_map]; omega), List.length_map, h]
 rfl
theorem roll_x {v : Value} (h : ring.length = 16) : (rollC ring n s [v])[0 + 19]? = some v := by
 unfold rollC
 rw [List.getElem?_append_right (by rw [List.length_map]; omega), List.length_map, h]
 rfl
theorem roll_r (h : ring.length = 16) {i : Nat} {c : UInt8} (hc : ring[i]? = some c) : (rollC ring n s rest)[0 + 0 + i * 1]? = some (.int .u8 (c.toNat : Int)) := by
 have hi := (List.getElem?_eq_some_iff.1 hc).1
 unfold rollC
 rw [List.getElem?_append_left (by rw [List.length_map]; omega), List.getElem?_map, show 0 + 0 + i * 1 = i by omega, hc]
 rfl
theorem roll_len (h : ring.length = 16) : (rollC ring n s rest).length = 19 + rest.length := by
 unfold rollC
 simp [h]
 omega
theorem roll_setN (h : ring.length = 16) (n' : Nat) : (rollC ring n s rest).set (0 + 16) (.int .i64 (n' : Int)) = rollC ring n' s rest := by
 unfold rollC
 rw [List.set_append_right _ _ (by rw [List.length_map]; omega), List.length_map, h]
 rfl
theorem roll_setS (h : ring.length = 16) (s' : Int) : (rollC ring n s rest).set (0 + 17) (.int .u32 s') = rollC ring n s' rest := by
 unfold rollC
 rw [List.set_append_right _ _ (by rw [List.length_map]; omega), List.length_map, h]
 rfl
theorem roll_setX {v : Value} (h : ring.length = 16) (v' : Value) : (rollC ring n s [v]).set (0 + 19) v' = rollC ring n s [v'] := by
 unfold rollC
 rw [List.set_append_right _ _ (by rw [List.length_map]; omega), List.length_map, h]
 rfl
theorem roll_setR (h : ring.length = 16) {i : Nat} (hi : i < 16) (c : UInt8) : (rollC ring n s rest).set (0 + 0 + i * 1) (.int .u8 (c.toNat : Int)) = rollC (ring.set i c) n s rest := by
 unfold rollC
 rw [show 0 + 0 + i * 1 = i by omega, List.set_append_left _ _ (by rw [List.length_map]; omega), List.map_set]
 rfl
theorem RollAt.out {m : List UInt8} (h : RollAt ring n s m) (hm : ¬ n < 16) : ∃ hl : 16 ≤ m.length, ring[n % 16]? = some (m[m.length - 16]'(by omega)) ∧ n % 16 = m.length % 16 := by
 have hn := h.num
 unfold rollN at hn
 split at hn
 ·omega
 refine ⟨by omega, ?_, by omega⟩
 have := h.at' (m.length - 16) (by omega) (by omega)
 rw [← this]
 congr 1
 omega
theorem RollAt.mod {m : List UInt8} (h : RollAt ring n s m) : n % 16 = m.length % 16 ∧ n < 32 := by
 have hn := h.num
 unfold rollN at hn
 split at hn <;> omega
theorem RollAt.push {m : List UInt8} (h : RollAt ring n s m) (c : UInt8) : RollAt (ring.set (n % 16) c) (if n + 1 = 32 then 16 else n + 1) (rsum (lastW (m ++ [c]))) (m ++ [c]) := by
 obtain ⟨hm, hlt⟩ := h.mod
 refine ⟨by rw [List.length_set]; exact h.len, ?_, rfl, fun j hj hj2 => ?_⟩
 ·have hn := h.num
  unfold rollN at hn ⊢
  rw [List.length_append, List.length_singleton]
  split at hn <;> split <;> split <;> omega
 rw [List.length_append, List.length_singleton] at hj hj2
 rcases Nat.lt_or_ge j m.length with h1 | h1
 ·rw [List.getElem_append_left h1, List.getElem?_set_ne (by omega)]
  exact h.at' j h1 (by omega)
 obtain rfl : j = m.length := by omega
 rw [hm, List.getElem?_set_self (by rw [h.len]; omega)]
 simp
theorem or_one (c : UInt8) : bits .or .u32 ((c.toNat : Int) * 2) 1 = (c.toNat : Int) * 2 + 1 := by
 have : ∀ k : Fin 256, bits .or .u32 ((k.val : Int) * 2) 1 = (k.val : Int) * 2 + 1 := by decide +kernel
 exact this ⟨c.toNat, c.toNat_lt⟩
theorem u32_wt (c : UInt8) : IntKind.u32.wrap (((c.toNat : Int) * 2 + 1) * 2654435761) = wtM c := by rw [IntKind.wrap_u32]; rfl
theorem u32_small {x : Int} (h : 0 ≤ x ∧ x < 4294967296) : IntKind.u32.wrap x = x := by rw [IntKind.wrap_u32]; omega
theorem u32_roll (s : Int) (o c : UInt8) : IntKind.u32.wrap (IntKind.u32.wrap (IntKind.u32.wrap (s - IntKind.u32.wrap (wtM o * 14348907)) * 3) + wtM c) = rollM s o c := by
 simp only [IntKind.wrap_u32]
 unfold rollM
 omega
theorem u32_next (s : Int) (c : UInt8) : IntKind.u32.wrap (IntKind.u32.wrap (s * 3) + wtM c) = (s * 3 + wtM c) % 4294967296 := by
 simp only [IntKind.wrap_u32]
 omega
set_option maxHeartbeats 4000000 in
theorem weight_tr (c : UInt8) : Tr Tryz.prog 170 #[.int .u8 (c.toNat : Int)] [] [] (T0 (.int .u32 (wtM c))) := by
 refine Tr.of (l := [(0, .int .u8 (c.toNat : Int))]) Tryz.func170 rfl (n := 8) rfl (.cons rfl .nil) (fun w0 hro => ?_)
 have hc := c.toNat_lt
 refine go [9,10,1,7,8,9,10,0] ?_
 refine G.op rfl (G.val rfl rfl ((pv_conv (by rw [Tryz.underlying5]; rfl) Tryz.underlying163 rfl).int (b := (c.toNat : Int)) (u32_small ⟨by omega, by omega⟩)) ?_)
 refine G.op rfl (G.val rfl rfl ((pv_shl (s := 1) rfl rfl (by decide)).int (b := (c.toNat : Int) * 2) (u32_small (x := (c.toNat : Int) * 2 ^ 1) ⟨by omega, by omega⟩)) ?_)
 refine G.op rfl (G.val rfl rfl ((pv_or rfl rfl).int (or_one c)) ?_)
 refine G.op rfl (G.val rfl rfl ((pv_mulk rfl rfl).int (u32_wt c)) ?_)
 refine go [1,7,8,11] ?_
 exact G.done0G rfl (Rv.tmp rfl Rv.nil) Y7
set_option maxHeartbeats 4000000 in
theorem weightR_tr (c : UInt8) : Tr Tryz.prog 173 #[.int .u8 (c.toNat : Int)] [] [] (T0 (.int .u32 (wtM c))) := by
 refine Tr.of (l := [(0, .int .u8 (c.toNat : Int))]) Tryz.func173 rfl (n := 8) rfl (.cons rfl .nil) (fun w0 hro => ?_)
 have hc := c.toNat_lt
 refine go [9,10,1,7,8,9,10,0] ?_
 refine G.op rfl (G.val rfl rfl ((pv_conv (by rw [Tryz.underlying5]; rfl) Tryz.underlying163 rfl).int (b := (c.toNat : Int)) (u32_small ⟨by omega, by omega⟩)) ?_)
 refine G.op rfl (G.val rfl rfl ((pv_mulk rfl rfl).int (b := (c.toNat : Int) * 2) (by rw [Int.mul_comm]; exact u32_small ⟨by omega, by omega⟩)) ?_)
 refine G.op rfl (G.val rfl rfl ((pv_addk rfl rfl).int (b := (c.toNat : Int) * 2 + 1) (u32_small ⟨by omega, by omega⟩)) ?_)
 refine G.op rfl (G.val rfl rfl ((pv_mulk rfl rfl).int (u32_wt c)) ?_)
 refine go [1,7,8,11] ?_
 exact G.done0G rfl (Rv.tmp rfl Rv.nil) Y7
set_option maxHeartbeats 4000000 in
theorem rsumR_tr {Pv : Nat → Prop} (v : Value) (b : List UInt8) : Tr Tryz.prog 163 #[v] [slc rByte Pv v b] [] (T0 (.int .u32 (rsum b))) := by
 refine Tr.of (l := [(0, v)]) Tryz.func163 rfl (n := 20) rfl (.cons rfl .nil) (fun w0 hro => ?_)
 have hv := ro1 hro
 obtain ⟨ad, cap, bb, off, rfl, hcap, hmax, hnil, had, hel⟩ := Ro.open hv
 refine go [9,10,1,7,8,9,10,1,7,8,9,9,10,1,7,8,15] ?_
 refine G.loopK (X := Nat) (ts := [0, 2]) (fun i => i ≤ b.length ∧ (True)) (fun i => [(4, .int .i64 (i : Int)), (3, .int .u32 (rsum (b.take i)))]) (fun i => []) (fun i => b.length - i) (x0 := 0) (.cons rfl (.cons rfl .nil)) subT (.cons (.cons .nil)) apT (by first | exact trivial | ((try dsimp only) <;> exact ⟨Nat.zero_le _, trivial⟩)) (.consE rfl veqT (.consE rfl veqT .nil)) (fun i hJ => ?_)
 try dsimp only at hJ
 try dsimp only
 obtain ⟨hki, hJ⟩ := hJ
 refine go [9,9,10,0,0,2,5,2,9,7,8] ?_
 refine G.condP rfl (fun h8 => ?_) (fun h8 => ?_)
 ·have hlt : i < b.length := by omega
  have hE := hel i hlt
  have hsn : rsum (b.take (i + 1)) = (rsum (b.take i) * 3 + wtM b[i]) % 4294967296 := by rw [List.take_succ_eq_append_getElem hlt, rsum_snoc]
  refine go [13,8,9,15,10,0] ?_
  refine G.op rfl (G.val rfl rfl ((pv_mulk rfl rfl).int (b := IntKind.u32.wrap (rsum (b.take i) * 3)) (by rw [Int.mul_comm])) ?_)
  refine go [0,0,2,20,1,2,4] ?_
  refine G.op rfl (G.cR rfl rfl rfl rfl Tryz.func173 rfl rfl may0 (weightR_tr _) ?_)
  refine G.op rfl (G.val rfl rfl ((pv_addk rfl rfl).int ((u32_next _ _).trans hsn.symm)) ?_)
  refine go [1,7,16,8,10,0,2,6,1,7] ?_
  exact G.next (i + 1) (by first | exact trivial | ((try dsimp only) <;> exact ⟨by omega, trivial⟩)) (by (try dsimp only); omega) (.consE rfl veqT (.consE rfl veqT (.cons rfl (.cons rfl .nil)))) subT
 refine go [18,14,14,19,8,9,10,0,1,7,8,11] ?_
 obtain rfl : i = b.length := by omega
 rw [List.take_length]
 exact G.done0G rfl (Rv.tmp rfl Rv.nil) Y7
set_option maxHeartbeats 4000000 in
theorem rollF_tr (s : Int) (o c : UInt8) : Tr Tryz.prog 171 #[.int .u32 s, .int .u8 (o.toNat : Int), .int .u8 (c.toNat : Int)] [] [] (T0 (.int .u32 (rollM s o c))) := by
 refine Tr.of (l := [(0, .int .u32 s), (1, .int .u8 (o.toNat : Int)), (2, .int .u8 (c.toNat : Int))]) Tryz.func171 rfl (n := 16) rfl (.cons rfl (.cons rfl (.cons rfl .nil))) (fun w0 hro => ?_)
 refine go [9,10,1,7,8,9,10,0,0] ?_
 refine G.op rfl (G.cR rfl rfl rfl rfl Tryz.func170 rfl rfl may0 (weight_tr _) ?_)
 refine G.op rfl (G.val rfl rfl (pv_mulk rfl rfl) ?_)
 refine G.op rfl (G.val rfl rfl (pv_subk rfl rfl) ?_)
 refine G.op rfl (G.val rfl rfl (pv_mulk rfl rfl) ?_)
 refine go [0] ?_
 refine G.op rfl (G.cR rfl rfl rfl rfl Tryz.func170 rfl rfl may0 (weight_tr _) ?_)
 refine G.op rfl (G.val rfl rfl ((pv_addk rfl rfl).int (u32_roll s o c)) ?_)
 refine go [1,7,8,11] ?_
 exact G.done0G rfl (Rv.tmp rfl Rv.nil) Y7
set_option maxHeartbeats 4000000 in
theorem rnone_tr (D : Nat) (T : TypeId) (ring : List UInt8) (n : Nat) (s : Int) (rest : List Value) (hr : ring.length = 16) : Tr Tryz.prog 169 #[.pointer (some ⟨D, 0, none⟩)] [blk D T (rollC ring n s rest)] [] (T0 (.bool false)) := by
 refine Tr.of (l := [(0, .pointer (some ⟨D, 0, none⟩))]) Tryz.func169 rfl (n := 12) rfl (.cons rfl .nil) (fun w0 hro => ?_)
 have hb := ro1 hro
 refine go [9,10,1,7,8,9,10,0] ?_
 refine G.op rfl (G.val rfl rfl ((pv_eqlP0 Tryz.underlying204 rfl rfl).cast (v' := .bool false) rfl) ?_)
 refine go [0,3,0,3,8,3,3,18] ?_
 refine G.want rfl rfl rfl (G.val rfl rfl (pv_load Tryz.underlying4 rfl rfl (ro_blk hb (roll_m hr))) ?_)
 refine G.want rfl rfl rfl (G.val rfl rfl ((pv_not rfl).cast (v' := .bool false) rfl) ?_)
 refine go [2,2,1,7,8,11] ?_
 exact G.done0G rfl (Rv.tmp rfl Rv.nil) Y7
set_option maxHeartbeats 4000000 in
theorem push_tr (D : Nat) (T : TypeId) (ring : List UInt8) (n : Nat) (s : Int) (rest : List Value) (m : List UInt8) (c : UInt8) (h : RollAt ring n s m) : Tr Tryz.prog 160 #[.pointer (some ⟨D, 0, none⟩), .int .u8 (c.toNat : Int)] [] [blk D T (rollC ring n s rest)]
 (TX (fun z : List UInt8 × Nat × Int => RollAt z.1 z.2.1 z.2.2 (m ++ [c])) (fun _ => .int .u32 (rsum (lastW (m ++ [c])))) (fun z => [blk D T (rollC z.1 z.2.1 z.2.2 rest)])) := by
 refine Tr.of (l := [(0, .pointer (some ⟨D, 0, none⟩)), (1, .int .u8 (c.toNat : Int))]) Tryz.func160 rfl (n := 73) rfl (.cons rfl (.cons rfl .nil)) (fun w0 hro => ?_)
 have hr := h.len
 obtain ⟨hmod, hn32⟩ := h.mod
 have hpush := h.push c
 refine go [9,10,1,7,8,9] ?_
 refine G.cutK (X := Int) (ts := [0, 1]) (p := [blk D _ _]) (fun s' => s' = rsum (lastW (m ++ [c]))) (fun s' => []) (fun s' => [blk D T (rollC ring n s' rest)]) (.cons rfl (.cons rfl .nil)) subT Ap.nil apT ?_ ?_
 ·refine go [15,9,10,0] ?_
  refine G.op rfl (G.cR rfl rfl rfl rfl Tryz.func169 rfl rfl (may1 Y8) (rnone_tr _ _ _ _ _ _ (by assumption)) ?_)
  refine go [1,7,8,60,0,9,10,0,2,8,2,3,16,2,50,7,2,9,1,7,8] ?_
  refine G.condP rfl (fun h27 => ?_) (fun h27 => ?_)
  ·have hm16 : m.length < 16 := by have := h.num; unfold rollN at this; split at this <;> omega
   have hsn := lastW_snoc hm16 c
   rw [← h.sum] at hsn
   refine G.drawT (nn := 12) (p := [blk D _ _]) (rem := 4095) [0, 0, 2, 4, 8, 16, 0, 64, 160, 511, 1023, 1535] [0, 0, 2, 4, 8, 16, 0, 64, 160, 1, 512, 1280] kr ⟨rfl, by kernel_rfl, by kernel_rfl⟩ subT kr (fun hT5 => ?_)
   refine go [22,0,4094,0,22,1,4092,0,22,2,4088,8,22,3,4080,3,17,22,6,4016,0] ?_
   refine G.twoT hT5 (i := 4) (j := 7) (rem' := 4000) (rem'' := 3888) kr kr kr ?_ ?_
   ·refine go [25,50,7,26] ?_
    refine G.takeT hT5 (i := 5) (rem' := 3968) rfl rfl rfl kr (fun _ _ _ h => h) rfl (pv_mulk rfl rfl) subT ?_
    refine go [24,7,3840] ?_
    refine G.turnOp rfl rfl (G.cR rfl rfl rfl rfl Tryz.func170 rfl rfl may0 (weight_tr _) ?_)
    refine go [26] ?_
    refine G.takeT hT5 (i := 8) (rem' := 3584) rfl rfl rfl kr (fun _ _ _ h => h) rfl ((pv_addk rfl rfl).int ((u32_next _ _).trans hsn.symm)) subT ?_
    refine go [22,9,3072,8,22,10,2048,3,17,24,11,0,60,13] ?_
    rw [roll_setS hr]
    refine go [26,27,16] ?_
    exact G.meet (rsum (lastW (m ++ [c]))) Y53 (.cons rfl (.cons rfl .nil)) subT
   refine G.turnOp rfl rfl (G.cR rfl rfl rfl rfl Tryz.func170 rfl rfl may0 (weight_tr _) ?_)
   refine go [26,24,4,3872,25,50,7,26] ?_
   refine G.takeT hT5 (i := 5) (rem' := 3840) rfl rfl rfl kr (fun _ _ _ h => h) rfl (pv_mulk rfl rfl) subT ?_
   refine G.takeT hT5 (i := 8) (rem' := 3584) rfl rfl rfl kr (fun _ _ _ h => h) rfl ((pv_addk rfl rfl).int ((u32_next _ _).trans hsn.symm)) subT ?_
   refine go [22,9,3072,8,22,10,2048,3,17,24,11,0,60,13] ?_
   rw [roll_setS hr]
   refine go [26,27,16] ?_
   exact G.meet (rsum (lastW (m ++ [c]))) Y53 (.cons rfl (.cons rfl .nil)) subT
  obtain ⟨h16, hout, _⟩ := h.out (by omega)
  have hro2 := lastW_roll h16 c
  rw [← h.sum] at hro2
  refine G.drawT (nn := 20) (p := [blk D _ _]) (rem := 1048575) [0, 0, 2, 4, 8, 0, 0, 64, 128, 256, 512, 32, 2048, 5120, 8192, 0, 49168, 131071, 262143, 393215] [0, 0, 2, 4, 8, 0, 0, 64, 128, 256, 512, 32, 2048, 5120, 8192, 0, 49168, 1, 131072, 327680] kr ⟨rfl, by kernel_rfl, by kernel_rfl⟩ subT kr (fun hT1 => ?_)
  refine go [22,0,1048574,0,22,1,1048572,0,22,2,1048568,8,22,3,1048560,3,17,22,5,1048528,0,22,6,1048464,0,22,7,1048336,8,22,8,1048080,3,16,22,11,1046032,8,22,12,1041936,3,0,22,15,1009168,0] ?_
  refine G.twoT hT1 (i := 4) (j := 9) (rem' := 1009152) (rem'' := 1008656) kr kr kr ?_ ?_
  ·refine go [25,50,7,26,24,9,1008640,25,50,7,26,22,10,1007616,50,13] ?_
   refine G.takeT hT1 (i := 13) (rem' := 999424) rfl rfl rfl kr (fun _ _ _ h => h) rfl (pv_ixA (sz := 1) (k := n % 16) Tryz.underlying51 kr rfl rfl (by omega) (by omega)) subT ?_
   refine go [24,14,983040] ?_
   refine G.turnOp rfl rfl (G.val rfl rfl (pv_load Tryz.underlying5 rfl rfl (blk_cell selD (roll_r hr hout))) ?_)
   refine go [26,24,16,917504] ?_
   refine G.turnOp rfl rfl (G.cR rfl rfl rfl rfl Tryz.func171 rfl rfl may0 (rollF_tr _ _ _) ?_)
   rw [← hro2]
   refine go [26,22,17,786432,8,22,18,524288,3,17,24,19,0,60,13] ?_
   rw [roll_setS hr]
   refine go [26,27,16] ?_
   exact G.meet (rsum (lastW (m ++ [c]))) Y53 (.cons rfl (.cons rfl .nil)) subT
  refine go [25,50,7,26,22,10,1007632,50,13] ?_
  refine G.takeT hT1 (i := 13) (rem' := 999440) rfl rfl rfl kr (fun _ _ _ h => h) rfl (pv_ixA (sz := 1) (k := n % 16) Tryz.underlying51 kr rfl rfl (by omega) (by omega)) subT ?_
  refine G.twoT hT1 (i := 4) (j := 14) (rem' := 999424) (rem'' := 983056) kr kr kr ?_ ?_
  ·refine go [25,50,7,26,24,14,983040] ?_
   refine G.turnOp rfl rfl (G.val rfl rfl (pv_load Tryz.underlying5 rfl rfl (blk_cell selD (roll_r hr hout))) ?_)
   refine go [26,24,16,917504] ?_
   refine G.turnOp rfl rfl (G.cR rfl rfl rfl rfl Tryz.func171 rfl rfl may0 (rollF_tr _ _ _) ?_)
   rw [← hro2]
   refine go [26,22,17,786432,8,22,18,524288,3,17,24,19,0,60,13] ?_
   rw [roll_setS hr]
   refine go [26,27,16] ?_
   exact G.meet (rsum (lastW (m ++ [c]))) Y53 (.cons rfl (.cons rfl .nil)) subT
  refine G.turnOp rfl rfl (G.val rfl rfl (pv_load Tryz.underlying5 rfl rfl (blk_cell selD (roll_r hr hout))) ?_)
  refine go [26,24,4,983040,25,50,7,26,24,16,917504] ?_
  refine G.turnOp rfl rfl (G.cR rfl rfl rfl rfl Tryz.func171 rfl rfl may0 (rollF_tr _ _ _) ?_)
  rw [← hro2]
  refine go [26,22,17,786432,8,22,18,524288,3,17,24,19,0,60,13] ?_
  rw [roll_setS hr]
  refine go [26,27,16] ?_
  exact G.meet (rsum (lastW (m ++ [c]))) Y53 (.cons rfl (.cons rfl .nil)) subT
 intro s' hJ
 try dsimp only at hJ
 try dsimp only
 subst hJ
 refine G.seq ?_
 refine G.drawT (nn := 11) (p := [blk D _ _]) (rem := 2047) [0, 0, 2, 4, 8, 16, 0, 1, 128, 383, 639] [0, 0, 2, 4, 8, 16, 0, 1, 128, 288, 576] kr ⟨rfl, by kernel_rfl, by kernel_rfl⟩ subT kr (fun hT6 => ?_)
 refine go [22,0,2046,0,22,1,2044,0,22,2,2040,8,22,3,2032,3,16,22,6,1968,0,22,7,1840,8,22,8,1584,3,0,24,4,1568,25,50,7,26,22,5,1536,50,13] ?_
 refine G.takeT hT6 (i := 9) (rem' := 1024) rfl rfl rfl kr (fun _ _ _ h => h) rfl (pv_ixA (sz := 1) (k := n % 16) Tryz.underlying51 kr rfl rfl (by omega) (by omega)) subT ?_
 refine go [24,10,0,60,13] ?_
 rw [roll_setR hr (by omega)]
 have hr0 := hr
 have hr : (ring.set (n % 16) c).length = 16 := by rw [List.length_set]; exact hr0
 refine go [26,27,8,9,10,0,2,8,2,3,16,2,50,7] ?_
 refine G.op rfl (G.val rfl rfl ((pv_add64 rfl rfl (by omega)).int (b := ((n + 1 : Nat) : Int)) (by omega)) ?_)
 refine go [2,8,2,3,16] ?_
 refine G.op rfl (G.store kr rfl rfl (by rfl) selT Y47 ?_)
 rw [roll_setN hr]
 refine go [7,8,9,9,10,0,2,8,2,3,16,2,50,7,2,13,7,8] ?_
 refine G.condP rfl (fun h65 => ?_) (fun h65 => ?_)
 ·have h32 : n + 1 = 32 := by omega
  rw [if_pos h32] at hpush
  refine go [10,0,2,8,2,3,16] ?_
  refine G.op rfl (G.store kr rfl rfl (by rfl) selT Y47 ?_)
  rw [show (.int .i64 16 : Value) = .int .i64 ((16 : Nat) : Int) from rfl, roll_setN hr]
  refine go [7,8,9,10,0,2,8,2,3,17,2,50,7,1,7,8,11] ?_
  exact G.doneX1 ((ring.set (n % 16) c, 16, rsum (lastW (m ++ [c])))) (by first | exact trivial | ((try dsimp only) <;> exact hpush)) rfl rfl rfl subT
 have h32 : ¬ n + 1 = 32 := by omega
 rw [if_neg h32] at hpush
 refine go [13,8,9,10,0,2,8,2,3,17,2,50,7,1,7,8,11] ?_
 exact G.doneX1 ((ring.set (n % 16) c, n + 1, rsum (lastW (m ++ [c])))) (by first | exact trivial | ((try dsimp only) <;> exact hpush)) rfl rfl rfl subT
end Go.Proofs.YtngbglhmiefcpaaGreat
namespace Go.Proofs.YtngbglhmiefcpaaGreat
open Go.RowKit
def badP (c : UInt8) : Bool := decide (c.toNat < 33) || decide (126 < c.toNat) || decide (c.toNat = 47)
def stepB (bad : UInt8 → Bool) (s : List UInt8) : Int × Int :=
 if s = [] ∨ s = [46] ∨ s = [46, 46] then (2, 0)
 else if s.findIdx bad < s.length then (4, s.findIdx bad)
 else if 60 < s.length then (3, 60) else (0, 0)
def badR (c : UInt8) : Bool := decide (c.toNat < 33) || decide (126 < c.toNat)
theorem stepJ {s : List UInt8} {k : Nat} (h : ∀ j, j < k → ∀ h : j < s.length, badP s[j] = false) (hk : k < s.length) (h1 : ¬ ((s[k].toNat : Int) < 33)) (h2 : ¬ ((126 : Int) < s[k].toNat)) (h3 : ¬ ((s[k].toNat : Int) = 47)) : ∀ j, j < k + 1 → ∀ h : j < s.length, badP s[j] = false := fun j hj hl => by
 rcases Nat.lt_or_ge j k with h4 | h4
 ·exact h j h4 hl
 obtain rfl : j = k := by omega
 unfold badP
 simp
 omega
theorem stepJR {s : List UInt8} {k : Nat} (h : ∀ j, j < k → ∀ h : j < s.length, badR s[j] = false) (hk : k < s.length) (h1 : ¬ ((s[k].toNat : Int) < 33)) (h2 : ¬ ((126 : Int) < s[k].toNat)) : ∀ j, j < k + 1 → ∀ h : j < s.length, badR s[j] = false := fun j hj hl => by
 rcases Nat.lt_or_ge j k with h4 | h4
 ·exact h j h4 hl
 obtain rfl : j = k := by omega
 unfold badR
 simp
 omega
theorem stepArg {bad : UInt8 → Bool} {s : List UInt8} (h : s = [] ∨ s = [46] ∨ s = [46, 46]) : stepB bad s = (2, 0) := if_pos h
theorem stepBad {bad : UInt8 → Bool} {s : List UInt8} {k : Nat} (h1 : ¬ s = []) (h2 : ¬ s = [46]) (h3 : ¬ s = [46, 46]) (h : ∀ j, j < k → ∀ h : j < s.length, bad s[j] = false) (hk : k < s.length) (hb : bad s[k] = true) : stepB bad s = (4, (k : Int)) := by
 have e : s.findIdx bad = k := (List.findIdx_eq hk).2 ⟨hb, fun j hj => h j hj (by omega)⟩
 unfold stepB
 rw [if_neg (by simp [h1, h2, h3]), e, if_pos hk]
theorem stepAll {bad : UInt8 → Bool} {s : List UInt8} {k : Nat} (h : ∀ j, j < k → ∀ h : j < s.length, bad s[j] = false) (hk : s.length ≤ k) : s.findIdx bad = s.length := List.findIdx_eq_length_of_false fun x hx => by
 obtain ⟨j, hj, rfl⟩ := List.getElem_of_mem hx
 exact h j (by omega) hj
theorem stepLong {bad : UInt8 → Bool} {s : List UInt8} {k : Nat} (h1 : ¬ s = []) (h2 : ¬ s = [46]) (h3 : ¬ s = [46, 46]) (h : ∀ j, j < k → ∀ h : j < s.length, bad s[j] = false) (hk : s.length ≤ k) (hl : 60 < s.length) : stepB bad s = (3, 60) := by
 unfold stepB
 rw [if_neg (by simp [h1, h2, h3]), stepAll h hk, if_neg (by omega), if_pos hl]
theorem stepOk {bad : UInt8 → Bool} {s : List UInt8} {k : Nat} (h1 : ¬ s = []) (h2 : ¬ s = [46]) (h3 : ¬ s = [46, 46]) (h : ∀ j, j < k → ∀ h : j < s.length, bad s[j] = false) (hk : s.length ≤ k) (hl : ¬ 60 < s.length) : stepB bad s = (0, 0) := by
 unfold stepB
 rw [if_neg (by simp [h1, h2, h3]), stepAll h hk, if_neg (by omega), if_neg hl]
theorem bad1 {c : UInt8} (h : (c.toNat : Int) < 33) : badP c = true := by unfold badP; simp; omega
theorem bad2 {c : UInt8} (h : (126 : Int) < c.toNat) : badP c = true := by unfold badP; simp; omega
theorem badR1 {c : UInt8} (h : (c.toNat : Int) < 33) : badR c = true := by unfold badR; simp; omega
theorem badR2 {c : UInt8} (h : (126 : Int) < c.toNat) : badR c = true := by unfold badR; simp; omega
theorem bad3 {c : UInt8} (h : (c.toNat : Int) = 47) : badP c = true := by unfold badP; simp; omega
set_option maxHeartbeats 4000000 in
theorem step_tr (s : List UInt8) (hs : s.length ≤ 1000000000) : Tr Tryz.prog 137 #[.string (sB s)] [] [] (T0 (.tuple #[.int .i64 (stepB badP s).1, .int .i64 (stepB badP s).2])) := by
 refine Tr.of (l := [(0, .string (sB s))]) Tryz.func137 rfl (n := 41) rfl (.cons rfl .nil) (fun w0 hro => ?_)
 refine go [9,10,1,1,7,8,9,9,10,0,2,24,0] ?_
 refine G.partP (t := 7) rfl (fun h7 => ?_) (fun h7 => ?_)
 ·refine go [4,4,2,2,0,4,4,2,2,7,8,60,1,9,10,1,1,7,8,11,12] ?_
  exact G.done0G rfl (Rv.tmp rfl (Rv.tmp rfl Rv.nil)) (by rw [stepArg (.inl (by assumption))]; rfl)
 refine go [3,0,3,24,2,2,0] ?_
 refine G.partP (t := 11) rfl (fun h11 => ?_) (fun h11 => ?_)
 ·refine go [4,4,2,2,7,8,60,1,9,10,1,1,7,8,11,12] ?_
  exact G.done0G rfl (Rv.tmp rfl (Rv.tmp rfl Rv.nil)) (by rw [stepArg (.inr (.inl (by assumption)))]; rfl)
 refine go [3,0,3,24,2,2,7,8] ?_
 refine G.condP rfl (fun h14 => ?_) (fun h14 => ?_)
 ·refine go [9,10,1,1,7,8,11,12] ?_
  exact G.done0G rfl (Rv.tmp rfl (Rv.tmp rfl Rv.nil)) (by rw [stepArg (.inr (.inr (by assumption)))]; rfl)
 refine go [13,8,9,9,10,0,2,21,0,7,8,15] ?_
 refine G.loopK (X := Nat) (ts := [0, 16]) (fun k => k ≤ s.length ∧ (∀ j, j < k → ∀ h : j < s.length, badP s[j] = false)) (fun k => [(17, .int .i64 (k : Int))]) (fun k => []) (fun k => s.length - k) (x0 := 0) (.cons rfl (.cons rfl .nil)) subT (.cons .nil) apT (by first | exact trivial | ((try dsimp only) <;> exact ⟨Nat.zero_le _, fun j h => absurd h (by omega)⟩)) (.consE rfl veqT .nil) (fun k hJ => ?_)
 try dsimp only at hJ
 try dsimp only
 obtain ⟨hkk, hJ⟩ := hJ
 refine go [9,10,2,9,7,8,9] ?_
 refine G.condP rfl (fun h18 => ?_) (fun h18 => ?_)
 ·refine go [13,8,9,15,9,10,0,1,7,8,9,10,0,0,2,22,2,9,0] ?_
  refine G.partP (t := 24) rfl (fun h24 => ?_) (fun h24 => ?_)
  ·refine go [4,4,4,4,2,2,0,4,4,4,4,2,2,7,8,60,1,9,10,0,1,1,7,8,11,17,12,12,17,12] ?_
   exact G.done0G rfl (Rv.tmp rfl (Rv.tmp rfl Rv.nil)) (by rw [stepBad (by assumption) (by assumption) (by assumption) hJ (by omega) (bad1 (by assumption))]; rfl)
  refine go [3,0,3,0,3,22,3,10,2,2,0] ?_
  refine G.partP (t := 30) rfl (fun h30 => ?_) (fun h30 => ?_)
  ·refine go [4,4,4,4,2,2,7,8,60,1,9,10,0,1,1,7,8,11,17,12,12,17,12] ?_
   exact G.done0G rfl (Rv.tmp rfl (Rv.tmp rfl Rv.nil)) (by rw [stepBad (by assumption) (by assumption) (by assumption) hJ (by omega) (bad2 (by assumption))]; rfl)
  refine go [3,0,3,0,3,22,3,13,2,2,7,8] ?_
  refine G.condP rfl (fun h35 => ?_) (fun h35 => ?_)
  ·refine go [9,10,0,1,1,7,8,11,17,12,12,17,12] ?_
   exact G.done0G rfl (Rv.tmp rfl (Rv.tmp rfl Rv.nil)) (by rw [stepBad (by assumption) (by assumption) (by assumption) hJ (by omega) (bad3 (by assumption))]; rfl)
  refine go [13,16,8,10,2,6,0,7] ?_
  exact G.next (k + 1) (by first | exact trivial | ((try dsimp only) <;> exact ⟨by omega, stepJ hJ (by omega) (by assumption) (by assumption) (by assumption)⟩)) (by (try dsimp only); omega) (.consE rfl veqT (.cons rfl (.cons rfl .nil))) subT
 refine go [18,14,14,19,8,9,9,10,0,2,21,2,10,7,8] ?_
 refine G.condP rfl (fun h40 => ?_) (fun h40 => ?_)
 ·refine go [9,10,1,1,7,8,11,12] ?_
  exact G.done0G rfl (Rv.tmp rfl (Rv.tmp rfl Rv.nil)) (by rw [stepLong (by assumption) (by assumption) (by assumption) hJ (by omega) (by omega)]; rfl)
 refine go [13,8,9,10,1,1,7,8,11] ?_
 exact G.done0G rfl (Rv.tmp rfl (Rv.tmp rfl Rv.nil)) (by rw [stepOk (by assumption) (by assumption) (by assumption) hJ (by omega) (by omega)]; rfl)
set_option maxHeartbeats 4000000 in
theorem part_tr (s : List UInt8) (hs : s.length ≤ 1000000000) : Tr Tryz.prog 172 #[.string (sB s)] [] [] (T0 (.tuple #[.int .i64 (stepB badR s).1, .int .i64 (stepB badR s).2])) := by
 refine Tr.of (l := [(0, .string (sB s))]) Tryz.func172 rfl (n := 35) rfl (.cons rfl .nil) (fun w0 hro => ?_)
 refine go [9,10,1,1,7,8,9,9,10,0,2,24,0] ?_
 refine G.partP (t := 7) rfl (fun h7 => ?_) (fun h7 => ?_)
 ·refine go [4,4,2,2,0,4,4,2,2,7,8,60,1,9,10,1,1,7,8,11,12] ?_
  exact G.done0G rfl (Rv.tmp rfl (Rv.tmp rfl Rv.nil)) (by rw [stepArg (.inl (by assumption))]; rfl)
 refine go [3,0,3,24,2,2,0] ?_
 refine G.partP (t := 11) rfl (fun h11 => ?_) (fun h11 => ?_)
 ·refine go [4,4,2,2,7,8,60,1,9,10,1,1,7,8,11,12] ?_
  exact G.done0G rfl (Rv.tmp rfl (Rv.tmp rfl Rv.nil)) (by rw [stepArg (.inr (.inl (by assumption)))]; rfl)
 refine go [3,0,3,24,2,2,7,8] ?_
 refine G.condP rfl (fun h14 => ?_) (fun h14 => ?_)
 ·refine go [9,10,1,1,7,8,11,12] ?_
  exact G.done0G rfl (Rv.tmp rfl (Rv.tmp rfl Rv.nil)) (by rw [stepArg (.inr (.inr (by assumption)))]; rfl)
 refine go [13,8,9,9,10,1,7,8,15] ?_
 refine G.loopK (X := Nat) (ts := [0]) (fun k => k ≤ s.length ∧ (∀ j, j < k → ∀ h : j < s.length, badR s[j] = false)) (fun k => [(4, .int .i64 (k : Int))]) (fun k => []) (fun k => s.length - k) (x0 := 0) (.cons rfl .nil) subT (.cons .nil) apT (by first | exact trivial | ((try dsimp only) <;> exact ⟨Nat.zero_le _, fun j h => absurd h (by omega)⟩)) (.consE rfl veqT .nil) (fun k hJ => ?_)
 try dsimp only at hJ
 try dsimp only
 obtain ⟨hkk, hJ⟩ := hJ
 refine go [9,9,10,0,0,2,21,2,9,7,8] ?_
 refine G.condP rfl (fun h18 => ?_) (fun h18 => ?_)
 ·refine go [13,8,9,15,9,10,0,0,2,22,2,9,0] ?_
  refine G.partP (t := 25) rfl (fun h25 => ?_) (fun h25 => ?_)
  ·refine go [4,4,4,4,2,2,7,8,60,1,9,10,0,1,1,7,8,11,17,12,12,17,12] ?_
   exact G.done0G rfl (Rv.tmp rfl (Rv.tmp rfl Rv.nil)) (by rw [stepBad (by assumption) (by assumption) (by assumption) hJ (by omega) (badR1 (by assumption))]; rfl)
  refine go [3,0,3,0,3,22,3,10,2,2,7,8] ?_
  refine G.condP rfl (fun h30 => ?_) (fun h30 => ?_)
  ·refine go [9,10,0,1,1,7,8,11,17,12,12,17,12] ?_
   exact G.done0G rfl (Rv.tmp rfl (Rv.tmp rfl Rv.nil)) (by rw [stepBad (by assumption) (by assumption) (by assumption) hJ (by omega) (badR2 (by assumption))]; rfl)
  refine go [13,16,8,10,0,2,6,1,7] ?_
  exact G.next (k + 1) (by first | exact trivial | ((try dsimp only) <;> exact ⟨by omega, stepJR hJ (by omega) (by assumption) (by assumption)⟩)) (by (try dsimp only); omega) (.consE rfl veqT (.cons rfl .nil)) subT
 refine go [18,14,14,19,8,9,9,10,0,2,21,2,10,7,8] ?_
 refine G.condP rfl (fun h34 => ?_) (fun h34 => ?_)
 ·refine go [9,10,1,1,7,8,11,12] ?_
  exact G.done0G rfl (Rv.tmp rfl (Rv.tmp rfl Rv.nil)) (by rw [stepLong (by assumption) (by assumption) (by assumption) hJ (by omega) (by omega)]; rfl)
 refine go [13,8,9,10,1,1,7,8,11] ?_
 exact G.done0G rfl (Rv.tmp rfl (Rv.tmp rfl Rv.nil)) (by rw [stepOk (by assumption) (by assumption) (by assumption) hJ (by omega) (by omega)]; rfl)
end Go.Proofs.YtngbglhmiefcpaaGreat
namespace Go.Proofs
open Go.Shelf
def Tryz.lays219_ren : Go.Shelf.Ren := ⟨fun | 219 => 168 | 217 => 174 | 225 => 175 | 224 => 176 | 267 => 177 | 266 => 178 | 314 => 179 | n => n, fun | 9 => 9 | 3 => 3 | 4 => 4 | 5 => 5 | 46 => 175 | 146 => 222 | 51 => 163 | n => n, fun | 1 => 0 | n => n⟩
theorem Tryz.lays219 : Go.Proofs.Lays.n219 Tryz.prog Tryz.lays219_ren := {
  mixed := by kernel_rfl
  f217 := Tryz.func174.trans (congrArg some (by kernel_rfl))
  f219 := Tryz.func168.trans (congrArg some (by kernel_rfl))
  f224 := Tryz.func176.trans (congrArg some (by kernel_rfl))
  f225 := Tryz.func175.trans (congrArg some (by kernel_rfl))
  f266 := Tryz.func178.trans (congrArg some (by kernel_rfl))
  f267 := Tryz.func177.trans (congrArg some (by kernel_rfl))
  f314 := Tryz.func179.trans (congrArg some (by kernel_rfl))
  t3 := Tryz.underlying3
  a3 := Tryz.isAgg3
  z3 := Tryz.sizeOf3
  v3 := Tryz.zeroValue3
  t4 := Tryz.underlying4
  a4 := Tryz.isAgg4
  z4 := Tryz.sizeOf4
  v4 := Tryz.zeroValue4
  t5 := Tryz.underlying5
  a5 := Tryz.isAgg5
  z5 := Tryz.sizeOf5
  v5 := Tryz.zeroValue5
  t9 := Tryz.underlying9
  a9 := Tryz.isAgg9
  z9 := Tryz.sizeOf9
  v9 := Tryz.zeroValue9
  t46 := Tryz.underlying175
  a46 := Tryz.isAgg175
  z46 := Tryz.sizeOf175
  v46 := Tryz.zeroValue175
  t51 := Tryz.underlying163
  a51 := Tryz.isAgg163
  z51 := Tryz.sizeOf163
  v51 := Tryz.zeroValue163
  t146 := Tryz.underlying222
  a146 := Tryz.isAgg222
  z146 := Tryz.sizeOf222
  v146 := Tryz.zeroValue222
  g1 := by kernel_rfl }
open Go.RowKit Go.Lib in
/-- internal/stringslite.Index (what strings.Index calls) AT A substr OF ONE BYTE c: IT RETURNS 'Lib.indexByte s c'; the world is as it was. (LAID: no walk: one application.) -/
theorem Tryz.stringslite_Index_one (s : ByteArray) (c : UInt8) (w : World) :
    Calls Tryz.prog 168 #[.string s, .string ⟨#[c]⟩] w fun e w' => e = .returned (.int .i64 (Lib.indexByte s.data.toList c)) ∧ w' = w := Any.stringslite_Index_one Tryz.lays219 s c w
end Go.Proofs
namespace Go.Proofs.YtngbglhmiefcpaaGreat
open Go.RowKit
def at1 (s : List UInt8) : Nat := s.findIdx (· == 47)
def cutM (s : List UInt8) : List UInt8 × List UInt8 × Bool := if at1 s < s.length then (s.take (at1 s), s.drop (at1 s + 1), true) else (s, [], false)
theorem at1_le (s : List UInt8) : at1 s ≤ s.length := List.findIdx_le_length
theorem index1 : ∀ s : List UInt8, Lib.indexByte s 47 = if at1 s < s.length then (at1 s : Int) else -1
 | [] => rfl
 | b :: l => by
  have ih := index1 l
  have hle := at1_le l
  unfold Lib.indexByte
  by_cases h : b = 47
  ·subst h
   have e : at1 (47 :: l) = 0 := by simp [at1, List.findIdx_cons]
   rw [e]
   simp
  have hb : (b == 47) = false := by simpa using h
  have e : at1 (b :: l) = at1 l + 1 := by simp [at1, List.findIdx_cons, hb]
  rw [e, hb, ih]
  by_cases hlt : at1 l < l.length
  ·rw [if_pos hlt, if_pos (show at1 l + 1 < (b :: l).length by simp; omega), if_neg (by simp), if_neg (by rw [beq_iff_eq]; omega)]
   rfl
  rw [if_neg hlt, if_neg (show ¬ at1 l + 1 < (b :: l).length by simp; omega)]
  simp
theorem Tr.ofQ {P : Program} {f : FuncId} {args : Array Value} {v : Value} (h : ∀ w, Calls P f args w fun e w' => e = .returned v ∧ w' = w) : Tr P f args [] [] (T0 v) := fun w _ _ =>
 (h w).mono fun e w' ⟨he, hb⟩ => ⟨v, [], he, ⟨rfl, rfl⟩, ⟨(Chg.none_of_below (hb ▸ Below.refl _ _)).mono fun b hb => hb.elim, by simp, by simp, .nil⟩⟩
theorem index_tr (s : List UInt8) : Tr Tryz.prog 168 #[.string (sB s), .string (sB [47])] [] [] (T0 (.int .i64 (if at1 s < s.length then (at1 s : Int) else -1))) := Tr.ofQ fun w => by
 have h := Tryz.stringslite_Index_one (sB s) 47 w
 rw [show (sB s).data.toList = s by simp [sB], index1 s] at h
 exact h
theorem index_tr1 (s : List UInt8) (ha : at1 s < s.length) : Tr Tryz.prog 168 #[.string (sB s), .string (sB [47])] [] [] (T0 (.int .i64 (at1 s : Int))) := by
 have h := index_tr s
 rwa [if_pos ha] at h
theorem index_tr0 (s : List UInt8) (ha : ¬ at1 s < s.length) : Tr Tryz.prog 168 #[.string (sB s), .string (sB [47])] [] [] (T0 (.int .i64 (-1))) := by
 have h := index_tr s
 rwa [if_neg ha] at h
set_option maxHeartbeats 4000000 in
theorem scut1 (s : List UInt8) (hs : s.length ≤ 1000000000) (ha : at1 s < s.length) : Tr Tryz.prog 159 #[.string (sB s), .string (sB [47])] [] [] (T0 (.tuple #[.string (sB (s.take (at1 s))), .string (sB (s.drop (at1 s + 1))), .bool true])) := by
 refine Tr.of (l := [(0, .string (sB s)), (1, .string (sB [47]))]) Tryz.func159 rfl (n := 23) rfl (.cons rfl (.cons rfl .nil)) (fun w0 hro => ?_)
 have h47 : ([47] : List UInt8).length = 1 := rfl
 refine go [9,10,1,1,1,7,8,9,9,10,0,0] ?_
 refine G.op rfl (G.cR rfl rfl rfl rfl Tryz.func168 rfl rfl may0 (index_tr1 s ha) ?_)
 refine go [1,7,8,9,10,0,2,12,7,8] ?_
 refine G.condP rfl (fun h12 => ?_) (fun h12 => ?_)
 ·refine G.seq ?_
  refine G.drawT (nn := 12) (p := []) (rem := 4095) [0, 0, 3, 0, 0, 0, 32, 80, 136, 7, 1023, 2047] [0, 0, 3, 0, 0, 0, 32, 80, 136, 4, 256, 0] kr ⟨rfl, by kernel_rfl, by kernel_rfl⟩ subT kr (fun hT3 => ?_)
  refine go [22,0,4094,0,22,1,4092,0] ?_
  refine G.takeT hT3 (i := 2) (rem' := 4088) rfl rfl rfl kr (fun _ _ _ h => h) rfl (pv_strH Tryz.underlying9 rfl rfl rfl (by omega)) subT ?_
  refine go [22,3,4080,0,22,4,4064,0,22,5,4032,0,22,6,3968,21,22,7,3840,6] ?_
  refine G.takeT hT3 (i := 8) (rem' := 3584) rfl rfl rfl kr (fun _ _ _ h => h) rfl (pv_strL Tryz.underlying9 rfl rfl rfl (by omega)) subT ?_
  refine go [22,9,3072,1,22,10,2048,1,22,11,0,1,27,8,11,12] ?_
  exact G.done0G rfl (Rv.tmp rfl (Rv.tmp rfl (Rv.tmp rfl Rv.nil))) Y7
 exfalso; omega
set_option maxHeartbeats 4000000 in
theorem scut0 (s : List UInt8) (hs : s.length ≤ 1000000000) (ha : ¬ at1 s < s.length) : Tr Tryz.prog 159 #[.string (sB s), .string (sB [47])] [] [] (T0 (.tuple #[.string (sB s), .string (sB []), .bool false])) := by
 refine Tr.of (l := [(0, .string (sB s)), (1, .string (sB [47]))]) Tryz.func159 rfl (n := 23) rfl (.cons rfl (.cons rfl .nil)) (fun w0 hro => ?_)
 refine go [9,10,1,1,1,7,8,9,9,10,0,0] ?_
 refine G.op rfl (G.cR rfl rfl rfl rfl Tryz.func168 rfl rfl may0 (index_tr0 s ha) ?_)
 refine go [1,7,8,9,10,0,2,12,7,8] ?_
 refine G.condP rfl (fun h12 => ?_) (fun h12 => ?_)
 ·exfalso; omega
 refine go [13,8,9,10,0,1,1,1,7,8,11] ?_
 exact G.done0G rfl (Rv.tmp rfl (Rv.tmp rfl (Rv.tmp rfl Rv.nil))) Y7
theorem scut_tr (s : List UInt8) (hs : s.length ≤ 1000000000) : Tr Tryz.prog 159 #[.string (sB s), .string (sB [47])] [] [] (T0 (.tuple #[.string (sB (cutM s).1), .string (sB (cutM s).2.1), .bool (cutM s).2.2])) := by
 unfold cutM
 split
 ·exact scut1 s hs (by assumption)
 exact scut0 s hs (by assumption)
set_option maxHeartbeats 4000000 in
theorem cut_tr (s : List UInt8) (hs : s.length ≤ 1000000000) : Tr Tryz.prog 138 #[.string (sB s), .string (sB [47])] [] [] (T0 (.tuple #[.string (sB (cutM s).1), .string (sB (cutM s).2.1), .bool (cutM s).2.2])) := by
 refine Tr.of (l := [(0, .string (sB s)), (1, .string (sB [47]))]) Tryz.func138 rfl (n := 13) rfl (.cons rfl (.cons rfl .nil)) (fun w0 hro => ?_)
 refine go [9,10,1,1,1,7,8,9,10,0,0] ?_
 refine G.op rfl (G.cR rfl rfl rfl rfl Tryz.func159 rfl rfl may0 (scut_tr s (by omega)) ?_)
 refine go [2,7,2,7,2,7,1,1,1,7,8,11] ?_
 exact G.done0G rfl (Rv.tmp rfl (Rv.tmp rfl (Rv.tmp rfl Rv.nil))) Y7
set_option maxHeartbeats 4000000 in
theorem isNaN_tr (s : List UInt8) : Tr Tryz.prog 139 #[.string (sB s)] [] [] (T0 (.bool false)) := by
 refine Tr.of (l := [(0, .string (sB s))]) Tryz.func139 rfl (n := 6) rfl (.cons rfl .nil) (fun w0 hro => ?_)
 refine go [9,10,1,7,8,9,10,0,0,2,23,1,7,8,11] ?_
 exact G.done0G rfl (Rv.tmp rfl Rv.nil) (by simp; rfl)
def bytesC (a b : List UInt8) : Int := if Op.bytesLess a b then -1 else if !(Op.bytesLess a b || decide (a = b)) then 1 else 0
theorem bytes_lt {a b : List UInt8} (h : Op.bytesLess a b = true) : bytesC a b = -1 := if_pos h
theorem bytes_gt {a b : List UInt8} (h : Op.bytesLess a b = false) (h2 : (!(Op.bytesLess a b || decide (a = b))) = true) : bytesC a b = 1 := by
 unfold bytesC
 rw [if_neg (by rw [h]; decide), if_pos h2]
theorem bytes_eq {a b : List UInt8} (h : Op.bytesLess a b = false) (h2 : (!(Op.bytesLess a b || decide (a = b))) = false) : bytesC a b = 0 := by
 unfold bytesC
 rw [if_neg (by rw [h]; decide), if_neg (by rw [h2]; decide)]
set_option maxHeartbeats 4000000 in
theorem cmp_tr (a b : List UInt8) : Tr Tryz.prog 110 #[.string (sB a), .string (sB b)] [] [] (T0 (.int .i64 (bytesC a b))) := by
 refine Tr.of (l := [(0, .string (sB a)), (1, .string (sB b))]) Tryz.func110 rfl (n := 20) rfl (.cons rfl (.cons rfl .nil)) (fun w0 hro => ?_)
 refine go [9,10,1,7,8,9,10,0] ?_
 refine G.op rfl (G.cR rfl rfl rfl rfl Tryz.func139 rfl rfl may0 (isNaN_tr a) ?_)
 refine go [1,7,8,9,10,0] ?_
 refine G.op rfl (G.cR rfl rfl rfl rfl Tryz.func139 rfl rfl may0 (isNaN_tr b) ?_)
 refine go [1,7,8,9,9,10,0,7,8,60,0,13,8,9,9,10,0,7,8,60,0,13,8,9,9,10,0,0] ?_
 refine G.op rfl (G.val rfl rfl (pv_lssS rfl rfl) ?_)
 refine go [7,8] ?_
 refine G.cond rfl (fun h16 => ?_) (fun h16 => ?_)
 ·refine go [9,10,1,7,8,11,12] ?_
  exact G.done0G rfl (Rv.tmp rfl Rv.nil) (by rw [bytes_lt (by assumption)]; rfl)
 refine go [13,8,9,9,10,0,0] ?_
 refine G.op rfl (G.val rfl rfl (pv_gtrS rfl rfl) ?_)
 refine go [7,8] ?_
 refine G.cond rfl (fun h19 => ?_) (fun h19 => ?_)
 ·refine go [9,10,1,7,8,11,12] ?_
  exact G.done0G rfl (Rv.tmp rfl Rv.nil) (by rw [bytes_gt (by assumption) (by assumption)]; rfl)
 refine go [13,8,9,10,1,7,8,11] ?_
 exact G.done0G rfl (Rv.tmp rfl Rv.nil) (by rw [bytes_eq (by assumption) (by assumption)]; rfl)
set_option maxHeartbeats 4000000 in
theorem bytesC_tr (a b : List UInt8) : Tr Tryz.prog 145 #[.string (sB a), .string (sB b)] [] [] (T0 (.int .i64 (bytesC a b))) := by
 refine Tr.of (l := [(0, .string (sB a)), (1, .string (sB b))]) Tryz.func145 rfl (n := 11) rfl (.cons rfl (.cons rfl .nil)) (fun w0 hro => ?_)
 refine go [9,10,1,7,8,9,9,10,0,0] ?_
 refine G.op rfl (G.val rfl rfl (pv_lssS rfl rfl) ?_)
 refine go [7,8] ?_
 refine G.cond rfl (fun h7 => ?_) (fun h7 => ?_)
 ·refine go [9,10,1,7,8,11,12] ?_
  exact G.done0G rfl (Rv.tmp rfl Rv.nil) (by rw [bytes_lt (by assumption)]; rfl)
 refine go [13,8,9,9,10,0,0] ?_
 refine G.op rfl (G.val rfl rfl (pv_gtrS rfl rfl) ?_)
 refine go [7,8] ?_
 refine G.cond rfl (fun h10 => ?_) (fun h10 => ?_)
 ·refine go [9,10,1,7,8,11,12] ?_
  exact G.done0G rfl (Rv.tmp rfl Rv.nil) (by rw [bytes_gt (by assumption) (by assumption)]; rfl)
 refine go [13,8,9,10,1,7,8,11] ?_
 exact G.done0G rfl (Rv.tmp rfl Rv.nil) (by rw [bytes_eq (by assumption) (by assumption)]; rfl)
def lastM (s : List UInt8) : Nat → Nat
 | 0 => 0
 | k + 1 => if s[k]? = some 47 then k + 1 else lastM s k
theorem last_yes {s : List UInt8} {k : Nat} (h0 : 0 < k) (hk : k - 1 < s.length) (h : (s[k - 1].toNat : Int) = 47) : lastM s k = k := by
 obtain ⟨j, rfl⟩ : ∃ j, k = j + 1 := ⟨k - 1, by omega⟩
 have hj : j < s.length := hk
 have h' : (s[j].toNat : Int) = 47 := h
 have e : s[j] = 47 := UInt8.toNat_inj.1 (show s[j].toNat = 47 by omega)
 unfold lastM
 rw [if_pos (by rw [List.getElem?_eq_getElem hj, e])]
theorem last_no {s : List UInt8} {k : Nat} (h0 : 0 < k) (hk : k - 1 < s.length) (h : ¬ (s[k - 1].toNat : Int) = 47) : lastM s k = lastM s (k - 1) := by
 obtain ⟨j, rfl⟩ : ∃ j, k = j + 1 := ⟨k - 1, by omega⟩
 have hj : j < s.length := by omega
 rw [lastM.eq_2, if_neg]
 ·rfl
 rw [List.getElem?_eq_getElem hj]
 intro e
 injection e with e
 exact h (by show ((s[j].toNat : Nat) : Int) = 47; rw [e]; rfl)
set_option maxHeartbeats 4000000 in
theorem last0 (s : List UInt8) (hs : s.length ≤ 9223372036854775807) : Tr Tryz.prog 140 #[.string (sB s), .int .u8 47] [] [] (T0 (.int .i64 ((lastM s s.length : Int) - 1))) := by
 refine Tr.of (l := [(0, .string (sB s)), (1, .int .u8 47)]) Tryz.func140 rfl (n := 19) rfl (.cons rfl (.cons rfl .nil)) (fun w0 hro => ?_)
 refine go [9,10,1,7,8,9,9,10,0,2,21,2,19,1,7,8,15] ?_
 refine G.loopK (X := Nat) (ts := [0, 1]) (fun k => k ≤ s.length ∧ lastM s s.length = lastM s k) (fun k => [(5, .int .i64 ((k : Int) - 1))]) (fun k => []) (fun k => k) (x0 := s.length) (.cons rfl (.cons rfl .nil)) subT (.cons .nil) apT (by first | exact trivial | ((try dsimp only) <;> exact ⟨Nat.le_refl _, rfl⟩)) (.consE rfl veqT .nil) (fun k hJ => ?_)
 try dsimp only at hJ
 try dsimp only
 obtain ⟨hk1, hk2⟩ := hJ
 refine go [9,9,10,0,2,12,7,8] ?_
 refine G.condP rfl (fun h10 => ?_) (fun h10 => ?_)
 ·refine go [13,8,9,15,9,10,0,0] ?_
  refine G.op rfl (G.val rfl rfl (pv_ixS Tryz.underlying9 (k := k - 1) rfl rfl (by omega) (by omega)) ?_)
  refine go [0,2,13,7,8] ?_
  refine G.condP rfl (fun h17 => ?_) (fun h17 => ?_)
  ·refine go [9,10,0,1,7,8,11,17,12,12,17,12] ?_
   exact G.done0G rfl (Rv.tmp rfl Rv.nil) (by rw [hk2, last_yes (by omega) (by omega) (by assumption)]; rfl)
  refine go [13,16,8,10,0,2,19,1,7] ?_
  exact G.next (k - 1) (by first | exact trivial | ((try dsimp only) <;> exact ⟨by omega, by rw [hk2]; exact last_no (by omega) (by omega) (by assumption)⟩)) (by (try dsimp only); omega) (.consE rfl veqT (.cons rfl (.cons rfl .nil))) subT
 refine go [18,14,14,19,8,9,10,1,7,8,11] ?_
 exact G.done0G rfl (Rv.tmp rfl Rv.nil) (by rw [hk2, show k = 0 by omega]; rfl)
set_option maxHeartbeats 4000000 in
theorem last_tr (s : List UInt8) (hs : s.length ≤ 9223372036854775807) : Tr Tryz.prog 111 #[.string (sB s), .int .u8 47] [] [] (T0 (.int .i64 ((lastM s s.length : Int) - 1))) := by
 refine Tr.of (l := [(0, .string (sB s)), (1, .int .u8 47)]) Tryz.func111 rfl (n := 8) rfl (.cons rfl (.cons rfl .nil)) (fun w0 hro => ?_)
 refine go [9,10,1,7,8,9,10,0,0] ?_
 refine G.op rfl (G.cR rfl rfl rfl rfl Tryz.func140 rfl rfl may0 (last0 s hs) ?_)
 refine go [1,7,8,11] ?_
 exact G.done0G rfl (Rv.tmp rfl Rv.nil) Y7
def headP (c : UInt8) : List (List UInt8) → List (List UInt8)
 | [] => [[c]]
 | p :: r => (c :: p) :: r
def splitM : List UInt8 → List (List UInt8)
 | [] => [[]]
 | c :: s => if c = 47 then [] :: splitM s else headP c (splitM s)
theorem splitM_stroke (s : List UInt8) : splitM (47 :: s) = [] :: splitM s := if_pos rfl
theorem splitM_char {c : UInt8} (h : ¬ c = 47) (s : List UInt8) : splitM (c :: s) = headP c (splitM s) := if_neg h
theorem splitM_ne : ∀ s, splitM s ≠ []
 | [] => by unfold splitM; simp
 | c :: s => by
  unfold splitM
  split
  ·simp
  cases h : splitM s <;> simp [headP]
theorem splitM_cut : ∀ s, splitM s = if (cutM s).2.2 then (cutM s).1 :: splitM (cutM s).2.1 else [(cutM s).1]
 | [] => rfl
 | c :: s => by
  have ih := splitM_cut s
  by_cases hc : c = 47
  ·subst hc
   have e : at1 (47 :: s) = 0 := by simp [at1, List.findIdx_cons]
   have e2 : cutM (47 :: s) = ([], s, true) := by
    unfold cutM
    rw [e, if_pos (by simp)]
    rfl
   rw [e2, splitM_stroke]
   rfl
  have hb : (c == 47) = false := by simpa using hc
  have e : at1 (c :: s) = at1 s + 1 := by simp [at1, List.findIdx_cons, hb]
  have e2 : cutM (c :: s) = (c :: (cutM s).1, (cutM s).2.1, (cutM s).2.2) := by
   unfold cutM
   rw [e]
   by_cases h : at1 s < s.length
   ·rw [if_pos h, if_pos (show at1 s + 1 < (c :: s).length by simp; omega)]
    rfl
   rw [if_neg h, if_neg (show ¬ at1 s + 1 < (c :: s).length by simp; omega)]
  rw [e2, splitM_char hc, ih]
  cases h : (cutM s).2.2 <;> simp [headP]
def atL (ps : List (List UInt8)) (i : Nat) : Nat := ((ps.take i).map fun p => p.length + 1).sum
theorem atL_zero (ps : List (List UInt8)) : atL ps 0 = 0 := by simp [atL]
theorem atL_succ {ps : List (List UInt8)} {i : Nat} (h : i < ps.length) : atL ps (i + 1) = atL ps i + (ps[i].length + 1) := by
 unfold atL
 rw [List.take_succ_eq_append_getElem h, List.map_append, List.sum_append]
 simp
theorem splitM_sum : ∀ s, ((splitM s).map fun p => p.length + 1).sum = s.length + 1
 | [] => rfl
 | c :: s => by
  have ih := splitM_sum s
  unfold splitM
  split
  ·simp [ih]; omega
  cases h : splitM s with
  | nil => exact absurd h (splitM_ne s)
  | cons p r =>
   rw [h] at ih
   simp [headP] at ih ⊢
   omega
theorem sum_take_le (l : List Nat) (i : Nat) : (l.take i).sum ≤ l.sum := by
 have := congrArg List.sum (List.take_append_drop i l)
 rw [List.sum_append] at this
 omega
theorem atL_le (s : List UInt8) (i : Nat) : atL (splitM s) i ≤ s.length + 1 := by
 unfold atL
 rw [List.map_take, ← splitM_sum s]
 exact sum_take_le _ i
theorem part_le {s : List UInt8} {i : Nat} (h : i < (splitM s).length) : atL (splitM s) i + ((splitM s)[i].length + 1) ≤ s.length + 1 := by
 rw [← atL_succ h]
 exact atL_le s _
def getL (ps : List (List UInt8)) (i : Nat) : List UInt8 := ps.getD i []
theorem getL_eq {ps : List (List UInt8)} {i : Nat} (h : i < ps.length) : getL ps i = ps[i] := by
 unfold getL
 rw [List.getD_eq_getElem?_getD, List.getElem?_eq_getElem h]
 rfl
theorem cutM_len (t : List UInt8) : (cutM t).2.1.length ≤ t.length := by
 unfold cutM
 split
 ·simp
 simp
theorem cut_drop {ps : List (List UInt8)} {t : List UInt8} {i : Nat} (hi : i < ps.length) (h : splitM t = ps.drop i) : ∃ t', cutM t = (getL ps i, t', decide (i + 1 < ps.length)) ∧ t'.length ≤ t.length ∧ (i + 1 < ps.length → splitM t' = ps.drop (i + 1)) := by
 refine ⟨(cutM t).2.1, ?_, cutM_len t, ?_⟩
 ·rw [splitM_cut, List.drop_eq_getElem_cons hi] at h
  rw [getL_eq hi]
  cases hm : (cutM t).2.2 with
  | true =>
   rw [hm, if_pos rfl] at h
   injection h with h1 h2
   have : i + 1 < ps.length := by
    rcases Nat.lt_or_ge (i + 1) ps.length with h3 | h3
    ·exact h3
    rw [List.drop_eq_nil_of_le h3] at h2
    exact absurd h2 (splitM_ne _)
   rw [decide_eq_true this, ← h1, ← hm]
  | false =>
   rw [hm, if_neg (by simp)] at h
   injection h with h1 h2
   have : ¬ i + 1 < ps.length := fun h3 => by
    rw [List.drop_eq_getElem_cons h3] at h2
    cases h2
   rw [decide_eq_false this, ← h1, ← hm]
 intro h3
 rw [splitM_cut, List.drop_eq_getElem_cons hi] at h
 cases hm : (cutM t).2.2 with
 | true =>
  rw [hm, if_pos rfl] at h
  injection h
 | false =>
  rw [hm, if_neg (by simp)] at h
  injection h with h1 h2
  rw [List.drop_eq_getElem_cons h3] at h2
  cases h2
theorem cut_at (t p t' : List UInt8) (m : Bool) (ht : t.length ≤ 1000000000) (h : cutM t = (p, t', m)) : Tr Tryz.prog 138 #[.string (sB t), .string (sB [47])] [] [] (T0 (.tuple #[.string (sB p), .string (sB t'), .bool m])) := by
 have := cut_tr t ht
 rwa [h] at this
set_option maxHeartbeats 4000000 in
theorem steps_seq (s : List UInt8) (hs : s.length ≤ 1000000000) (b : Nat) : SeqT Tryz.prog 158 #[.pointer (some ⟨b, 0, none⟩)] [] [blk b 9 [.string (sB s)]] (splitM s).length (fun i => [.int .i64 (atL (splitM s) i : Int), .string (sB (getL (splitM s) i))]) := by
 intro lp X J C x0 h0 hY
 show Tr _ _ #[.func (.yield lp) #[] #[], .pointer (some ⟨b, 0, none⟩)] _ _ _
 refine Tr.ofI (l := [(0, .func (.yield lp) #[] #[]), (1, .pointer (some ⟨b, 0, none⟩))]) Tryz.func158 rfl (n := 23) rfl (.cons rfl (.cons rfl .nil)) (fun w0 hro => ?_)
 refine go [32,33,1,1,34,31,38] ?_
 have hpos : 0 < (splitM s).length := List.length_pos_iff.2 (splitM_ne s)
 refine I.loopK (X := Nat × (List UInt8) × X) (ts := [0, 1]) (fun st => st.1 ≤ (splitM s).length ∧ st.2.1.length ≤ s.length ∧ (st.1 < (splitM s).length → splitM st.2.1 = (splitM s).drop st.1) ∧ J true st.1 st.2.2) (fun st => [(3, .int .i64 (atL (splitM s) st.1 : Int)), (4, .bool (decide (st.1 < (splitM s).length)))]) (fun st => [blk b 9 [.string (sB st.2.1)], C true st.1 st.2.2]) (fun st => (splitM s).length - st.1) (x0 := (0, s, x0)) (.cons rfl (.cons rfl .nil)) subT (.cons (.cons .nil)) apT (by first | exact trivial | ((try dsimp only) <;> exact ⟨Nat.zero_le _, Nat.le_refl _, fun _ => rfl, h0⟩)) (.consE rfl (by first | rfl | exact int_eq (by rw [atL_zero]; rfl)) (.consE rfl (by rw [decide_eq_true hpos]) .nil)) (fun st hJ => ?_)
 obtain ⟨i, t, x⟩ := st
 try dsimp only at hJ
 try dsimp only
 obtain ⟨hi, ht, hsp, hJ0⟩ := hJ
 refine go [32,32,33,0,34,31] ?_
 refine I.condP rfl (fun h6 => ?_) (fun h6 => ?_)
 ·have hil : i < (splitM s).length := by assumption
  obtain ⟨t', hcut, ht', hsp'⟩ := cut_drop hil (hsp hil)
  refine go [39,31,38,32,33,1,34,31,32,33,2,4] ?_
  refine G.op rfl (G.cR rfl rfl rfl rfl Tryz.func138 rfl rfl may0 (cut_at t _ t' _ (by omega) hcut) ?_)
  refine go [0,2,7,2,7,2,7,1,21,1,34,31,32,32] ?_
  refine IL.region ?_
  refine go [60,15,60,15,60,15] ?_
  refine IL.op rfl (IL.yield rfl rfl rfl rfl rfl subT (hY i x hil hJ0) apT ?_)
  intro x16 hJ
  obtain ⟨v, y⟩ := x16
  try dsimp only at hJ
  try dsimp only
  have hJ2 := hJ
  refine IL.op rfl (IL.lift kr (G.val rfl rfl (pv_not rfl) ?_))
  refine IL.nil ?_
  refine I.nThen ?_
  have hlen := part_le hil
  rw [← getL_eq hil] at hlen
  have hat := atL_succ hil
  rw [← getL_eq hil] at hat
  refine I.cond rfl (fun h17 => ?_) (fun h17 => ?_)
  ·obtain rfl : v = false := by cases v <;> simp_all
   refine go [37,35,36,35,36] ?_
   exact I.doneIr ((false, i + 1, y)) (by first | exact trivial | ((try dsimp only) <;> exact ⟨hJ2, hil, fun h => by cases h⟩)) rfl rfl subT
  obtain rfl : v = true := by cases v <;> simp_all
  refine go [39,31,33,0,0,2,21,2,6,2,6,1,34,40] ?_
  exact I.next ((i + 1, t', y)) (by first | exact trivial | ((try dsimp only) <;> exact ⟨by omega, by omega, hsp', hJ2⟩)) (by (try dsimp only); omega) (.consE rfl veqT (.consE rfl veqT (.cons rfl (.cons rfl .nil)))) subT
 refine go [42,41,41,43] ?_
 exact I.doneI ((true, i, x)) (by first | exact trivial | ((try dsimp only) <;> exact ⟨hJ0, hi, fun _ => by omega⟩)) rfl rfl subT
set_option maxHeartbeats 4000000 in
theorem steps_tr (s : List UInt8) : Tr Tryz.prog 136 #[.string (sB s)] [] [] (TX (fun _ : Nat => True) (fun b => .func (.func 158) #[] #[.pointer (some ⟨b, 0, none⟩)]) (fun b => [blk b 9 [.string (sB s)]])) := by
 refine Tr.of (l := [(0, .string (sB s))]) Tryz.func136 rfl (n := 4) rfl (.cons rfl .nil) (fun w0 hro => ?_)
 refine go [9,10] ?_
 refine G.op rfl (G.box rfl rfl (cs := [_]) rfl ?_)
 intro b1
 refine go [1,7,8,9,10,2,26,1,7,8,11] ?_
 exact G.doneX1 (b1) trT rfl rfl rfl subT
theorem badR_of {c : UInt8} (h : ¬ c = 47) : badP c = badR c := by
 unfold badP badR
 have : c.toNat ≠ 47 := fun e => h (UInt8.toNat_inj.1 e)
 simp [this]
theorem findIdx_congr {p q : UInt8 → Bool} : ∀ {l : List UInt8}, (∀ x ∈ l, p x = q x) → l.findIdx p = l.findIdx q
 | [], _ => rfl
 | x :: l, h => by
  rw [List.findIdx_cons, List.findIdx_cons, h x (List.mem_cons_self ..), findIdx_congr fun y hy => h y (List.mem_cons_of_mem _ hy)]
theorem stepB_eq {s : List UInt8} (h : ∀ x ∈ s, ¬ x = 47) : stepB badP s = stepB badR s := by
 unfold stepB
 rw [findIdx_congr (p := badP) (q := badR) fun x hx => badR_of (h x hx)]
theorem step_at (s : List UInt8) (h : ∀ x ∈ s, ¬ x = 47) (hs : s.length ≤ 1000000000) : Tr Tryz.prog 137 #[.string (sB s)] [] [] (T0 (.tuple #[.int .i64 (stepB badR s).1, .int .i64 (stepB badR s).2])) := by
 have := step_tr s hs
 rwa [stepB_eq h] at this
theorem splitM_no : ∀ s, ∀ p ∈ splitM s, ∀ x ∈ p, ¬ x = 47
 | [], p, hp, x, hx => by
  have : p = [] := by simpa [splitM] using hp
  subst this
  cases hx
 | c :: s, p, hp, x, hx => by
  have ih := splitM_no s
  by_cases hc : c = 47
  ·subst hc
   rw [splitM_stroke] at hp
   rcases List.mem_cons.1 hp with rfl | hp
   ·cases hx
   exact ih p hp x hx
  rw [splitM_char hc] at hp
  cases h : splitM s with
  | nil => exact absurd h (splitM_ne s)
  | cons q r =>
   rw [h] at hp ih
   rcases List.mem_cons.1 hp with rfl | hp
   ·rcases List.mem_cons.1 hx with rfl | hx
    ·exact hc
    exact ih q (List.mem_cons_self ..) x hx
   exact ih p (List.mem_cons_of_mem _ hp) x hx
theorem stepB_pos (bad : UInt8 → Bool) (s : List UInt8) : 0 ≤ (stepB bad s).2 ∧ (stepB bad s).2 ≤ s.length + 60 ∧ 0 ≤ (stepB bad s).1 ∧ (stepB bad s).1 ≤ 4 := by
 unfold stepB
 have := @List.findIdx_le_length _ bad s
 split
 ·simp; omega
 split
 ·simp; omega
 split <;> simp <;> omega
def checkL : List (List UInt8) → Nat → Nat → Int × Int
 | [], _, _ => (0, 0)
 | p :: r, i, o => if i = 20 then (3, (o : Int)) else if (stepB badR p).1 = 0 then checkL r (i + 1) (o + (p.length + 1)) else ((stepB badR p).1, (o : Int) + (stepB badR p).2)
def checkM (s : List UInt8) : Int × Int := if s = [] then (2, 0) else if 200 < s.length then (3, 200) else checkL (splitM s) 0 0
theorem checkM_nil {s : List UInt8} (h : s = []) : checkM s = (2, 0) := if_pos h
theorem checkM_long {s : List UInt8} (h0 : ¬ s = []) (h : (200 : Int) < s.length) : checkM s = (3, 200) := by
 unfold checkM
 rw [if_neg h0, if_pos (by omega)]
theorem checkM_parts {s : List UInt8} (h0 : ¬ s = []) (h : ¬ (200 : Int) < s.length) : checkM s = checkL (splitM s) 0 0 := by
 unfold checkM
 rw [if_neg h0, if_neg (by omega)]
theorem checkL_many {ps : List (List UInt8)} {i : Nat} (hi : i < ps.length) (h : i = 20) : checkL (ps.drop i) i (atL ps i) = (3, (atL ps i : Int)) := by
 rw [List.drop_eq_getElem_cons hi]
 exact if_pos h
theorem checkL_next {ps : List (List UInt8)} {i : Nat} (hi : i < ps.length) (h : ¬ i = 20) (hs : (stepB badR (getL ps i)).1 = 0) : checkL (ps.drop i) i (atL ps i) = checkL (ps.drop (i + 1)) (i + 1) (atL ps (i + 1)) := by
 rw [getL_eq hi] at hs
 rw [List.drop_eq_getElem_cons hi, atL_succ hi]
 unfold checkL
 rw [if_neg h, if_pos hs]
 cases ps.drop (i + 1) <;> rfl
theorem checkL_bad {ps : List (List UInt8)} {i : Nat} (hi : i < ps.length) (h : ¬ i = 20) (hs : ¬ (stepB badR (getL ps i)).1 = 0) : checkL (ps.drop i) i (atL ps i) = ((stepB badR (getL ps i)).1, (atL ps i : Int) + (stepB badR (getL ps i)).2) := by
 rw [getL_eq hi] at hs ⊢
 rw [List.drop_eq_getElem_cons hi]
 unfold checkL
 rw [if_neg h, if_neg hs]
theorem okP_len {s : List UInt8} (h : (checkM s).1 = 0) : s.length ≤ 200 := by
 unfold checkM at h
 split at h
 ·cases h
 split at h
 ·cases h
 omega
set_option maxHeartbeats 4000000 in
theorem check_tr (s : List UInt8) (hs : s.length ≤ 9223372036854775807) : Tr Tryz.prog 107 #[.string (sB s)] [] [] (T0 (.agg #[.int .i64 (checkM s).1, .int .i64 (checkM s).2])) := by
 refine Tr.ofM (l := [(0, .string (sB s))]) Tryz.func107 rfl (n := 40) rfl (.cons rfl .nil) (fun w0 hro => ?_)
 refine go [32,33,60,20] ?_
 intro b2
 refine go [34,31,32,38,32,33,0,2,24,1,34,31] ?_
 refine I.condP rfl (fun h8 => ?_) (fun h8 => ?_)
 ·refine go [32,33,2,50,6,20,34,31,37,36,35] ?_
  exact I.doneT0 rfl (Rv.cellN (cs := [_, _]) rfl Tryz.underlying157 rfl kr Y36 Rv.nil) (by rw [checkM_nil (by assumption)]; rfl)
 refine go [32,33,0,2,21,2,10,1,34,31] ?_
 refine I.condP rfl (fun h12 => ?_) (fun h12 => ?_)
 ·refine go [32,33,2,50,6,20,34,31,37,36,35] ?_
  exact I.doneT0 rfl (Rv.cellN (cs := [_, _]) rfl Tryz.underlying157 rfl kr Y36 Rv.nil) (by rw [checkM_long (by assumption) (by assumption)]; rfl)
 refine go [39,40,31,32,33] ?_
 refine G.op rfl (G.alloc (z := .int .i64 0) (cs := [.int .i64 0]) rfl kr rfl ?_)
 intro b3
 refine go [21,34,31,32,32,33,0] ?_
 refine G.op rfl (G.cS rfl rfl rfl rfl Tryz.func136 rfl rfl subT may0 (steps_tr _) apT ?_)
 intro x18 hJ
 try dsimp only at hJ
 try dsimp only
 refine go [34,31,38] ?_
 refine I.rangeK (X := Int × Int) (encs := fun i => (.int .i64 (atL (splitM s) i : Int), .string (sB (getL (splitM s) i)))) (ts := [2, 3]) (fun b i st => (b = true → st.1 = 0 ∧ st.2 = 0 ∧ i ≤ 20 ∧ checkL (splitM s) 0 0 = checkL ((splitM s).drop i) i (atL (splitM s) i)) ∧ (b = false → checkL (splitM s) 0 0 = (st.1, st.2))) (fun b i st => [blk b2 157 [.int .i64 st.1, .int .i64 st.2], blk b3 3 [.int .i64 (i : Int)]]) (fun st => .ret) (fun i => [(4, .int .i64 (atL (splitM s) i : Int)), (5, .string (sB (getL (splitM s) i)))]) (x0 := (0, 0)) rfl Tryz.func158 rfl rfl (steps_seq s (by omega) x18) (by show Sub _ [blk b2 157 [.int .i64 0, .int .i64 0], blk b3 3 [.int .i64 0], blk x18 9 [.string (sB s)]] _; repeat (first | exact Sub.nil | (apply Sub.cons; (repeat (first | with_reducible exact Sel.here | exact Sel.here | apply Sel.there))))) may0 (by first | exact trivial | (exact ⟨fun _ => ⟨rfl, rfl, by omega, rfl⟩, fun h => (by cases h)⟩)) rfl rfl (.cons rfl (.cons rfl .nil)) (.cons (.cons .nil)) ?_ ?_ ?_ ?_
 ·intro w1 S1 lp m1 i hi
  try dsimp only at hJ
  try dsimp only
  refine go [32,33,1,34,31,33,1,34] ?_
  exact I.asg (.consE rfl veqT (.consE rfl veqT (.cons rfl (.cons rfl .nil))))
 ·intro w1 S1 lp c i st hi hJ
  obtain ⟨x, y⟩ := st
  try dsimp only at hJ
  try dsimp only
  obtain ⟨hT, -⟩ := hJ
  obtain ⟨rfl, rfl, hi20, hck⟩ := hT rfl
  have hlen := part_le hi
  rw [← getL_eq hi] at hlen
  have hno : ∀ c ∈ getL (splitM s) i, ¬ c = 47 := by rw [getL_eq hi]; exact splitM_no s _ (List.getElem_mem hi)
  have hb := stepB_pos badR (getL (splitM s) i)
  refine go [38,32,33,2,4] ?_
  refine G.op rfl (G.val rfl rfl ((pv_add64 rfl rfl (by omega)).int (b := ((i + 1 : Nat) : Int)) (by omega)) ?_)
  refine go [21,34,31,32,32,33,2,4,2,10,34,31] ?_
  refine I.condP rfl (fun h24 => ?_) (fun h24 => ?_)
  ·refine go [32,33,0,2,50,6,20,34,31,37,35,36] ?_
   exact I.rR ((3, (atL (splitM s) i : Int))) (by first | exact trivial | ((try dsimp only) <;> exact ⟨fun h => (by cases h), fun _ => hck.trans (checkL_many hi (by omega))⟩)) rfl subT
  refine go [39,31,32,33,0] ?_
  refine G.op rfl (G.cR rfl rfl rfl rfl Tryz.func137 rfl rfl may0 (step_at (getL (splitM s) i) hno (by omega)) ?_)
  refine go [0,2,7,2,7,1,1,34,31,32,33,0,2,14,34,31] ?_
  refine I.condP rfl (fun h33 => ?_) (fun h33 => ?_)
  ·refine go [32,33,0,0,0,2,6,2,50,6,20,34,31,37,36] ?_
   exact I.rR (((stepB badR (getL (splitM s) i)).1, (atL (splitM s) i : Int) + (stepB badR (getL (splitM s) i)).2)) (by first | exact trivial | ((try dsimp only) <;> exact ⟨fun h => (by cases h), fun _ => hck.trans (checkL_bad hi (by omega) (by omega))⟩)) rfl subT
  refine go [39,40] ?_
  exact I.rN ((0, 0)) (by first | exact trivial | ((try dsimp only) <;> exact ⟨fun _ => ⟨rfl, rfl, by omega, hck.trans (checkL_next hi (by omega) (by omega))⟩, fun h => (by cases h)⟩)) subT
 ·intro D st hJ
  obtain ⟨x, y⟩ := st
  try dsimp only at hJ
  try dsimp only
  obtain ⟨hT, -⟩ := hJ
  obtain ⟨rfl, rfl, hi20, hck⟩ := hT rfl
  refine go [40,31,32,33,2,50,6,20,34,31,37] ?_
  exact I.doneT rfl Y37 (Rv.cellN (cs := [_, _]) rfl Tryz.underlying157 rfl kr Y36 Rv.nil) (by rw [checkM_parts (by assumption) (by assumption), hck, List.drop_length]; rfl)
 intro D i st hle hJ
 obtain ⟨x, y⟩ := st
 try dsimp only at hJ
 try dsimp only
 obtain ⟨-, hF⟩ := hJ
 have hxy := hF rfl
 refine go [37,36,35] ?_
 exact I.doneT rfl Y37 (Rv.cellN (cs := [_, _]) rfl Tryz.underlying157 rfl kr Y36 Rv.nil) (by rw [checkM_parts (by assumption) (by assumption), hxy]; rfl)
set_option maxHeartbeats 4000000 in
theorem valid_tr (s : List UInt8) (hs : s.length ≤ 9223372036854775807) : Tr Tryz.prog 108 #[.string (sB s)] [] [] (T0 (.bool (decide ((checkM s).1 = 0)))) := by
 refine Tr.of (l := [(0, .string (sB s))]) Tryz.func108 rfl (n := 7) rfl (.cons rfl .nil) (fun w0 hro => ?_)
 refine go [9,10,1,7,8,9,10,0] ?_
 refine G.op rfl (G.cR rfl rfl rfl rfl Tryz.func107 rfl rfl may0 (check_tr _ (by omega)) ?_)
 refine G.op rfl (G.val rfl rfl (pv_field1 Tryz.underlying157 rfl Tryz.underlying27 rfl rfl rfl) ?_)
 refine go [2,13,1,7,8,11] ?_
 exact G.done0G rfl (Rv.tmp rfl Rv.nil) Y7
end Go.Proofs.YtngbglhmiefcpaaGreat
