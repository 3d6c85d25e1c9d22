/- A walk by chunks: loops over functions: an iterator's walk, a round's walk, what follows such a loop. Conditions: none. -/
import Derived.Test.YtkhffndeomihhaaDoorWC
import Derived.RangeFuncWrites
import Derived.RangeFuncLeaves
import Derived.OwnWalkIn
import Derived.TacticsIn
set_option linter.unusedVariables false
set_option linter.unusedSimpArgs false
set_option maxRecDepth 100000
namespace Go.Proofs.YtkhffndeomihhaaDoor
open Go.RowKit

/-! many chunks as one -/
def star (m : List Ck) : Ck := ⟨U m, fun w : World => (∀ c ∈ m, c.φ w) ∧ m.Pairwise (fun c d : Ck => ∀ b : Nat, c.S b → ¬ d.S b), fun w w' h hw => ⟨fun c hc => c.loc w w' (fun b hb => h b ⟨c, hc, hb⟩) (hw.1 c hc), hw.2⟩⟩
theorem Hp.star {w0 w : World} {S : Nat → Prop} {m r : List Ck} (h : Hp w0 S w (m ++ r)) : Hp w0 S w (Go.Proofs.YtkhffndeomihhaaDoor.star m :: r) := by
  have hd := List.pairwise_append.1 h.dis
  refine ⟨h.chg, fun c hc => ?_, fun c hc b hb => ?_, List.pairwise_cons.2 ⟨fun d hdr b hb hdb => ?_, hd.2.1⟩⟩
  · rcases List.mem_cons.1 hc with rfl | hc
    · exact ⟨fun c hc => h.holds c (List.mem_append_left _ hc), hd.1⟩
    · exact h.holds c (List.mem_append_right _ hc)
  · rcases List.mem_cons.1 hc with rfl | hc
    · obtain ⟨c, hc, hb⟩ := hb
      exact h.own c (List.mem_append_left _ hc) b hb
    · exact h.own c (List.mem_append_right _ hc) b hb
  · obtain ⟨c, hc, hb⟩ := hb
    exact hd.2.2 c hc d hdr b hb hdb
theorem Hp.unstar {w0 w : World} {S : Nat → Prop} {m r : List Ck} (h : Hp w0 S w (Go.Proofs.YtkhffndeomihhaaDoor.star m :: r)) : Hp w0 S w (m ++ r) := by
  have hd := List.pairwise_cons.1 h.dis
  have hs := h.holds _ (List.mem_cons_self ..)
  refine ⟨h.chg, fun c hc => ?_, fun c hc b hb => ?_, List.pairwise_append.2 ⟨hs.2, hd.2, fun c hc d hdr b hb hdb => hd.1 d hdr b ⟨c, hc, hb⟩ hdb⟩⟩
  · rcases List.mem_append.1 hc with hc | hc
    · exact hs.1 c hc
    · exact h.holds c (List.mem_cons_of_mem _ hc)
  · rcases List.mem_append.1 hc with hc | hc
    · exact h.own _ (List.mem_cons_self ..) b ⟨c, hc, hb⟩
    · exact h.own c (List.mem_cons_of_mem _ hc) b hb

/-! frames with deferred calls behind -/
def fR (r : Option Nat) : Fence := { Fence.wide with round := r }
def da (ds : List Deferred) (a : Act) : Act := { a with defers := a.defers ++ ds }
def dq (ds : List Deferred) (K : Act → World → Prop) : Act → World → Prop := fun a w => K (da ds a) w
def dqq (ds : List Deferred) (Q : Exit → Act → World → Prop) : Exit → Act → World → Prop := fun e => dq ds (Q e)
theorem da_eval (ds : List Deferred) (a : Act) : (da ds a).eval = a.eval := by
  funext x
  cases x <;> rfl
theorem da_nil {a : Act} {n : Nat} {l : Fr} (h : At a n l) : da [] a = a := by
  unfold da
  rw [List.append_nil]
theorem da_put (ds : List Deferred) (a : Act) (d : Option Tmp) (v : Value) : (da ds a).put d v = da ds (a.put d v) := by cases d <;> rfl
theorem room_fR {r : Option Nat} {n : Nat} : (fR r).room n := fun _ h => by simp [fR, Fence.wide] at h
def noDefer (o : Oper) : Bool := match o.op with
  | .defer _ => false
  | _ => true
theorem noDefer_spec {o : Oper} (h : noDefer o = true) : ∀ c, o.op ≠ .defer c := fun c hc => by
  unfold noDefer at h
  rw [hc] at h
  cases h
section
variable {P : Program} {n : Nat} {w0 : World} {S : Nat → Prop} {l : Fr} {m : List Ck} {Q : Exit → Act → World → Prop} {K : Act → World → Prop} {r : Option Nat} {ds : List Deferred}
theorem calls_fR {k : Nat} {f : FuncId} {args : Array Value} {w : World} {R : Ending → World → Prop} (h : CallsIn Fence.wide k P f args w R) : CallsIn (fR r) k P f args w R := h
theorem calls_wide {k : Nat} {f : FuncId} {args : Array Value} {w : World} {R : Ending → World → Prop} (h : CallsIn (fR r) k P f args w R) : CallsIn Fence.wide k P f args w R := h
theorem letsOut_dqq (h : LetsOut (dqq ds Q)) : LetsOut Q := let ⟨a, w, h⟩ := h; ⟨da ds a, w, h⟩
theorem upon_in {o : Oper} {a : Act} {x : Result Next} (h : o.upon P a (dq ds K) (dqq ds Q) x) : o.uponIn (fR r) 0 P (da ds a) K Q x := by
  unfold Oper.upon at h
  split at h
  · show K ((da ds a).put _ _) _
    rw [da_put]
    exact h
  · show K ((da ds a).put _ _) _
    rw [da_put]
    exact h
  · rename_i d w2
    have e := da_put ds ({ a with defers := d :: a.defers } : Act) o.dst undef
    show K ((da ds ({ a with defers := d :: a.defers } : Act)).put o.dst undef) _
    rw [e]
    exact h
  · refine ⟨fun h => by simp [fR, Fence.wide] at h, calls_fR (callsIn_wide.2 (h.mono ?_))⟩
    intro e w2 he
    cases e with
    | returned v =>
      show K ((da ds a).put _ _) _
      rw [da_put]
      exact he
    | panicked c => exact he
    | outgrown => exact letsOut_dqq he
  · refine ⟨fun h => by simp [fR, Fence.wide] at h, fun c cs _ => ?_⟩
    obtain ⟨v, w', hv, hs⟩ := h c cs
    refine ⟨v, w', ?_, stepsIn_wide.2 hs⟩
    show K ((da ds a).put _ _) _
    rw [da_put]
    exact hv
  · exact h
  · exact h.elim
theorem wpIn_of_wp {o : Oper} {a : Act} {w : World} (hd : ∀ c, o.op ≠ .defer c) (h : o.wp P a w (dq ds K) (dqq ds Q)) : o.wpIn (fR r) 0 P (da ds a) w K Q := by
  refine ⟨fun _ _ => trivial, ?_⟩
  rw [Oper.semAt_plain _ _ _ hd, da_eval]
  exact upon_in h
theorem opsIn_of_ops {ops : Array Oper} (hd : ops.all noDefer = true) (hQ : ¬ LetsOut Q) : ∀ (ix : List Nat) (a : Act) (w : World), wpOps P ops (dqq ds Q) ix a w → wpOpsIn (fR r) 0 P ops Q ix (da ds a) w
  | [], a, w, h => h
  | i :: rest, a, w, h => by
    unfold wpOps at h
    unfold wpOpsIn
    cases ho : ops[i]? with
    | none =>
      rw [ho] at h
      exact opsIn_of_ops hd hQ rest a w h
    | some o =>
      rw [ho] at h
      have hnd : ∀ c, o.op ≠ .defer c := by
        obtain ⟨hi, rfl⟩ := Array.getElem?_eq_some_iff.1 ho
        exact noDefer_spec (Array.all_eq_true.1 hd i hi)
      show (if Region.wanted o (yielded ops a.tmps) = true then _ else _)
      have h : (if Region.wanted o (yielded ops a.tmps) = true then o.wp P a w (wpOps P ops (dqq ds Q) rest) (dqq ds Q) ∨ (o.asks P a w ∧ LetsOut (dqq ds Q)) else wpOps P ops (dqq ds Q) rest (a.put o.dst undef) w) := h
      split at h
      · rename_i hw
        rw [if_pos hw]
        rcases h with h | ⟨_, h⟩
        · exact wpIn_of_wp hnd (Oper.wp_mono (fun a w h => opsIn_of_ops hd hQ rest a w h) h)
        · exact absurd (letsOut_dqq h) hQ
      · rename_i hw
        rw [if_neg hw]
        exact ⟨fun _ _ => trivial, by rw [da_put]; exact opsIn_of_ops hd hQ rest _ w h⟩

/-! statements -/
theorem I.start (h : G n w0 S l m (dq [] K)) : G n w0 S l m K := fun a w ha hw => by
  have := h a w ha hw
  unfold dq at this
  rwa [da_nil ha] at this
theorem I.stop (h : G n w0 S l m K) : G n w0 S l m (dq [] K) := fun a w ha hw => by
  unfold dq
  rw [da_nil ha]
  exact h a w ha hw
theorem I.seq {x y : Code} (h : G n w0 S l m (dq ds (x.wpIn (fR r) 0 P (Exit.then (y.wpIn (fR r) 0 P Q) Q)))) : G n w0 S l m (dq ds ((Code.seq x y).wpIn (fR r) 0 P Q)) := fun a w ha hw => wpIn_seq (h a w ha hw)
theorem I.skip (h : G n w0 S l m (dq ds (Q .normal))) : G n w0 S l m (dq ds (Code.skip.wpIn (fR r) 0 P Q)) := fun a w ha hw => wpIn_skip (h a w ha hw)
theorem I.ret (h : G n w0 S l m (dq ds (Q .ret))) : G n w0 S l m (dq ds (Code.ret.wpIn (fR r) 0 P Q)) := fun a w ha hw => wpIn_ret (h a w ha hw)
theorem I.exit {id : Nat} (h : G n w0 S l m (dq ds (Q (.exit id)))) : G n w0 S l m (dq ds ((Code.exit id).wpIn (fR r) 0 P Q)) := fun a w ha hw => wpIn_exit (h a w ha hw)
theorem I.label {k : Nat} (h : G n w0 S l m (dq ds (Q .normal))) : G n w0 S l m (dq ds ((Code.label k).wpIn (fR r) 0 P Q)) := fun a w ha hw => wpIn_label (h a w ha hw)
theorem I.block {id : Nat} {c : Code} (h : G n w0 S l m (dq ds (c.wpIn (fR r) 0 P (Exit.inBlock id Q)))) : G n w0 S l m (dq ds ((Code.block id c).wpIn (fR r) 0 P Q)) := fun a w ha hw => wpIn_block (h a w ha hw)
theorem da_ev {a : Act} {x : Operand} {v : Value} (ha : At a n l) (hx : ev l x = some v) : (da ds a).eval x = v := by rw [da_eval]; exact ha.eval hx
theorem I.cond {c : Operand} {x y : Code} {b : Bool} (hc : ev l c = some (.bool b)) (ht : b = true → G n w0 S l m (dq ds (x.wpIn (fR r) 0 P Q))) (hf : b = false → G n w0 S l m (dq ds (y.wpIn (fR r) 0 P Q))) : G n w0 S l m (dq ds ((Code.cond c x y).wpIn (fR r) 0 P Q)) := fun a w ha hw => by
  cases b with
  | true => exact wpIn_cond_true (da_ev ha hc) (ht rfl a w ha hw)
  | false => exact wpIn_cond_false (da_ev ha hc) (hf rfl a w ha hw)
theorem I.condP {c : Operand} {x y : Code} {p : Prop} [Decidable p] (hc : ev l c = some (.bool (decide p))) (ht : p → G n w0 S l m (dq ds (x.wpIn (fR r) 0 P Q))) (hf : ¬ p → G n w0 S l m (dq ds (y.wpIn (fR r) 0 P Q))) : G n w0 S l m (dq ds ((Code.cond c x y).wpIn (fR r) 0 P Q)) :=
  I.cond hc (fun h => ht (of_decide_eq_true h)) (fun h => hf (of_decide_eq_false h))
theorem I.condT {c : Operand} {x y : Code} {b : Bool} (hc : ev l c = some (.bool b)) (hb : b = true) (h : G n w0 S l m (dq ds (x.wpIn (fR r) 0 P Q))) : G n w0 S l m (dq ds ((Code.cond c x y).wpIn (fR r) 0 P Q)) :=
  I.cond hc (fun _ => h) (fun h => by rw [hb] at h; cases h)
theorem I.condF {c : Operand} {x y : Code} {b : Bool} (hc : ev l c = some (.bool b)) (hb : b = false) (h : G n w0 S l m (dq ds (y.wpIn (fR r) 0 P Q))) : G n w0 S l m (dq ds ((Code.cond c x y).wpIn (fR r) 0 P Q)) :=
  I.cond hc (fun h => by rw [hb] at h; cases h) (fun _ => h)
theorem I.nThen (h : G n w0 S l m (dq ds K)) : G n w0 S l m (dq ds (Exit.then K Q .normal)) := h
theorem I.eThen {id : Nat} (h : G n w0 S l m (dq ds (Q (.exit id)))) : G n w0 S l m (dq ds (Exit.then K Q (.exit id))) := h
theorem I.rThen (h : G n w0 S l m (dq ds (Q .ret))) : G n w0 S l m (dq ds (Exit.then K Q .ret)) := h
theorem I.nBlock {id : Nat} (h : G n w0 S l m (dq ds (Q .normal))) : G n w0 S l m (dq ds (Exit.inBlock id Q .normal)) := h
theorem I.rBlock {id : Nat} (h : G n w0 S l m (dq ds (Q .ret))) : G n w0 S l m (dq ds (Exit.inBlock id Q .ret)) := h
theorem I.eBlock {id : Nat} (h : G n w0 S l m (dq ds (Q .normal))) : G n w0 S l m (dq ds (Exit.inBlock id Q (.exit id))) := fun a w ha hw => by
  show (if id = id then Q .normal (da ds a) w else _)
  rw [if_pos rfl]
  exact h a w ha hw
theorem I.ePass {id id' : Nat} (hne : Nat.beq id' id = false) (h : G n w0 S l m (dq ds (Q (.exit id')))) : G n w0 S l m (dq ds (Exit.inBlock id Q (.exit id'))) := fun a w ha hw => by
  show (if id' = id then _ else Q (.exit id') (da ds a) w)
  rw [if_neg (fun e => by subst e; simp at hne)]
  exact h a w ha hw
/-- an act with deferred calls behind -/
def AtD (ds : List Deferred) (a : Act) (n : Nat) (l : Fr) : Prop := ∃ a0, a = da ds a0 ∧ At a0 n l
theorem I.loop {X : Type} (J : X → Prop) (L : X → Fr) (M : X → List Ck) (μ : X → Nat) {c : Code} {x0 : X} {q : List Ck} (h0 : J x0) (hl : Fw l (L x0)) (hm : Sub m (M x0) q)
    (round : ∀ x, J x → G n w0 S (L x) (M x) (dq ds (c.wpIn (fR r) 0 P (Exit.then (fun a w => ∃ y, J y ∧ μ y < μ x ∧ AtD ds a n (L y) ∧ Hp w0 S w (M y)) Q)))) : G n w0 S l m (dq ds ((Code.loop c).wpIn (fR r) 0 P Q)) := fun a w ha hw => by
  let I : Nat → Act → World → Prop := fun k a w => ∃ x, J x ∧ μ x = k ∧ AtD ds a n (L x) ∧ Hp w0 S w (M x)
  have least : ∀ k a w, I k a w → ∃ k0, I k0 a w ∧ ∀ j, I j a w → k0 ≤ j := by
    intro k
    induction k using Nat.strongRecOn with
    | _ k ih =>
      intro a w h
      by_cases hh : ∃ j, j < k ∧ I j a w
      · obtain ⟨j, hj, hI⟩ := hh
        exact ih j hj a w hI
      · exact ⟨k, h, fun j hj => Nat.le_of_not_lt fun hlt => hh ⟨j, hlt, hj⟩⟩
  let ν : Act → World → Nat := fun a w => open Classical in if h : ∃ k, I k a w then (Classical.choose (least _ a w (Classical.choose_spec h))) else 0
  have hν : ∀ a w k, I k a w → I (ν a w) a w ∧ ν a w ≤ k := by
    intro a w k h
    have hex : ∃ k, I k a w := ⟨k, h⟩
    have hs := Classical.choose_spec (least _ a w (Classical.choose_spec hex))
    have e : ν a w = Classical.choose (least _ a w (Classical.choose_spec hex)) := dif_pos hex
    rw [e]
    exact ⟨hs.1, hs.2 k h⟩
  refine wpIn_loop (fun a w => ∃ k, I k a w) ν ⟨μ x0, x0, h0, rfl, ⟨a, rfl, ha.weak hl⟩, (hw.perm hm.perm).sub (List.sublist_append_left _ _)⟩ ?_
  rintro a w ⟨k, hk⟩
  obtain ⟨⟨x, hJ, hμ, ⟨a0, rfl, hx⟩, hM⟩, _⟩ := hν a w k hk
  refine wpIn_mono (round x hJ a0 w hx hM) ?_
  intro e a' w' hq
  cases e with
  | normal =>
    obtain ⟨y, hJy, hlt, hy, hMy⟩ := hq
    have hI : I (μ y) a' w' := ⟨y, hJy, rfl, hy, hMy⟩
    have := (hν a' w' _ hI).2
    exact ⟨⟨_, hI⟩, by omega⟩
  | exit id => exact hq
  | goto g => exact hq
  | ret => exact hq
  | panic ch => exact hq
  | outgrown => exact hq
theorem I.loopK {X : Type} (J : X → Prop) (A : X → Fr) (B : X → List Ck) (μ : X → Nat) {c : Code} {x0 : X} {q : List Ck} {ts : List Nat} {l1 : Fr} {L : X → Fr} {M : X → List Ck} (hk : Kp l ts l1) (hm : Sub m (B x0) q) (hL : Ap A l1 L) (hM : Ap B q M) (h0 : J x0) (hl : Fw l (A x0))
    (round : ∀ x, J x → G n w0 S (L x) (M x) (dq ds (c.wpIn (fR r) 0 P (Exit.then (fun a w => ∃ y, J y ∧ μ y < μ x ∧ AtD ds a n (L y) ∧ Hp w0 S w (M y)) Q)))) : G n w0 S l m (dq ds ((Code.loop c).wpIn (fR r) 0 P Q)) :=
  I.loop (q := []) J L M μ h0 (by rw [← hL.eq x0]; exact hl.app hk.fw) (by rw [← hM.eq x0]; exact hm.app (Sub.all q)) round
theorem I.next {X : Type} {J : X → Prop} {L : X → Fr} {M : X → List Ck} {μ : X → Nat} {k : Nat} {q : List Ck} (y : X) (hJ : J y) (hμ : μ y < k) (hl : Fw l (L y)) (hm : Sub m (M y) q) :
    G n w0 S l m (dq ds (Exit.then (fun a w => ∃ y, J y ∧ μ y < k ∧ AtD ds a n (L y) ∧ Hp w0 S w (M y)) Q .normal)) := fun a w ha hw =>
  ⟨y, hJ, hμ, ⟨a, rfl, ha.weak hl⟩, (hw.perm hm.perm).sub (List.sublist_append_left _ _)⟩

/-! regions -/
theorem I.region {id : Nat} {ops : List Oper} (hd : ops.all noDefer = true) (hQ : ¬ LetsOut Q) (h : G n w0 S l m (wpList P ops.toArray (dqq ds Q) ops)) : G n w0 S l m (dq ds ((Code.region id ops.toArray false).wpIn (fR r) 0 P Q)) := fun a w ha hw => by
  refine wpIn_region (opsIn_of_ops (by simpa using hd) hQ _ a w ?_)
  rw [List.range_eq_range', show ops.toArray.size = ops.length from by simp, wpOps_eq_wpList ops 0 (by simp)]
  exact h a w ha hw
theorem I.nil {ops : Array Oper} (h : G n w0 S l m (dq ds (Q .normal))) : G n w0 S l m (wpList P ops (dqq ds Q) []) := h
theorem I.over {ops : Array Oper} {deps frs : List Nat} {nn fuel rem : Nat} {Sx : World → Prop} (hT : Tab ops deps frs nn) (hr : rdB deps rem [] = true) (h : G n w0 S l m (dq ds (Q .normal))) : G n w0 S l m (GA P ops (dqq ds Q) Sx nn fuel rem) := G.overT hT hr h
theorem I.drawT {ops : Array Oper} {id nn rem : Nat} {mS p : List Ck} (deps frs : List Nat) (hd : ops.all noDefer = true) (hQ : ¬ LetsOut Q) (hm : P.follows .mixedOrders = true) (hT : Tab ops deps frs nn) (hs : Sub m p mS) (hr : Nat.beq rem (2 ^ nn - 1) = true) (h : Tab ops deps frs nn → G n w0 S l m (GA P ops (dqq ds Q) (fun w => Hp w0 S w mS) nn nn rem)) : G n w0 S l m (dq ds ((Code.region id ops true).wpIn (fR r) 0 P Q)) := fun a w ha hw => by
  refine wpIn_region_draw fun t => opsIn_of_ops hd hQ _ a _ ?_
  simp only [Region.schedule, hm, Bool.true_or, if_true]
  refine wpAny_sound ops.size t _ a _ (wpAny_of_held (S := fun w => Hp w0 S w mS) _ _ _ _ ?_)
  have e : ops.size = nn := hT.size
  rw [e]
  exact h hT a _ ha hw.drew _ (by rw [Nat.eq_of_beq_eq_true hr]; exact Lst.start nn)
/-! .. in which yield is called -/
theorem IL.region {id : Nat} {ops : List Oper} (h : G n w0 S l m (dq ds (wpListIn (fR r) 0 P ops.toArray Q ops))) : G n w0 S l m (dq ds ((Code.region id ops.toArray false).wpIn (fR r) 0 P Q)) := fun a w ha hw => wpIn_region_lit (h a w ha hw)
theorem IL.nil {ops : Array Oper} (h : G n w0 S l m (dq ds (Q .normal))) : G n w0 S l m (dq ds (wpListIn (fR r) 0 P ops Q [])) := h
theorem IL.op {ops : Array Oper} {o : Oper} {rest : List Oper} (hg : o.guard = none) (h : G n w0 S l m (dq ds (fun a w => o.wpIn (fR r) 0 P a w (wpListIn (fR r) 0 P ops Q rest) Q))) : G n w0 S l m (dq ds (wpListIn (fR r) 0 P ops Q (o :: rest))) := fun a w ha hw => by
  show (if Region.wanted o (yielded ops a.tmps) = true then _ else _)
  rw [if_pos (by simp [Region.wanted, hg])]
  exact h a w ha hw
theorem IL.lift {o : Oper} (hd : noDefer o = true) (h : G n w0 S l m (fun a w => o.wp P a w (dq ds K) (dqq ds Q))) : G n w0 S l m (dq ds (fun a w => o.wpIn (fR r) 0 P a w K Q)) := fun a w ha hw => wpIn_of_wp (noDefer_spec hd) (h a w ha hw)
/-- what a call of yield does -/
def TrY (P : Program) (lp : Nat) (args : Array Value) (pre : List Ck) (post : Value → List Ck → Prop) : Prop :=
  ∀ w, Hp w (U pre) w pre → YieldAt Fence.wide 0 P lp args w fun e w' => ∃ v m', e = .returned v ∧ post v m' ∧ Hp w (U pre) w' m'
theorem IL.yield {X : Type} {J : X → Prop} {V : X → Value} {M M' : X → List Ck} {o : Oper} {d lp : Nat} {x : Operand} {xs : List Operand} {ts : Array TypeId} {vs : List Value} {pre q : List Ck} (hd : o.dst = some d) (hn : Nat.blt d n = true)
    (ho : o.op = .call { callee := .value x, args := xs.toArray, argTypes := ts }) (hv : ev l x = some (.func (.yield lp) #[] #[])) (hx : evs l xs = some vs)
    (hm : Sub m pre q) (ht : TrY P lp vs.toArray pre (TX J V M)) (hM : Ap M q M') (h : ∀ x, J x → G n w0 S ((d, V x) :: l) (M' x) (dq ds K)) : G n w0 S l m (dq ds (fun a w => o.wpIn (fR none) 0 P a w K Q)) := fun a w ha hw => by
  have hw' := hw.perm hm.perm
  have hp : Hp w (U pre) w pre := ⟨Chg.refl _ _, fun c hc => hw'.holds c (List.mem_append_left _ hc), fun c hc b hb => ⟨.inl ⟨c, hc, hb⟩, (hw'.own c (List.mem_append_left _ hc) b hb).2⟩, (List.pairwise_append.1 hw'.dis).1⟩
  obtain ⟨fn, tmps, assign, body, hy, hR⟩ := ht w hp
  refine ⟨fun _ _ => trivial, ?_⟩
  have hrun : (o.semAt (fR none).round (da ds a).eval).run P w = .ok (.round lp fn tmps assign body) w := by
    rw [da_eval]
    show (execOp a.eval o).run P w = _
    have e1 : xs.toArray.map a.eval = vs.toArray := by rw [← ha.evs hx]; simp
    simp [execOp, ho, resolve, Deferred.ofValue, e1, ha.eval hv, invoke, Sem.run_bind, Sem.run_pure, Result.andThen, hy]
  rw [hrun, Oper.uponIn_round]
  refine ⟨fun h => by simp [fR, Fence.wide] at h, hR.mono ?_⟩
  rintro e w2 ⟨v, m', rfl, ⟨x, hJ, rfl, rfl⟩, hm'⟩
  show K ((da ds a).put _ _) _
  rw [da_put, hd]
  have := hw'.turn hm'
  rw [hM.eq x] at this
  exact h x hJ _ _ (ha.put hn _) this

/-! an iterator's contract -/
def SeqT (P : Program) (g : FuncId) (lb : Array Value) (ro pre : List Ck) (nn : Nat) (encs : Nat → List Value) : Prop :=
  ∀ (lp : Nat) (X : Type) (J : Bool → Nat → X → Prop) (C : Bool → Nat → X → Ck) (x0 : X), J true 0 x0 →
    (∀ i x, i < nn → J true i x → TrY P lp (encs i).toArray [C true i x] (TX (fun z : Bool × X => J z.1 (i + 1) z.2) (fun z => .bool z.1) (fun z => [C z.1 (i + 1) z.2]))) →
    Tr P g (#[.func (.yield lp) #[] #[]] ++ lb) ro (C true 0 x0 :: pre) (TX (fun z : Bool × Nat × X => J z.1 z.2.1 z.2.2 ∧ z.2.1 ≤ nn ∧ (z.1 = true → z.2.1 = nn)) (fun _ => .tuple #[]) (fun z => [C z.1 z.2.1 z.2.2]))
theorem Tr.ofI {f : FuncId} {args : Array Value} {ro pre : List Ck} {post : Value → List Ck → Prop} {fn : Func} {c : Code} {n : Nat} {l : Fr} (hf : P.funcs[f]? = some fn) (hb : fn.body = some c) (hn : args.size + (fn.ntmps - args.size) = n) (hl : Fa args l)
    (h : ∀ w0, (∀ c ∈ ro, Ro w0 (U pre) c) → G n w0 (U pre) l pre (dq [] (c.wpIn (fR none) 0 P (bodyPost P fn (TrR w0 pre post))))) : Tr P f args ro pre post := fun w hro hp => by
  refine (callsIn_wide (n := 0)).1 (calls_wide (r := none) (callsIn_of_wp hf hb trivial ?_))
  have hA : At { tmps := args ++ Array.replicate (fn.ntmps - args.size) undef, defers := [] } n l := ⟨by simp [hn], rfl, fun t v ht => by
    have := hl.get t v ht
    rw [Array.getElem?_append_left]
    · exact this
    · exact (Array.getElem?_eq_some_iff.1 this).1⟩
  exact h w hro _ _ hA hp

/-! the loop over a function -/
def lpc (b : Nat) (x : Loop) : Ck := ⟨(· = b), fun w => w.heap[b]? = some (.loop x), fun w w' h hw => (h b rfl).trans hw⟩
def dfc (b : Nat) : Ck := ⟨(· = b), fun w => w.heap[b]? = some (.deferred (some [])), fun w w' h hw => (h b rfl).trans hw⟩
def obc (b : Nat) (o : Obj) : Ck := ⟨(· = b), fun w => w.heap[b]? = some o, fun w w' h hw => (h b rfl).trans hw⟩
theorem Hp.allocO {w : World} (hw : Hp w0 S w m) (o : Obj) : Hp w0 S (w.alloc o) (obc w.heap.size o :: m) := by
  refine hw.adds (m' := [obc w.heap.size o]) ⟨Chg.none_of_below ((Below.refl _ w).alloc (Nat.le_refl _) o), fun c hc => ?_, fun c hc b hb => ?_, by simp⟩
  · obtain rfl : c = _ := by simpa using hc
    exact World.alloc_heap_new w o
  · obtain rfl : c = _ := by simpa using hc
    obtain rfl : b = w.heap.size := hb
    exact ⟨.inr (Nat.le_refl _), by simp⟩
theorem Hp.putO {w : World} {b : Nat} {o : Obj} {q : List Ck} (o' : Obj) (hw : Hp w0 S w (obc b o :: q)) : Hp w0 S (w.putObj b o') (obc b o' :: q) := by
  have hb := (hw.own _ (List.mem_cons_self ..) b rfl).2
  refine hw.turn (p := [obc b o]) (r := q) (p' := [obc b o']) ⟨⟨rfl, rfl, rfl, by simp, fun k hk hS => World.putObj_heap_other fun e => hS ⟨_, List.mem_cons_self .., e⟩⟩, fun c hc => ?_, fun c hc k hk => ?_, by simp⟩
  · obtain rfl : c = _ := by simpa using hc
    exact World.putObj_heap_same hb
  · obtain rfl : c = _ := by simpa using hc
    obtain rfl : k = b := hk
    exact ⟨.inl ⟨_, List.mem_cons_self .., rfl⟩, by simpa using hb⟩
end
end Go.Proofs.YtkhffndeomihhaaDoor
