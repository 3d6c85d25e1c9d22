/- Merged of WR, WS, WT, WU, WV. Conditions: none. -/
import Derived.Test.YtchgaedidfefoaaGb
import Derived.RangeFuncWrites
import Derived.RangeFuncLeaves
import Derived.OwnWalkIn
import Derived.TacticsIn
import Derived.Lib.Overlaps
import Derived.Lib.AppendZeros
import Derived.Laws.Externs
/- A walk by chunks: loops over functions: an iterator's walk, a round's walk, what follows such a loop. Conditions: none. -/
set_option linter.unusedVariables false
set_option linter.unusedSimpArgs false
namespace Go.Proofs.Ytchgaedidfefoaa
open Go.RowKit

/-! many chunks as one -/
def star (m : List Ck) : Ck := ⟨U m, fun w : World => (∀ c ∈ m, c.φ w) ∧ m.Pairwise (fun c d : Ck => ∀ b : Nat, c.S b → ¬ d.S b), fun w w' h hw => ⟨fun c hc => c.loc w w' (fun b hb => h b ⟨c, hc, hb⟩) (hw.1 c hc), hw.2⟩⟩
theorem Hp.star {w0 w : World} {S : Nat → Prop} {m r : List Ck} (h : Hp w0 S w (m ++ r)) : Hp w0 S w (Go.Proofs.Ytchgaedidfefoaa.star m :: r) := by
  have hd := List.pairwise_append.1 h.dis
  refine ⟨h.chg, fun c hc => ?_, fun c hc b hb => ?_, List.pairwise_cons.2 ⟨fun d hdr b hb hdb => ?_, hd.2.1⟩⟩
  · rcases List.mem_cons.1 hc with rfl | hc
    · exact ⟨fun c hc => h.holds c (List.mem_append_left _ hc), hd.1⟩
    · exact h.holds c (List.mem_append_right _ hc)
  · rcases List.mem_cons.1 hc with rfl | hc
    · obtain ⟨c, hc, hb⟩ := hb
      exact h.own c (List.mem_append_left _ hc) b hb
    · exact h.own c (List.mem_append_right _ hc) b hb
  · obtain ⟨c, hc, hb⟩ := hb
    exact hd.2.2 c hc d hdr b hb hdb
theorem Hp.unstar {w0 w : World} {S : Nat → Prop} {m r : List Ck} (h : Hp w0 S w (Go.Proofs.Ytchgaedidfefoaa.star m :: r)) : Hp w0 S w (m ++ r) := by
  have hd := List.pairwise_cons.1 h.dis
  have hs := h.holds _ (List.mem_cons_self ..)
  refine ⟨h.chg, fun c hc => ?_, fun c hc b hb => ?_, List.pairwise_append.2 ⟨hs.2, hd.2, fun c hc d hdr b hb hdb => hd.1 d hdr b ⟨c, hc, hb⟩ hdb⟩⟩
  · rcases List.mem_append.1 hc with hc | hc
    · exact hs.1 c hc
    · exact h.holds c (List.mem_cons_of_mem _ hc)
  · rcases List.mem_append.1 hc with hc | hc
    · exact h.own _ (List.mem_cons_self ..) b ⟨c, hc, hb⟩
    · exact h.own c (List.mem_cons_of_mem _ hc) b hb

/-! frames with deferred calls behind -/
def fR (r : Option Nat) : Fence := { Fence.wide with round := r }
def da (ds : List Deferred) (a : Act) : Act := { a with defers := a.defers ++ ds }
def dq (ds : List Deferred) (K : Act → World → Prop) : Act → World → Prop := fun a w => K (da ds a) w
def dqq (ds : List Deferred) (Q : Exit → Act → World → Prop) : Exit → Act → World → Prop := fun e => dq ds (Q e)
theorem da_eval (ds : List Deferred) (a : Act) : (da ds a).eval = a.eval := by
  funext x
  cases x <;> rfl
theorem da_nil {a : Act} {n : Nat} {l : Fr} (h : At a n l) : da [] a = a := by
  unfold da
  rw [List.append_nil]
theorem da_put (ds : List Deferred) (a : Act) (d : Option Tmp) (v : Value) : (da ds a).put d v = da ds (a.put d v) := by cases d <;> rfl
theorem room_fR {r : Option Nat} {n : Nat} : (fR r).room n := fun _ h => by simp [fR, Fence.wide] at h
def noDefer (o : Oper) : Bool := match o.op with
  | .defer _ => false
  | _ => true
theorem noDefer_spec {o : Oper} (h : noDefer o = true) : ∀ c, o.op ≠ .defer c := fun c hc => by
  unfold noDefer at h
  rw [hc] at h
  cases h
section
variable {P : Program} {n : Nat} {w0 : World} {S : Nat → Prop} {l : Fr} {m : List Ck} {Q : Exit → Act → World → Prop} {K : Act → World → Prop} {r : Option Nat} {ds : List Deferred}
theorem calls_fR {k : Nat} {f : FuncId} {args : Array Value} {w : World} {R : Ending → World → Prop} (h : CallsIn Fence.wide k P f args w R) : CallsIn (fR r) k P f args w R := h
theorem calls_wide {k : Nat} {f : FuncId} {args : Array Value} {w : World} {R : Ending → World → Prop} (h : CallsIn (fR r) k P f args w R) : CallsIn Fence.wide k P f args w R := h
theorem letsOut_dqq (h : LetsOut (dqq ds Q)) : LetsOut Q := let ⟨a, w, h⟩ := h; ⟨da ds a, w, h⟩
theorem upon_in {o : Oper} {a : Act} {x : Result Next} (h : o.upon P a (dq ds K) (dqq ds Q) x) : o.uponIn (fR r) 0 P (da ds a) K Q x := by
  unfold Oper.upon at h
  split at h
  · show K ((da ds a).put _ _) _
    rw [da_put]
    exact h
  · show K ((da ds a).put _ _) _
    rw [da_put]
    exact h
  · rename_i d w2
    have e := da_put ds ({ a with defers := d :: a.defers } : Act) o.dst undef
    show K ((da ds ({ a with defers := d :: a.defers } : Act)).put o.dst undef) _
    rw [e]
    exact h
  · refine ⟨fun h => by simp [fR, Fence.wide] at h, calls_fR (callsIn_wide.2 (h.mono ?_))⟩
    intro e w2 he
    cases e with
    | returned v =>
      show K ((da ds a).put _ _) _
      rw [da_put]
      exact he
    | panicked c => exact he
    | outgrown => exact letsOut_dqq he
  · refine ⟨fun h => by simp [fR, Fence.wide] at h, fun c cs _ => ?_⟩
    obtain ⟨v, w', hv, hs⟩ := h c cs
    refine ⟨v, w', ?_, stepsIn_wide.2 hs⟩
    show K ((da ds a).put _ _) _
    rw [da_put]
    exact hv
  · exact h
  · exact h.elim
theorem wpIn_of_wp {o : Oper} {a : Act} {w : World} (hd : ∀ c, o.op ≠ .defer c) (h : o.wp P a w (dq ds K) (dqq ds Q)) : o.wpIn (fR r) 0 P (da ds a) w K Q := by
  refine ⟨fun _ _ => trivial, ?_⟩
  rw [Oper.semAt_plain _ _ _ hd, da_eval]
  exact upon_in h
theorem opsIn_of_ops {ops : Array Oper} (hd : ops.all noDefer = true) (hQ : ¬ LetsOut Q) : ∀ (ix : List Nat) (a : Act) (w : World), wpOps P ops (dqq ds Q) ix a w → wpOpsIn (fR r) 0 P ops Q ix (da ds a) w
  | [], a, w, h => h
  | i :: rest, a, w, h => by
    unfold wpOps at h
    unfold wpOpsIn
    cases ho : ops[i]? with
    | none =>
      rw [ho] at h
      exact opsIn_of_ops hd hQ rest a w h
    | some o =>
      rw [ho] at h
      have hnd : ∀ c, o.op ≠ .defer c := by
        obtain ⟨hi, rfl⟩ := Array.getElem?_eq_some_iff.1 ho
        exact noDefer_spec (Array.all_eq_true.1 hd i hi)
      show (if Region.wanted o (yielded ops a.tmps) = true then _ else _)
      have h : (if Region.wanted o (yielded ops a.tmps) = true then o.wp P a w (wpOps P ops (dqq ds Q) rest) (dqq ds Q) ∨ (o.asks P a w ∧ LetsOut (dqq ds Q)) else wpOps P ops (dqq ds Q) rest (a.put o.dst undef) w) := h
      split at h
      · rename_i hw
        rw [if_pos hw]
        rcases h with h | ⟨_, h⟩
        · exact wpIn_of_wp hnd (Oper.wp_mono (fun a w h => opsIn_of_ops hd hQ rest a w h) h)
        · exact absurd (letsOut_dqq h) hQ
      · rename_i hw
        rw [if_neg hw]
        exact ⟨fun _ _ => trivial, by rw [da_put]; exact opsIn_of_ops hd hQ rest _ w h⟩

/-! statements -/
theorem I.start (h : G n w0 S l m (dq [] K)) : G n w0 S l m K := fun a w ha hw => by
  have := h a w ha hw
  unfold dq at this
  rwa [da_nil ha] at this
theorem I.stop (h : G n w0 S l m K) : G n w0 S l m (dq [] K) := fun a w ha hw => by
  unfold dq
  rw [da_nil ha]
  exact h a w ha hw
theorem I.seq {x y : Code} (h : G n w0 S l m (dq ds (x.wpIn (fR r) 0 P (Exit.then (y.wpIn (fR r) 0 P Q) Q)))) : G n w0 S l m (dq ds ((Code.seq x y).wpIn (fR r) 0 P Q)) := fun a w ha hw => wpIn_seq (h a w ha hw)
theorem I.skip (h : G n w0 S l m (dq ds (Q .normal))) : G n w0 S l m (dq ds (Code.skip.wpIn (fR r) 0 P Q)) := fun a w ha hw => wpIn_skip (h a w ha hw)
theorem I.ret (h : G n w0 S l m (dq ds (Q .ret))) : G n w0 S l m (dq ds (Code.ret.wpIn (fR r) 0 P Q)) := fun a w ha hw => wpIn_ret (h a w ha hw)
theorem I.exit {id : Nat} (h : G n w0 S l m (dq ds (Q (.exit id)))) : G n w0 S l m (dq ds ((Code.exit id).wpIn (fR r) 0 P Q)) := fun a w ha hw => wpIn_exit (h a w ha hw)
theorem I.label {k : Nat} (h : G n w0 S l m (dq ds (Q .normal))) : G n w0 S l m (dq ds ((Code.label k).wpIn (fR r) 0 P Q)) := fun a w ha hw => wpIn_label (h a w ha hw)
theorem I.block {id : Nat} {c : Code} (h : G n w0 S l m (dq ds (c.wpIn (fR r) 0 P (Exit.inBlock id Q)))) : G n w0 S l m (dq ds ((Code.block id c).wpIn (fR r) 0 P Q)) := fun a w ha hw => wpIn_block (h a w ha hw)
theorem da_ev {a : Act} {x : Operand} {v : Value} (ha : At a n l) (hx : ev l x = some v) : (da ds a).eval x = v := by rw [da_eval]; exact ha.eval hx
theorem I.cond {c : Operand} {x y : Code} {b : Bool} (hc : ev l c = some (.bool b)) (ht : b = true → G n w0 S l m (dq ds (x.wpIn (fR r) 0 P Q))) (hf : b = false → G n w0 S l m (dq ds (y.wpIn (fR r) 0 P Q))) : G n w0 S l m (dq ds ((Code.cond c x y).wpIn (fR r) 0 P Q)) := fun a w ha hw => by
  cases b with
  | true => exact wpIn_cond_true (da_ev ha hc) (ht rfl a w ha hw)
  | false => exact wpIn_cond_false (da_ev ha hc) (hf rfl a w ha hw)
theorem I.condP {c : Operand} {x y : Code} {p : Prop} [Decidable p] (hc : ev l c = some (.bool (decide p))) (ht : p → G n w0 S l m (dq ds (x.wpIn (fR r) 0 P Q))) (hf : ¬ p → G n w0 S l m (dq ds (y.wpIn (fR r) 0 P Q))) : G n w0 S l m (dq ds ((Code.cond c x y).wpIn (fR r) 0 P Q)) :=
  I.cond hc (fun h => ht (of_decide_eq_true h)) (fun h => hf (of_decide_eq_false h))
theorem I.condT {c : Operand} {x y : Code} {b : Bool} (hc : ev l c = some (.bool b)) (hb : b = true) (h : G n w0 S l m (dq ds (x.wpIn (fR r) 0 P Q))) : G n w0 S l m (dq ds ((Code.cond c x y).wpIn (fR r) 0 P Q)) :=
  I.cond hc (fun _ => h) (fun h => by rw [hb] at h; cases h)
theorem I.condF {c : Operand} {x y : Code} {b : Bool} (hc : ev l c = some (.bool b)) (hb : b = false) (h : G n w0 S l m (dq ds (y.wpIn (fR r) 0 P Q))) : G n w0 S l m (dq ds ((Code.cond c x y).wpIn (fR r) 0 P Q)) :=
  I.cond hc (fun h => by rw [hb] at h; cases h) (fun _ => h)
theorem I.nThen (h : G n w0 S l m (dq ds K)) : G n w0 S l m (dq ds (Exit.then K Q .normal)) := h
theorem I.eThen {id : Nat} (h : G n w0 S l m (dq ds (Q (.exit id)))) : G n w0 S l m (dq ds (Exit.then K Q (.exit id))) := h
theorem I.rThen (h : G n w0 S l m (dq ds (Q .ret))) : G n w0 S l m (dq ds (Exit.then K Q .ret)) := h
theorem I.nBlock {id : Nat} (h : G n w0 S l m (dq ds (Q .normal))) : G n w0 S l m (dq ds (Exit.inBlock id Q .normal)) := h
theorem I.rBlock {id : Nat} (h : G n w0 S l m (dq ds (Q .ret))) : G n w0 S l m (dq ds (Exit.inBlock id Q .ret)) := h
theorem I.eBlock {id : Nat} (h : G n w0 S l m (dq ds (Q .normal))) : G n w0 S l m (dq ds (Exit.inBlock id Q (.exit id))) := fun a w ha hw => by
  show (if id = id then Q .normal (da ds a) w else _)
  rw [if_pos rfl]
  exact h a w ha hw
theorem I.ePass {id id' : Nat} (hne : Nat.beq id' id = false) (h : G n w0 S l m (dq ds (Q (.exit id')))) : G n w0 S l m (dq ds (Exit.inBlock id Q (.exit id'))) := fun a w ha hw => by
  show (if id' = id then _ else Q (.exit id') (da ds a) w)
  rw [if_neg (fun e => by subst e; simp at hne)]
  exact h a w ha hw
/-- an act with deferred calls behind -/
def AtD (ds : List Deferred) (a : Act) (n : Nat) (l : Fr) : Prop := ∃ a0, a = da ds a0 ∧ At a0 n l
theorem I.loop {X : Type} (J : X → Prop) (L : X → Fr) (M : X → List Ck) (μ : X → Nat) {c : Code} {x0 : X} {q : List Ck} (h0 : J x0) (hl : Fw l (L x0)) (hm : Sub m (M x0) q)
    (round : ∀ x, J x → G n w0 S (L x) (M x) (dq ds (c.wpIn (fR r) 0 P (Exit.then (fun a w => ∃ y, J y ∧ μ y < μ x ∧ AtD ds a n (L y) ∧ Hp w0 S w (M y)) Q)))) : G n w0 S l m (dq ds ((Code.loop c).wpIn (fR r) 0 P Q)) := fun a w ha hw => by
  let I : Nat → Act → World → Prop := fun k a w => ∃ x, J x ∧ μ x = k ∧ AtD ds a n (L x) ∧ Hp w0 S w (M x)
  have least : ∀ k a w, I k a w → ∃ k0, I k0 a w ∧ ∀ j, I j a w → k0 ≤ j := by
    intro k
    induction k using Nat.strongRecOn with
    | _ k ih =>
      intro a w h
      by_cases hh : ∃ j, j < k ∧ I j a w
      · obtain ⟨j, hj, hI⟩ := hh
        exact ih j hj a w hI
      · exact ⟨k, h, fun j hj => Nat.le_of_not_lt fun hlt => hh ⟨j, hlt, hj⟩⟩
  let ν : Act → World → Nat := fun a w => open Classical in if h : ∃ k, I k a w then (Classical.choose (least _ a w (Classical.choose_spec h))) else 0
  have hν : ∀ a w k, I k a w → I (ν a w) a w ∧ ν a w ≤ k := by
    intro a w k h
    have hex : ∃ k, I k a w := ⟨k, h⟩
    have hs := Classical.choose_spec (least _ a w (Classical.choose_spec hex))
    have e : ν a w = Classical.choose (least _ a w (Classical.choose_spec hex)) := dif_pos hex
    rw [e]
    exact ⟨hs.1, hs.2 k h⟩
  refine wpIn_loop (fun a w => ∃ k, I k a w) ν ⟨μ x0, x0, h0, rfl, ⟨a, rfl, ha.weak hl⟩, (hw.perm hm.perm).sub (List.sublist_append_left _ _)⟩ ?_
  rintro a w ⟨k, hk⟩
  obtain ⟨⟨x, hJ, hμ, ⟨a0, rfl, hx⟩, hM⟩, _⟩ := hν a w k hk
  refine wpIn_mono (round x hJ a0 w hx hM) ?_
  intro e a' w' hq
  cases e with
  | normal =>
    obtain ⟨y, hJy, hlt, hy, hMy⟩ := hq
    have hI : I (μ y) a' w' := ⟨y, hJy, rfl, hy, hMy⟩
    have := (hν a' w' _ hI).2
    exact ⟨⟨_, hI⟩, by omega⟩
  | exit id => exact hq
  | goto g => exact hq
  | ret => exact hq
  | panic ch => exact hq
  | outgrown => exact hq
theorem I.loopK {X : Type} (J : X → Prop) (A : X → Fr) (B : X → List Ck) (μ : X → Nat) {c : Code} {x0 : X} {q : List Ck} {ts : List Nat} {l1 : Fr} {L : X → Fr} {M : X → List Ck} (hk : Kp l ts l1) (hm : Sub m (B x0) q) (hL : Ap A l1 L) (hM : Ap B q M) (h0 : J x0) (hl : Fw l (A x0))
    (round : ∀ x, J x → G n w0 S (L x) (M x) (dq ds (c.wpIn (fR r) 0 P (Exit.then (fun a w => ∃ y, J y ∧ μ y < μ x ∧ AtD ds a n (L y) ∧ Hp w0 S w (M y)) Q)))) : G n w0 S l m (dq ds ((Code.loop c).wpIn (fR r) 0 P Q)) :=
  I.loop (q := []) J L M μ h0 (by rw [← hL.eq x0]; exact hl.app hk.fw) (by rw [← hM.eq x0]; exact hm.app (Sub.all q)) round
theorem I.next {X : Type} {J : X → Prop} {L : X → Fr} {M : X → List Ck} {μ : X → Nat} {k : Nat} {q : List Ck} (y : X) (hJ : J y) (hμ : μ y < k) (hl : Fw l (L y)) (hm : Sub m (M y) q) :
    G n w0 S l m (dq ds (Exit.then (fun a w => ∃ y, J y ∧ μ y < k ∧ AtD ds a n (L y) ∧ Hp w0 S w (M y)) Q .normal)) := fun a w ha hw =>
  ⟨y, hJ, hμ, ⟨a, rfl, ha.weak hl⟩, (hw.perm hm.perm).sub (List.sublist_append_left _ _)⟩

/-! regions -/
theorem I.region {id : Nat} {ops : List Oper} (hd : ops.all noDefer = true) (hQ : ¬ LetsOut Q) (h : G n w0 S l m (wpList P ops.toArray (dqq ds Q) ops)) : G n w0 S l m (dq ds ((Code.region id ops.toArray false).wpIn (fR r) 0 P Q)) := fun a w ha hw => by
  refine wpIn_region (opsIn_of_ops (by simpa using hd) hQ _ a w ?_)
  rw [List.range_eq_range', show ops.toArray.size = ops.length from by simp, wpOps_eq_wpList ops 0 (by simp)]
  exact h a w ha hw
theorem I.nil {ops : Array Oper} (h : G n w0 S l m (dq ds (Q .normal))) : G n w0 S l m (wpList P ops (dqq ds Q) []) := h
theorem I.over {ops : Array Oper} {deps frs : List Nat} {nn fuel rem : Nat} {Sx : World → Prop} (hT : Tab ops deps frs nn) (hr : rdB deps rem [] = true) (h : G n w0 S l m (dq ds (Q .normal))) : G n w0 S l m (GA P ops (dqq ds Q) Sx nn fuel rem) := G.overT hT hr h
theorem I.drawT {ops : Array Oper} {id nn rem : Nat} {mS p : List Ck} (deps frs : List Nat) (hd : ops.all noDefer = true) (hQ : ¬ LetsOut Q) (hm : P.follows .mixedOrders = true) (hT : Tab ops deps frs nn) (hs : Sub m p mS) (hr : Nat.beq rem (2 ^ nn - 1) = true) (h : Tab ops deps frs nn → G n w0 S l m (GA P ops (dqq ds Q) (fun w => Hp w0 S w mS) nn nn rem)) : G n w0 S l m (dq ds ((Code.region id ops true).wpIn (fR r) 0 P Q)) := fun a w ha hw => by
  refine wpIn_region_draw fun t => opsIn_of_ops hd hQ _ a _ ?_
  simp only [Region.schedule, hm, Bool.true_or, if_true]
  refine wpAny_sound ops.size t _ a _ (wpAny_of_held (S := fun w => Hp w0 S w mS) _ _ _ _ ?_)
  have e : ops.size = nn := hT.size
  rw [e]
  exact h hT a _ ha hw.drew _ (by rw [Nat.eq_of_beq_eq_true hr]; exact Lst.start nn)
/-! .. in which yield is called -/
theorem IL.region {id : Nat} {ops : List Oper} (h : G n w0 S l m (dq ds (wpListIn (fR r) 0 P ops.toArray Q ops))) : G n w0 S l m (dq ds ((Code.region id ops.toArray false).wpIn (fR r) 0 P Q)) := fun a w ha hw => wpIn_region_lit (h a w ha hw)
theorem IL.nil {ops : Array Oper} (h : G n w0 S l m (dq ds (Q .normal))) : G n w0 S l m (dq ds (wpListIn (fR r) 0 P ops Q [])) := h
theorem IL.op {ops : Array Oper} {o : Oper} {rest : List Oper} (hg : o.guard = none) (h : G n w0 S l m (dq ds (fun a w => o.wpIn (fR r) 0 P a w (wpListIn (fR r) 0 P ops Q rest) Q))) : G n w0 S l m (dq ds (wpListIn (fR r) 0 P ops Q (o :: rest))) := fun a w ha hw => by
  show (if Region.wanted o (yielded ops a.tmps) = true then _ else _)
  rw [if_pos (by simp [Region.wanted, hg])]
  exact h a w ha hw
theorem IL.lift {o : Oper} (hd : noDefer o = true) (h : G n w0 S l m (fun a w => o.wp P a w (dq ds K) (dqq ds Q))) : G n w0 S l m (dq ds (fun a w => o.wpIn (fR r) 0 P a w K Q)) := fun a w ha hw => wpIn_of_wp (noDefer_spec hd) (h a w ha hw)
/-- what a call of yield does -/
def TrY (P : Program) (lp : Nat) (args : Array Value) (pre : List Ck) (post : Value → List Ck → Prop) : Prop :=
  ∀ w, Hp w (U pre) w pre → YieldAt Fence.wide 0 P lp args w fun e w' => ∃ v m', e = .returned v ∧ post v m' ∧ Hp w (U pre) w' m'
theorem IL.yield {X : Type} {J : X → Prop} {V : X → Value} {M M' : X → List Ck} {o : Oper} {d lp : Nat} {x : Operand} {xs : List Operand} {ts : Array TypeId} {vs : List Value} {pre q : List Ck} (hd : o.dst = some d) (hn : Nat.blt d n = true)
    (ho : o.op = .call { callee := .value x, args := xs.toArray, argTypes := ts }) (hv : ev l x = some (.func (.yield lp) #[] #[])) (hx : evs l xs = some vs)
    (hm : Sub m pre q) (ht : TrY P lp vs.toArray pre (TX J V M)) (hM : Ap M q M') (h : ∀ x, J x → G n w0 S ((d, V x) :: l) (M' x) (dq ds K)) : G n w0 S l m (dq ds (fun a w => o.wpIn (fR none) 0 P a w K Q)) := fun a w ha hw => by
  have hw' := hw.perm hm.perm
  have hp : Hp w (U pre) w pre := ⟨Chg.refl _ _, fun c hc => hw'.holds c (List.mem_append_left _ hc), fun c hc b hb => ⟨.inl ⟨c, hc, hb⟩, (hw'.own c (List.mem_append_left _ hc) b hb).2⟩, (List.pairwise_append.1 hw'.dis).1⟩
  obtain ⟨fn, tmps, assign, body, hy, hR⟩ := ht w hp
  refine ⟨fun _ _ => trivial, ?_⟩
  have hrun : (o.semAt (fR none).round (da ds a).eval).run P w = .ok (.round lp fn tmps assign body) w := by
    rw [da_eval]
    show (execOp a.eval o).run P w = _
    have e1 : xs.toArray.map a.eval = vs.toArray := by rw [← ha.evs hx]; simp
    simp [execOp, ho, resolve, Deferred.ofValue, e1, ha.eval hv, invoke, Sem.run_bind, Sem.run_pure, Result.andThen, hy]
  rw [hrun, Oper.uponIn_round]
  refine ⟨fun h => by simp [fR, Fence.wide] at h, hR.mono ?_⟩
  rintro e w2 ⟨v, m', rfl, ⟨x, hJ, rfl, rfl⟩, hm'⟩
  show K ((da ds a).put _ _) _
  rw [da_put, hd]
  have := hw'.turn hm'
  rw [hM.eq x] at this
  exact h x hJ _ _ (ha.put hn _) this

/-! an iterator's contract -/
def SeqT (P : Program) (g : FuncId) (lb : Array Value) (ro pre : List Ck) (nn : Nat) (encs : Nat → List Value) : Prop :=
  ∀ (lp : Nat) (X : Type) (J : Bool → Nat → X → Prop) (C : Bool → Nat → X → Ck) (x0 : X), J true 0 x0 →
    (∀ i x, i < nn → J true i x → TrY P lp (encs i).toArray [C true i x] (TX (fun z : Bool × X => J z.1 (i + 1) z.2) (fun z => .bool z.1) (fun z => [C z.1 (i + 1) z.2]))) →
    Tr P g (#[.func (.yield lp) #[] #[]] ++ lb) ro (C true 0 x0 :: pre) (TX (fun z : Bool × Nat × X => J z.1 z.2.1 z.2.2 ∧ z.2.1 ≤ nn ∧ (z.1 = true → z.2.1 = nn)) (fun _ => .tuple #[]) (fun z => [C z.1 z.2.1 z.2.2]))
theorem Tr.ofI {f : FuncId} {args : Array Value} {ro pre : List Ck} {post : Value → List Ck → Prop} {fn : Func} {c : Code} {n : Nat} {l : Fr} (hf : P.funcs[f]? = some fn) (hb : fn.body = some c) (hn : args.size + (fn.ntmps - args.size) = n) (hl : Fa args l)
    (h : ∀ w0, (∀ c ∈ ro, Ro w0 (U pre) c) → G n w0 (U pre) l pre (dq [] (c.wpIn (fR none) 0 P (bodyPost P fn (TrR w0 pre post))))) : Tr P f args ro pre post := fun w hro hp => by
  refine (callsIn_wide (n := 0)).1 (calls_wide (r := none) (callsIn_of_wp hf hb trivial ?_))
  have hA : At { tmps := args ++ Array.replicate (fn.ntmps - args.size) undef, defers := [] } n l := ⟨by simp [hn], rfl, fun t v ht => by
    have := hl.get t v ht
    rw [Array.getElem?_append_left]
    · exact this
    · exact (Array.getElem?_eq_some_iff.1 this).1⟩
  exact h w hro _ _ hA hp

/-! the loop over a function -/
def lpc (b : Nat) (x : Loop) : Ck := ⟨(· = b), fun w => w.heap[b]? = some (.loop x), fun w w' h hw => (h b rfl).trans hw⟩
def dfc (b : Nat) : Ck := ⟨(· = b), fun w => w.heap[b]? = some (.deferred (some [])), fun w w' h hw => (h b rfl).trans hw⟩
def obc (b : Nat) (o : Obj) : Ck := ⟨(· = b), fun w => w.heap[b]? = some o, fun w w' h hw => (h b rfl).trans hw⟩
theorem Hp.allocO {w : World} (hw : Hp w0 S w m) (o : Obj) : Hp w0 S (w.alloc o) (obc w.heap.size o :: m) := by
  refine hw.adds (m' := [obc w.heap.size o]) ⟨Chg.none_of_below ((Below.refl _ w).alloc (Nat.le_refl _) o), fun c hc => ?_, fun c hc b hb => ?_, by simp⟩
  · obtain rfl : c = _ := by simpa using hc
    exact World.alloc_heap_new w o
  · obtain rfl : c = _ := by simpa using hc
    obtain rfl : b = w.heap.size := hb
    exact ⟨.inr (Nat.le_refl _), by simp⟩
theorem Hp.putO {w : World} {b : Nat} {o : Obj} {q : List Ck} (o' : Obj) (hw : Hp w0 S w (obc b o :: q)) : Hp w0 S (w.putObj b o') (obc b o' :: q) := by
  have hb := (hw.own _ (List.mem_cons_self ..) b rfl).2
  refine hw.turn (p := [obc b o]) (r := q) (p' := [obc b o']) ⟨⟨rfl, rfl, rfl, by simp, fun k hk hS => World.putObj_heap_other fun e => hS ⟨_, List.mem_cons_self .., e⟩⟩, fun c hc => ?_, fun c hc k hk => ?_, by simp⟩
  · obtain rfl : c = _ := by simpa using hc
    exact World.putObj_heap_same hb
  · obtain rfl : c = _ := by simpa using hc
    obtain rfl : k = b := hk
    exact ⟨.inl ⟨_, List.mem_cons_self .., rfl⟩, by simpa using hb⟩
end
end Go.Proofs.Ytchgaedidfefoaa

/- A walk by chunks: the loop over a function, and how a function that holds one ends. Conditions: none. -/
set_option linter.unusedVariables false
set_option linter.unusedSimpArgs false
namespace Go.Proofs.Ytchgaedidfefoaa
open Go.RowKit

def mark (D : Nat) : List Deferred := [{ target := .collected D, args := #[] }]
def dfr (D : Nat) : Ck := obc D (.deferred (some []))
/-- how a round ends: its letters, and by which jump the loop is left -/
def rnd {X : Type} (w1 : World) (S1 : Nat → Prop) (J : Bool → Nat → X → Prop) (B : Bool → Nat → X → List Ck) (jmp : X → Code) (c : Ck) (i : Nat) : Exit → Act → World → Prop
  | .normal, _, w => ∃ y, J true (i + 1) y ∧ Hp w1 S1 w (c :: B true (i + 1) y)
  | .ret, _, w => ∃ y, J false (i + 1) y ∧ jmp y = .ret ∧ Hp w1 S1 w (c :: B false (i + 1) y)
  | .exit k, _, w => ∃ y, J false (i + 1) y ∧ jmp y = .exit k ∧ Hp w1 S1 w (c :: B false (i + 1) y)
  | _, _, _ => False
section
variable {P : Program} {n : Nat} {w0 : World} {S : Nat → Prop} {l : Fr} {m : List Ck} {Q : Exit → Act → World → Prop} {K : Act → World → Prop} {r : Option Nat} {ds : List Deferred}
theorem noOut {w1 : World} {pre : List Ck} {post : Value → List Ck → Prop} {w : World} (h : TrR w1 pre post .outgrown w) : False := by
  obtain ⟨_, _, h, _⟩ := h
  cases h
theorem I.rN {X : Type} {J : Bool → Nat → X → Prop} {B : Bool → Nat → X → List Ck} {jmp : X → Code} {c : Ck} {i : Nat} {q : List Ck} (y : X) (hJ : J true (i + 1) y) (hs : Sub m (c :: B true (i + 1) y) q) : G n w0 S l m (dq ds (rnd w0 S J B jmp c i .normal)) := fun a w ha hw =>
  ⟨y, hJ, (hw.perm hs.perm).sub (List.sublist_append_left _ _)⟩
theorem I.rR {X : Type} {J : Bool → Nat → X → Prop} {B : Bool → Nat → X → List Ck} {jmp : X → Code} {c : Ck} {i : Nat} {q : List Ck} (y : X) (hJ : J false (i + 1) y) (hj : jmp y = .ret) (hs : Sub m (c :: B false (i + 1) y) q) : G n w0 S l m (dq ds (rnd w0 S J B jmp c i .ret)) := fun a w ha hw =>
  ⟨y, hJ, hj, (hw.perm hs.perm).sub (List.sublist_append_left _ _)⟩
theorem I.rX {X : Type} {J : Bool → Nat → X → Prop} {B : Bool → Nat → X → List Ck} {jmp : X → Code} {c : Ck} {i k : Nat} {q : List Ck} (y : X) (hJ : J false (i + 1) y) (hj : jmp y = .exit k) (hs : Sub m (c :: B false (i + 1) y) q) : G n w0 S l m (dq ds (rnd w0 S J B jmp c i (.exit k))) := fun a w ha hw =>
  ⟨y, hJ, hj, (hw.perm hs.perm).sub (List.sublist_append_left _ _)⟩
/-- the end of the assignments ahead of a round -/
theorem I.asg {l' : Fr} {Q' : Exit → Act → World → Prop} (hl : Fw l l') : G n w0 S l m (dq [] (Exit.then (fun a w => At a n l' ∧ Hp w0 S w m) Q' .normal)) := fun a w ha hw => by
  unfold dq
  rw [da_nil ha]
  exact ⟨ha.weak hl, hw⟩
/-- the record of a loop -/
def recL (fn : FuncId) (tmps : Array Value) (p1 p2 : Nat) (assign body : Code) (D : Nat) (st : LoopState) (pe : Option Code) : Loop := { state := st, pending := pe, fn, tmps, params := #[p1, p2], assign, body, defers := D }
def stL (b : Bool) : LoopState := if b then .ready else .done
def peL {X : Type} (jmp : X → Code) (b : Bool) (x : X) : Option Code := if b then none else some (jmp x)
def cL {X : Type} (rc : LoopState → Option Code → Loop) (lp D : Nat) (B : Bool → Nat → X → List Ck) (jmp : X → Code) (b : Bool) (i : Nat) (x : X) : Ck := star (obc lp (.loop (rc (stL b) (peL jmp b x))) :: dfr D :: B b i x)
theorem I.fin {X : Type} {fnx p1 p2 D lp i : Nat} {tmps : Array Value} {assign body : Code} {J : Bool → Nat → X → Prop} {B : Bool → Nat → X → List Ck} {jmp : X → Code} {w1 w4 : World} {S1 : Nat → Prop} {b : Bool} {jump : Option Code} {y : X}
    (hJ : J b (i + 1) y) (hj : jump = peL jmp b y) (hH : Hp w1 S1 w4 (star [obc lp (.loop (recL fnx tmps p1 p2 assign body D .busy none)), dfr D] :: B b (i + 1) y)) :
    ∃ v w5, (Instr.endRound lp jump).run P w4 = .ok v w5 ∧ ∃ v' m', Ending.returned v = .returned v' ∧ TX (fun z : Bool × X => J z.1 (i + 1) z.2) (fun z => .bool z.1) (fun z => [cL (recL fnx tmps p1 p2 assign body D) lp D B jmp z.1 (i + 1) z.2]) v' m' ∧ Hp w1 S1 w5 m' := by
  have hH5 := Hp.unstar (m := [_, _]) hH
  have hl4 : w4.heap[lp]? = some (.loop (recL fnx tmps p1 p2 assign body D .busy none)) := hH5.holds _ (List.mem_cons_self ..)
  have her := run_endRound (P := P) jump hl4
  have ev : jump.isNone = b := by
    rw [hj]
    cases b <;> rfl
  have eR : ({ (recL fnx tmps p1 p2 assign body D .busy none) with state := if jump.isNone then .ready else .done, pending := jump } : Loop) = recL fnx tmps p1 p2 assign body D (stL b) (peL jmp b y) := by
    rw [ev, hj]
    rfl
  rw [eR, ev] at her
  have hH6 := Hp.putO (.loop (recL fnx tmps p1 p2 assign body D (stL b) (peL jmp b y))) hH5
  refine ⟨_, _, her, _, _, rfl, ⟨(b, y), hJ, rfl, rfl⟩, ?_⟩
  refine Hp.star (m := _ :: _ :: B b (i + 1) y) (r := []) ?_
  rw [List.append_nil]
  exact hH6
theorem I.round {X : Type} {fnx p1 p2 D lp i : Nat} {a : Act} {assign body : Code} {v1 v2 : Value} {l2 : Fr} {J : Bool → Nat → X → Prop} {B : Bool → Nat → X → List Ck} {jmp : X → Code} {x : X} (ha : At a n l) (hp1 : Nat.blt p1 n = true) (hp2 : Nat.blt p2 n = true)
    (hassign : ∀ w1 S1 m1, G n w1 S1 ((p2, v2) :: (p1, v1) :: l) m1 (dq [] (assign.wpIn (fR (some lp)) 0 P (Exit.then (fun a w => At a n l2 ∧ Hp w1 S1 w m1) (fun _ _ _ => False)))))
    (hbody : ∀ w1 S1 c, G n w1 S1 l2 (c :: B true i x) (dq [] (body.wpIn (fR (some lp)) 0 P (rnd w1 S1 J B jmp c i)))) :
    TrY P lp [v1, v2].toArray [cL (recL fnx a.tmps p1 p2 assign body D) lp D B jmp true i x] (TX (fun z : Bool × X => J z.1 (i + 1) z.2) (fun z => .bool z.1) (fun z => [cL (recL fnx a.tmps p1 p2 assign body D) lp D B jmp z.1 (i + 1) z.2])) := by
  intro w1 hw1
  have hds : a.defers = [] := ha.defs
  obtain ⟨S1, hS1⟩ : ∃ S1, U [cL (recL fnx a.tmps p1 p2 assign body D) lp D B jmp true i x] = S1 := ⟨_, rfl⟩
  rw [hS1] at hw1 ⊢
  have hu : Hp w1 S1 w1 (obc lp (.loop (recL fnx a.tmps p1 p2 assign body D .ready none)) :: dfr D :: B true i x) := by
    have := Hp.unstar hw1
    rw [List.append_nil] at this
    exact this
  have hl : w1.heap[lp]? = some (.loop (recL fnx a.tmps p1 p2 assign body D .ready none)) := hu.holds _ (List.mem_cons_self ..)
  have hy := run_yield (P := P) (args := #[v1, v2]) hl rfl
  refine ⟨_, _, _, _, hy, roundIn_of_wpIn (F := Fence.wide) trivial ?_⟩
  have hA : At (n := n) { tmps := (a.tmps.setIfInBounds p1 v1).setIfInBounds p2 v2, defers := [] } ((p2, v2) :: (p1, v1) :: l) := by
    have h2 := (ha.put hp1 v1).put hp2 v2
    have e : ((a.put (some p1) v1).put (some p2) v2) = { tmps := (a.tmps.setIfInBounds p1 v1).setIfInBounds p2 v2, defers := [] } := by
      simp [Act.put, hds]
    rwa [e] at h2
  have h3 := hassign w1 S1 _ _ w1 hA hu
  unfold dq at h3
  rw [da_nil hA] at h3
  have eT : ((#[p1, p2] : Array Nat).zip #[v1, v2]).foldl (fun t (x : Nat × Value) => t.setIfInBounds x.1 x.2) a.tmps = (a.tmps.setIfInBounds p1 v1).setIfInBounds p2 v2 := by simp
  show assign.wpIn (fR (some lp)) 0 P _ { tmps := ((#[p1, p2] : Array Nat).zip #[v1, v2]).foldl (fun t (x : Nat × Value) => t.setIfInBounds x.1 x.2) a.tmps, defers := [] } w1
  rw [eT]
  refine wpIn_mono h3 ?_
  intro e a1 w2 hq
  cases e with
  | exit id => exact hq.elim
  | goto t => exact hq.elim
  | ret => exact hq.elim
  | panic ch => exact hq.elim
  | outgrown => exact hq.elim
  | normal =>
    obtain ⟨hA1, hH1⟩ := hq
    have hl1 : w2.heap[lp]? = some (.loop (recL fnx a.tmps p1 p2 assign body D .ready none)) := hH1.holds _ (List.mem_cons_self ..)
    have hbr := run_beginRound (P := P) hl1 rfl
    refine ⟨_, hbr, ?_⟩
    have hH2 := Hp.putO (.loop (recL fnx a.tmps p1 p2 assign body D .busy none)) hH1
    have hH3 := Hp.star (m := [_, _]) (r := B true i x) hH2
    have h4 := hbody w1 S1 _ a1 _ hA1 hH3
    unfold dq at h4
    rw [da_nil hA1] at h4
    refine wpIn_mono h4 ?_
    intro e a2 w4 hq
    cases e with
    | normal =>
      obtain ⟨y, hJy, hH4⟩ := hq
      exact I.fin (b := true) hJy rfl hH4
    | ret =>
      obtain ⟨y, hJy, hj, hH4⟩ := hq
      exact I.fin (b := false) hJy (by rw [← hj]; rfl) hH4
    | exit k =>
      obtain ⟨y, hJy, hj, hH4⟩ := hq
      exact I.fin (b := false) hJy (by rw [← hj]; rfl) hH4
    | goto t => exact hq.elim
    | panic ch => exact hq.elim
    | outgrown => exact hq.elim
theorem I.rangeF {X : Type} {gf nn p1 p2 : Nat} {lb : Array Value} {ro pre q : List Ck} {encs : Nat → Value × Value} {g : Operand} {assign body : Code} {fn : Func} {c : Code}
    (J : Bool → Nat → X → Prop) (B : Bool → Nat → X → List Ck) (jmp : X → Code) (L2 : Nat → Fr) {x0 : X}
    (hg : ev l g = some (.func (.func gf) #[] lb)) (hf : P.funcs[gf]? = some fn) (hb : fn.body = some c) (hnm : (fn.name == "runtime.NumGoroutine") = false)
    (hseq : SeqT P gf lb ro pre nn (fun i => [(encs i).1, (encs i).2]))
    (hm : Sub m (B true 0 x0 ++ pre) q) (hro : ∀ c ∈ ro, May w0 S q c) (h0 : J true 0 x0)
    (hp1 : Nat.blt p1 n = true) (hp2 : Nat.blt p2 n = true)
    (hassign : ∀ w1 S1 lp m1 i, i < nn → G n w1 S1 ((p2, (encs i).2) :: (p1, (encs i).1) :: l) m1 (dq [] (assign.wpIn (fR (some lp)) 0 P (Exit.then (fun a w => At a n (L2 i) ∧ Hp w1 S1 w m1) (fun _ _ _ => False)))))
    (hbody : ∀ w1 S1 lp c i x, i < nn → J true i x → G n w1 S1 (L2 i) (c :: B true i x) (dq [] (body.wpIn (fR (some lp)) 0 P (rnd w1 S1 J B jmp c i))))
    (hdone : ∀ D x, J true nn x → G n w0 S l (dfr D :: (B true nn x ++ q)) (dq (mark D) (Q .normal)))
    (hstop : ∀ D i x, i ≤ nn → J false i x → G n w0 S l (dfr D :: (B false i x ++ q)) (dq (mark D) ((jmp x).wpIn (fR none) 0 P Q))) :
    G n w0 S l m (dq [] ((Code.rangeFunc g #[p1, p2] assign body).wpIn (fR none) 0 P Q)) := fun a w ha hw => by
  unfold dq
  rw [da_nil ha]
  have hds : a.defers = [] := ha.defs
  have hw' := hw.perm hm.perm
  refine wpIn_rangeFunc (F := fR none) (n := 0) ?_
  intro fnx _
  obtain ⟨W1, hW1⟩ : ∃ W1, (w.alloc (.deferred (some []))).alloc (.loop (recL fnx a.tmps p1 p2 assign body w.heap.size .ready none)) = W1 := ⟨_, rfl⟩
  have hp1W : Hp w0 S W1 (cL (recL fnx a.tmps p1 p2 assign body w.heap.size) (w.heap.size + 1) w.heap.size B jmp true 0 x0 :: pre ++ q) := by
    rw [← hW1]
    have h2 := (hw'.allocO (.deferred (some []))).allocO (.loop (recL fnx a.tmps p1 p2 assign body w.heap.size .ready none))
    rw [World.size_alloc, List.append_assoc] at h2
    exact Hp.star (m := _ :: _ :: B true 0 x0) (r := pre ++ q) h2
  have hT := hseq (w.heap.size + 1) X J (cL (recL fnx a.tmps p1 p2 assign body w.heap.size) (w.heap.size + 1) w.heap.size B jmp) x0 h0 fun i x hi hJ => I.round ha hp1 hp2 (fun w1 S1 m1 => hassign w1 S1 _ m1 i hi) (fun w1 S1 c => hbody w1 S1 _ c i x hi hJ)
  have hpp : Hp W1 (U (cL (recL fnx a.tmps p1 p2 assign body w.heap.size) (w.heap.size + 1) w.heap.size B jmp true 0 x0 :: pre)) W1 (cL (recL fnx a.tmps p1 p2 assign body w.heap.size) (w.heap.size + 1) w.heap.size B jmp true 0 x0 :: pre) := ⟨Chg.refl _ _, fun c hc => hp1W.holds c (List.mem_append_left _ hc), fun c hc b hb => ⟨.inl ⟨c, hc, hb⟩, (hp1W.own c (List.mem_append_left _ hc) b hb).2⟩, (List.pairwise_append.1 hp1W.dis).1⟩
  have hcall := hT W1 (fun c hc => (hro c hc).ro hp1W) hpp
  have henter : (Instr.enterLoop fnx a.tmps #[p1, p2] assign body (fR none).round).run P w = .ok (w.heap.size + 1, mark w.heap.size) W1 := by
    rw [← hW1]
    exact run_enterLoop_outer _ _ _ _ _
  have hres : (resolve a.eval (rangeCall g (w.heap.size + 1)) 0).run P W1 = .ok { target := .fn (.func gf) lb, args := #[.func (.yield (w.heap.size + 1)) #[] #[]] } W1 := by
    simp only [resolve, rangeCall, ha.eval hg]
    simp [Deferred.ofValue, Sem.run_bind, Sem.run_pure, Result.andThen, Act.eval, Sem.run]
  have hinv := run_invokeF (P := P) (args := #[.func (.yield (w.heap.size + 1)) #[] #[]]) (cap := lb) hf hb hnm W1
  have hz : (fR none).depth.isSome = true → 1 ≤ 0 := fun h => by simp [fR, Fence.wide] at h
  suffices hfin : CallsIn (fR none) 0 P gf (#[.func (.yield (w.heap.size + 1)) #[] #[]] ++ lb) W1 (rangePost (fR none) 0 P (w.heap.size + 1) Q { a with defers := mark w.heap.size ++ a.defers }) from
    ⟨w.heap.size + 1, mark w.heap.size, W1, _, W1, gf, _, W1, henter, hres, fun _ _ => trivial, hinv, hz, hfin⟩
  refine calls_fR (callsIn_wide.2 (hcall.mono ?_))
  rintro e w3 ⟨v, m', rfl, ⟨⟨b, i, y⟩, ⟨hJ, hle, hall⟩, rfl, rfl⟩, hm'⟩
  have hu2 := Hp.unstar (m := _ :: _ :: B b i y) (r := q) (hp1W.turn hm')
  have hl3 : w3.heap[w.heap.size + 1]? = some (.loop (recL fnx a.tmps p1 p2 assign body w.heap.size (stL b) (peL jmp b y))) := hu2.holds _ (List.mem_cons_self ..)
  have hend := run_endLoop (P := P) hl3 (by cases b <;> simp [recL, stL])
  have hu3 := (Hp.putO (.loop { recL fnx a.tmps p1 p2 assign body w.heap.size (stL b) (peL jmp b y) with state := .exhausted }) hu2).tail
  have eD : ({ a with defers := mark w.heap.size ++ a.defers } : Act) = da (mark w.heap.size) a := by
    unfold da
    rw [hds]
    rfl
  refine ⟨_, _, hend, ?_⟩
  rw [eD]
  cases b with
  | true =>
    have hJ' : i = nn := hall rfl
    subst hJ'
    exact hdone _ y hJ a _ ha hu3
  | false => exact hstop _ i y hle hJ a _ ha hu3

theorem I.rangeK {X : Type} {gf nn p1 p2 : Nat} {lb : Array Value} {ro pre q : List Ck} {encs : Nat → Value × Value} {g : Operand} {assign body : Code} {fn : Func} {c : Code}
    (J : Bool → Nat → X → Prop) (B : Bool → Nat → X → List Ck) (jmp : X → Code) (A : Nat → Fr) {x0 : X} {ts : List Nat} {l1 : Fr} {L2 : Nat → Fr}
    (hg : ev l g = some (.func (.func gf) #[] lb)) (hf : P.funcs[gf]? = some fn) (hb : fn.body = some c) (hnm : (fn.name == "runtime.NumGoroutine") = false)
    (hseq : SeqT P gf lb ro pre nn (fun i => [(encs i).1, (encs i).2]))
    (hm : Sub m (B true 0 x0 ++ pre) q) (hro : ∀ c ∈ ro, May w0 S q c) (h0 : J true 0 x0)
    (hp1 : Nat.blt p1 n = true) (hp2 : Nat.blt p2 n = true) (hk : Kp l ts l1) (hL : Ap A l1 L2)
    (hassign : ∀ w1 S1 lp m1 i, i < nn → G n w1 S1 ((p2, (encs i).2) :: (p1, (encs i).1) :: l) m1 (dq [] (assign.wpIn (fR (some lp)) 0 P (Exit.then (fun a w => At a n (L2 i) ∧ Hp w1 S1 w m1) (fun _ _ _ => False)))))
    (hbody : ∀ w1 S1 lp c i x, i < nn → J true i x → G n w1 S1 (L2 i) (c :: B true i x) (dq [] (body.wpIn (fR (some lp)) 0 P (rnd w1 S1 J B jmp c i))))
    (hdone : ∀ D x, J true nn x → G n w0 S l (dfr D :: (B true nn x ++ q)) (dq (mark D) (Q .normal)))
    (hstop : ∀ D i x, i ≤ nn → J false i x → G n w0 S l (dfr D :: (B false i x ++ q)) (dq (mark D) ((jmp x).wpIn (fR none) 0 P Q))) :
    G n w0 S l m (dq [] ((Code.rangeFunc g #[p1, p2] assign body).wpIn (fR none) 0 P Q)) :=
  I.rangeF J B jmp L2 hg hf hb hnm hseq hm hro h0 hp1 hp2 hassign hbody hdone hstop

/-! how such a function ends -/
theorem Tr.ofM {f : FuncId} {args : Array Value} {ro pre : List Ck} {post : Value → List Ck → Prop} {fn : Func} {c : Code} {n : Nat} {l : Fr} (hf : P.funcs[f]? = some fn) (hb : fn.body = some c) (hn : args.size + (fn.ntmps - args.size) = n) (hl : Fa args l)
    (h : ∀ w0, (∀ c ∈ ro, Ro w0 (U pre) c) → G n w0 (U pre) l pre (dq [] (c.wpIn (fR none) 0 P (bodyPostM (fR none) 0 P fn (TrR w0 pre post))))) : Tr P f args ro pre post := fun w hro hp => by
  refine (callsIn_wide (n := 0)).1 (calls_wide (r := none) (callsIn_of_wp_marks hf hb trivial ?_))
  have hA : At { tmps := args ++ Array.replicate (fn.ntmps - args.size) undef, defers := [] } n l := ⟨by simp [hn], rfl, fun t v ht => by
    have := hl.get t v ht
    rw [Array.getElem?_append_left]
    · exact this
    · exact (Array.getElem?_eq_some_iff.1 this).1⟩
  exact h w hro _ _ hA hp
theorem I.leave {fn : Func} {R : Ending → World → Prop} {D : Nat} {q : List Ck} {rs : List ResultVar} {vs : List Value} (hr : fn.results = rs.toArray) (hs : Sel m (dfr D) q) (hv : Rv P w0 S l q rs vs) (h : ∀ w, Hp w0 S w q → R (.returned (retV vs)) w) : G n w0 S l m (dq (mark D) (bodyPostM (fR none) 0 P fn R .ret)) := fun a w ha hw => by
  have hw2 := hw.sel hs
  show LeavesInM (fR none) 0 P fn a.tmps R (a.defers ++ mark D) .returning w
  rw [ha.defs]
  have hw3 := (Hp.putO (.deferred none) hw2).tail
  exact ⟨by simp, .inl ⟨D, _, rfl, run_takeDeferred (hw2.holds _ (List.mem_cons_self ..)), _, hv.results hr ha hw3, h _ hw3⟩⟩
theorem I.leave0 {fn : Func} {R : Ending → World → Prop} {rs : List ResultVar} {vs : List Value} (hr : fn.results = rs.toArray) (hv : Rv P w0 S l m rs vs) (h : ∀ w, Hp w0 S w m → R (.returned (retV vs)) w) : G n w0 S l m (dq [] (bodyPostM (fR none) 0 P fn R .ret)) := fun a w ha hw => by
  show LeavesInM (fR none) 0 P fn a.tmps R (a.defers ++ []) .returning w
  rw [ha.defs]
  exact ⟨_, hv.results hr ha hw, h _ hw⟩
section
variable {X : Type} {J : X → Prop} {V : X → Value} {M : X → List Ck} {fn : Func} {pre q q2 : List Ck} {rs : List ResultVar} {vs : List Value} {D : Nat} {v : Value}
theorem I.doneM (x : X) (hJ : J x) (hr : fn.results = rs.toArray) (hs : Sel m (dfr D) q) (hv : Rv P w0 (U pre) l q rs vs) (he : retV vs = V x) (hm : Sub q (M x) q2) : G n w0 (U pre) l m (dq (mark D) (bodyPostM (fR none) 0 P fn (TrR w0 pre (TX J V M)) .ret)) :=
  I.leave hr hs hv fun w hw => ⟨_, M x, rfl, ⟨x, hJ, he, rfl⟩, (hw.perm hm.perm).sub (List.sublist_append_left _ _)⟩
theorem I.doneM0 (x : X) (hJ : J x) (hr : fn.results = rs.toArray) (hv : Rv P w0 (U pre) l m rs vs) (he : retV vs = V x) (hm : Sub m (M x) q2) : G n w0 (U pre) l m (dq [] (bodyPostM (fR none) 0 P fn (TrR w0 pre (TX J V M)) .ret)) :=
  I.leave0 hr hv fun w hw => ⟨_, M x, rfl, ⟨x, hJ, he, rfl⟩, (hw.perm hm.perm).sub (List.sublist_append_left _ _)⟩
theorem I.doneT (hr : fn.results = rs.toArray) (hs : Sel m (dfr D) q) (hv : Rv P w0 (U pre) l q rs vs) (he : retV vs = v) : G n w0 (U pre) l m (dq (mark D) (bodyPostM (fR none) 0 P fn (TrR w0 pre (T0 v)) .ret)) :=
  I.leave hr hs hv fun w hw => ⟨_, [], rfl, ⟨he, rfl⟩, hw.sub (List.nil_sublist _)⟩
theorem I.doneT0 (hr : fn.results = rs.toArray) (hv : Rv P w0 (U pre) l m rs vs) (he : retV vs = v) : G n w0 (U pre) l m (dq [] (bodyPostM (fR none) 0 P fn (TrR w0 pre (T0 v)) .ret)) :=
  I.leave0 hr hv fun w hw => ⟨_, [], rfl, ⟨he, rfl⟩, hw.sub (List.nil_sublist _)⟩
/-- an iterator's end -/
theorem I.doneI (x : X) (hJ : J x) (hr : fn.results = #[]) (he : .tuple #[] = V x) (hm : Sub m (M x) q2) : G n w0 (U pre) l m (dq [] (bodyPost P fn (TrR w0 pre (TX J V M)) .normal)) := I.stop (G.doneXE x hJ hr he hm)
theorem I.doneIr (x : X) (hJ : J x) (hr : fn.results = #[]) (he : .tuple #[] = V x) (hm : Sub m (M x) q2) : G n w0 (U pre) l m (dq [] (bodyPost P fn (TrR w0 pre (TX J V M)) .ret)) := I.stop (G.doneX0 x hJ hr he hm)
end
end
end Go.Proofs.Ytchgaedidfefoaa

/- A walk by chunks: a slice of the call's own as its block, and back. Conditions: none. -/
set_option linter.unusedVariables false
set_option linter.unusedSimpArgs false
namespace Go.Proofs.Ytchgaedidfefoaa
open Go.RowKit
section
variable {P : Program} {n : Nat} {w0 : World} {S : Nat → Prop} {l : Fr} {m : List Ck} {Q : Exit → Act → World → Prop} {K : Act → World → Prop}
theorem own_blk {w : World} {e sz k : Nat} {v : Value} {cs : List Value} (hk : 0 < k) (h : w.ownsRow 0 e sz v k cs) : ∃ g cap sp, v = .slice (some ⟨g, 0, none⟩) k cap ∧ k ≤ cap ∧ cap ≤ 9223372036854775807 ∧ (cs ++ sp).length = cap * sz ∧ w.heap[g]? = some (.cells (cs ++ sp).toArray e (0, 0)) := by
  obtain ⟨h1, ⟨rfl, h2⟩ | ⟨g, cap, cur, rfl, _, hg, hc, hm, hs, ht⟩⟩ := h
  · omega
  · have e1 : cs ++ cur.toList.drop (k * sz) = cur.toList := by rw [← ht]; exact List.take_append_drop _ _
    refine ⟨g, cap, cur.toList.drop (k * sz), rfl, hc, by unfold maxLen at hm; omega, ?_, ?_⟩
    · rw [e1]; simpa using hs
    · rw [e1]; simpa using hg
/-- the block of a slice that has elements -/
theorem G.ownTo {e sz k : Nat} {v : Value} {cs : List Value} {r : List Ck} (hs : Sel m (own e sz v k cs) r) (hk : 0 < k)
    (h : ∀ g cap sp, v = .slice (some ⟨g, 0, none⟩) k cap → k ≤ cap → cap ≤ 9223372036854775807 → (cs ++ sp).length = cap * sz → cs.length = k * sz → G n w0 S l (blk g e (cs ++ sp) :: r) K) : G n w0 S l m K := fun a w ha hw => by
  have hw' := hw.sel hs
  have ho : w.ownsRow 0 e sz v k cs := hw'.holds _ (List.mem_cons_self ..)
  obtain ⟨g, cap, sp, rfl, hc, hm, hl, hg⟩ := own_blk hk ho
  refine h g cap sp rfl hc hm hl ho.1 a w ha (hp_view (c := own e sz (.slice (some ⟨g, 0, none⟩) k cap) k cs) (d := blk g e (cs ++ sp)) hw' (fun _ => hg) fun b hb => ?_)
  obtain rfl : b = g := hb
  rfl
/-- .. and back -/
theorem G.ownOf {e sz k g cap : Nat} {cs sp : List Value} {r : List Ck} (hs : Sel m (blk g e (cs ++ sp)) r) (hk : cs.length = k * sz) (hc : k ≤ cap) (hm : cap ≤ 9223372036854775807) (hl : (cs ++ sp).length = cap * sz)
    (h : G n w0 S l (own e sz (.slice (some ⟨g, 0, none⟩) k cap) k cs :: r) K) : G n w0 S l m K := fun a w ha hw => by
  have hw' := hw.sel hs
  refine h a w ha (hp_view (c := blk g e (cs ++ sp)) (d := own e sz (.slice (some ⟨g, 0, none⟩) k cap) k cs) hw' (fun hg => ?_) fun b hb => ?_)
  · have hg : w.heap[g]? = some (.cells (cs ++ sp).toArray e (0, 0)) := hg
    exact ⟨hk, .inr ⟨g, cap, _, rfl, Nat.zero_le _, hg, hc, by unfold maxLen; omega, by simpa using hl, by rw [← hk]; simp⟩⟩
  · have : some g = some b := hb
    injection this with this
    exact this.symm
theorem rd1 {α : Type} {f : α → Value} {xs : List α} {sp : List Value} {i : Nat} (h : i < xs.length) : (xs.map f ++ sp)[0 + i * 1]? = some (f xs[i]) := by
  rw [Nat.zero_add, Nat.mul_one, List.getElem?_append_left (by rw [List.length_map]; exact h), List.getElem?_map, List.getElem?_eq_getElem h]
  rfl
theorem ro_rng0 {b o : Nat} {cs : List Value} (h : Ro w0 S (rng b o cs)) : ∀ w, Hp w0 S w m → w.rangeAt b o cs := fun w hw => h.at hw
/-- a call by a function value -/
theorem G.trP {o : Oper} {d : Nat} {f : FuncId} {args : Array Value} {ro pre r : List Ck} {post : Value → List Ck → Prop} (hd : o.dst = some d) (hn : Nat.blt d n = true) (he : PE P n w0 S l m o f args)
    (ht : Tr P f args ro pre post) (hm : Sub m pre r) (hro : ∀ c ∈ ro, May w0 S r c) (h : ∀ v m', post v m' → G n w0 S ((d, v) :: l) (m' ++ r) K) : G n w0 S l m (fun a w => o.wp P a w K Q) := fun a w ha hw => by
  have hw' := hw.perm hm.perm
  have hp : Hp w (U pre) w pre := ⟨Chg.refl _ _, fun c hc => hw'.holds c (List.mem_append_left _ hc), fun c hc b hb => ⟨.inl ⟨c, hc, hb⟩, (hw'.own c (List.mem_append_left _ hc) b hb).2⟩, (List.pairwise_append.1 hw'.dis).1⟩
  have hc := ht w (fun c hc => (hro c hc).ro hw') hp
  show Oper.wp P o a w K Q
  unfold Oper.wp
  rw [he a w ha hw, Oper.upon_enter]
  refine hc.mono ?_
  rintro e w2 ⟨v, m', rfl, hpost, hm'⟩
  show K (a.put o.dst v) w2
  rw [hd]
  exact h v m' hpost _ _ (ha.put hn v) (hw'.turn hm')
theorem G.cRv {o : Oper} {d : Nat} {x : Operand} {f : FuncId} {first captured args : Array Value} {xs : List Operand} {ts : Array TypeId} {vs : List Value} {ro : List Ck} {v : Value} (hd : o.dst = some d) (hn : Nat.blt d n = true)
    (ho : o.op = .call { callee := .value x, args := xs.toArray, argTypes := ts }) (hv : ev l x = some (.func (.func f) first captured)) (hx : evs l xs = some vs) {fn : Func} {c : Code} (hf : P.funcs[f]? = some fn) (hb : fn.body = some c) (hnm : (fn.name == "runtime.NumGoroutine") = false)
    (hargs : first ++ vs.toArray ++ captured = args) (hro : ∀ c ∈ ro, May w0 S m c) (ht : Tr P f args ro [] (T0 v)) (h : G n w0 S ((d, v) :: l) m K) : G n w0 S l m (fun a w => o.wp P a w K Q) :=
  G.trP hd hn (hargs ▸ pe_val ho hv hx hf hb hnm) ht .nil hro fun x m' ⟨hx, hm⟩ => by subst hx; subst hm; exact h
theorem OwnB.one {w : World} {e : TypeId} {v : Value} {xs : List UInt8} (h : OwnB w e v xs) : v.oneCell' = true ∧ ∃ ad cap, v = .slice ad xs.length cap := by
  rcases h with ⟨rfl, rfl⟩ | ⟨g, sp, rfl, _⟩
  · exact ⟨rfl, _, _, rfl⟩
  · exact ⟨rfl, _, _, rfl⟩
theorem G.ownBFact {e : TypeId} {v : Value} {xs : List UInt8} {r : List Ck} (hs : Sel m (ownB e v xs) r) (h : v.oneCell' = true → G n w0 S l m K) : G n w0 S l m K :=
  G.fact (p := v.oneCell' = true) (fun w hw => (OwnB.one (hw.holds _ hs.mem)).1) h
theorem G.ownBSl {e : TypeId} {v : Value} {xs : List UInt8} {r : List Ck} (hs : Sel m (ownB e v xs) r) (h : ∀ ad cap, v = .slice ad xs.length cap → G n w0 S l m K) : G n w0 S l m K := fun a w ha hw => by
  obtain ⟨_, ad, cap, hv⟩ := OwnB.one (hw.holds _ hs.mem)
  exact h ad cap hv a w ha hw
theorem run_eqSl {ty e : TypeId} (ht : P.underlying ty = some (.slice e)) (a : Option Addr) (len cap : Nat) (w : World) : ∀ d, (Op.equalIn (d + 1) ty (.slice a len cap) (.slice none 0 0)).run P w = .ok a.isNone w := fun d => by
  cases a <;> simp [Op.equalIn, Sem.run_bind, run_underlying ht, Result.andThen, Sem.run_pure]
section
variable {dst : Option Tmp} {ty : TypeId} {pos : String} {after : Array Edge} {g : Option (Nat × Bool)}
theorem pv_eqlSl0 {a : Option Addr} {len cap : Nat} {t u e : TypeId} {x y : Operand} (ht : P.underlying t = some (.slice e)) (hx : ev l x = some (.slice a len cap)) (hy : ev l y = some (.slice none 0 0)) : PV P n w0 S l m ⟨dst, .binOp .eql t x y u, ty, pos, after, g⟩ (.bool a.isNone) :=
  pv_bin hx hy (by unfold eqGuard; rfl) fun w => by
    show ((Op.equalIn Op.maxDepth t (.slice a len cap) (.slice none 0 0)) >>= fun x => pure (Value.bool x)).run P w = _
    have h := run_eqSl ht a len cap w 9999
    simp only [Sem.run_bind, show Op.maxDepth = 9999 + 1 from rfl, h, Result.andThen, Sem.run_pure]
end
end
end Go.Proofs.Ytchgaedidfefoaa

/- A walk by chunks: cells that are cleared. Conditions: none. -/
set_option linter.unusedVariables false
set_option linter.unusedSimpArgs false
namespace Go.Proofs.Ytchgaedidfefoaa
open Go.RowKit
theorem putN_len (vs : List Value) : ∀ (cs : List Value) (o : Nat), (putN cs o vs).length = cs.length := by
  induction vs with
  | nil => intro cs o; rfl
  | cons v vs ih => intro cs o; show (putN (cs.set o v) (o + 1) vs).length = _; rw [ih, List.length_set]
theorem putN_take (vs : List Value) : ∀ (cs : List Value) (o k : Nat), k ≤ o → (putN cs o vs).take k = cs.take k := by
  induction vs with
  | nil => intro cs o k _; rfl
  | cons v vs ih => intro cs o k hk; show (putN (cs.set o v) (o + 1) vs).take k = _; rw [ih _ _ _ (by omega), List.take_set_of_le hk]
theorem putN_get (vs : List Value) : ∀ (cs : List Value) (o j : Nat), o + vs.length ≤ cs.length → (putN cs o vs)[j]? = if o ≤ j ∧ j < o + vs.length then vs[j - o]? else cs[j]? := by
  induction vs with
  | nil => intro cs o j _; rw [if_neg (by rintro ⟨h1, h2⟩; rw [List.length_nil] at h2; omega)]; rfl
  | cons v vs ih =>
    intro cs o j hl
    show (putN (cs.set o v) (o + 1) vs)[j]? = _
    rw [List.length_cons] at hl
    rw [ih _ _ _ (by rw [List.length_set]; omega), List.length_cons]
    by_cases h1 : o + 1 ≤ j ∧ j < o + 1 + vs.length
    · rw [if_pos h1, if_pos ⟨by omega, by omega⟩, show j - o = (j - (o + 1)) + 1 by omega, List.getElem?_cons_succ]
    · rw [if_neg h1]
      by_cases h2 : o = j
      · subst h2
        rw [if_pos ⟨by omega, by omega⟩, List.getElem?_set_self (by omega), Nat.sub_self]
        rfl
      · rw [if_neg (by omega), List.getElem?_set_ne h2]
section
variable {P : Program} {n : Nat} {w0 : World} {S : Nat → Prop} {l : Fr} {m : List Ck} {Q : Exit → Act → World → Prop} {K : Act → World → Prop}
  {ty : TypeId} {pos : String} {after : Array Edge} {g : Option (Nat × Bool)}
theorem ro_blk {b o : Nat} {T : TypeId} {cs : List Value} {v : Value} (h : Ro w0 S (blk b T cs)) (hv : cs[o]? = some v) : ∀ w, Hp w0 S w m → w.cell? ⟨b, o, none⟩ = some v := fun w hw => by
  have hh : w.heap[b]? = some (.cells cs.toArray T (0, 0)) := h.at hw
  rw [cell_of_row _ _ _ _ _ _ hh, List.getElem?_toArray, hv]
theorem ro_range {b o k : Nat} {T : TypeId} {cs xs : List Value} (h : Ro w0 S (blk b T cs)) (hv : (cs.drop o).take k = xs) : ∀ w, Hp w0 S w m → w.rangeAt b o xs := fun w hw => blk_rngAt (h.at hw) hv
theorem G.effN {o : Oper} (hd : o.dst = none)
    (he : ∀ a w, At a n l → Hp w0 S w m → ∃ v w' m', (execOp a.eval o).run P w = .ok (.value v) w' ∧ Hp w0 S w' m' ∧ G n w0 S l m' K) : G n w0 S l m (fun a w => o.wp P a w K Q) := fun a w ha hw => by
  obtain ⟨v, w', m', hr, hw', hk⟩ := he a w ha hw
  show Oper.wp P o a w K Q
  unfold Oper.wp
  rw [hr, Oper.upon_value, hd]
  exact hk _ _ ha hw'
theorem run_clear {w : World} {t e b o k cap : Nat} {T : TypeId} {z cs : List Value} (hu : P.underlying t = some (.slice e)) (hz : (P.info? e).map (fun i => i.zero.map (·.cells)) = some (some z.toArray)) (hz1 : z.all (·.oneCell') = true) (hh : w.heap[b]? = some (.cells cs.toArray T (0, 0))) (hfit : o + k * z.length ≤ cs.length) :
    ∃ vs : List Value, vs.length = k * z.length ∧ (Builtin.clear_ #[t] ty #[.slice (some ⟨b, o, none⟩) k cap]).run P w = .ok (.tuple #[]) (w.setCells b o vs) := by
  cases hi : P.info? e with
  | none => simp [hi] at hz
  | some i =>
    cases hi2 : i.zero with
    | none => simp [hi, hi2] at hz
    | some zv =>
      have hc : zv.cells = z.toArray := by simpa [hi, hi2] using hz
      cases k with
      | zero =>
        refine ⟨[], by simp, ?_⟩
        simp [Builtin.clear_, Sem.run_bind, run_underlying hu, Result.andThen, Sem.run_pure]
        rfl
      | succ k =>
        have hlen : (Builtin.zeroCells zv.cells (k + 1)).toList.length = (k + 1) * z.length := by simp [Builtin.zeroCells, hc]
        refine ⟨(Builtin.zeroCells zv.cells (k + 1)).toList, hlen, ?_⟩
        have hst := run_storeCells_cells (P := P) b o (Builtin.zeroCells zv.cells (k + 1)).toList 0 w (fun j hj => by
            rw [hlen] at hj
            rw [cell_of_row _ _ _ _ _ _ hh, List.getElem?_toArray, List.getElem?_eq_getElem (by omega)]
            rfl) (fun j hj => frozen_of_row _ _ _ _ _ hh) (fun v hv => by
            have hv := hv
            simp only [Builtin.zeroCells, hc, Array.toList_map, Array.toList_range, List.mem_map, List.mem_range] at hv
            obtain ⟨q, hq, rfl⟩ := hv
            have hq : q < (k + 1) * z.length := by simpa using hq
            have hz0 : 0 < z.length := Nat.pos_of_ne_zero fun h => by rw [h] at hq; simp at hq
            have hm := Nat.mod_lt q hz0
            have : z.toArray[q % z.toArray.size]! = z[q % z.length] := by simp [hm, getElem!_def]
            rw [this]
            exact List.all_eq_true.1 hz1 _ (List.getElem_mem hm))
        have hzr : (zeroValue e).run P w = .ok zv w := by simp [zeroValue, typeInfo, program, Sem.run_bind, Sem.run, hi, hi2, Result.andThen, Sem.run_pure]
        simp [Builtin.clear_, Sem.run_bind, run_underlying hu, Result.andThen, Sem.run_pure, hzr]
        rw [hst]
        rfl
/-- cells of the call's own that are cleared -/
theorem G.clear {t e b o k cap : Nat} {T : TypeId} {x : Operand} {z cs : List Value} {r : List Ck} (hu : P.underlying t = some (.slice e)) (hz : (P.info? e).map (fun i => i.zero.map (·.cells)) = some (some z.toArray)) (hz1 : z.all (·.oneCell') = true) (hx : ev l x = some (.slice (some ⟨b, o, none⟩) k cap)) (hs : Sel m (blk b T cs) r) (hfit : o + k * z.length ≤ cs.length)
    (h : ∀ sp, (cs.take o ++ sp).length = cs.length → G n w0 S l (blk b T (cs.take o ++ sp) :: r) K) : G n w0 S l m (fun a w => Oper.wp P ⟨none, .call ⟨.builtin .clear, #[x], #[t]⟩, ty, pos, after, g⟩ a w K Q) := G.effN rfl fun a w ha hw => by
  have hw' := hw.sel hs
  have hh := hw'.holds _ (List.mem_cons_self ..)
  obtain ⟨vs, hvl, hr⟩ := run_clear (P := P) (ty := ty) (cap := cap) hu hz hz1 hh hfit
  have hp : putN cs o vs = cs.take o ++ (putN cs o vs).drop o := by
    rw [← putN_take vs cs o o (Nat.le_refl _), List.take_append_drop]
  refine ⟨.tuple #[], _, _, ?_, setCells_blk vs cs o hw', ?_⟩
  · simp only [execOp, resolve, invoke, builtin, Sem.run_bind, Sem.run_pure, Result.andThen_ok, List.map_toArray, List.map_cons, List.map_nil, ha.eval hx, hr]
  · rw [hp]
    exact h _ (by rw [← hp, putN_len])
/-- the bytes of a constant text: a block that is read from then on -/
theorem G.constB {t e d b : Nat} {x : Operand} {xs : List UInt8} {r : List Ck} (hn : Nat.blt d n = true) (hu : P.underlying t = some (.slice e)) (he : P.underlying e = some (.int .u8)) (hx : ev l x = some (.slice (some ⟨b, 0, none⟩) xs.length xs.length)) (hm : xs.length ≤ 9223372036854775807)
    (hs : Sel m (blk b e (xs.map vByte)) r)
    (h : G n w0 S ((d, .slice (some ⟨b, 0, none⟩) xs.length xs.length) :: l) (slc rByte (· = b) (.slice (some ⟨b, 0, none⟩) xs.length xs.length) xs :: r) K) : G n w0 S l m (fun a w => Oper.wp P ⟨some d, .convert t t x, ty, pos, after, g⟩ a w K Q) := G.eff rfl hn fun a w ha hw => by
  have hw' := hw.sel hs
  have hh : w.heap[b]? = some (.cells (xs.map vByte).toArray e (0, 0)) := hw'.holds _ (List.mem_cons_self ..)
  have hlt : b < w.heap.size := by
    rcases Nat.lt_or_ge b w.heap.size with h | h
    · exact h
    · rw [Array.getElem?_eq_none h] at hh; cases hh
  have hsh : w.shape? b = some (e, (xs.map vByte).toArray.size) := by unfold World.shape?; rw [hh]
  have hr : (convert t t (a.eval x)).run P w = .ok (.slice (some ⟨b, 0, none⟩) xs.length xs.length) (w.freeze ⟨b, (xs.map vByte).toArray.size, none⟩ 1) := by
    rw [ha.eval hx]
    simp [convert, run_underlying hu, run_underlying he, markStringish, hsh]
  have hb : (w.freeze ⟨b, (xs.map vByte).toArray.size, none⟩ 1).heap[b]? = some (.cells (xs.map vByte).toArray e ((xs.map vByte).toArray.size, (xs.map vByte).toArray.size + 1)) := by
    unfold World.freeze
    rw [if_neg (by decide)]
    show (w.heap.modify b _)[b]? = _
    rw [Array.getElem?_modify, if_pos rfl, hh]
    rfl
  have hsz : (w.freeze ⟨b, (xs.map vByte).toArray.size, none⟩ 1).heap.size = w.heap.size := by
    unfold World.freeze
    rw [if_neg (by decide)]
    exact Array.size_modify
  refine ⟨_, _, _, run_v hr, Hp.turn (p := [blk b e (xs.map vByte)]) (p' := [slc rByte (· = b) (.slice (some ⟨b, 0, none⟩) xs.length xs.length) xs]) hw' ⟨⟨?_, ?_, ?_, ?_, fun k hk hS => ?_⟩, fun c hc => ?_, fun c hc k hk => ?_, by simp⟩, h⟩
  · unfold World.freeze; rw [if_neg (by decide)]
  · unfold World.freeze; rw [if_neg (by decide)]
  · unfold World.freeze; rw [if_neg (by decide)]
  · rw [hsz]; exact Nat.le_refl _
  · unfold World.freeze
    rw [if_neg (by decide)]
    show (w.heap.modify b _)[k]? = _
    rw [Array.getElem?_modify, if_neg (fun e => hS ⟨_, List.mem_cons_self .., e.symm⟩)]
  · obtain rfl : c = _ := by simpa using hc
    refine ⟨_, _, b, 0, rfl, Nat.le_refl _, hm, (fun h => by cases h), (fun _ => rfl), fun i hi => ⟨rfl, ?_, trivial⟩⟩
    unfold World.cell?
    show (match (w.freeze ⟨b, (xs.map vByte).toArray.size, none⟩ 1).heap[b]? with | some (.cells c _ _) => _ | _ => _) = _
    rw [hb]
    show (xs.map vByte).toArray[0 + i * 1]? = _
    simp [hi]
  · obtain rfl : c = _ := by simpa using hc
    obtain rfl : k = b := hk
    exact ⟨.inl ⟨_, List.mem_cons_self .., rfl⟩, by rw [hsz]; exact hlt⟩
theorem wpAnyH_up {P : Program} {md : Region.Mode} {ops : Array Oper} {Q : Exit → Act → World → Prop} {A B : World → Prop} (hAB : ∀ w, A w → B w) : ∀ (fuel : Nat) (listed : Array Bool) (a : Act) (w : World), wpAnyH P md ops Q A fuel listed a w → wpAnyH P md ops Q B fuel listed a w
  | 0, _, _, _, h => h
  | fuel + 1, _, _, _, h => ⟨h.1, fun i hi => wpOp_mono (fun a' w' h' => ⟨hAB w' h'.1, wpAnyH_up hAB fuel _ a' w' h'.2⟩) (h.2 i hi)⟩
/-- more memory is held from then on -/
theorem G.upT {ops : Array Oper} {nn fuel rem : Nat} {p mS mS' r : List Ck} (hs : Sub m p mS') (hs2 : Sub mS' mS r) (h : G n w0 S l m (GA P ops Q (fun w => Hp w0 S w mS') nn fuel rem)) : G n w0 S l m (GA P ops Q (fun w => Hp w0 S w mS) nn fuel rem) := fun a w ha hw listed hl =>
  wpAnyH_up (fun w' hw' => (hw'.perm hs2.perm).sub (List.sublist_append_left _ _)) _ _ _ _ (h a w ha hw listed hl)
theorem G.takeUT {ops : Array Oper} {deps frs : List Nat} {nn rem rem' fuel i j d t : Nat} {b : Bool} {oi : Oper} {mS r : List Ck} (hT : Tab ops deps frs nn) (hi : ops[i]? = some oi) (hd : oi.dst = some d) (hn : Nat.blt d n = true) (hk : tkB deps frs rem i rem' = true)
    (hQ : ∀ c a w, Q (.panic c) (a.put oi.dst undef) w → Q (.panic c) a w) (hg : oi.guard = some (j, b)) (hj : (ops[j]?).bind (·.dst) = some t) (ht : Fr.get l t = some undef) (hs : Sub m mS r)
    (h : G n w0 S ((d, undef) :: l) m (GA P ops Q (fun w => Hp w0 S w mS) nn fuel rem')) : G n w0 S l m (GA P ops Q (fun w => Hp w0 S w mS) nn (fuel + 1) rem) := fun a w ha hw' listed hl => by
  obtain ⟨dd, f, h1, h2, h3, h4, h5, h6⟩ := tkB_spec hk
  have hr : (Region.ready .any ops listed).contains i = true := by
    rw [hT.ready hl]
    have := mem_readyGo (i := 0) h1 h3 (by rw [Nat.zero_add]; exact h5)
    rw [Nat.zero_add] at this
    simpa using this
  have hwn : Region.wanted oi (yielded ops a.tmps) = false := by
    simp only [Region.wanted, hg, ha.yieldedU hj ht]
    rfl
  refine wpAnyH_take hi hT.sel (hT.free hl hi h2 h4) hr hQ (.inr ⟨hwn, rfl⟩) ((hw'.perm hs.perm).sub (List.sublist_append_left _ _)) ?_
  rw [hd]
  exact h _ _ (ha.put hn undef) hw' _ (hl.tk' h6)
end
end Go.Proofs.Ytchgaedidfefoaa

/- A walk by chunks: copies of elements of many cells, append of as many zeros, slices.overlaps. Conditions: none. -/
set_option linter.unusedVariables false
set_option linter.unusedSimpArgs false
namespace Go.Proofs.Ytchgaedidfefoaa
open Go.RowKit
section
variable {P : Program} {n : Nat} {w0 : World} {S : Nat → Prop} {l : Fr} {m : List Ck} {Q : Exit → Act → World → Prop} {K : Act → World → Prop}
  {ty : TypeId} {pos : String} {after : Array Edge} {g : Option (Nat × Bool)}
theorem run_copy_any {w : World} {dT sT ty e sz b o dLen dCap sLen sCap : Nat} {a : Addr} {cur cs : List Value} {t : TypeId} (hu : P.underlying dT = some (.slice e)) (hs : (P.info? e).map (·.size) = some sz) (hg : w.heap[b]? = some (.cells cur.toArray t (0, 0)))
    (hn : cs.length = Nat.min sLen dLen * sz) (hsrc : ∀ j v, cs[j]? = some v → w.cell? (a.add j) = some v) (hfit : o + cs.length ≤ cur.length) (h1 : ∀ v ∈ cs, v.oneCell' = true) :
    (Builtin.copy_ #[dT, sT] ty #[.slice (some ⟨b, o, none⟩) dLen dCap, .slice (some a) sLen sCap]).run P w = .ok (.int .i64 (Nat.min sLen dLen : Nat)) (w.setCells b o cs) := by
  have hl := run_firstCells_some (P := P) w sz (Nat.min sLen dLen) a sLen sCap cs hn hsrc
  have hst := run_storeCells_cells (P := P) b o cs 0 w (fun j hj => by
    rw [cell_of_row _ _ _ _ _ _ hg, List.getElem?_toArray, List.getElem?_eq_getElem (by omega)]
    rfl) (fun j hj => frozen_of_row _ _ _ _ _ hg) h1
  rw [Nat.add_zero] at hst
  cases hq : P.info? e with
  | none => simp [hq] at hs
  | some i =>
    have hi : i.size = sz := by simpa [hq] using hs
    subst hi
    simp [Builtin.copy_, run_underlying hu, Builtin.lenOf, sizeOf, typeInfo, hq, hl, hst, goInt]
/-- 'copy' of whole elements into a block of the call's own -/
theorem G.copyN {dT sT e d b o dLen dCap j cap b' off sz : Nat} {xd xs : Operand} {T : TypeId} {cs news : List Value} {r : List Ck} (hn : Nat.blt d n = true) (hu : P.underlying dT = some (.slice e)) (hsz : (P.info? e).map (·.size) = some sz)
    (hd : ev l xd = some (.slice (some ⟨b, o, none⟩) dLen dCap)) (hs : ev l xs = some (.slice (some ⟨b', off, none⟩) j cap)) (hsel : Sel m (blk b T cs) r) (hnews : ∀ w, Hp w0 S w m → News w b' off news) (hl : news.length = Nat.min j dLen * sz) (h1 : ∀ u ∈ news, u.oneCell' = true) (hfit : o + news.length ≤ cs.length)
    (h : G n w0 S ((d, .int .i64 (Nat.min j dLen : Nat)) :: l) (blk b T (putN cs o news) :: r) K) : G n w0 S l m (fun a w => Oper.wp P ⟨some d, .call ⟨.builtin .copy, #[xd, xs], #[dT, sT]⟩, ty, pos, after, g⟩ a w K Q) := G.eff rfl hn fun a w ha hw => by
  have hw' := hw.sel hsel
  have hh := hw'.holds _ (List.mem_cons_self ..)
  have hr := run_copy_any (P := P) (ty := ty) (sT := sT) (dCap := dCap) (sCap := cap) (a := ⟨b', off, none⟩) hu hsz hh hl (fun i u hi => by rw [addr_mid]; exact hnews w hw i u hi) hfit h1
  refine ⟨_, _, _, ?_, setCells_blk news cs o hw', h⟩
  simp only [execOp, resolve, invoke, builtin, Sem.run_bind, Sem.run_pure, Result.andThen_ok, List.map_toArray, List.map_cons, List.map_nil, ha.eval hd, ha.eval hs, hr]
theorem run_append_make {w : World} {t tn ty e : TypeId} {i : TypeInfo} {z : Value} {k kn : IntKind} (ht : P.underlying t = some (.slice e)) (htn : P.underlying tn = some (.int kn)) (hi : P.info? e = some i) (hz : i.zero = some z)
    {a : Addr} {sLen sCap : Nat} {olds : List Value} (hlo : olds.length = sLen * i.size) (holds : ∀ j v, olds[j]? = some v → w.cell? (a.add j) = some v) {c : Nat} (h0 : 0 < c) (hs : 0 < i.size) (hg : sCap < sLen + c) (h63 : sLen + c ≤ 9223372036854775807) (h48 : (sLen + c) * i.bytes ≤ 140737488355328) :
    (Builtin.append_ #[t, tn] ty #[.slice (some a) sLen sCap, .int k c]).run P w =
      .ok (.slice (some ⟨w.heap.size, 0, none⟩) (sLen + c) (grownCap w (sLen + c) sCap e)) (w.drew.alloc (.cells (olds.toArray ++ Builtin.zeroCells z.cells c ++ Builtin.zeroCells z.cells (grownCap w (sLen + c) sCap e - (sLen + c))) e)) := by
  have hn : ¬ (sLen + c ≤ sCap) := by omega
  have h63' : ¬ (9223372036854775807 < ((sLen : Int) + (c : Int))) := by omega
  have hfit := growslice_fits (old := sCap) hg h48
  have h48' : ¬ (281474976710656 < Builtin.nextslicecap (sLen + c) sCap * i.bytes) := by omega
  have hc48 : c * i.bytes ≤ 140737488355328 := Nat.le_trans (Nat.mul_le_mul_right _ (by omega)) h48
  have h48i : ¬ (281474976710656 < (c : Int) * (i.bytes : Int)) := by
    have : ((c * i.bytes : Nat) : Int) ≤ 140737488355328 := by omega
    rw [Int.natCast_mul] at this
    omega
  have hw : IntKind.i64.wrap (c : Int) = c := by rw [IntKind.wrap_i64]; omega
  have hf := run_firstCells_some (P := P) w.drew i.size sLen a sLen sCap olds hlo (by simpa using holds)
  have hneg : ¬ ((c : Int) < 0) := by omega
  have hns : ¬ (c * i.size = 0) := Nat.mul_ne_zero (by omega) (by omega)
  simp [Builtin.append_, run_underlying ht, run_underlying htn, sizeOf, typeInfo, zeroValue, hi, hz, hw, hn, h63', h48', h48i, hneg, hns, asInt, asIntOf, Question.forced, hf, newRow, grownCap]
/-- append of as many zeros, where there is no room: a block of its own -/
theorem G.appendMake {t tn e d b i cap c sz bytes : Nat} {s x : Operand} {k kn : IntKind} {j : Int} {olds : List Value} {z : List Value} (hn : Nat.blt d n = true) (hu : P.underlying t = some (.slice e)) (hun : P.underlying tn = some (.int kn)) (hi : (P.info? e).map (fun i => (i.zero.map (·.cells), i.size, i.bytes)) = some (some z.toArray, sz, bytes)) (hzl : z.length = sz) (hsz : Nat.blt 0 sz = true)
    (hs : ev l s = some (.slice (some ⟨b, 0, none⟩) i cap)) (hx : ev l x = some (.int k j)) (hj : j = (c : Int)) (holds : ∀ w, Hp w0 S w m → News w b 0 olds) (hol : olds.length = i * sz) (hc : 0 < c) (hg : cap < i + c) (h63 : i + c ≤ 9223372036854775807) (h48 : (i + c) * bytes ≤ 140737488355328)
    (h : ∀ b' cap' sp, i + c ≤ cap' → cap' ≤ 9223372036854775807 → (olds ++ sp).length = cap' * sz → G n w0 S ((d, .slice (some ⟨b', 0, none⟩) (i + c) cap') :: l) (blk b' e (olds ++ sp) :: m) K) : G n w0 S l m (fun a w => Oper.wp P ⟨some d, .call ⟨.builtin .append, #[s, x], #[t, tn]⟩, ty, pos, after, g⟩ a w K Q) := G.eff rfl hn fun a w ha hw => by
  obtain ⟨i1, hi1, hi2⟩ := Option.map_eq_some_iff.1 hi
  have hi3 : i1.zero.map (·.cells) = some z.toArray := congrArg Prod.fst hi2
  have hi4 : i1.size = sz := congrArg (fun p => p.2.1) hi2
  have hi5 : i1.bytes = bytes := congrArg (fun p => p.2.2) hi2
  obtain ⟨zv, hz1, hz2⟩ := Option.map_eq_some_iff.1 hi3
  subst hi4 hi5 hj
  have hr := run_append_make (P := P) (w := w) (ty := ty) (k := k) (a := ⟨b, 0, none⟩) hu hun hi1 hz1 hol (fun q u hq => by rw [addr_mid]; exact holds w hw q u hq) hc (Nat.le_of_ble_eq_true hsz) hg h63 h48
  have hge := grownCap_ge w (i + c) cap e
  have hcm := grownCap_le_maxLen w (i + c) cap e (by unfold maxLen; omega)
  unfold maxLen at hcm
  have hzz : zv.cells.size = i1.size := by rw [hz2]; simpa using hzl
  have e1 : olds.toArray ++ Builtin.zeroCells zv.cells c ++ Builtin.zeroCells zv.cells (grownCap w (i + c) cap e - (i + c)) = (olds ++ ((Builtin.zeroCells zv.cells c).toList ++ (Builtin.zeroCells zv.cells (grownCap w (i + c) cap e - (i + c))).toList)).toArray := by
    apply Array.ext'
    simp [List.append_assoc]
  rw [e1] at hr
  have hex : (execOp a.eval (⟨some d, .call ⟨.builtin .append, #[s, x], #[t, tn]⟩, ty, pos, after, g⟩ : Oper)).run P w = .ok (.value (.slice (some ⟨w.heap.size, 0, none⟩) (i + c) (grownCap w (i + c) cap e))) (w.drew.alloc (.cells (olds ++ ((Builtin.zeroCells zv.cells c).toList ++ (Builtin.zeroCells zv.cells (grownCap w (i + c) cap e - (i + c))).toList)).toArray e)) := by
    simp only [execOp, resolve, invoke, builtin, Sem.run_bind, Sem.run_pure, Result.andThen_ok, List.map_toArray, List.map_cons, List.map_nil, ha.eval hs, ha.eval hx, hr]
  have hlen : (olds ++ ((Builtin.zeroCells zv.cells c).toList ++ (Builtin.zeroCells zv.cells (grownCap w (i + c) cap e - (i + c))).toList)).length = grownCap w (i + c) cap e * i1.size := by
    have q1 : ∀ k, (Builtin.zeroCells zv.cells k).toList.length = k * i1.size := fun k => by rw [Array.length_toList, size_zeroCells, hzz]
    rw [List.length_append, List.length_append, q1, q1, hol, ← Nat.add_mul, ← Nat.add_mul]
    congr 1
    omega
  exact ⟨_, _, _, hex, hw.drew.alloc _ e, h _ _ _ hge (by omega) hlen⟩
/-- slices.overlaps at two slices in two blocks -/
theorem pv_overlaps {dst : Option Tmp} {f : FuncId} {x y : Operand} {ts : Array TypeId} {fn : Func} {T1 T2 tS tR e sz b1 b2 o2 la ca lb cb : Nat} {c1 c2 : List Value} {r1' r2' : List Ck} (hf : P.funcs[f]? = some fn) (hname : (fn.name == "runtime.NumGoroutine") = false)
    (hb : fn.body.isNone = true) (hn : Extern.findNext fn = none) (he : Extern.find fn = some (Extern.SlicesOverlaps.overlaps #[tS, tS] #[tR])) (hu : P.underlying tS = some (.slice e)) (hsz : (P.info? e).map (·.size) = some sz)
    (hx : ev l x = some (.slice (some ⟨b1, 0, none⟩) la ca)) (hy : ev l y = some (.slice (some ⟨b2, o2, none⟩) lb cb)) (h1 : ∀ w, Hp w0 S w m → w.heap[b1]? = some (.cells c1.toArray T1 (0, 0))) (h2 : ∀ w, Hp w0 S w m → w.heap[b2]? = some (.cells c2.toArray T2 (0, 0))) (hne : ∀ w, Hp w0 S w m → b1 ≠ b2) (hc2 : c2.length ≠ 0) :
    PV P n w0 S l m ⟨dst, .call ⟨.value (.func f), #[x, y], ts⟩, ty, pos, after, g⟩ (.bool false) := fun a w ha hw => by
  have hh1 := h1 w hw
  have hh2 := h2 w hw
  have s1 : w.shape? b1 = some (T1, c1.length) := by unfold World.shape?; rw [hh1]; simp
  have s2 : w.shape? b2 = some (T2, c2.length) := by unfold World.shape?; rw [hh2]; simp
  have hr := Lib.run_overlaps_apart (P := P) w tS tR e hu sz (run_sizeOf hsz) ⟨b1, 0, none⟩ ⟨b2, o2, none⟩ la ca lb cb (hne w hw) T1 T2 c1.length c2.length s1 s2 hc2 (frozen_of_row _ _ _ _ _ hh1) (frozen_of_row _ _ _ _ _ hh1)
  have hc := run_callFunc_extern (P := P) hf hname hb hn he #[.slice (some ⟨b1, 0, none⟩) la ca, .slice (some ⟨b2, o2, none⟩) lb cb] w
  rw [hr] at hc
  have e2 : a.eval (.func f) = .func (.func f) #[] #[] := rfl
  simp only [execOp, resolve, Deferred.ofValue, e2, invoke, Sem.run_bind, Sem.run_pure, Result.andThen_ok, List.map_toArray, List.map_cons, List.map_nil, ha.eval hx, ha.eval hy]
  simpa using hc
end
end Go.Proofs.Ytchgaedidfefoaa
