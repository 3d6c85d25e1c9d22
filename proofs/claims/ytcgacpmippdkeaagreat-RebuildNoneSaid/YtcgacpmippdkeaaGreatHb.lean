/- Merged of WR, WS, Bk, WN, WQ, FrameG, Law, Opg, KB, FW, FX, FY, FR, FS, FT, FU, FV, FK, NA. Conditions: none. -/
import Derived.Test.YtcgacpmippdkeaaGreatHa
import Derived.RangeFuncWrites
import Derived.RangeFuncLeaves
import Derived.OwnWalkIn
import Derived.TacticsIn
import Derived.ProofKit
import Derived.OpenShut
import Derived.SizedLaws
import Derived.JoinedCond
import Derived.Deep.CondSized
import Derived.Deep.SlicePairs
import Derived.ChangeSlices
import Derived.Lib.SmallJoins
import Derived.Test.YtcgacpmippdkeaaGreatRows
import Derived.Deep.Slices
import Derived.Test.YtcgacpmippdkeaaGreatProg
set_option maxRecDepth 20000
set_option linter.unusedVariables false
set_option linter.unusedSimpArgs false
namespace Go.Proofs.YtcgacpmippdkeaaGreat
open Go.RowKit
set_option maxRecDepth 100000
def star (m : List Ck) : Ck := ⟨U m, fun w : World => (∀ c ∈ m, c.φ w) ∧ m.Pairwise (fun c d : Ck => ∀ b : Nat, c.S b → ¬ d.S b), fun w w' h hw => ⟨fun c hc => c.loc w w' (fun b hb => h b ⟨c, hc, hb⟩) (hw.1 c hc), hw.2⟩⟩
theorem Hp.star {w0 w : World} {S : Nat → Prop} {m r : List Ck} (h : Hp w0 S w (m ++ r)) : Hp w0 S w (Go.Proofs.YtcgacpmippdkeaaGreat.star m :: r) := by
 have hd := List.pairwise_append.1 h.dis
 refine ⟨h.chg, fun c hc => ?_, fun c hc b hb => ?_, List.pairwise_cons.2 ⟨fun d hdr b hb hdb => ?_, hd.2.1⟩⟩
 ·rcases List.mem_cons.1 hc with rfl | hc
  ·exact ⟨fun c hc => h.holds c (List.mem_append_left _ hc), hd.1⟩
  ·exact h.holds c (List.mem_append_right _ hc)
 ·rcases List.mem_cons.1 hc with rfl | hc
  ·obtain ⟨c, hc, hb⟩ := hb
   exact h.own c (List.mem_append_left _ hc) b hb
  ·exact h.own c (List.mem_append_right _ hc) b hb
 ·obtain ⟨c, hc, hb⟩ := hb
  exact hd.2.2 c hc d hdr b hb hdb
theorem Hp.unstar {w0 w : World} {S : Nat → Prop} {m r : List Ck} (h : Hp w0 S w (Go.Proofs.YtcgacpmippdkeaaGreat.star m :: r)) : Hp w0 S w (m ++ r) := by
 have hd := List.pairwise_cons.1 h.dis
 have hs := h.holds _ (List.mem_cons_self ..)
 refine ⟨h.chg, fun c hc => ?_, fun c hc b hb => ?_, List.pairwise_append.2 ⟨hs.2, hd.2, fun c hc d hdr b hb hdb => hd.1 d hdr b ⟨c, hc, hb⟩ hdb⟩⟩
 ·rcases List.mem_append.1 hc with hc | hc
  ·exact hs.1 c hc
  ·exact h.holds c (List.mem_cons_of_mem _ hc)
 ·rcases List.mem_append.1 hc with hc | hc
  ·exact h.own _ (List.mem_cons_self ..) b ⟨c, hc, hb⟩
  ·exact h.own c (List.mem_cons_of_mem _ hc) b hb
def fR (r : Option Nat) : Fence := { Fence.wide with round := r }
def da (ds : List Deferred) (a : Act) : Act := { a with defers := a.defers ++ ds }
def dq (ds : List Deferred) (K : Act → World → Prop) : Act → World → Prop := fun a w => K (da ds a) w
def dqq (ds : List Deferred) (Q : Exit → Act → World → Prop) : Exit → Act → World → Prop := fun e => dq ds (Q e)
theorem da_eval (ds : List Deferred) (a : Act) : (da ds a).eval = a.eval := by
 funext x
 cases x <;> rfl
theorem da_nil {a : Act} {n : Nat} {l : Fr} (h : At a n l) : da [] a = a := by
 unfold da
 rw [List.append_nil]
theorem da_put (ds : List Deferred) (a : Act) (d : Option Tmp) (v : Value) : (da ds a).put d v = da ds (a.put d v) := by cases d <;> rfl
def noDefer (o : Oper) : Bool := match o.op with
 | .defer _ => false
 | _ => true
theorem noDefer_spec {o : Oper} (h : noDefer o = true) : ∀ c, o.op ≠ .defer c := fun c hc => by
 unfold noDefer at h
 rw [hc] at h
 cases h
section
variable {P : Program} {n : Nat} {w0 : World} {S : Nat → Prop} {l : Fr} {m : List Ck} {Q : Exit → Act → World → Prop} {K : Act → World → Prop} {r : Option Nat} {ds : List Deferred}
theorem calls_fR {k : Nat} {f : FuncId} {args : Array Value} {w : World} {R : Ending → World → Prop} (h : CallsIn Fence.wide k P f args w R) : CallsIn (fR r) k P f args w R := h
theorem calls_wide {k : Nat} {f : FuncId} {args : Array Value} {w : World} {R : Ending → World → Prop} (h : CallsIn (fR r) k P f args w R) : CallsIn Fence.wide k P f args w R := h
theorem letsOut_dqq (h : LetsOut (dqq ds Q)) : LetsOut Q := let ⟨a, w, h⟩ := h; ⟨da ds a, w, h⟩
theorem upon_in {o : Oper} {a : Act} {x : Result Next} (h : o.upon P a (dq ds K) (dqq ds Q) x) : o.uponIn (fR r) 0 P (da ds a) K Q x := by
 unfold Oper.upon at h
 split at h
 ·show K ((da ds a).put _ _) _
  rw [da_put]
  exact h
 ·show K ((da ds a).put _ _) _
  rw [da_put]
  exact h
 ·rename_i d w2
  have e := da_put ds ({ a with defers := d :: a.defers } : Act) o.dst undef
  show K ((da ds ({ a with defers := d :: a.defers } : Act)).put o.dst undef) _
  rw [e]
  exact h
 ·refine ⟨fun h => by simp [fR, Fence.wide] at h, calls_fR (callsIn_wide.2 (h.mono ?_))⟩
  intro e w2 he
  cases e with
  | returned v =>
   show K ((da ds a).put _ _) _
   rw [da_put]
   exact he
  | panicked c => exact he
  | outgrown => exact letsOut_dqq he
 ·refine ⟨fun h => by simp [fR, Fence.wide] at h, fun c cs _ => ?_⟩
  obtain ⟨v, w', hv, hs⟩ := h c cs
  refine ⟨v, w', ?_, stepsIn_wide.2 hs⟩
  show K ((da ds a).put _ _) _
  rw [da_put]
  exact hv
 ·exact h
 ·exact h.elim
theorem wpIn_of_wp {o : Oper} {a : Act} {w : World} (hd : ∀ c, o.op ≠ .defer c) (h : o.wp P a w (dq ds K) (dqq ds Q)) : o.wpIn (fR r) 0 P (da ds a) w K Q := by
 refine ⟨fun _ _ => trivial, ?_⟩
 rw [Oper.semAt_plain _ _ _ hd, da_eval]
 exact upon_in h
theorem opsIn_of_ops {ops : Array Oper} (hd : ops.all noDefer = true) (hQ : ¬ LetsOut Q) : ∀ (ix : List Nat) (a : Act) (w : World), wpOps P ops (dqq ds Q) ix a w → wpOpsIn (fR r) 0 P ops Q ix (da ds a) w
 | [], a, w, h => h
 | i :: rest, a, w, h => by
  unfold wpOps at h
  unfold wpOpsIn
  cases ho : ops[i]? with
  | none =>
   rw [ho] at h
   exact opsIn_of_ops hd hQ rest a w h
  | some o =>
   rw [ho] at h
   have hnd : ∀ c, o.op ≠ .defer c := by
    obtain ⟨hi, rfl⟩ := Array.getElem?_eq_some_iff.1 ho
    exact noDefer_spec (Array.all_eq_true.1 hd i hi)
   show (if Region.wanted o (yielded ops a.tmps) = true then _ else _)
   have h : (if Region.wanted o (yielded ops a.tmps) = true then o.wp P a w (wpOps P ops (dqq ds Q) rest) (dqq ds Q) ∨ (o.asks P a w ∧ LetsOut (dqq ds Q)) else wpOps P ops (dqq ds Q) rest (a.put o.dst undef) w) := h
   split at h
   ·rename_i hw
    rw [if_pos hw]
    rcases h with h | ⟨_, h⟩
    ·exact wpIn_of_wp hnd (Oper.wp_mono (fun a w h => opsIn_of_ops hd hQ rest a w h) h)
    ·exact absurd (letsOut_dqq h) hQ
   ·rename_i hw
    rw [if_neg hw]
    exact ⟨fun _ _ => trivial, by rw [da_put]; exact opsIn_of_ops hd hQ rest _ w h⟩
theorem I.stop (h : G n w0 S l m K) : G n w0 S l m (dq [] K) := fun a w ha hw => by
 unfold dq
 rw [da_nil ha]
 exact h a w ha hw
theorem I.seq {x y : Code} (h : G n w0 S l m (dq ds (x.wpIn (fR r) 0 P (Exit.then (y.wpIn (fR r) 0 P Q) Q)))) : G n w0 S l m (dq ds ((Code.seq x y).wpIn (fR r) 0 P Q)) := fun a w ha hw => wpIn_seq (h a w ha hw)
theorem I.skip (h : G n w0 S l m (dq ds (Q .normal))) : G n w0 S l m (dq ds (Code.skip.wpIn (fR r) 0 P Q)) := fun a w ha hw => wpIn_skip (h a w ha hw)
theorem I.ret (h : G n w0 S l m (dq ds (Q .ret))) : G n w0 S l m (dq ds (Code.ret.wpIn (fR r) 0 P Q)) := fun a w ha hw => wpIn_ret (h a w ha hw)
theorem I.exit {id : Nat} (h : G n w0 S l m (dq ds (Q (.exit id)))) : G n w0 S l m (dq ds ((Code.exit id).wpIn (fR r) 0 P Q)) := fun a w ha hw => wpIn_exit (h a w ha hw)
theorem I.block {id : Nat} {c : Code} (h : G n w0 S l m (dq ds (c.wpIn (fR r) 0 P (Exit.inBlock id Q)))) : G n w0 S l m (dq ds ((Code.block id c).wpIn (fR r) 0 P Q)) := fun a w ha hw => wpIn_block (h a w ha hw)
theorem da_ev {a : Act} {x : Operand} {v : Value} (ha : At a n l) (hx : ev l x = some v) : (da ds a).eval x = v := by rw [da_eval]; exact ha.eval hx
theorem I.cond {c : Operand} {x y : Code} {b : Bool} (hc : ev l c = some (.bool b)) (ht : b = true → G n w0 S l m (dq ds (x.wpIn (fR r) 0 P Q))) (hf : b = false → G n w0 S l m (dq ds (y.wpIn (fR r) 0 P Q))) : G n w0 S l m (dq ds ((Code.cond c x y).wpIn (fR r) 0 P Q)) := fun a w ha hw => by
 cases b with
 | true => exact wpIn_cond_true (da_ev ha hc) (ht rfl a w ha hw)
 | false => exact wpIn_cond_false (da_ev ha hc) (hf rfl a w ha hw)
theorem I.condP {c : Operand} {x y : Code} {p : Prop} [Decidable p] (hc : ev l c = some (.bool (decide p))) (ht : p → G n w0 S l m (dq ds (x.wpIn (fR r) 0 P Q))) (hf : ¬ p → G n w0 S l m (dq ds (y.wpIn (fR r) 0 P Q))) : G n w0 S l m (dq ds ((Code.cond c x y).wpIn (fR r) 0 P Q)) :=
 I.cond hc (fun h => ht (of_decide_eq_true h)) (fun h => hf (of_decide_eq_false h))
theorem I.nThen (h : G n w0 S l m (dq ds K)) : G n w0 S l m (dq ds (Exit.then K Q .normal)) := h
theorem I.eThen {id : Nat} (h : G n w0 S l m (dq ds (Q (.exit id)))) : G n w0 S l m (dq ds (Exit.then K Q (.exit id))) := h
theorem I.rThen (h : G n w0 S l m (dq ds (Q .ret))) : G n w0 S l m (dq ds (Exit.then K Q .ret)) := h
theorem I.nBlock {id : Nat} (h : G n w0 S l m (dq ds (Q .normal))) : G n w0 S l m (dq ds (Exit.inBlock id Q .normal)) := h
theorem I.rBlock {id : Nat} (h : G n w0 S l m (dq ds (Q .ret))) : G n w0 S l m (dq ds (Exit.inBlock id Q .ret)) := h
theorem I.eBlock {id : Nat} (h : G n w0 S l m (dq ds (Q .normal))) : G n w0 S l m (dq ds (Exit.inBlock id Q (.exit id))) := fun a w ha hw => by
 show (if id = id then Q .normal (da ds a) w else _)
 rw [if_pos rfl]
 exact h a w ha hw
def AtD (ds : List Deferred) (a : Act) (n : Nat) (l : Fr) : Prop := ∃ a0, a = da ds a0 ∧ At a0 n l
theorem I.loop {X : Type} (J : X → Prop) (L : X → Fr) (M : X → List Ck) (μ : X → Nat) {c : Code} {x0 : X} {q : List Ck} (h0 : J x0) (hl : Fw l (L x0)) (hm : Sub m (M x0) q)
 (round : ∀ x, J x → G n w0 S (L x) (M x) (dq ds (c.wpIn (fR r) 0 P (Exit.then (fun a w => ∃ y, J y ∧ μ y < μ x ∧ AtD ds a n (L y) ∧ Hp w0 S w (M y)) Q)))) : G n w0 S l m (dq ds ((Code.loop c).wpIn (fR r) 0 P Q)) := fun a w ha hw => by
 let I : Nat → Act → World → Prop := fun k a w => ∃ x, J x ∧ μ x = k ∧ AtD ds a n (L x) ∧ Hp w0 S w (M x)
 have least : ∀ k a w, I k a w → ∃ k0, I k0 a w ∧ ∀ j, I j a w → k0 ≤ j := by
  intro k
  induction k using Nat.strongRecOn with
  | _ k ih =>
   intro a w h
   by_cases hh : ∃ j, j < k ∧ I j a w
   ·obtain ⟨j, hj, hI⟩ := hh
    exact ih j hj a w hI
   ·exact ⟨k, h, fun j hj => Nat.le_of_not_lt fun hlt => hh ⟨j, hlt, hj⟩⟩
 let ν : Act → World → Nat := fun a w => open Classical in if h : ∃ k, I k a w then (Classical.choose (least _ a w (Classical.choose_spec h))) else 0
 have hν : ∀ a w k, I k a w → I (ν a w) a w ∧ ν a w ≤ k := by
  intro a w k h
  have hex : ∃ k, I k a w := ⟨k, h⟩
  have hs := Classical.choose_spec (least _ a w (Classical.choose_spec hex))
  have e : ν a w = Classical.choose (least _ a w (Classical.choose_spec hex)) := dif_pos hex
  rw [e]
  exact ⟨hs.1, hs.2 k h⟩
 refine wpIn_loop (fun a w => ∃ k, I k a w) ν ⟨μ x0, x0, h0, rfl, ⟨a, rfl, ha.weak hl⟩, (hw.perm hm.perm).sub (List.sublist_append_left _ _)⟩ ?_
 rintro a w ⟨k, hk⟩
 obtain ⟨⟨x, hJ, hμ, ⟨a0, rfl, hx⟩, hM⟩, _⟩ := hν a w k hk
 refine wpIn_mono (round x hJ a0 w hx hM) ?_
 intro e a' w' hq
 cases e with
 | normal =>
  obtain ⟨y, hJy, hlt, hy, hMy⟩ := hq
  have hI : I (μ y) a' w' := ⟨y, hJy, rfl, hy, hMy⟩
  have := (hν a' w' _ hI).2
  exact ⟨⟨_, hI⟩, by omega⟩
 | exit id => exact hq
 | goto g => exact hq
 | ret => exact hq
 | panic ch => exact hq
 | outgrown => exact hq
theorem I.loopK {X : Type} (J : X → Prop) (A : X → Fr) (B : X → List Ck) (μ : X → Nat) {c : Code} {x0 : X} {q : List Ck} {ts : List Nat} {l1 : Fr} {L : X → Fr} {M : X → List Ck} (hk : Kp l ts l1) (hm : Sub m (B x0) q) (hL : Ap A l1 L) (hM : Ap B q M) (h0 : J x0) (hl : Fw l (A x0))
 (round : ∀ x, J x → G n w0 S (L x) (M x) (dq ds (c.wpIn (fR r) 0 P (Exit.then (fun a w => ∃ y, J y ∧ μ y < μ x ∧ AtD ds a n (L y) ∧ Hp w0 S w (M y)) Q)))) : G n w0 S l m (dq ds ((Code.loop c).wpIn (fR r) 0 P Q)) :=
 I.loop (q := []) J L M μ h0 (by rw [← hL.eq x0]; exact hl.app hk.fw) (by rw [← hM.eq x0]; exact hm.app (Sub.all q)) round
theorem I.next {X : Type} {J : X → Prop} {L : X → Fr} {M : X → List Ck} {μ : X → Nat} {k : Nat} {q : List Ck} (y : X) (hJ : J y) (hμ : μ y < k) (hl : Fw l (L y)) (hm : Sub m (M y) q) :
 G n w0 S l m (dq ds (Exit.then (fun a w => ∃ y, J y ∧ μ y < k ∧ AtD ds a n (L y) ∧ Hp w0 S w (M y)) Q .normal)) := fun a w ha hw =>
 ⟨y, hJ, hμ, ⟨a, rfl, ha.weak hl⟩, (hw.perm hm.perm).sub (List.sublist_append_left _ _)⟩
theorem I.region {id : Nat} {ops : List Oper} (hd : ops.all noDefer = true) (hQ : ¬ LetsOut Q) (h : G n w0 S l m (wpList P ops.toArray (dqq ds Q) ops)) : G n w0 S l m (dq ds ((Code.region id ops.toArray false).wpIn (fR r) 0 P Q)) := fun a w ha hw => by
 refine wpIn_region (opsIn_of_ops (by simpa using hd) hQ _ a w ?_)
 rw [List.range_eq_range', show ops.toArray.size = ops.length from by simp, wpOps_eq_wpList ops 0 (by simp)]
 exact h a w ha hw
theorem I.nil {ops : Array Oper} (h : G n w0 S l m (dq ds (Q .normal))) : G n w0 S l m (wpList P ops (dqq ds Q) []) := h
theorem I.over {ops : Array Oper} {deps frs : List Nat} {nn fuel rem : Nat} {Sx : World → Prop} (hT : Tab ops deps frs nn) (hr : rdB deps rem [] = true) (h : G n w0 S l m (dq ds (Q .normal))) : G n w0 S l m (GA P ops (dqq ds Q) Sx nn fuel rem) := G.overT hT hr h
theorem I.drawT {ops : Array Oper} {id nn rem : Nat} {mS p : List Ck} (deps frs : List Nat) (hd : ops.all noDefer = true) (hQ : ¬ LetsOut Q) (hm : P.follows .mixedOrders = true) (hT : Tab ops deps frs nn) (hs : Sub m p mS) (hr : Nat.beq rem (2 ^ nn - 1) = true) (h : Tab ops deps frs nn → G n w0 S l m (GA P ops (dqq ds Q) (fun w => Hp w0 S w mS) nn nn rem)) : G n w0 S l m (dq ds ((Code.region id ops true).wpIn (fR r) 0 P Q)) := fun a w ha hw => by
 refine wpIn_region_draw fun t => opsIn_of_ops hd hQ _ a _ ?_
 simp only [Region.schedule, hm, Bool.true_or, if_true]
 refine wpAny_sound ops.size t _ a _ (wpAny_of_held (S := fun w => Hp w0 S w mS) _ _ _ _ ?_)
 have e : ops.size = nn := hT.size
 rw [e]
 exact h hT a _ ha hw.drew _ (by rw [Nat.eq_of_beq_eq_true hr]; exact Lst.start nn)
theorem IL.region {id : Nat} {ops : List Oper} (h : G n w0 S l m (dq ds (wpListIn (fR r) 0 P ops.toArray Q ops))) : G n w0 S l m (dq ds ((Code.region id ops.toArray false).wpIn (fR r) 0 P Q)) := fun a w ha hw => wpIn_region_lit (h a w ha hw)
theorem IL.nil {ops : Array Oper} (h : G n w0 S l m (dq ds (Q .normal))) : G n w0 S l m (dq ds (wpListIn (fR r) 0 P ops Q [])) := h
theorem IL.op {ops : Array Oper} {o : Oper} {rest : List Oper} (hg : o.guard = none) (h : G n w0 S l m (dq ds (fun a w => o.wpIn (fR r) 0 P a w (wpListIn (fR r) 0 P ops Q rest) Q))) : G n w0 S l m (dq ds (wpListIn (fR r) 0 P ops Q (o :: rest))) := fun a w ha hw => by
 show (if Region.wanted o (yielded ops a.tmps) = true then _ else _)
 rw [if_pos (by simp [Region.wanted, hg])]
 exact h a w ha hw
theorem IL.lift {o : Oper} (hd : noDefer o = true) (h : G n w0 S l m (fun a w => o.wp P a w (dq ds K) (dqq ds Q))) : G n w0 S l m (dq ds (fun a w => o.wpIn (fR r) 0 P a w K Q)) := fun a w ha hw => wpIn_of_wp (noDefer_spec hd) (h a w ha hw)
def TrY (P : Program) (lp : Nat) (args : Array Value) (pre : List Ck) (post : Value → List Ck → Prop) : Prop :=
 ∀ w, Hp w (U pre) w pre → YieldAt Fence.wide 0 P lp args w fun e w' => ∃ v m', e = .returned v ∧ post v m' ∧ Hp w (U pre) w' m'
theorem IL.yield {X : Type} {J : X → Prop} {V : X → Value} {M M' : X → List Ck} {o : Oper} {d lp : Nat} {x : Operand} {xs : List Operand} {ts : Array TypeId} {vs : List Value} {pre q : List Ck} (hd : o.dst = some d) (hn : Nat.blt d n = true)
 (ho : o.op = .call { callee := .value x, args := xs.toArray, argTypes := ts }) (hv : ev l x = some (.func (.yield lp) #[] #[])) (hx : evs l xs = some vs)
 (hm : Sub m pre q) (ht : TrY P lp vs.toArray pre (TX J V M)) (hM : Ap M q M') (h : ∀ x, J x → G n w0 S ((d, V x) :: l) (M' x) (dq ds K)) : G n w0 S l m (dq ds (fun a w => o.wpIn (fR none) 0 P a w K Q)) := fun a w ha hw => by
 have hw' := hw.perm hm.perm
 have hp : Hp w (U pre) w pre := ⟨Chg.refl _ _, fun c hc => hw'.holds c (List.mem_append_left _ hc), fun c hc b hb => ⟨.inl ⟨c, hc, hb⟩, (hw'.own c (List.mem_append_left _ hc) b hb).2⟩, (List.pairwise_append.1 hw'.dis).1⟩
 obtain ⟨fn, tmps, assign, body, hy, hR⟩ := ht w hp
 refine ⟨fun _ _ => trivial, ?_⟩
 have hrun : (o.semAt (fR none).round (da ds a).eval).run P w = .ok (.round lp fn tmps assign body) w := by
  rw [da_eval]
  show (execOp a.eval o).run P w = _
  have e1 : xs.toArray.map a.eval = vs.toArray := by rw [← ha.evs hx]; simp
  simp [execOp, ho, resolve, Deferred.ofValue, e1, ha.eval hv, invoke, Sem.run_bind, Sem.run_pure, Result.andThen, hy]
 rw [hrun, Oper.uponIn_round]
 refine ⟨fun h => by simp [fR, Fence.wide] at h, hR.mono ?_⟩
 rintro e w2 ⟨v, m', rfl, ⟨x, hJ, rfl, rfl⟩, hm'⟩
 show K ((da ds a).put _ _) _
 rw [da_put, hd]
 have := hw'.turn hm'
 rw [hM.eq x] at this
 exact h x hJ _ _ (ha.put hn _) this
def SeqT (P : Program) (g : FuncId) (lb : Array Value) (ro pre : List Ck) (nn : Nat) (encs : Nat → List Value) : Prop :=
 ∀ (lp : Nat) (X : Type) (J : Bool → Nat → X → Prop) (C : Bool → Nat → X → Ck) (x0 : X), J true 0 x0 →
  (∀ i x, i < nn → J true i x → TrY P lp (encs i).toArray [C true i x] (TX (fun z : Bool × X => J z.1 (i + 1) z.2) (fun z => .bool z.1) (fun z => [C z.1 (i + 1) z.2]))) →
  Tr P g (#[.func (.yield lp) #[] #[]] ++ lb) ro (C true 0 x0 :: pre) (TX (fun z : Bool × Nat × X => J z.1 z.2.1 z.2.2 ∧ z.2.1 ≤ nn ∧ (z.1 = true → z.2.1 = nn)) (fun _ => .tuple #[]) (fun z => [C z.1 z.2.1 z.2.2]))
theorem Tr.ofI {f : FuncId} {args : Array Value} {ro pre : List Ck} {post : Value → List Ck → Prop} {fn : Func} {c : Code} {n : Nat} {l : Fr} (hf : P.funcs[f]? = some fn) (hb : fn.body = some c) (hn : args.size + (fn.ntmps - args.size) = n) (hl : Fa args l)
 (h : ∀ w0, (∀ c ∈ ro, Ro w0 (U pre) c) → G n w0 (U pre) l pre (dq [] (c.wpIn (fR none) 0 P (bodyPost P fn (TrR w0 pre post))))) : Tr P f args ro pre post := fun w hro hp => by
 refine (callsIn_wide (n := 0)).1 (calls_wide (r := none) (callsIn_of_wp hf hb trivial ?_))
 have hA : At { tmps := args ++ Array.replicate (fn.ntmps - args.size) undef, defers := [] } n l := ⟨by simp [hn], rfl, fun t v ht => by
  have := hl.get t v ht
  rw [Array.getElem?_append_left]
  ·exact this
  ·exact (Array.getElem?_eq_some_iff.1 this).1⟩
 exact h w hro _ _ hA hp
def obc (b : Nat) (o : Obj) : Ck := ⟨(· = b), fun w => w.heap[b]? = some o, fun w w' h hw => (h b rfl).trans hw⟩
theorem Hp.allocO {w : World} (hw : Hp w0 S w m) (o : Obj) : Hp w0 S (w.alloc o) (obc w.heap.size o :: m) := by
 refine hw.adds (m' := [obc w.heap.size o]) ⟨Chg.none_of_below ((Below.refl _ w).alloc (Nat.le_refl _) o), fun c hc => ?_, fun c hc b hb => ?_, by simp⟩
 ·obtain rfl : c = _ := by simpa using hc
  exact World.alloc_heap_new w o
 ·obtain rfl : c = _ := by simpa using hc
  obtain rfl : b = w.heap.size := hb
  exact ⟨.inr (Nat.le_refl _), by simp⟩
theorem Hp.putO {w : World} {b : Nat} {o : Obj} {q : List Ck} (o' : Obj) (hw : Hp w0 S w (obc b o :: q)) : Hp w0 S (w.putObj b o') (obc b o' :: q) := by
 have hb := (hw.own _ (List.mem_cons_self ..) b rfl).2
 refine hw.turn (p := [obc b o]) (r := q) (p' := [obc b o']) ⟨⟨rfl, rfl, rfl, by simp, fun k hk hS => World.putObj_heap_other fun e => hS ⟨_, List.mem_cons_self .., e⟩⟩, fun c hc => ?_, fun c hc k hk => ?_, by simp⟩
 ·obtain rfl : c = _ := by simpa using hc
  exact World.putObj_heap_same hb
 ·obtain rfl : c = _ := by simpa using hc
  obtain rfl : k = b := hk
  exact ⟨.inl ⟨_, List.mem_cons_self .., rfl⟩, by simpa using hb⟩
end
def mark (D : Nat) : List Deferred := [{ target := .collected D, args := #[] }]
def dfr (D : Nat) : Ck := obc D (.deferred (some []))
def rnd {X : Type} (w1 : World) (S1 : Nat → Prop) (J : Bool → Nat → X → Prop) (B : Bool → Nat → X → List Ck) (jmp : X → Code) (c : Ck) (i : Nat) : Exit → Act → World → Prop
 | .normal, _, w => ∃ y, J true (i + 1) y ∧ Hp w1 S1 w (c :: B true (i + 1) y)
 | .ret, _, w => ∃ y, J false (i + 1) y ∧ jmp y = .ret ∧ Hp w1 S1 w (c :: B false (i + 1) y)
 | .exit k, _, w => ∃ y, J false (i + 1) y ∧ jmp y = .exit k ∧ Hp w1 S1 w (c :: B false (i + 1) y)
 | _, _, _ => False
section
variable {P : Program} {n : Nat} {w0 : World} {S : Nat → Prop} {l : Fr} {m : List Ck} {Q : Exit → Act → World → Prop} {K : Act → World → Prop} {r : Option Nat} {ds : List Deferred}
theorem noOut {w1 : World} {pre : List Ck} {post : Value → List Ck → Prop} {w : World} (h : TrR w1 pre post .outgrown w) : False := by
 obtain ⟨_, _, h, _⟩ := h
 cases h
theorem I.rN {X : Type} {J : Bool → Nat → X → Prop} {B : Bool → Nat → X → List Ck} {jmp : X → Code} {c : Ck} {i : Nat} {q : List Ck} (y : X) (hJ : J true (i + 1) y) (hs : Sub m (c :: B true (i + 1) y) q) : G n w0 S l m (dq ds (rnd w0 S J B jmp c i .normal)) := fun a w ha hw =>
 ⟨y, hJ, (hw.perm hs.perm).sub (List.sublist_append_left _ _)⟩
theorem I.rR {X : Type} {J : Bool → Nat → X → Prop} {B : Bool → Nat → X → List Ck} {jmp : X → Code} {c : Ck} {i : Nat} {q : List Ck} (y : X) (hJ : J false (i + 1) y) (hj : jmp y = .ret) (hs : Sub m (c :: B false (i + 1) y) q) : G n w0 S l m (dq ds (rnd w0 S J B jmp c i .ret)) := fun a w ha hw =>
 ⟨y, hJ, hj, (hw.perm hs.perm).sub (List.sublist_append_left _ _)⟩
theorem I.asg {l' : Fr} {Q' : Exit → Act → World → Prop} (hl : Fw l l') : G n w0 S l m (dq [] (Exit.then (fun a w => At a n l' ∧ Hp w0 S w m) Q' .normal)) := fun a w ha hw => by
 unfold dq
 rw [da_nil ha]
 exact ⟨ha.weak hl, hw⟩
def recL (fn : FuncId) (tmps : Array Value) (p1 p2 : Nat) (assign body : Code) (D : Nat) (st : LoopState) (pe : Option Code) : Loop := { state := st, pending := pe, fn, tmps, params := #[p1, p2], assign, body, defers := D }
def stL (b : Bool) : LoopState := if b then .ready else .done
def peL {X : Type} (jmp : X → Code) (b : Bool) (x : X) : Option Code := if b then none else some (jmp x)
def cL {X : Type} (rc : LoopState → Option Code → Loop) (lp D : Nat) (B : Bool → Nat → X → List Ck) (jmp : X → Code) (b : Bool) (i : Nat) (x : X) : Ck := star (obc lp (.loop (rc (stL b) (peL jmp b x))) :: dfr D :: B b i x)
theorem I.fin {X : Type} {fnx p1 p2 D lp i : Nat} {tmps : Array Value} {assign body : Code} {J : Bool → Nat → X → Prop} {B : Bool → Nat → X → List Ck} {jmp : X → Code} {w1 w4 : World} {S1 : Nat → Prop} {b : Bool} {jump : Option Code} {y : X}
 (hJ : J b (i + 1) y) (hj : jump = peL jmp b y) (hH : Hp w1 S1 w4 (star [obc lp (.loop (recL fnx tmps p1 p2 assign body D .busy none)), dfr D] :: B b (i + 1) y)) :
 ∃ v w5, (Instr.endRound lp jump).run P w4 = .ok v w5 ∧ ∃ v' m', Ending.returned v = .returned v' ∧ TX (fun z : Bool × X => J z.1 (i + 1) z.2) (fun z => .bool z.1) (fun z => [cL (recL fnx tmps p1 p2 assign body D) lp D B jmp z.1 (i + 1) z.2]) v' m' ∧ Hp w1 S1 w5 m' := by
 have hH5 := Hp.unstar (m := [_, _]) hH
 have hl4 : w4.heap[lp]? = some (.loop (recL fnx tmps p1 p2 assign body D .busy none)) := hH5.holds _ (List.mem_cons_self ..)
 have her := run_endRound (P := P) jump hl4
 have ev : jump.isNone = b := by
  rw [hj]
  cases b <;> rfl
 have eR : ({ (recL fnx tmps p1 p2 assign body D .busy none) with state := if jump.isNone then .ready else .done, pending := jump } : Loop) = recL fnx tmps p1 p2 assign body D (stL b) (peL jmp b y) := by
  rw [ev, hj]
  rfl
 rw [eR, ev] at her
 have hH6 := Hp.putO (.loop (recL fnx tmps p1 p2 assign body D (stL b) (peL jmp b y))) hH5
 refine ⟨_, _, her, _, _, rfl, ⟨(b, y), hJ, rfl, rfl⟩, ?_⟩
 refine Hp.star (m := _ :: _ :: B b (i + 1) y) (r := []) ?_
 rw [List.append_nil]
 exact hH6
theorem I.round {X : Type} {fnx p1 p2 D lp i : Nat} {a : Act} {assign body : Code} {v1 v2 : Value} {l2 : Fr} {J : Bool → Nat → X → Prop} {B : Bool → Nat → X → List Ck} {jmp : X → Code} {x : X} (ha : At a n l) (hp1 : Nat.blt p1 n = true) (hp2 : Nat.blt p2 n = true)
 (hassign : ∀ w1 S1 m1, G n w1 S1 ((p2, v2) :: (p1, v1) :: l) m1 (dq [] (assign.wpIn (fR (some lp)) 0 P (Exit.then (fun a w => At a n l2 ∧ Hp w1 S1 w m1) (fun _ _ _ => False)))))
 (hbody : ∀ w1 S1 c, G n w1 S1 l2 (c :: B true i x) (dq [] (body.wpIn (fR (some lp)) 0 P (rnd w1 S1 J B jmp c i)))) :
 TrY P lp [v1, v2].toArray [cL (recL fnx a.tmps p1 p2 assign body D) lp D B jmp true i x] (TX (fun z : Bool × X => J z.1 (i + 1) z.2) (fun z => .bool z.1) (fun z => [cL (recL fnx a.tmps p1 p2 assign body D) lp D B jmp z.1 (i + 1) z.2])) := by
 intro w1 hw1
 have hds : a.defers = [] := ha.defs
 obtain ⟨S1, hS1⟩ : ∃ S1, U [cL (recL fnx a.tmps p1 p2 assign body D) lp D B jmp true i x] = S1 := ⟨_, rfl⟩
 rw [hS1] at hw1 ⊢
 have hu : Hp w1 S1 w1 (obc lp (.loop (recL fnx a.tmps p1 p2 assign body D .ready none)) :: dfr D :: B true i x) := by
  have := Hp.unstar hw1
  rw [List.append_nil] at this
  exact this
 have hl : w1.heap[lp]? = some (.loop (recL fnx a.tmps p1 p2 assign body D .ready none)) := hu.holds _ (List.mem_cons_self ..)
 have hy := run_yield (P := P) (args := #[v1, v2]) hl rfl
 refine ⟨_, _, _, _, hy, roundIn_of_wpIn (F := Fence.wide) trivial ?_⟩
 have hA : At (n := n) { tmps := (a.tmps.setIfInBounds p1 v1).setIfInBounds p2 v2, defers := [] } ((p2, v2) :: (p1, v1) :: l) := by
  have h2 := (ha.put hp1 v1).put hp2 v2
  have e : ((a.put (some p1) v1).put (some p2) v2) = { tmps := (a.tmps.setIfInBounds p1 v1).setIfInBounds p2 v2, defers := [] } := by
   simp [Act.put, hds]
  rwa [e] at h2
 have h3 := hassign w1 S1 _ _ w1 hA hu
 unfold dq at h3
 rw [da_nil hA] at h3
 have eT : ((#[p1, p2] : Array Nat).zip #[v1, v2]).foldl (fun t (x : Nat × Value) => t.setIfInBounds x.1 x.2) a.tmps = (a.tmps.setIfInBounds p1 v1).setIfInBounds p2 v2 := by simp
 show assign.wpIn (fR (some lp)) 0 P _ { tmps := ((#[p1, p2] : Array Nat).zip #[v1, v2]).foldl (fun t (x : Nat × Value) => t.setIfInBounds x.1 x.2) a.tmps, defers := [] } w1
 rw [eT]
 refine wpIn_mono h3 ?_
 intro e a1 w2 hq
 cases e with
 | exit id => exact hq.elim
 | goto t => exact hq.elim
 | ret => exact hq.elim
 | panic ch => exact hq.elim
 | outgrown => exact hq.elim
 | normal =>
  obtain ⟨hA1, hH1⟩ := hq
  have hl1 : w2.heap[lp]? = some (.loop (recL fnx a.tmps p1 p2 assign body D .ready none)) := hH1.holds _ (List.mem_cons_self ..)
  have hbr := run_beginRound (P := P) hl1 rfl
  refine ⟨_, hbr, ?_⟩
  have hH2 := Hp.putO (.loop (recL fnx a.tmps p1 p2 assign body D .busy none)) hH1
  have hH3 := Hp.star (m := [_, _]) (r := B true i x) hH2
  have h4 := hbody w1 S1 _ a1 _ hA1 hH3
  unfold dq at h4
  rw [da_nil hA1] at h4
  refine wpIn_mono h4 ?_
  intro e a2 w4 hq
  cases e with
  | normal =>
   obtain ⟨y, hJy, hH4⟩ := hq
   exact I.fin (b := true) hJy rfl hH4
  | ret =>
   obtain ⟨y, hJy, hj, hH4⟩ := hq
   exact I.fin (b := false) hJy (by rw [← hj]; rfl) hH4
  | exit k =>
   obtain ⟨y, hJy, hj, hH4⟩ := hq
   exact I.fin (b := false) hJy (by rw [← hj]; rfl) hH4
  | goto t => exact hq.elim
  | panic ch => exact hq.elim
  | outgrown => exact hq.elim
theorem I.rangeF {X : Type} {gf nn p1 p2 : Nat} {lb : Array Value} {ro pre q : List Ck} {encs : Nat → Value × Value} {g : Operand} {assign body : Code} {fn : Func} {c : Code}
 (J : Bool → Nat → X → Prop) (B : Bool → Nat → X → List Ck) (jmp : X → Code) (L2 : Nat → Fr) {x0 : X}
 (hg : ev l g = some (.func (.func gf) #[] lb)) (hf : P.funcs[gf]? = some fn) (hb : fn.body = some c) (hnm : (fn.name == "runtime.NumGoroutine") = false)
 (hseq : SeqT P gf lb ro pre nn (fun i => [(encs i).1, (encs i).2]))
 (hm : Sub m (B true 0 x0 ++ pre) q) (hro : ∀ c ∈ ro, May w0 S q c) (h0 : J true 0 x0)
 (hp1 : Nat.blt p1 n = true) (hp2 : Nat.blt p2 n = true)
 (hassign : ∀ w1 S1 lp m1 i, i < nn → G n w1 S1 ((p2, (encs i).2) :: (p1, (encs i).1) :: l) m1 (dq [] (assign.wpIn (fR (some lp)) 0 P (Exit.then (fun a w => At a n (L2 i) ∧ Hp w1 S1 w m1) (fun _ _ _ => False)))))
 (hbody : ∀ w1 S1 lp c i x, i < nn → J true i x → G n w1 S1 (L2 i) (c :: B true i x) (dq [] (body.wpIn (fR (some lp)) 0 P (rnd w1 S1 J B jmp c i))))
 (hdone : ∀ D x, J true nn x → G n w0 S l (dfr D :: (B true nn x ++ q)) (dq (mark D) (Q .normal)))
 (hstop : ∀ D i x, i ≤ nn → J false i x → G n w0 S l (dfr D :: (B false i x ++ q)) (dq (mark D) ((jmp x).wpIn (fR none) 0 P Q))) :
 G n w0 S l m (dq [] ((Code.rangeFunc g #[p1, p2] assign body).wpIn (fR none) 0 P Q)) := fun a w ha hw => by
 unfold dq
 rw [da_nil ha]
 have hds : a.defers = [] := ha.defs
 have hw' := hw.perm hm.perm
 refine wpIn_rangeFunc (F := fR none) (n := 0) ?_
 intro fnx _
 obtain ⟨W1, hW1⟩ : ∃ W1, (w.alloc (.deferred (some []))).alloc (.loop (recL fnx a.tmps p1 p2 assign body w.heap.size .ready none)) = W1 := ⟨_, rfl⟩
 have hp1W : Hp w0 S W1 (cL (recL fnx a.tmps p1 p2 assign body w.heap.size) (w.heap.size + 1) w.heap.size B jmp true 0 x0 :: pre ++ q) := by
  rw [← hW1]
  have h2 := (hw'.allocO (.deferred (some []))).allocO (.loop (recL fnx a.tmps p1 p2 assign body w.heap.size .ready none))
  rw [World.size_alloc, List.append_assoc] at h2
  exact Hp.star (m := _ :: _ :: B true 0 x0) (r := pre ++ q) h2
 have hT := hseq (w.heap.size + 1) X J (cL (recL fnx a.tmps p1 p2 assign body w.heap.size) (w.heap.size + 1) w.heap.size B jmp) x0 h0 fun i x hi hJ => I.round ha hp1 hp2 (fun w1 S1 m1 => hassign w1 S1 _ m1 i hi) (fun w1 S1 c => hbody w1 S1 _ c i x hi hJ)
 have hpp : Hp W1 (U (cL (recL fnx a.tmps p1 p2 assign body w.heap.size) (w.heap.size + 1) w.heap.size B jmp true 0 x0 :: pre)) W1 (cL (recL fnx a.tmps p1 p2 assign body w.heap.size) (w.heap.size + 1) w.heap.size B jmp true 0 x0 :: pre) := ⟨Chg.refl _ _, fun c hc => hp1W.holds c (List.mem_append_left _ hc), fun c hc b hb => ⟨.inl ⟨c, hc, hb⟩, (hp1W.own c (List.mem_append_left _ hc) b hb).2⟩, (List.pairwise_append.1 hp1W.dis).1⟩
 have hcall := hT W1 (fun c hc => (hro c hc).ro hp1W) hpp
 have henter : (Instr.enterLoop fnx a.tmps #[p1, p2] assign body (fR none).round).run P w = .ok (w.heap.size + 1, mark w.heap.size) W1 := by
  rw [← hW1]
  exact run_enterLoop_outer _ _ _ _ _
 have hres : (resolve a.eval (rangeCall g (w.heap.size + 1)) 0).run P W1 = .ok { target := .fn (.func gf) lb, args := #[.func (.yield (w.heap.size + 1)) #[] #[]] } W1 := by
  simp only [resolve, rangeCall, ha.eval hg]
  simp [Deferred.ofValue, Sem.run_bind, Sem.run_pure, Result.andThen, Act.eval, Sem.run]
 have hinv := run_invokeF (P := P) (args := #[.func (.yield (w.heap.size + 1)) #[] #[]]) (cap := lb) hf hb hnm W1
 have hz : (fR none).depth.isSome = true → 1 ≤ 0 := fun h => by simp [fR, Fence.wide] at h
 suffices hfin : CallsIn (fR none) 0 P gf (#[.func (.yield (w.heap.size + 1)) #[] #[]] ++ lb) W1 (rangePost (fR none) 0 P (w.heap.size + 1) Q { a with defers := mark w.heap.size ++ a.defers }) from
  ⟨w.heap.size + 1, mark w.heap.size, W1, _, W1, gf, _, W1, henter, hres, fun _ _ => trivial, hinv, hz, hfin⟩
 refine calls_fR (callsIn_wide.2 (hcall.mono ?_))
 rintro e w3 ⟨v, m', rfl, ⟨⟨b, i, y⟩, ⟨hJ, hle, hall⟩, rfl, rfl⟩, hm'⟩
 have hu2 := Hp.unstar (m := _ :: _ :: B b i y) (r := q) (hp1W.turn hm')
 have hl3 : w3.heap[w.heap.size + 1]? = some (.loop (recL fnx a.tmps p1 p2 assign body w.heap.size (stL b) (peL jmp b y))) := hu2.holds _ (List.mem_cons_self ..)
 have hend := run_endLoop (P := P) hl3 (by cases b <;> simp [recL, stL])
 have hu3 := (Hp.putO (.loop { recL fnx a.tmps p1 p2 assign body w.heap.size (stL b) (peL jmp b y) with state := .exhausted }) hu2).tail
 have eD : ({ a with defers := mark w.heap.size ++ a.defers } : Act) = da (mark w.heap.size) a := by
  unfold da
  rw [hds]
  rfl
 refine ⟨_, _, hend, ?_⟩
 rw [eD]
 cases b with
 | true =>
  have hJ' : i = nn := hall rfl
  subst hJ'
  exact hdone _ y hJ a _ ha hu3
 | false => exact hstop _ i y hle hJ a _ ha hu3
theorem I.rangeK {X : Type} {gf nn p1 p2 : Nat} {lb : Array Value} {ro pre q : List Ck} {encs : Nat → Value × Value} {g : Operand} {assign body : Code} {fn : Func} {c : Code}
 (J : Bool → Nat → X → Prop) (B : Bool → Nat → X → List Ck) (jmp : X → Code) (A : Nat → Fr) {x0 : X} {ts : List Nat} {l1 : Fr} {L2 : Nat → Fr}
 (hg : ev l g = some (.func (.func gf) #[] lb)) (hf : P.funcs[gf]? = some fn) (hb : fn.body = some c) (hnm : (fn.name == "runtime.NumGoroutine") = false)
 (hseq : SeqT P gf lb ro pre nn (fun i => [(encs i).1, (encs i).2]))
 (hm : Sub m (B true 0 x0 ++ pre) q) (hro : ∀ c ∈ ro, May w0 S q c) (h0 : J true 0 x0)
 (hp1 : Nat.blt p1 n = true) (hp2 : Nat.blt p2 n = true) (hk : Kp l ts l1) (hL : Ap A l1 L2)
 (hassign : ∀ w1 S1 lp m1 i, i < nn → G n w1 S1 ((p2, (encs i).2) :: (p1, (encs i).1) :: l) m1 (dq [] (assign.wpIn (fR (some lp)) 0 P (Exit.then (fun a w => At a n (L2 i) ∧ Hp w1 S1 w m1) (fun _ _ _ => False)))))
 (hbody : ∀ w1 S1 lp c i x, i < nn → J true i x → G n w1 S1 (L2 i) (c :: B true i x) (dq [] (body.wpIn (fR (some lp)) 0 P (rnd w1 S1 J B jmp c i))))
 (hdone : ∀ D x, J true nn x → G n w0 S l (dfr D :: (B true nn x ++ q)) (dq (mark D) (Q .normal)))
 (hstop : ∀ D i x, i ≤ nn → J false i x → G n w0 S l (dfr D :: (B false i x ++ q)) (dq (mark D) ((jmp x).wpIn (fR none) 0 P Q))) :
 G n w0 S l m (dq [] ((Code.rangeFunc g #[p1, p2] assign body).wpIn (fR none) 0 P Q)) :=
 I.rangeF J B jmp L2 hg hf hb hnm hseq hm hro h0 hp1 hp2 hassign hbody hdone hstop
theorem Tr.ofM {f : FuncId} {args : Array Value} {ro pre : List Ck} {post : Value → List Ck → Prop} {fn : Func} {c : Code} {n : Nat} {l : Fr} (hf : P.funcs[f]? = some fn) (hb : fn.body = some c) (hn : args.size + (fn.ntmps - args.size) = n) (hl : Fa args l)
 (h : ∀ w0, (∀ c ∈ ro, Ro w0 (U pre) c) → G n w0 (U pre) l pre (dq [] (c.wpIn (fR none) 0 P (bodyPostM (fR none) 0 P fn (TrR w0 pre post))))) : Tr P f args ro pre post := fun w hro hp => by
 refine (callsIn_wide (n := 0)).1 (calls_wide (r := none) (callsIn_of_wp_marks hf hb trivial ?_))
 have hA : At { tmps := args ++ Array.replicate (fn.ntmps - args.size) undef, defers := [] } n l := ⟨by simp [hn], rfl, fun t v ht => by
  have := hl.get t v ht
  rw [Array.getElem?_append_left]
  ·exact this
  ·exact (Array.getElem?_eq_some_iff.1 this).1⟩
 exact h w hro _ _ hA hp
theorem I.leave {fn : Func} {R : Ending → World → Prop} {D : Nat} {q : List Ck} {rs : List ResultVar} {vs : List Value} (hr : fn.results = rs.toArray) (hs : Sel m (dfr D) q) (hv : Rv P w0 S l q rs vs) (h : ∀ w, Hp w0 S w q → R (.returned (retV vs)) w) : G n w0 S l m (dq (mark D) (bodyPostM (fR none) 0 P fn R .ret)) := fun a w ha hw => by
 have hw2 := hw.sel hs
 show LeavesInM (fR none) 0 P fn a.tmps R (a.defers ++ mark D) .returning w
 rw [ha.defs]
 have hw3 := (Hp.putO (.deferred none) hw2).tail
 exact ⟨by simp, .inl ⟨D, _, rfl, run_takeDeferred (hw2.holds _ (List.mem_cons_self ..)), _, hv.results hr ha hw3, h _ hw3⟩⟩
theorem I.leave0 {fn : Func} {R : Ending → World → Prop} {rs : List ResultVar} {vs : List Value} (hr : fn.results = rs.toArray) (hv : Rv P w0 S l m rs vs) (h : ∀ w, Hp w0 S w m → R (.returned (retV vs)) w) : G n w0 S l m (dq [] (bodyPostM (fR none) 0 P fn R .ret)) := fun a w ha hw => by
 show LeavesInM (fR none) 0 P fn a.tmps R (a.defers ++ []) .returning w
 rw [ha.defs]
 exact ⟨_, hv.results hr ha hw, h _ hw⟩
section
variable {X : Type} {J : X → Prop} {V : X → Value} {M : X → List Ck} {fn : Func} {pre q q2 : List Ck} {rs : List ResultVar} {vs : List Value} {D : Nat} {v : Value}
theorem I.doneM (x : X) (hJ : J x) (hr : fn.results = rs.toArray) (hs : Sel m (dfr D) q) (hv : Rv P w0 (U pre) l q rs vs) (he : retV vs = V x) (hm : Sub q (M x) q2) : G n w0 (U pre) l m (dq (mark D) (bodyPostM (fR none) 0 P fn (TrR w0 pre (TX J V M)) .ret)) :=
 I.leave hr hs hv fun w hw => ⟨_, M x, rfl, ⟨x, hJ, he, rfl⟩, (hw.perm hm.perm).sub (List.sublist_append_left _ _)⟩
theorem I.doneM0 (x : X) (hJ : J x) (hr : fn.results = rs.toArray) (hv : Rv P w0 (U pre) l m rs vs) (he : retV vs = V x) (hm : Sub m (M x) q2) : G n w0 (U pre) l m (dq [] (bodyPostM (fR none) 0 P fn (TrR w0 pre (TX J V M)) .ret)) :=
 I.leave0 hr hv fun w hw => ⟨_, M x, rfl, ⟨x, hJ, he, rfl⟩, (hw.perm hm.perm).sub (List.sublist_append_left _ _)⟩
theorem I.doneT (hr : fn.results = rs.toArray) (hs : Sel m (dfr D) q) (hv : Rv P w0 (U pre) l q rs vs) (he : retV vs = v) : G n w0 (U pre) l m (dq (mark D) (bodyPostM (fR none) 0 P fn (TrR w0 pre (T0 v)) .ret)) :=
 I.leave hr hs hv fun w hw => ⟨_, [], rfl, ⟨he, rfl⟩, hw.sub (List.nil_sublist _)⟩
theorem I.doneT0 (hr : fn.results = rs.toArray) (hv : Rv P w0 (U pre) l m rs vs) (he : retV vs = v) : G n w0 (U pre) l m (dq [] (bodyPostM (fR none) 0 P fn (TrR w0 pre (T0 v)) .ret)) :=
 I.leave0 hr hv fun w hw => ⟨_, [], rfl, ⟨he, rfl⟩, hw.sub (List.nil_sublist _)⟩
theorem I.doneI (x : X) (hJ : J x) (hr : fn.results = #[]) (he : .tuple #[] = V x) (hm : Sub m (M x) q2) : G n w0 (U pre) l m (dq [] (bodyPost P fn (TrR w0 pre (TX J V M)) .normal)) := I.stop (G.doneXE x hJ hr he hm)
theorem I.doneIr (x : X) (hJ : J x) (hr : fn.results = #[]) (he : .tuple #[] = V x) (hm : Sub m (M x) q2) : G n w0 (U pre) l m (dq [] (bodyPost P fn (TrR w0 pre (TX J V M)) .ret)) := I.stop (G.doneX0 x hJ hr he hm)
end
end
end Go.Proofs.YtcgacpmippdkeaaGreat
set_option maxRecDepth 100000
namespace Go.Proofs.YtcgacpmippdkeaaGreat
open Go.RowKit
section
open Go.RowKit
variable {w0 : World} {S : Nat → Prop} {m : List Ck}
theorem subT {p r : List Ck} (h : Sub m p r := by repeat (first | exact Sub.nil | (apply Sub.cons; (repeat (first | with_reducible exact Sel.here | exact Sel.here | apply Sel.there))))) : Sub m p r := h
theorem selD {c : Ck} {r : List Ck} (h : Sel m c r := by (repeat (first | with_reducible exact Sel.here | exact Sel.here | apply Sel.there)); done) : Sel m c r := h
theorem selT {c : Ck} {r : List Ck} (h : Sel m c r := by repeat (first | with_reducible exact Sel.here | exact Sel.here | apply Sel.there)) : Sel m c r := h
theorem celT {b o : Nat} {v : Value} (h : ∀ w, Hp w0 S w m → w.cell? ⟨b, o, none⟩ = some v := by first | exact blk_cell (by (repeat (first | with_reducible exact Sel.here | exact Sel.here | apply Sel.there)); done) (by rfl) | exact rng_cell (by (repeat (first | with_reducible exact Sel.here | exact Sel.here | apply Sel.there)); done) (by rfl) | exact ro_blk (by assumption) (by rfl) | exact ro_rngC (by assumption) (by rfl) | exact ro_int (by assumption) | exact ro_byte (by assumption) | exact ro_str (by assumption) | with_reducible assumption | assumption) : ∀ w, Hp w0 S w m → w.cell? ⟨b, o, none⟩ = some v := h
theorem flT {pl : List (Nat × Nat)} {cs cs' : List Value} {ps : List (Nat × Value)} (h : Fl pl cs ps cs' := by repeat (first | exact Fl.nil | (apply Fl.cons; exact rfl; (first | exact cells_of (by first | rfl | with_reducible assumption) | exact rfl); exact rfl; exact rfl; repeat (first | exact Sn.nil | (apply Sn.cons; repeat (first | exact St.zero | apply St.succ)))))) : Fl pl cs ps cs' := h
theorem veqT {a b : Value} (h : a = b := by first | rfl | exact int_eq (by first | omega | (dsimp only; omega)) | exact congrArg _ (by omega)) : a = b := h
theorem allT {vs : List Value} (h : vs.all (·.oneCell') = true := by first | ((repeat (first | exact all1_nil | (apply all1_cons; first | rfl | with_reducible assumption))); done) | exact List.all_eq_true.2 (vByte_one _) | rfl) : vs.all (·.oneCell') = true := h
theorem eqT {α : Sort _} {a b : α} (h : a = b := by first | rfl | with_reducible assumption) : a = b := h
theorem leT {a b : Nat} (h : a ≤ b := by first | (simp; done) | exact Nat.le_of_ble_eq_true rfl) : a ≤ b := h
theorem trT {p : Prop} (h : p := by first | exact trivial | ((try dsimp only) <;> exact trivial)) : p := h
theorem kr {α : Sort _} {a b : α} (h : a = b := by kernel_rfl) : a = b := h
theorem apT {X α : Type} {a c : X → List α} {b : List α} (h : Ap a b c := by repeat (first | exact Ap.nil | apply Ap.cons)) : Ap a b c := h
end
section
open Go.RowKit
variable {P : Program} {n : Nat} {w0 : World} {S : Nat → Prop} {l : Fr} {m : List Ck} {Q : Exit → Act → World → Prop} {ty : TypeId} {pos : String} {after : Array Edge}
theorem G.mvT {ops : Array Oper} {d : Nat} {x : Operand} {v : Value} {rest : List Oper} (hn : Nat.blt d n = true) (hx : ev l x = some v) (h : G n w0 S ((d, v) :: l) m (wpList P ops Q rest)) : G n w0 S l m (wpList P ops Q (⟨some d, .move x, ty, pos, after, none⟩ :: rest)) := G.op rfl (G.val rfl hn (pv_move hx) h)
theorem G.asT {ops : Array Oper} {d : Nat} {x : Operand} {v : Value} {rest : List Oper} (hn : Nat.blt d n = true) (hx : ev l x = some v) (h : G n w0 S ((d, v) :: l) m (wpList P ops Q rest)) : G n w0 S l m (wpList P ops Q (⟨some d, .assign x, ty, pos, after, none⟩ :: rest)) := G.op rfl (G.val rfl hn (pv_assign hx) h)
end
section
open Go.RowKit
structure Ar (cs : List Nat) (p q : Prop) : Prop where
 go : q → p
variable {P : Program} {n : Nat} {w0 : World} {S : Nat → Prop} {l : Fr} {m mS r : List Ck} {Q : Exit → Act → World → Prop} {K : Act → World → Prop} {ty : TypeId} {pos : String} {after : Array Edge} {cs c1 : List Nat} {q : Prop}
 {dst : Option Tmp} {g : Option (Nat × Bool)} {rest : List Oper} {ops : Array Oper} {o oi : Oper} {d i j t nn fuel rem rem' : Nat} {v : Value} {deps frs : List Nat}
def szB (P : Program) (t : TypeId) : Bool := match P.info? t with
 | some i => Nat.blt 0 i.size
 | none => false
theorem szB_spec (h : szB P t = true) : ∃ s, (P.info? t).map (·.size) = some (s + 1) := by
 unfold szB at h
 split at h
 ·rename_i i e
  have h2 : 0 < i.size := by simpa using h
  exact ⟨i.size - 1, by rw [e]; simp; omega⟩
 ·cases h
structure Pc (c c1 : List Nat) (P : Program) (n : Nat) (w0 : World) (S : Nat → Prop) (l : Fr) (m : List Ck) (o : Oper) (v : Value) : Prop where
 pv : PV P n w0 S l m o v
theorem Pc.mv {x : Operand} (hx : ev l x = some v) : Pc (0 :: cs) cs P n w0 S l m ⟨dst, .move x, ty, pos, after, g⟩ v := ⟨pv_move hx⟩
theorem Pc.as {x : Operand} (hx : ev l x = some v) : Pc (1 :: cs) cs P n w0 S l m ⟨dst, .assign x, ty, pos, after, g⟩ v := ⟨pv_assign hx⟩
theorem Pc.pk {c x y : Operand} {b : Bool} (hc : ev l c = some (.bool b)) (hv : ev l (if b then x else y) = some v) : Pc (2 :: cs) cs P n w0 S l m ⟨dst, .pick c x y, ty, pos, after, g⟩ v := ⟨pv_pick hc hv⟩
theorem Pc.fk {b o i k : Nat} {t : TypeId} {x : Operand} {fs : Array Field} {f : Field} (hu : P.underlying t = some (.struct fs)) (hf : fs[i]? = some f) (hsz : szB P f.type = true) (hx : ev l x = some (.pointer (some ⟨b, o, none⟩))) (hk : f.offset = k) : Pc (3 :: k :: cs) cs P n w0 S l m ⟨dst, .fieldAddr t x i, ty, pos, after, g⟩ (.pointer (some ⟨b, o + k, none⟩)) := by
 obtain ⟨s, hs⟩ := szB_spec hsz
 exact ⟨pv_fieldAddrK hu hf hs hx hk⟩
theorem Pc.ld {t : TypeId} {x : Operand} {b o : Nat} {d : TypeDesc} (hu : P.underlying t = some d) (hd : d.isRow = false) (hx : ev l x = some (.pointer (some ⟨b, o, none⟩))) (hc : ∀ w, Hp w0 S w m → w.cell? ⟨b, o, none⟩ = some v) : Pc (4 :: cs) cs P n w0 S l m ⟨dst, .load t x, ty, pos, after, g⟩ v := ⟨pv_load hu hd hx hc⟩
theorem Pc.ln {ad : Option Addr} {len cap : Nat} {t e : TypeId} {x : Operand} (hu : P.underlying t = some (.slice e)) (hx : ev l x = some (.slice ad len cap)) : Pc (5 :: cs) cs P n w0 S l m ⟨dst, .call ⟨.builtin .len, #[x], #[t]⟩, ty, pos, after, g⟩ (.int .i64 len) := ⟨pv_lenSl hu hx⟩
theorem Pc.ad {a b : Int} {t u : TypeId} {x y : Operand} (hx : ev l x = some (.int .i64 a)) (hy : ev l y = some (.int .i64 b)) (h : -9223372036854775808 ≤ a + b ∧ a + b ≤ 9223372036854775807) : Pc (6 :: cs) cs P n w0 S l m ⟨dst, .binOp .add t x y u, ty, pos, after, g⟩ (.int .i64 (a + b)) := ⟨pv_add64 hx hy h⟩
theorem Pc.ex {x : Operand} {i : Nat} {vs : Array Value} (hx : ev l x = some (.tuple vs)) (hi : vs[i]? = some v) : Pc (7 :: cs) cs P n w0 S l m ⟨dst, .extract x i, ty, pos, after, g⟩ v := ⟨pv_extract hx hi⟩
theorem Pc.nc {x : Operand} {ad : Addr} (hx : ev l x = some (.pointer (some ad))) : Pc (8 :: cs) cs P n w0 S l m ⟨dst, .nilCheck x, ty, pos, after, g⟩ (.pointer (some ad)) := ⟨pv_nilCheck hx⟩
theorem Pc.lss {k : IntKind} {a b : Int} {t u : TypeId} {x y : Operand} (hx : ev l x = some (.int k a)) (hy : ev l y = some (.int k b)) : Pc (9 :: cs) cs P n w0 S l m ⟨dst, .binOp .lss t x y u, ty, pos, after, g⟩ (.bool (decide (a < b))) := ⟨pv_lss hx hy⟩
theorem Pc.gtr {k : IntKind} {a b : Int} {t u : TypeId} {x y : Operand} (hx : ev l x = some (.int k a)) (hy : ev l y = some (.int k b)) : Pc (10 :: cs) cs P n w0 S l m ⟨dst, .binOp .gtr t x y u, ty, pos, after, g⟩ (.bool (decide (b < a))) := ⟨pv_gtr hx hy⟩
theorem Pc.leq {k : IntKind} {a b : Int} {t u : TypeId} {x y : Operand} (hx : ev l x = some (.int k a)) (hy : ev l y = some (.int k b)) : Pc (11 :: cs) cs P n w0 S l m ⟨dst, .binOp .leq t x y u, ty, pos, after, g⟩ (.bool (decide (a ≤ b))) := ⟨pv_leq hx hy⟩
theorem Pc.geq {k : IntKind} {a b : Int} {t u : TypeId} {x y : Operand} (hx : ev l x = some (.int k a)) (hy : ev l y = some (.int k b)) : Pc (12 :: cs) cs P n w0 S l m ⟨dst, .binOp .geq t x y u, ty, pos, after, g⟩ (.bool (decide (b ≤ a))) := ⟨pv_geq hx hy⟩
theorem Pc.eql {k : IntKind} {a b : Int} {t u : TypeId} {x y : Operand} (hx : ev l x = some (.int k a)) (hy : ev l y = some (.int k b)) : Pc (13 :: cs) cs P n w0 S l m ⟨dst, .binOp .eql t x y u, ty, pos, after, g⟩ (.bool (decide (a = b))) := ⟨pv_eql hx hy⟩
theorem Pc.neq {k : IntKind} {a b : Int} {t u : TypeId} {x y : Operand} (hx : ev l x = some (.int k a)) (hy : ev l y = some (.int k b)) : Pc (14 :: cs) cs P n w0 S l m ⟨dst, .binOp .neq t x y u, ty, pos, after, g⟩ (.bool (decide (a ≠ b))) := ⟨pv_neq hx hy⟩
theorem Pc.np {p : Prop} [Decidable p] {t : TypeId} {x : Operand} (hx : ev l x = some (.bool (decide p))) : Pc (15 :: cs) cs P n w0 S l m ⟨dst, .unOp .not t x, ty, pos, after, g⟩ (.bool (decide (¬ p))) := ⟨pv_notP hx⟩
theorem Pc.fa {b o i : Nat} {t : TypeId} {x : Operand} {fs : Array Field} {f : Field} (hu : P.underlying t = some (.struct fs)) (hf : fs[i]? = some f) (hsz : szB P f.type = true) (hx : ev l x = some (.pointer (some ⟨b, o, none⟩))) : Pc (16 :: cs) cs P n w0 S l m ⟨dst, .fieldAddr t x i, ty, pos, after, g⟩ (.pointer (some ⟨b, o + f.offset, none⟩)) := by
 obtain ⟨s, hs⟩ := szB_spec hsz
 exact ⟨pv_fieldAddr hu hf hs hx⟩
theorem Pc.su {a b : Int} {t u : TypeId} {x y : Operand} (hx : ev l x = some (.int .i64 a)) (hy : ev l y = some (.int .i64 b)) (h : -9223372036854775808 ≤ a - b ∧ a - b ≤ 9223372036854775807) : Pc (19 :: cs) cs P n w0 S l m ⟨dst, .binOp .sub t x y u, ty, pos, after, g⟩ (.int .i64 (a - b)) := ⟨pv_sub64 hx hy h⟩
theorem Pc.ix {b off len cap k : Nat} (sz : Nat) {ad : Option Addr} {j : Int} {kd : IntKind} {t e : TypeId} {x i : Operand} (hu : P.underlying t = some (.slice e)) (hsz : (P.info? e).map (·.size) = some sz) (hx : ev l x = some (.slice ad len cap)) (hi : ev l i = some (.int kd j)) (ha' : 0 < len → ad = some ⟨b, off, none⟩) (hj : j = (k : Int)) (hk : k < len) : Pc (20 :: sz :: cs) cs P n w0 S l m ⟨dst, .indexAddr t x i, ty, pos, after, g⟩ (.pointer (some ⟨b, off + k * sz, none⟩)) := ⟨pv_ixSl hu hsz hx hi ha' hj hk⟩
theorem Pc.lS {a : List UInt8} {t : TypeId} {x : Operand} (hu : P.underlying t = some .string) (hx : ev l x = some (.string (sB a))) : Pc (21 :: cs) cs P n w0 S l m ⟨dst, .call ⟨.builtin .len, #[x], #[t]⟩, ty, pos, after, g⟩ (.int .i64 a.length) := ⟨pv_lenS hu hx⟩
theorem Pc.xS {a : List UInt8} {k : Nat} {j : Int} {kd : IntKind} {t : TypeId} {x i : Operand} (hu : P.underlying t = some .string) (hx : ev l x = some (.string (sB a))) (hi : ev l i = some (.int kd j)) (hj : j = (k : Int)) (hk : k < a.length) : Pc (22 :: cs) cs P n w0 S l m ⟨dst, .index t x i, ty, pos, after, g⟩ (.int .u8 (a[k].toNat : Int)) := ⟨pv_ixS hu hx hi hj hk⟩
theorem Pc.nS {a b : List UInt8} {t u : TypeId} {x y : Operand} (hx : ev l x = some (.string (sB a))) (hy : ev l y = some (.string (sB b))) : Pc (23 :: cs) cs P n w0 S l m ⟨dst, .binOp .neq t x y u, ty, pos, after, g⟩ (.bool (decide (a ≠ b))) := ⟨pv_neqS hx hy⟩
theorem Pc.eS {a b : List UInt8} {t u : TypeId} {x y : Operand} (hx : ev l x = some (.string (sB a))) (hy : ev l y = some (.string (sB b))) : Pc (24 :: cs) cs P n w0 S l m ⟨dst, .binOp .eql t x y u, ty, pos, after, g⟩ (.bool (decide (a = b))) := ⟨pv_eqlS hx hy⟩
theorem Pc.no {b : Bool} {t : TypeId} {x : Operand} (hx : ev l x = some (.bool b)) : Pc (25 :: cs) cs P n w0 S l m ⟨dst, .unOp .not t x, ty, pos, after, g⟩ (.bool (!b)) := ⟨pv_not hx⟩
theorem Pc.mf {fn : Fn} {first captured : Array Operand} {vs us : List Value} (h1 : evs l first.toList = some vs) (h2 : evs l captured.toList = some us) : Pc (26 :: cs) cs P n w0 S l m ⟨dst, .makeFunc fn first captured, ty, pos, after, g⟩ (.func fn vs.toArray us.toArray) := ⟨pv_makeFunc h1 h2⟩
theorem Ar.nil {p : Prop} : Ar [] p p := ⟨id⟩
theorem Ar.mv {x : Operand} (hn : Nat.blt d n = true) (hx : ev l x = some v) (h : Ar cs (G n w0 S ((d, v) :: l) m (wpList P ops Q rest)) q) : Ar (0 :: cs) (G n w0 S l m (wpList P ops Q (⟨some d, .move x, ty, pos, after, none⟩ :: rest))) q := ⟨fun k => G.mvT hn hx (h.go k)⟩
theorem Ar.as {x : Operand} (hn : Nat.blt d n = true) (hx : ev l x = some v) (h : Ar cs (G n w0 S ((d, v) :: l) m (wpList P ops Q rest)) q) : Ar (1 :: cs) (G n w0 S l m (wpList P ops Q (⟨some d, .assign x, ty, pos, after, none⟩ :: rest))) q := ⟨fun k => G.asT hn hx (h.go k)⟩
theorem Ar.op (hg : o.guard = none) (hd : o.dst = some d) (hn : Nat.blt d n = true) (hv : Pc cs c1 P n w0 S l m o v) (h : Ar c1 (G n w0 S ((d, v) :: l) m (wpList P ops Q rest)) q) : Ar (2 :: cs) (G n w0 S l m (wpList P ops Q (o :: rest))) q := ⟨fun k => G.op hg (G.val hd hn hv.pv (h.go k))⟩
theorem Ar.wa {b : Bool} (hg : o.guard = some (j, b)) (hj : (ops[j]?).bind (·.dst) = some t) (ht : Fr.get l t = some (.bool b)) (hd : o.dst = some d) (hn : Nat.blt d n = true) (hv : Pc cs c1 P n w0 S l m o v) (h : Ar c1 (G n w0 S ((d, v) :: l) m (wpList P ops Q rest)) q) : Ar (3 :: cs) (G n w0 S l m (wpList P ops Q (o :: rest))) q := ⟨fun k => G.want hg hj ht (G.val hd hn hv.pv (h.go k))⟩
theorem Ar.pa {b c : Bool} (hg : o.guard = some (j, b)) (hj : (ops[j]?).bind (·.dst) = some t) (ht : Fr.get l t = some (.bool c)) (hbc : Bool.xor b c = true) (hd : o.dst = some d) (hn : Nat.blt d n = true) (h : Ar cs (G n w0 S ((d, undef) :: l) m (wpList P ops Q rest)) q) : Ar (4 :: cs) (G n w0 S l m (wpList P ops Q (o :: rest))) q := ⟨fun k => G.pass hg hj ht hbc hd hn (h.go k)⟩
theorem Ar.pu {b : Bool} (hg : o.guard = some (j, b)) (hj : (ops[j]?).bind (·.dst) = some t) (ht : Fr.get l t = some undef) (hd : o.dst = some d) (hn : Nat.blt d n = true) (h : Ar cs (G n w0 S ((d, undef) :: l) m (wpList P ops Q rest)) q) : Ar (6 :: cs) (G n w0 S l m (wpList P ops Q (o :: rest))) q := ⟨fun k => G.passU hg hj ht hd hn (h.go k)⟩
theorem Ar.nl (h : Ar cs (G n w0 S l m (Q .normal)) q) : Ar (7 :: cs) (G n w0 S l m (wpList P ops Q [])) q := ⟨fun k => G.nil (h.go k)⟩
theorem Ar.nt (h : Ar cs (G n w0 S l m K) q) : Ar (8 :: cs) (G n w0 S l m (Exit.then K Q .normal)) q := ⟨fun k => G.nThen (h.go k)⟩
theorem Ar.sq {x y : Code} (h : Ar cs (G n w0 S l m (x.wp P (Exit.then (y.wp P Q) Q))) q) : Ar (9 :: cs) (G n w0 S l m ((Code.seq x y).wp P Q)) q := ⟨fun k => G.seq (h.go k)⟩
theorem Ar.rg {id : Nat} {ops : List Oper} (h : Ar cs (G n w0 S l m (wpList P ops.toArray Q ops)) q) : Ar (10 :: cs) (G n w0 S l m ((Code.region id ops.toArray false).wp P Q)) q := ⟨fun k => G.region (h.go k)⟩
theorem Ar.re (h : Ar cs (G n w0 S l m (Q .ret)) q) : Ar (11 :: cs) (G n w0 S l m (Code.ret.wp P Q)) q := ⟨fun k => G.ret (h.go k)⟩
theorem Ar.rt (h : Ar cs (G n w0 S l m (Q .ret)) q) : Ar (12 :: cs) (G n w0 S l m (Exit.then K Q .ret)) q := ⟨fun k => G.rThen (h.go k)⟩
theorem Ar.sk (h : Ar cs (G n w0 S l m (Q .normal)) q) : Ar (13 :: cs) (G n w0 S l m (Code.skip.wp P Q)) q := ⟨fun k => G.skip (h.go k)⟩
theorem Ar.et {id : Nat} (h : Ar cs (G n w0 S l m (Q (.exit id))) q) : Ar (14 :: cs) (G n w0 S l m (Exit.then K Q (.exit id))) q := ⟨fun k => G.eThen (h.go k)⟩
theorem Ar.bl {id : Nat} {c : Code} (h : Ar cs (G n w0 S l m (c.wp P (Exit.inBlock id Q))) q) : Ar (15 :: cs) (G n w0 S l m ((Code.block id c).wp P Q)) q := ⟨fun k => G.block (h.go k)⟩
theorem Ar.nb {id : Nat} (h : Ar cs (G n w0 S l m (Q .normal)) q) : Ar (16 :: cs) (G n w0 S l m (Exit.inBlock id Q .normal)) q := ⟨fun k => G.nBlock (h.go k)⟩
theorem Ar.rb {id : Nat} (h : Ar cs (G n w0 S l m (Q .ret)) q) : Ar (17 :: cs) (G n w0 S l m (Exit.inBlock id Q .ret)) q := ⟨fun k => G.rBlock (h.go k)⟩
theorem Ar.xi {id : Nat} (h : Ar cs (G n w0 S l m (Q (.exit id))) q) : Ar (18 :: cs) (G n w0 S l m ((Code.exit id).wp P Q)) q := ⟨fun k => G.exit (h.go k)⟩
theorem Ar.eb {id : Nat} (h : Ar cs (G n w0 S l m (Q .normal)) q) : Ar (19 :: cs) (G n w0 S l m (Exit.inBlock id Q (.exit id))) q := ⟨fun k => G.eBlock (h.go k)⟩
theorem Ar.sN {t : TypeId} {x y : Operand} {b o : Nat} {T : TypeId} {us vs : List Value} (hi : (P.info? t).map (·.size) = some vs.length) (hx : ev l x = some (.pointer (some ⟨b, o, none⟩))) (hy : ev l y = some (.agg vs.toArray)) (hv : vs.all (·.oneCell') = true) (hs : Sel m (blk b T us) r) (ho : o + vs.length ≤ us.length)
 (h : Ar cs (G n w0 S l (blk b T (putN us o vs) :: r) (wpList P ops Q rest)) q) : Ar (20 :: cs) (G n w0 S l m (wpList P ops Q (⟨none, .store t x y, ty, pos, after, none⟩ :: rest))) q := ⟨fun k => G.op rfl (G.storeN hi hx hy hv hs ho (h.go k))⟩
theorem Ar.so {t : TypeId} {x y : Operand} {b o : Nat} {T : TypeId} {us : List Value} (hi : (P.info? t).map (·.size) = some 1) (hx : ev l x = some (.pointer (some ⟨b, o, none⟩))) (hy : ev l y = some v) (hv : v.oneCell' = true) (hs : Sel m (blk b T us) r) (ho : o < us.length)
 (h : Ar cs (G n w0 S l (blk b T (us.set o v) :: r) (wpList P ops Q rest)) q) : Ar (21 :: cs) (G n w0 S l m (wpList P ops Q (⟨none, .store t x y, ty, pos, after, none⟩ :: rest))) q := ⟨fun k => G.op rfl (G.store hi hx hy hv hs ho (h.go k))⟩
theorem Ar.tk (i rem' : Nat) (hT : Tab ops deps frs nn) (hi : ops[i]? = some oi) (hd : oi.dst = some d) (hn : Nat.blt d n = true) (hk : tkB deps frs rem i rem' = true) (hQ : ∀ c a w, Q (.panic c) (a.put oi.dst v) w → Q (.panic c) a w) (hw : wantB ops l oi = some true) (hv : Pc cs c1 P n w0 S l mS oi v) (hs : Sub m mS r)
 (h : Ar c1 (G n w0 S ((d, v) :: l) m (GA P ops Q (fun w => Hp w0 S w mS) nn fuel rem')) q) : Ar (22 :: i :: rem' :: cs) (G n w0 S l m (GA P ops Q (fun w => Hp w0 S w mS) nn (fuel + 1) rem)) q := ⟨fun k => G.takeT hT hi hd hn hk hQ hw hv.pv hs (h.go k)⟩
theorem Ar.tf (i rem' : Nat) (hT : Tab ops deps frs nn) (hi : ops[i]? = some oi) (hd : oi.dst = some d) (hn : Nat.blt d n = true) (hk : tkB deps frs rem i rem' = true) (hQ : ∀ c a w, Q (.panic c) (a.put oi.dst undef) w → Q (.panic c) a w) (hw : wantB ops l oi = some false) (hs : Sub m mS r)
 (h : Ar cs (G n w0 S ((d, undef) :: l) m (GA P ops Q (fun w => Hp w0 S w mS) nn fuel rem')) q) : Ar (23 :: i :: rem' :: cs) (G n w0 S l m (GA P ops Q (fun w => Hp w0 S w mS) nn (fuel + 1) rem)) q := ⟨fun k => G.takeFT hT hi hd hn hk hQ hw hs (h.go k)⟩
theorem Ar.on {Sx : World → Prop} (i rem' : Nat) (hT : Tab ops deps frs nn) (hr : rdB deps rem [i] = true) (hb : rmB rem i rem' = true) (h : Ar cs (G n w0 S l m (wpOp P ops Q i (fun a w => Sx w ∧ GA P ops Q Sx nn fuel rem' a w))) q) : Ar (24 :: i :: rem' :: cs) (G n w0 S l m (GA P ops Q Sx nn (fuel + 1) rem)) q := ⟨fun k => G.oneT hT hr hb (h.go k)⟩
theorem Ar.tu (hi : ops[i]? = some oi) (hw : wantB ops l oi = some true) (hd : oi.dst = some d) (hn : Nat.blt d n = true) (hv : Pc cs c1 P n w0 S l m oi v) (h : Ar c1 (G n w0 S ((d, v) :: l) m K) q) : Ar (25 :: cs) (G n w0 S l m (wpOp P ops Q i K)) q := ⟨fun k => G.turnOp hi hw (G.val hd hn hv.pv (h.go k))⟩
theorem Ar.bk (hs : Sub m mS r) (h : Ar cs (G n w0 S l m K) q) : Ar (26 :: cs) (G n w0 S l m (fun a w => Hp w0 S w mS ∧ K a w)) q := ⟨fun k => G.back hs (h.go k)⟩
theorem Ar.ov {Sx : World → Prop} (hT : Tab ops deps frs nn) (hr : rdB deps rem [] = true) (h : Ar cs (G n w0 S l m (Q .normal)) q) : Ar (27 :: cs) (G n w0 S l m (GA P ops Q Sx nn fuel rem)) q := ⟨fun k => G.overT hT hr (h.go k)⟩
theorem Ar.tN {t : TypeId} {x y : Operand} {b o : Nat} {T : TypeId} {us vs : List Value} (ho' : ops[i]? = some ⟨none, .store t x y, ty, pos, after, g⟩) (hw : wantB ops l ⟨none, .store t x y, ty, pos, after, g⟩ = some true) (hi : (P.info? t).map (·.size) = some vs.length) (hx : ev l x = some (.pointer (some ⟨b, o, none⟩))) (hy : ev l y = some (.agg vs.toArray)) (hv : vs.all (·.oneCell') = true) (hs : Sel m (blk b T us) r) (ho : o + vs.length ≤ us.length)
 (h : Ar cs (G n w0 S l (blk b T (putN us o vs) :: r) K) q) : Ar (29 :: cs) (G n w0 S l m (wpOp P ops Q i K)) q := ⟨fun k => G.turnOp ho' hw (G.storeN hi hx hy hv hs ho (h.go k))⟩
theorem Ar.ts {t : TypeId} {x y : Operand} {b o : Nat} {T : TypeId} {us : List Value} (ho' : ops[i]? = some ⟨none, .store t x y, ty, pos, after, g⟩) (hw : wantB ops l ⟨none, .store t x y, ty, pos, after, g⟩ = some true) (hi : (P.info? t).map (·.size) = some 1) (hx : ev l x = some (.pointer (some ⟨b, o, none⟩))) (hy : ev l y = some v) (hv : v.oneCell' = true) (hs : Sel m (blk b T us) r) (ho : o < us.length)
 (h : Ar cs (G n w0 S l (blk b T (us.set o v) :: r) K) q) : Ar (30 :: cs) (G n w0 S l m (wpOp P ops Q i K)) q := ⟨fun k => G.turnOp ho' hw (G.store hi hx hy hv hs ho (h.go k))⟩
section
variable {ds : List Deferred} {rr : Option Nat}
theorem Ar.inT (h : Ar cs (G n w0 S l m (dq ds K)) q) : Ar (31 :: cs) (G n w0 S l m (dq ds (Exit.then K Q .normal))) q := ⟨fun k => I.nThen (h.go k)⟩
theorem Ar.iS {x y : Code} (h : Ar cs (G n w0 S l m (dq ds (x.wpIn (fR rr) 0 P (Exit.then (y.wpIn (fR rr) 0 P Q) Q)))) q) : Ar (32 :: cs) (G n w0 S l m (dq ds ((Code.seq x y).wpIn (fR rr) 0 P Q))) q := ⟨fun k => I.seq (h.go k)⟩
theorem Ar.iR {id : Nat} {ops : List Oper} (hd : ops.all noDefer = true) (hQ : ¬ LetsOut Q) (h : Ar cs (G n w0 S l m (wpList P ops.toArray (dqq ds Q) ops)) q) : Ar (33 :: cs) (G n w0 S l m (dq ds ((Code.region id ops.toArray false).wpIn (fR rr) 0 P Q))) q := ⟨fun k => I.region hd hQ (h.go k)⟩
theorem Ar.iN (h : Ar cs (G n w0 S l m (dq ds (Q .normal))) q) : Ar (34 :: cs) (G n w0 S l m (wpList P ops (dqq ds Q) [])) q := ⟨fun k => I.nil (h.go k)⟩
theorem Ar.irT (h : Ar cs (G n w0 S l m (dq ds (Q .ret))) q) : Ar (35 :: cs) (G n w0 S l m (dq ds (Exit.then K Q .ret))) q := ⟨fun k => I.rThen (h.go k)⟩
theorem Ar.irB {id : Nat} (h : Ar cs (G n w0 S l m (dq ds (Q .ret))) q) : Ar (36 :: cs) (G n w0 S l m (dq ds (Exit.inBlock id Q .ret))) q := ⟨fun k => I.rBlock (h.go k)⟩
theorem Ar.iRe (h : Ar cs (G n w0 S l m (dq ds (Q .ret))) q) : Ar (37 :: cs) (G n w0 S l m (dq ds (Code.ret.wpIn (fR rr) 0 P Q))) q := ⟨fun k => I.ret (h.go k)⟩
theorem Ar.iB {id : Nat} {c : Code} (h : Ar cs (G n w0 S l m (dq ds (c.wpIn (fR rr) 0 P (Exit.inBlock id Q)))) q) : Ar (38 :: cs) (G n w0 S l m (dq ds ((Code.block id c).wpIn (fR rr) 0 P Q))) q := ⟨fun k => I.block (h.go k)⟩
theorem Ar.iSk (h : Ar cs (G n w0 S l m (dq ds (Q .normal))) q) : Ar (39 :: cs) (G n w0 S l m (dq ds (Code.skip.wpIn (fR rr) 0 P Q))) q := ⟨fun k => I.skip (h.go k)⟩
theorem Ar.inB {id : Nat} (h : Ar cs (G n w0 S l m (dq ds (Q .normal))) q) : Ar (40 :: cs) (G n w0 S l m (dq ds (Exit.inBlock id Q .normal))) q := ⟨fun k => I.nBlock (h.go k)⟩
theorem Ar.ieT {id : Nat} (h : Ar cs (G n w0 S l m (dq ds (Q (.exit id)))) q) : Ar (41 :: cs) (G n w0 S l m (dq ds (Exit.then K Q (.exit id)))) q := ⟨fun k => I.eThen (h.go k)⟩
theorem Ar.iX {id : Nat} (h : Ar cs (G n w0 S l m (dq ds (Q (.exit id)))) q) : Ar (42 :: cs) (G n w0 S l m (dq ds ((Code.exit id).wpIn (fR rr) 0 P Q))) q := ⟨fun k => I.exit (h.go k)⟩
theorem Ar.ieB {id : Nat} (h : Ar cs (G n w0 S l m (dq ds (Q .normal))) q) : Ar (43 :: cs) (G n w0 S l m (dq ds (Exit.inBlock id Q (.exit id)))) q := ⟨fun k => I.eBlock (h.go k)⟩
end
theorem Ar.ep {id id' : Nat} (hne : Nat.beq id' id = false) (h : Ar cs (G n w0 S l m (Q (.exit id'))) q) : Ar (44 :: cs) (G n w0 S l m (Exit.inBlock id Q (.exit id'))) q := ⟨fun k => G.ePass hne (h.go k)⟩
theorem Pc.ck (c : Nat) (h : Pc (c :: cs) c1 P n w0 S l m o v) : Pc (c :: cs) c1 P n w0 S l m o v := h
theorem Ar.ck (c : Nat) {p : Prop} (h : Ar (c :: cs) p q) : Ar (c :: cs) p q := h
theorem Ar.cz (c : Nat) {p : Prop} (h : Ar (60 :: c :: cs) p q) : Ar (60 :: c :: cs) p q := h
theorem Pc.cu (i : Nat) (h : PV P n w0 S l m o v) : Pc (50 :: i :: cs) cs P n w0 S l m o v := ⟨h⟩
theorem Ar.cu {p p1 : Prop} (i : Nat) (f : p1 → p) (h : Ar cs p1 q) : Ar (60 :: i :: cs) p q := ⟨fun k => f (h.go k)⟩
end
theorem adT {p : Prop} (h : p := by first | with_reducible assumption | assumption | exact fun _ => rfl) : p := h
theorem noT {p : Prop} (h : p := by rintro ⟨_, _, h⟩; first | exact h | exact noOut h) : p := h
theorem Y0 {p : Prop} (h : p := by first | exact frz_int selD (by assumption) | exact blk_cell selD (by rfl) | exact rng_cell selD (by rfl) | exact ro_blk (by assumption) (by rfl) | exact ro_rngC (by assumption) (by rfl) | exact ro_int (by assumption) | exact ro_byte (by assumption) | exact ro_str (by assumption) | with_reducible assumption | assumption) : p := h
theorem Y1 {p : Prop} (h : p := by first | (apply May.old; first | with_reducible assumption | assumption) | (apply Sel.may; (repeat (first | with_reducible exact Sel.here | exact Sel.here | apply Sel.there)); done) | (apply may_own; (repeat (first | with_reducible exact Sel.here | exact Sel.here | apply Sel.there)); exact rfl; exact (fun _ _ => trivial); done) | (apply may_ownB; (repeat (first | with_reducible exact Sel.here | exact Sel.here | apply Sel.there)); done) | (apply may_ownI; (repeat (first | with_reducible exact Sel.here | exact Sel.here | apply Sel.there)); assumption; done) | (apply may_ownN; (repeat (first | with_reducible exact Sel.here | exact Sel.here | apply Sel.there)); assumption; done)) : p := h
theorem Y2 {p : Prop} (h : p := by first | (apply May.old; first | with_reducible assumption | assumption) | (apply Sel.may; (repeat (first | with_reducible exact Sel.here | exact Sel.here | apply Sel.there)); done) | (apply may_own; (repeat (first | with_reducible exact Sel.here | exact Sel.here | apply Sel.there)); exact rfl; exact (fun _ _ => trivial); done) | (apply may_ownB; (repeat (first | with_reducible exact Sel.here | exact Sel.here | apply Sel.there)); done) | (apply may_ownI; (repeat (first | with_reducible exact Sel.here | exact Sel.here | apply Sel.there)); assumption; done) | (apply may_ownN; (repeat (first | with_reducible exact Sel.here | exact Sel.here | apply Sel.there)); assumption; done) | (apply may_tree; (repeat (first | with_reducible exact Sel.here | exact Sel.here | apply Sel.there)); (repeat (first | with_reducible exact Sel.here | exact Sel.here | apply Sel.there)); assumption; done)) : p := h
theorem Y3 {p : Prop} (h : p := by first | exact blk_cell selD (roll_n hr) | exact blk_cell selD (roll_s hr) | exact blk_cell selD (by rfl) | exact rng_cell selD (by rfl) | exact ro_blk (by assumption) (by rfl) | exact ro_rngC (by assumption) (by rfl) | exact ro_int (by assumption) | exact ro_byte (by assumption) | exact ro_str (by assumption) | with_reducible assumption | assumption) : p := h
theorem Y4 {p : Prop} (h : p := by first | exact blk_range (k := 5) selD (by rfl) | exact ro_rng0 (by assumption) | exact rng_range (k := 5) selD (by rfl) | exact ro_range (k := 5) (by assumption) (by rfl) | exact ro_rngR (k := 5) (by assumption) (by rfl)) : p := h
theorem Y5 {p : Prop} (h : p := by first | (apply May.old; first | with_reducible assumption | assumption) | (apply Sel.may; (repeat (first | with_reducible exact Sel.here | exact Sel.here | apply Sel.there)); done) | (apply may_own; (repeat (first | with_reducible exact Sel.here | exact Sel.here | apply Sel.there)); exact rfl; exact (fun _ _ => trivial); done) | (apply may_ownB; (repeat (first | with_reducible exact Sel.here | exact Sel.here | apply Sel.there)); done) | (apply may_tree; (repeat (first | with_reducible exact Sel.here | exact Sel.here | apply Sel.there)); (repeat (first | with_reducible exact Sel.here | exact Sel.here | apply Sel.there)); assumption; done)) : p := h
theorem Y6 {p : Prop} (h : p := by first | exact trivial | ((try dsimp only) <;> exact ⟨Up.refl _ _, bend_ok hz (IsSl.nil _ _ _) _, by rw [(pieceB_no (p := z.bm) (y := ⟨k, ns, ids, bs⟩) (by show k ≠ 22 ∨ n0 ns ≠ z.b.length ∨ (z.ph = 2 ∧ n1 ns ≠ z.size) ∨ n1 ns < 1 ∨ 262144 < n1 ns ∨ (bs.length : Int) ≠ min (n1 ns - z.b.length) 1000; omega))]; rfl⟩)) : p := h
theorem Y7 {p : Prop} (h : p := by first | exact dec_t (by unfold argP; omega) | exact dec_f (by unfold argP; omega) | exact dec_e (by unfold argP; omega) | exact dec_n (bne_dec.trans (by unfold argP; rw [hto]; omega)) | (rw [show _ = true from by assumption]; exact dec_t (by have h := bne_dec.1 (by assumption); rw [hto] at h; unfold argP; omega))) : p := h
theorem Y8 {p : Prop} (h : p := by first | rfl | exact int_eq (by omega) | (simp; done)) : p := h
theorem Y9 {p : Prop} (h : p := by first | exact blk_range (k := 6) selD (by rfl) | exact ro_rng0 (by assumption) | exact rng_range (k := 6) selD (by rfl) | exact ro_range (k := 6) (by assumption) (by rfl) | exact ro_rngR (k := 6) (by assumption) (by rfl)) : p := h
theorem Y10 {p : Prop} (h : p := by first | (apply May.old; first | with_reducible assumption | assumption) | (apply Sel.may; (repeat (first | with_reducible exact Sel.here | exact Sel.here | apply Sel.there)); done) | (apply may_own; (repeat (first | with_reducible exact Sel.here | exact Sel.here | apply Sel.there)); exact rfl; exact (fun _ _ => trivial); done) | (apply may_ownB; (repeat (first | with_reducible exact Sel.here | exact Sel.here | apply Sel.there)); done) | (apply may_ownI; (repeat (first | with_reducible exact Sel.here | exact Sel.here | apply Sel.there)); assumption; done) | (apply may_ownN; (repeat (first | with_reducible exact Sel.here | exact Sel.here | apply Sel.there)); assumption; done) | (apply may_tree; (repeat (first | with_reducible exact Sel.here | exact Sel.here | apply Sel.there)); (repeat (first | with_reducible exact Sel.here | exact Sel.here | apply Sel.there)); assumption; done) | (refine may_frz ?_ ?_; rotate_left; assumption; (repeat (first | with_reducible exact Sel.here | exact Sel.here | apply Sel.there)); done)) : p := h
theorem Y11 {p : Prop} (h : p := by first | exact dec_t (by rw [ne_eq, he]; simp_all) | exact dec_e (by rw [ne_eq ys[i].1, he] at *; simp_all) | exact dec_e (by rw [ne_eq xs[i].1, he]; simp_all)) : p := h
theorem Y12 {p : Prop} (h : p := by first | exact blk_range (k := 2) selD (by rfl) | exact rng_range (k := 2) selD (by rfl) | exact ro_range (k := 2) (by assumption) (by rfl) | exact ro_rngR (k := 2) (by assumption) (by rfl)) : p := h
theorem Y13 {p : Prop} (h : p := by first | exact blk_range (k := 4) selD (by rfl) | exact ro_rng0 (by assumption) | exact rng_range (k := 4) selD (by rfl) | exact ro_range (k := 4) (by assumption) (by rfl) | exact ro_rngR (k := 4) (by assumption) (by rfl)) : p := h
theorem Y14 {p : Prop} (h : p := by rw [List.drop_zero, List.length_map, lq]; exact Nat.le_refl _) : p := h
theorem Y15 {p : Prop} (h : p := by rw [List.length_map, lq]; kernel_rfl) : p := h
theorem Y16 {p : Prop} (h : p := by first | exact trivial | ((try dsimp only) <;> exact rfl)) : p := h
theorem Y17 {p : Prop} (h : p := by (repeat (first | with_reducible exact Sel.here | exact Sel.here | apply Sel.there))) : p := h
theorem Y18 {p : Prop} (h : p := by first | exact dec_t (fun h => by rw [hmh] at h; omega) | exact dec_e ⟨fun h k => by rw [hmh] at k; omega, fun h k => h ⟨hmh.2 ⟨by omega, by omega, by omega, by omega⟩, by omega⟩⟩) : p := h
theorem Y19 {p : Prop} (h : p := by first | omega | (simp only [List.length_append, List.length_nil, putM_length]; omega)) : p := h
theorem Y20 {p : Prop} (h : p := by first | exact blk_range (k := 2) selD (by rfl)) : p := h
theorem Y21 {p : Prop} (h : p := by first | exact blk_cell selD (roll_x hr) | exact blk_cell selD (by rfl) | exact rng_cell selD (by rfl) | exact ro_blk (by assumption) (by rfl) | exact ro_rngC (by assumption) (by rfl) | exact ro_int (by assumption) | exact ro_byte (by assumption) | exact ro_str (by assumption) | with_reducible assumption | assumption) : p := h
theorem Y22 {p : Prop} (h : p := by first | exact blk_range (k := 5) selD (by rfl)) : p := h
theorem Y23 {p : Prop} (h : p := by first | exact trivial | ((try dsimp only) <;> exact by omega)) : p := h
theorem Y24 {p : Prop} (h : p := by first | exact trivial | ((try dsimp only) <;> exact ⟨by omega, ⟨by rw [hc1, hck, hcm], by rw [its_snoc, hys, hmk, hit], by omega, by rw [List.length_append, hyl]; rfl⟩⟩)) : p := h
theorem Y25 {p : Prop} (h : p := by first | exact dec_t (.inl (by omega)) | exact dec_e ⟨fun h => .inr ⟨by omega, h⟩, fun h => h.elim (fun h => absurd h (by omega)) (·.2)⟩ | exact dec_f (fun h => h.elim (fun h => by omega) (fun h => by omega))) : p := h
theorem Y26 {p : Prop} (h : p := by first | exact trivial | ((try dsimp only) <;> exact ⟨Up.refl _ _, bend_ok hz (IsSl.nil _ _ _) _, by rw [readsB_no (by show (rdM z.b).2.1 ≠ 0 ∨ (rdM z.b).1.1.c ≠ z.cl ∨ (rdM z.b).1.1.n ≠ z.nu; omega)]; rfl⟩)) : p := h
theorem Y27 {p : Prop} (h : p := by first | exact trivial | ((try dsimp only) <;> exact Nat.zero_le _)) : p := h
theorem Y28 {p : Prop} (h : p := by first | exact dec_t (by unfold headBad; omega) | exact dec_f (by unfold headBad; omega) | exact dec_e (by unfold headBad; omega)) : p := h
theorem Y29 {p : Prop} (h : p := by first | exact dec_t (by unfold rngI; omega) | exact dec_f (by unfold rngI; omega) | exact dec_e (by unfold rngI; omega)) : p := h
theorem Y30 {p : Prop} (h : p := by first | exact dec_t (by unfold numI; omega) | exact dec_f (by unfold numI; omega) | exact dec_e (by unfold numI; omega)) : p := h
theorem Y31 {p : Prop} (h : p := by first | exact trivial | ((try dsimp only) <;> exact ⟨rfl, by rw [piecesC_succ, List.map_append, hl]; rfl⟩)) : p := h
theorem Y32 {p : Prop} (h : p := by rw [ord_eq hx hy (by assumption)]; simp_all [retV1]) : p := h
theorem Y33 {p : Prop} (h : p := by first | exact trivial | ((try dsimp only) <;> exact ⟨by omega, ⟨by rw [cks_tk, hck, hpi, collC_take _ hlt'], by have := tkV_len cks' l[i].1 l[i].2; omega⟩⟩)) : p := h
theorem Y34 {p : Prop} (h : p := by first | exact blk_range (k := 4) selD (by rfl)) : p := h
theorem Y35 {p : Prop} (h : p := by rw [roll_len hr]; first | done | omega) : p := h
theorem Y36 {p : Prop} (h : p := by first | exact trivial | ((try dsimp only) <;> exact (by unfold chunksC; rw [if_pos (by omega), List.map_append, hl]; rfl))) : p := h
theorem Y37 {p : Prop} (h : p := by show Value.bool _ = Value.bool (z.over && (decide (z.e = e) && decide (ens z.tree = ens ys))); rw [← hts]; simp [*]) : p := h
theorem Y38 {p : Prop} (h : p := by intro u hu; obtain rfl : u = v16 := (by simpa using hu); exact hv16) : p := h
theorem Y39 {p : Prop} (h : p := by exact decide_eq_true (by decide)) : p := h
theorem Y40 {p : Prop} (h : p := by simp_all [compareM, okP, retV1]) : p := h
theorem Y41 {p : Prop} (h : p := by first | exact trivial | ((try dsimp only) <;> exact ⟨by omega, by rw [its_snoc, hJx, hgo]⟩)) : p := h
theorem und {P : Program} {t : TypeId} {d : TypeDesc} (h : P.underlying t = some d := by first | exact Tryz.underlying3 | exact Tryz.underlying4 | exact Tryz.underlying5 | exact Tryz.underlying9 | exact Tryz.underlying20 | exact Tryz.underlying22 | exact Tryz.underlying25 | exact Tryz.underlying29 | exact Tryz.underlying30 | exact Tryz.underlying31 | exact Tryz.underlying33 | exact Tryz.underlying39 | exact Tryz.underlying40 | exact Tryz.underlying42 | exact Tryz.underlying43 | exact Tryz.underlying44 | exact Tryz.underlying46 | exact Tryz.underlying47 | exact Tryz.underlying58 | exact Tryz.underlying59 | exact Tryz.underlying63 | exact Tryz.underlying64 | exact Tryz.underlying66 | exact Tryz.underlying67 | exact Tryz.underlying73 | exact Tryz.underlying78 | exact Tryz.underlying79 | exact Tryz.underlying81 | exact Tryz.underlying84 | exact Tryz.underlying86 | exact Tryz.underlying97 | exact Tryz.underlying106 | exact Tryz.underlying110 | exact Tryz.underlying112 | exact Tryz.underlying115 | exact Tryz.underlying122 | exact Tryz.underlying124 | exact Tryz.underlying128 | exact Tryz.underlying130 | exact Tryz.underlying131 | exact Tryz.underlying137 | exact Tryz.underlying143 | exact Tryz.underlying144 | exact Tryz.underlying152 | exact Tryz.underlying155 | exact Tryz.underlying158 | exact Tryz.underlying159 | exact Tryz.underlying162 | exact Tryz.underlying167 | exact Tryz.underlying179 | exact Tryz.underlying181 | exact Tryz.underlying186 | exact Tryz.underlying188 | exact Tryz.underlying197) : P.underlying t = some d := h
section
open Go.RowKit
variable {P : Program} {n : Nat} {w0 : World} {S : Nat → Prop} {l : Fr} {m : List Ck} {o : Oper} {v : Value} {c c1 : List Nat} {p q : Prop}
theorem pcT (h : Pc c c1 P n w0 S l m o v := by first | (apply Pc.ck 0; exact Pc.mv rfl) | (apply Pc.ck 1; exact Pc.as rfl) | (apply Pc.ck 2; exact Pc.pk rfl rfl) | (apply Pc.ck 3; exact Pc.fk und rfl kr rfl rfl) | (apply Pc.ck 4; exact Pc.ld und rfl rfl celT) | (apply Pc.ck 5; exact Pc.ln und rfl) | (apply Pc.ck 6; exact Pc.ad rfl rfl (by omega)) | (apply Pc.ck 7; exact Pc.ex rfl rfl) | (apply Pc.ck 8; exact Pc.nc rfl) | (apply Pc.ck 9; exact Pc.lss rfl rfl) | (apply Pc.ck 10; exact Pc.gtr rfl rfl) | (apply Pc.ck 11; exact Pc.leq rfl rfl) | (apply Pc.ck 12; exact Pc.geq rfl rfl) | (apply Pc.ck 13; exact Pc.eql rfl rfl) | (apply Pc.ck 14; exact Pc.neq rfl rfl) | (apply Pc.ck 15; exact Pc.np rfl) | (apply Pc.ck 16; exact Pc.fa und rfl kr rfl) | (apply Pc.ck 19; exact Pc.su rfl rfl (by omega)) | (apply Pc.ck 20; exact Pc.ix _ und kr rfl rfl adT rfl (by omega)) | (apply Pc.ck 21; exact Pc.lS und rfl) | (apply Pc.ck 22; exact Pc.xS und rfl rfl rfl (by omega)) | (apply Pc.ck 23; exact Pc.nS rfl rfl) | (apply Pc.ck 24; exact Pc.eS rfl rfl) | (apply Pc.ck 25; exact Pc.no rfl) | (apply Pc.ck 26; exact Pc.mf rfl rfl) | (apply Pc.cu 0; exact pv_load und rfl rfl Y0) | (apply Pc.cu 1; exact pv_eqlP0 und rfl rfl) | (apply Pc.cu 2; exact pv_buildSt (z := [.string ⟨#[]⟩, .int .i64 0, .int .i64 0, .int .i64 0, .int .i64 0, .int .i64 0, .int .i64 0]) (pl := [(0, 1), (1, 2), (3, 2), (5, 2)]) und kr kr rfl flT) | (apply Pc.cu 3; exact pv_loadN (cs := [_, _, _, _, _]) und rfl kr rfl Y4) | (apply Pc.cu 4; exact pv_buildSt (z := [.int .i64 0, .int .i64 0]) (pl := [(0, 1), (1, 1)]) und kr kr rfl flT) | (apply Pc.cu 5; exact pv_load und rfl rfl Y3) | (apply Pc.cu 6; exact pv_loadN (cs := [_, _, _, _, _, _]) und rfl kr rfl Y9) | (apply Pc.cu 7; exact pv_buildSt (z := [.int .i64 0, .int .i64 0, .int .i64 0, .int .i64 0, .slice none 0 0]) (pl := [(0, 1), (1, 1), (2, 1), (3, 1), (4, 1)]) und kr kr rfl flT) | (apply Pc.cu 8; exact pv_buildSt (z := [.int .i64 0, .slice none 0 0, .slice none 0 0, .slice none 0 0]) (pl := [(0, 1), (1, 1), (2, 1), (3, 1)]) und kr kr rfl flT) | (apply Pc.cu 9; exact pv_loadN (cs := [_, _]) und rfl kr rfl Y12) | (apply Pc.cu 10; exact pv_loadN (cs := [_, _, _, _]) und rfl kr rfl Y13) | (apply Pc.cu 11; exact pv_field1 und rfl und rfl rfl rfl) | (apply Pc.cu 12; exact pv_load und rfl rfl (blk_cell (v := .bool true) .here rfl)) | (apply Pc.cu 13; exact pv_buildSt (z := [.nilFunc, .nilFunc]) (pl := [(0, 1), (1, 1)]) und kr kr rfl flT)) : Pc c c1 P n w0 S l m o v := h
theorem go (cs : List Nat) (k : q) (h : Ar cs p q := by repeat (first | exact Ar.nil | (apply Ar.ck 0; apply Ar.mv; exact rfl; exact rfl) | (apply Ar.ck 1; apply Ar.as; exact rfl; exact rfl) | (apply Ar.ck 2; apply Ar.op; exact rfl; exact rfl; exact rfl; exact pcT) | (apply Ar.ck 3; apply Ar.wa; exact rfl; exact rfl; exact rfl; exact rfl; exact rfl; exact pcT) | (apply Ar.ck 4; apply Ar.pa; exact rfl; exact rfl; exact rfl; exact rfl; exact rfl; exact rfl) | (apply Ar.ck 7; apply Ar.nl) | (apply Ar.ck 8; apply Ar.nt) | (apply Ar.ck 9; apply Ar.sq) | (apply Ar.ck 10; apply Ar.rg) | (apply Ar.ck 22; apply Ar.tk; exact (by with_reducible assumption); exact rfl; exact rfl; exact rfl; exact kr; exact (fun _ _ _ h => h); exact rfl; exact pcT; exact subT) | (apply Ar.ck 23; apply Ar.tf; exact (by with_reducible assumption); exact rfl; exact rfl; exact rfl; exact kr; exact (fun _ _ _ h => h); exact rfl; exact subT) | (apply Ar.ck 24; apply Ar.on; exact (by with_reducible assumption); exact kr; exact kr) | (apply Ar.ck 25; apply Ar.tu; exact rfl; exact rfl; exact rfl; exact rfl; exact pcT) | (apply Ar.ck 26; apply Ar.bk; exact subT) | (apply Ar.ck 27; apply Ar.ov; exact (by with_reducible assumption); exact kr) | (apply Ar.ck 11; apply Ar.re) | (apply Ar.ck 12; apply Ar.rt) | (apply Ar.ck 13; apply Ar.sk) | (apply Ar.ck 14; apply Ar.et) | (apply Ar.ck 15; apply Ar.bl) | (apply Ar.ck 16; apply Ar.nb) | (apply Ar.ck 17; apply Ar.rb) | (apply Ar.ck 18; apply Ar.xi) | (apply Ar.ck 19; apply Ar.eb) | (apply Ar.ck 6; apply Ar.pu; exact rfl; exact rfl; exact rfl; exact rfl; exact rfl) | (apply Ar.ck 20; apply Ar.sN; exact kr; exact rfl; exact rfl; exact allT; exact selT; exact leT) | (apply Ar.ck 21; apply Ar.so; exact kr; exact rfl; exact rfl; exact eqT; exact selT; exact leT) | (apply Ar.ck 29; apply Ar.tN; exact rfl; exact rfl; exact kr; exact rfl; exact rfl; exact allT; exact selT; exact leT) | (apply Ar.ck 30; apply Ar.ts; exact rfl; exact rfl; exact kr; exact rfl; exact rfl; exact eqT; exact selT; exact leT) | (apply Ar.ck 31; apply Ar.inT) | (apply Ar.ck 32; apply Ar.iS) | (apply Ar.ck 33; apply Ar.iR; exact kr; exact noT) | (apply Ar.ck 34; apply Ar.iN) | (apply Ar.ck 35; apply Ar.irT) | (apply Ar.ck 36; apply Ar.irB) | (apply Ar.ck 37; apply Ar.iRe) | (apply Ar.ck 38; apply Ar.iB) | (apply Ar.ck 39; apply Ar.iSk) | (apply Ar.ck 40; apply Ar.inB) | (apply Ar.ck 41; apply Ar.ieT) | (apply Ar.ck 42; apply Ar.iX) | (apply Ar.ck 43; apply Ar.ieB) | (apply Ar.ck 44; apply Ar.ep; exact rfl) | (apply Ar.cz 0; apply Ar.cu 0; exact fun k => G.condT rfl (rfl) k) | (apply Ar.cz 1; apply Ar.cu 1; exact fun k => G.condF rfl (rfl) k) | (apply Ar.cz 2; apply Ar.cu 2; exact fun k => G.op rfl (G.box rfl rfl (cs := [_]) rfl k)) | (apply Ar.cz 3; apply Ar.cu 3; exact fun k => G.op rfl (G.box rfl rfl (cs := [_, _, _, _]) rfl k)) | (apply Ar.cz 4; apply Ar.cu 4; exact fun k => G.op rfl (G.alloc (z := .agg #[.int .i64 0, .int .i64 0]) (cs := [.int .i64 0, .int .i64 0]) rfl kr rfl k)) | (apply Ar.cz 5; apply Ar.cu 5; exact fun k => G.op rfl (G.box rfl rfl (cs := [_, _, _, _, _]) rfl k)) | (apply Ar.cz 6; apply Ar.cu 6; exact fun k => G.op rfl (G.alloc (z := .agg #[.int .i64 0, .int .i64 0, .int .i64 0, .int .i64 0, .slice none 0 0]) (cs := [.int .i64 0, .int .i64 0, .int .i64 0, .int .i64 0, .slice none 0 0]) rfl kr rfl k)) | (apply Ar.cz 7; apply Ar.cu 7; exact fun k => G.back (.cons selT (.cons selT .nil)) k) | (apply Ar.cz 8; apply Ar.cu 8; exact fun k => G.ownNil 78 6 k) | (apply Ar.cz 9; apply Ar.cu 9; exact fun k => G.op rfl (G.alloc (z := .agg #[.int .i64 0, .slice none 0 0, .slice none 0 0, .slice none 0 0]) (cs := [.int .i64 0, .slice none 0 0, .slice none 0 0, .slice none 0 0]) rfl kr rfl k)) | (apply Ar.cz 10; apply Ar.cu 10; exact fun k => G.back Sub.nil k) | (apply Ar.cz 11; apply Ar.cu 11; exact fun k => IL.op rfl (IL.lift kr (G.val rfl rfl (pv_move rfl) k))) | (apply Ar.cz 12; apply Ar.cu 12; exact fun k => G.op rfl (G.alloc (z := .agg #[.string ⟨#[]⟩, .int .i64 0, .int .i64 0, .int .i64 0, .string ⟨#[]⟩, .slice none 0 0]) (cs := [.string ⟨#[]⟩, .int .i64 0, .int .i64 0, .int .i64 0, .string ⟨#[]⟩, .slice none 0 0]) rfl kr rfl k)) | (apply Ar.cz 13; apply Ar.cu 13; exact fun k => G.op rfl (G.alloc (z := .int .i64 0) (cs := [.int .i64 0]) rfl kr rfl k)) | (apply Ar.cz 14; apply Ar.cu 14; exact fun k => G.op rfl (G.alloc (z := .agg #[.int .u8 0, .int .u8 0, .int .u8 0, .int .u8 0, .int .u8 0, .int .u8 0, .int .u8 0, .int .u8 0, .int .u8 0, .int .u8 0, .int .u8 0, .int .u8 0, .int .u8 0, .int .u8 0, .int .u8 0, .int .u8 0]) (cs := [.int .u8 0, .int .u8 0, .int .u8 0, .int .u8 0, .int .u8 0, .int .u8 0, .int .u8 0, .int .u8 0, .int .u8 0, .int .u8 0, .int .u8 0, .int .u8 0, .int .u8 0, .int .u8 0, .int .u8 0, .int .u8 0]) rfl kr rfl k)) | (apply Ar.cz 15; apply Ar.cu 15; exact fun k => G.turnOp rfl rfl (G.store kr rfl rfl (by rfl) selT Y35 k)) | (apply Ar.cz 16; apply Ar.cu 16; exact fun k => G.turnOp rfl rfl (G.alloc (z := .agg #[.string ⟨#[]⟩, .int .i64 0, .int .i64 0, .int .i64 0, .string ⟨#[]⟩, .slice none 0 0]) (cs := [.string ⟨#[]⟩, .int .i64 0, .int .i64 0, .int .i64 0, .string ⟨#[]⟩, .slice none 0 0]) rfl kr rfl k)) | (apply Ar.cz 17; apply Ar.cu 17; exact fun k => G.op rfl (G.alloc (z := .slice none 0 0) (cs := [.slice none 0 0]) rfl kr rfl k)) | (apply Ar.cz 18; apply Ar.cu 18; exact fun k => IL.op rfl (IL.lift kr (G.val rfl rfl (pv_not rfl) k))) | (apply Ar.cz 19; apply Ar.cu 19; exact fun k => G.op rfl (G.box rfl rfl (cs := [_, _, _, _, _, _, _, _, _, _, _, _, _, _, _, _, _, _, _]) rfl k)) | (apply Ar.cz 20; apply Ar.cu 20; exact fun k => G.op rfl (G.alloc (z := .agg #[.string ⟨#[]⟩, .int .i64 0, .int .i64 0, .slice none 0 0, .string ⟨#[]⟩]) (cs := [.string ⟨#[]⟩, .int .i64 0, .int .i64 0, .slice none 0 0, .string ⟨#[]⟩]) rfl kr rfl k)))) : p := h.go k
end
end Go.Proofs.YtcgacpmippdkeaaGreat
namespace Go.Proofs.YtcgacpmippdkeaaGreat
open Go.RowKit
set_option maxRecDepth 100000
section
variable {α : Type} {f : α → List Value} {k : Nat}
theorem rows_len (hf : ∀ x, (f x).length = k) (xs : List α) : (xs.flatMap f).length = xs.length * k := flatMap_length f k hf xs
theorem rows_at (hf : ∀ x, (f x).length = k) {xs : List α} {sp : List Value} {i : Nat} (h : i < xs.length) (j : Nat) (hj : j < k) : (xs.flatMap f ++ sp)[0 + i * k + j]? = (f xs[i])[j]? := by
 have h1 : (i + 1) * k ≤ xs.length * k := Nat.mul_le_mul_right k h
 have h2 : (i + 1) * k = i * k + k := Nat.succ_mul i k
 rw [List.getElem?_append_left (by rw [rows_len hf]; omega), show 0 + i * k + j = i * k + j by omega]
 exact flatMap_get f k hf xs i j h hj
theorem rows_room (hf : ∀ x, (f x).length = k) {xs : List α} {sp : List Value} {i : Nat} (h : i < xs.length) {j : Nat} (hj : j < k) : 0 + i * k + j < (xs.flatMap f ++ sp).length := by
 have h1 : (i + 1) * k ≤ xs.length * k := Nat.mul_le_mul_right k h
 have h2 : (i + 1) * k = i * k + k := Nat.succ_mul i k
 rw [List.length_append, rows_len hf]
 omega
theorem rows_fit (hf : ∀ x, (f x).length = k) {xs : List α} {sp : List Value} {i : Nat} (h : i < xs.length) (x : α) : 0 + i * k + (f x).length ≤ (xs.flatMap f ++ sp).length := by
 have h1 : (i + 1) * k ≤ xs.length * k := Nat.mul_le_mul_right k h
 have h2 : (i + 1) * k = i * k + k := Nat.succ_mul i k
 rw [List.length_append, rows_len hf, hf]
 omega
theorem rows_put (hf : ∀ x, (f x).length = k) {xs : List α} {sp : List Value} {i : Nat} (h : i < xs.length) (x : α) : putN (xs.flatMap f ++ sp) (0 + i * k) (f x) = (xs.set i x).flatMap f ++ sp := by
 have hl : ((xs.set i x).flatMap f).length = xs.length * k := by rw [rows_len hf, List.length_set]
 have hl2 := rows_len hf xs
 apply List.ext_getElem?
 intro j
 rw [putN_get _ _ _ _ (rows_fit hf h x), hf]
 rcases Nat.lt_or_ge j (xs.length * k) with hj | hj
 ·have hk : 0 < k := by
   rcases Nat.eq_zero_or_pos k with h0 | h0
   ·subst h0; omega
   exact h0
  obtain ⟨q, r, rfl, hr, hq⟩ : ∃ q r, j = q * k + r ∧ r < k ∧ q < xs.length := ⟨j / k, j % k, by rw [Nat.mul_comm]; exact (Nat.div_add_mod j k).symm, Nat.mod_lt _ hk, Nat.div_lt_of_lt_mul (by rw [Nat.mul_comm]; exact hj)⟩
  rw [List.getElem?_append_left (by rw [hl2]; exact hj), flatMap_get f k hf xs q r hq hr, List.getElem?_append_left (by rw [hl]; exact hj), flatMap_get f k hf (xs.set i x) q r (by rw [List.length_set]; exact hq) hr]
  by_cases hiq : i = q
  ·subst hiq
   rw [List.getElem_set_self, if_pos ⟨by omega, by omega⟩, show i * k + r - (0 + i * k) = r by omega]
  have : ¬ (0 + i * k ≤ q * k + r ∧ q * k + r < 0 + i * k + k) := by
   rcases Nat.lt_or_ge i q with h1 | h1
   ·have h2 : (i + 1) * k ≤ q * k := Nat.mul_le_mul_right k h1
    have h3 : (i + 1) * k = i * k + k := Nat.succ_mul i k
    omega
   have h2 : (q + 1) * k ≤ i * k := Nat.mul_le_mul_right k (show q + 1 ≤ i by omega)
   have h3 : (q + 1) * k = q * k + k := Nat.succ_mul q k
   omega
  rw [List.getElem_set_ne hiq, if_neg this]
 have h1 : (i + 1) * k ≤ xs.length * k := Nat.mul_le_mul_right k h
 have h2 : (i + 1) * k = i * k + k := Nat.succ_mul i k
 rw [if_neg (by omega), List.getElem?_append_right (by rw [hl2]; omega), List.getElem?_append_right (by rw [hl]; omega), hl, hl2]
theorem rows_set (hf : ∀ x, (f x).length = k) {xs : List α} {sp : List Value} {i : Nat} (h : i < xs.length) {j : Nat} (hj : j < k) {v : Value} {x : α} (hx : f x = (f xs[i]).set j v) : (xs.flatMap f ++ sp).set (0 + i * k + j) v = (xs.set i x).flatMap f ++ sp := by
 rw [← rows_put hf h x, hx]
 have hl2 := rows_len hf xs
 have h1 : (i + 1) * k ≤ xs.length * k := Nat.mul_le_mul_right k h
 have h2 : (i + 1) * k = i * k + k := Nat.succ_mul i k
 apply List.ext_getElem?
 intro q
 have hlen : ((f xs[i]).set j v).length = k := by rw [List.length_set, hf]
 rw [putN_get _ _ _ _ (by rw [hlen, List.length_append, hl2]; omega), hlen]
 by_cases hq : 0 + i * k + j = q
 ·subst hq
  rw [List.getElem?_set_self (by rw [List.length_append, hl2]; omega), if_pos ⟨by omega, by omega⟩, show 0 + i * k + j - (0 + i * k) = j by omega, List.getElem?_set_self (by rw [hf]; exact hj)]
 rw [List.getElem?_set_ne hq]
 by_cases hin : 0 + i * k ≤ q ∧ q < 0 + i * k + k
 ·rw [if_pos hin, List.getElem?_set_ne (by omega)]
  have := rows_at hf (sp := sp) h (q - (0 + i * k)) (by omega)
  rw [show 0 + i * k + (q - (0 + i * k)) = q by omega] at this
  exact this
 rw [if_neg hin]
theorem rows_all {p : Value → Prop} {xs : List α} (h : ∀ x ∈ xs, ∀ u ∈ f x, p u) : ∀ u ∈ xs.flatMap f, p u := fun u hu => by
 obtain ⟨x, hx, hux⟩ := List.mem_flatMap.1 hu
 exact h x hx u hux
end
def recL1 (fn : FuncId) (tmps : Array Value) (p1 : Nat) (assign body : Code) (D : Nat) (st : LoopState) (pe : Option Code) : Loop := { state := st, pending := pe, fn, tmps, params := #[p1], assign, body, defers := D }
section
variable {P : Program} {n : Nat} {w0 : World} {S : Nat → Prop} {l : Fr} {m : List Ck} {Q : Exit → Act → World → Prop} {K : Act → World → Prop} {r : Option Nat} {ds : List Deferred}
def TrYr (P : Program) (lp : Nat) (args : Array Value) (ro pre : List Ck) (post : Value → List Ck → Prop) : Prop :=
 ∀ w, (∀ c ∈ ro, Ro w (U pre) c) → Hp w (U pre) w pre → YieldAt Fence.wide 0 P lp args w fun e w' => ∃ v m', e = .returned v ∧ post v m' ∧ Hp w (U pre) w' m'
theorem IL.yieldR {X : Type} {J : X → Prop} {V : X → Value} {M M' : X → List Ck} {o : Oper} {d lp : Nat} {x : Operand} {xs : List Operand} {ts : Array TypeId} {vs : List Value} {ro pre q : List Ck} (hd : o.dst = some d) (hn : Nat.blt d n = true)
 (ho : o.op = .call { callee := .value x, args := xs.toArray, argTypes := ts }) (hv : ev l x = some (.func (.yield lp) #[] #[])) (hx : evs l xs = some vs)
 (hm : Sub m pre q) (hro : ∀ c ∈ ro, May w0 S q c) (ht : TrYr P lp vs.toArray ro pre (TX J V M)) (hM : Ap M q M') (h : ∀ x, J x → G n w0 S ((d, V x) :: l) (M' x) (dq ds K)) : G n w0 S l m (dq ds (fun a w => o.wpIn (fR none) 0 P a w K Q)) := fun a w ha hw => by
 have hw' := hw.perm hm.perm
 have hp : Hp w (U pre) w pre := ⟨Chg.refl _ _, fun c hc => hw'.holds c (List.mem_append_left _ hc), fun c hc b hb => ⟨.inl ⟨c, hc, hb⟩, (hw'.own c (List.mem_append_left _ hc) b hb).2⟩, (List.pairwise_append.1 hw'.dis).1⟩
 obtain ⟨fn, tmps, assign, body, hy, hR⟩ := ht w (fun c hc => (hro c hc).ro hw') hp
 refine ⟨fun _ _ => trivial, ?_⟩
 have hrun : (o.semAt (fR none).round (da ds a).eval).run P w = .ok (.round lp fn tmps assign body) w := by
  rw [da_eval]
  show (execOp a.eval o).run P w = _
  have e1 : xs.toArray.map a.eval = vs.toArray := by rw [← ha.evs hx]; simp
  simp [execOp, ho, resolve, Deferred.ofValue, e1, ha.eval hv, invoke, Sem.run_bind, Sem.run_pure, Result.andThen, hy]
 rw [hrun, Oper.uponIn_round]
 refine ⟨fun h => by simp [fR, Fence.wide] at h, hR.mono ?_⟩
 rintro e w2 ⟨v, m', rfl, ⟨x, hJ, rfl, rfl⟩, hm'⟩
 show K ((da ds a).put _ _) _
 rw [da_put, hd]
 have := hw'.turn hm'
 rw [hM.eq x] at this
 exact h x hJ _ _ (ha.put hn _) this
def SeqR (P : Program) (g : FuncId) (lb : Array Value) (ro pre : List Ck) (nn : Nat) (encs : Nat → List Value) : Prop :=
 ∀ (rr : List Ck) (lp : Nat) (X : Type) (J : Bool → Nat → X → Prop) (C : Bool → Nat → X → Ck) (x0 : X), J true 0 x0 →
  (∀ i x, i < nn → J true i x → TrYr P lp (encs i).toArray rr [C true i x] (TX (fun z : Bool × X => J z.1 (i + 1) z.2) (fun z => .bool z.1) (fun z => [C z.1 (i + 1) z.2]))) →
  Tr P g (#[.func (.yield lp) #[] #[]] ++ lb) (rr ++ ro) (C true 0 x0 :: pre) (TX (fun z : Bool × Nat × X => J z.1 z.2.1 z.2.2 ∧ z.2.1 ≤ nn ∧ (z.1 = true → z.2.1 = nn)) (fun _ => .tuple #[]) (fun z => [C z.1 z.2.1 z.2.2]))
theorem I.fin1 {X : Type} {fnx p1 D lp i : Nat} {tmps : Array Value} {assign body : Code} {J : Bool → Nat → X → Prop} {B : Bool → Nat → X → List Ck} {jmp : X → Code} {w1 w4 : World} {S1 : Nat → Prop} {b : Bool} {jump : Option Code} {y : X}
 (hJ : J b (i + 1) y) (hj : jump = peL jmp b y) (hH : Hp w1 S1 w4 (star [obc lp (.loop (recL1 fnx tmps p1 assign body D .busy none)), dfr D] :: B b (i + 1) y)) :
 ∃ v w5, (Instr.endRound lp jump).run P w4 = .ok v w5 ∧ ∃ v' m', Ending.returned v = .returned v' ∧ TX (fun z : Bool × X => J z.1 (i + 1) z.2) (fun z => .bool z.1) (fun z => [cL (recL1 fnx tmps p1 assign body D) lp D B jmp z.1 (i + 1) z.2]) v' m' ∧ Hp w1 S1 w5 m' := by
 have hH5 := Hp.unstar (m := [_, _]) hH
 have hl4 : w4.heap[lp]? = some (.loop (recL1 fnx tmps p1 assign body D .busy none)) := hH5.holds _ (List.mem_cons_self ..)
 have her := run_endRound (P := P) jump hl4
 have ev : jump.isNone = b := by
  rw [hj]
  cases b <;> rfl
 have eR : ({ (recL1 fnx tmps p1 assign body D .busy none) with state := if jump.isNone then .ready else .done, pending := jump } : Loop) = recL1 fnx tmps p1 assign body D (stL b) (peL jmp b y) := by
  rw [ev, hj]
  rfl
 rw [eR, ev] at her
 have hH6 := Hp.putO (.loop (recL1 fnx tmps p1 assign body D (stL b) (peL jmp b y))) hH5
 refine ⟨_, _, her, _, _, rfl, ⟨(b, y), hJ, rfl, rfl⟩, ?_⟩
 refine Hp.star (m := _ :: _ :: B b (i + 1) y) (r := []) ?_
 rw [List.append_nil]
 exact hH6
theorem I.round1 {X : Type} {fnx p1 D lp i : Nat} {a : Act} {assign body : Code} {v1 : Value} {l2 : Fr} {J : Bool → Nat → X → Prop} {B : Bool → Nat → X → List Ck} {jmp : X → Code} {x : X} {rr : List Ck} (ha : At a n l) (hp1 : Nat.blt p1 n = true)
 (hassign : ∀ w1 S1 m1, G n w1 S1 ((p1, v1) :: l) m1 (dq [] (assign.wpIn (fR (some lp)) 0 P (Exit.then (fun a w => At a n l2 ∧ Hp w1 S1 w m1) (fun _ _ _ => False)))))
 (hbody : ∀ w1 S1 c, (∀ c ∈ rr, Ro w1 S1 c) → G n w1 S1 l2 (c :: B true i x) (dq [] (body.wpIn (fR (some lp)) 0 P (rnd w1 S1 J B jmp c i)))) :
 TrYr P lp [v1].toArray rr [cL (recL1 fnx a.tmps p1 assign body D) lp D B jmp true i x] (TX (fun z : Bool × X => J z.1 (i + 1) z.2) (fun z => .bool z.1) (fun z => [cL (recL1 fnx a.tmps p1 assign body D) lp D B jmp z.1 (i + 1) z.2])) := by
 intro w1 hrr hw1
 have hds : a.defers = [] := ha.defs
 obtain ⟨S1, hS1⟩ : ∃ S1, U [cL (recL1 fnx a.tmps p1 assign body D) lp D B jmp true i x] = S1 := ⟨_, rfl⟩
 rw [hS1] at hw1 hrr ⊢
 have hu : Hp w1 S1 w1 (obc lp (.loop (recL1 fnx a.tmps p1 assign body D .ready none)) :: dfr D :: B true i x) := by
  have := Hp.unstar hw1
  rw [List.append_nil] at this
  exact this
 have hl : w1.heap[lp]? = some (.loop (recL1 fnx a.tmps p1 assign body D .ready none)) := hu.holds _ (List.mem_cons_self ..)
 have hy := run_yield (P := P) (args := #[v1]) hl rfl
 refine ⟨_, _, _, _, hy, roundIn_of_wpIn (F := Fence.wide) trivial ?_⟩
 have hA : At (n := n) { tmps := a.tmps.setIfInBounds p1 v1, defers := [] } ((p1, v1) :: l) := by
  have h2 := ha.put hp1 v1
  have e : (a.put (some p1) v1) = { tmps := a.tmps.setIfInBounds p1 v1, defers := [] } := by
   simp [Act.put, hds]
  rwa [e] at h2
 have h3 := hassign w1 S1 _ _ w1 hA hu
 unfold dq at h3
 rw [da_nil hA] at h3
 have eT : ((#[p1] : Array Nat).zip #[v1]).foldl (fun t (x : Nat × Value) => t.setIfInBounds x.1 x.2) a.tmps = a.tmps.setIfInBounds p1 v1 := by simp
 show assign.wpIn (fR (some lp)) 0 P _ { tmps := ((#[p1] : Array Nat).zip #[v1]).foldl (fun t (x : Nat × Value) => t.setIfInBounds x.1 x.2) a.tmps, defers := [] } w1
 rw [eT]
 refine wpIn_mono h3 ?_
 intro e a1 w2 hq
 cases e with
 | exit id => exact hq.elim
 | goto t => exact hq.elim
 | ret => exact hq.elim
 | panic ch => exact hq.elim
 | outgrown => exact hq.elim
 | normal =>
  obtain ⟨hA1, hH1⟩ := hq
  have hl1 : w2.heap[lp]? = some (.loop (recL1 fnx a.tmps p1 assign body D .ready none)) := hH1.holds _ (List.mem_cons_self ..)
  have hbr := run_beginRound (P := P) hl1 rfl
  refine ⟨_, hbr, ?_⟩
  have hH2 := Hp.putO (.loop (recL1 fnx a.tmps p1 assign body D .busy none)) hH1
  have hH3 := Hp.star (m := [_, _]) (r := B true i x) hH2
  have h4 := hbody w1 S1 _ hrr a1 _ hA1 hH3
  unfold dq at h4
  rw [da_nil hA1] at h4
  refine wpIn_mono h4 ?_
  intro e a2 w4 hq
  cases e with
  | normal =>
   obtain ⟨y, hJy, hH4⟩ := hq
   exact I.fin1 (b := true) hJy rfl hH4
  | ret =>
   obtain ⟨y, hJy, hj, hH4⟩ := hq
   exact I.fin1 (b := false) hJy (by rw [← hj]; rfl) hH4
  | exit k =>
   obtain ⟨y, hJy, hj, hH4⟩ := hq
   exact I.fin1 (b := false) hJy (by rw [← hj]; rfl) hH4
  | goto t => exact hq.elim
  | panic ch => exact hq.elim
  | outgrown => exact hq.elim
theorem I.rangeF1 {X : Type} {gf nn p1 : Nat} {lb : Array Value} {rr ro pre q : List Ck} {encs : Nat → Value} {g : Operand} {assign body : Code} {fn : Func} {c : Code}
 (J : Bool → Nat → X → Prop) (B : Bool → Nat → X → List Ck) (jmp : X → Code) (L2 : Nat → Fr) {x0 : X}
 (hg : ev l g = some (.func (.func gf) #[] lb)) (hf : P.funcs[gf]? = some fn) (hb : fn.body = some c) (hnm : (fn.name == "runtime.NumGoroutine") = false)
 (hseq : SeqR P gf lb ro pre nn (fun i => [encs i]))
 (hm : Sub m (B true 0 x0 ++ pre) q) (hro : ∀ c ∈ rr ++ ro, May w0 S q c) (h0 : J true 0 x0)
 (hp1 : Nat.blt p1 n = true)
 (hassign : ∀ w1 S1 lp m1 i, i < nn → G n w1 S1 ((p1, encs i) :: l) m1 (dq [] (assign.wpIn (fR (some lp)) 0 P (Exit.then (fun a w => At a n (L2 i) ∧ Hp w1 S1 w m1) (fun _ _ _ => False)))))
 (hbody : ∀ w1 S1 lp c i x, i < nn → J true i x → (∀ c ∈ rr, Ro w1 S1 c) → G n w1 S1 (L2 i) (c :: B true i x) (dq [] (body.wpIn (fR (some lp)) 0 P (rnd w1 S1 J B jmp c i))))
 (hdone : ∀ D x, J true nn x → G n w0 S l (dfr D :: (B true nn x ++ q)) (dq (mark D) (Q .normal)))
 (hstop : ∀ D i x, i ≤ nn → J false i x → G n w0 S l (dfr D :: (B false i x ++ q)) (dq (mark D) ((jmp x).wpIn (fR none) 0 P Q))) :
 G n w0 S l m (dq [] ((Code.rangeFunc g #[p1] assign body).wpIn (fR none) 0 P Q)) := fun a w ha hw => by
 unfold dq
 rw [da_nil ha]
 have hds : a.defers = [] := ha.defs
 have hw' := hw.perm hm.perm
 refine wpIn_rangeFunc (F := fR none) (n := 0) ?_
 intro fnx _
 obtain ⟨W1, hW1⟩ : ∃ W1, (w.alloc (.deferred (some []))).alloc (.loop (recL1 fnx a.tmps p1 assign body w.heap.size .ready none)) = W1 := ⟨_, rfl⟩
 have hp1W : Hp w0 S W1 (cL (recL1 fnx a.tmps p1 assign body w.heap.size) (w.heap.size + 1) w.heap.size B jmp true 0 x0 :: pre ++ q) := by
  rw [← hW1]
  have h2 := (hw'.allocO (.deferred (some []))).allocO (.loop (recL1 fnx a.tmps p1 assign body w.heap.size .ready none))
  rw [World.size_alloc, List.append_assoc] at h2
  exact Hp.star (m := _ :: _ :: B true 0 x0) (r := pre ++ q) h2
 have hT := hseq rr (w.heap.size + 1) X J (cL (recL1 fnx a.tmps p1 assign body w.heap.size) (w.heap.size + 1) w.heap.size B jmp) x0 h0 fun i x hi hJ => I.round1 ha hp1 (fun w1 S1 m1 => hassign w1 S1 _ m1 i hi) (fun w1 S1 c hr => hbody w1 S1 _ c i x hi hJ hr)
 have hpp : Hp W1 (U (cL (recL1 fnx a.tmps p1 assign body w.heap.size) (w.heap.size + 1) w.heap.size B jmp true 0 x0 :: pre)) W1 (cL (recL1 fnx a.tmps p1 assign body w.heap.size) (w.heap.size + 1) w.heap.size B jmp true 0 x0 :: pre) := ⟨Chg.refl _ _, fun c hc => hp1W.holds c (List.mem_append_left _ hc), fun c hc b hb => ⟨.inl ⟨c, hc, hb⟩, (hp1W.own c (List.mem_append_left _ hc) b hb).2⟩, (List.pairwise_append.1 hp1W.dis).1⟩
 have hcall := hT W1 (fun c hc => (hro c hc).ro hp1W) hpp
 have henter : (Instr.enterLoop fnx a.tmps #[p1] assign body (fR none).round).run P w = .ok (w.heap.size + 1, mark w.heap.size) W1 := by
  rw [← hW1]
  exact run_enterLoop_outer _ _ _ _ _
 have hres : (resolve a.eval (rangeCall g (w.heap.size + 1)) 0).run P W1 = .ok { target := .fn (.func gf) lb, args := #[.func (.yield (w.heap.size + 1)) #[] #[]] } W1 := by
  simp only [resolve, rangeCall, ha.eval hg]
  simp [Deferred.ofValue, Sem.run_bind, Sem.run_pure, Result.andThen, Act.eval, Sem.run]
 have hinv := run_invokeF (P := P) (args := #[.func (.yield (w.heap.size + 1)) #[] #[]]) (cap := lb) hf hb hnm W1
 have hz : (fR none).depth.isSome = true → 1 ≤ 0 := fun h => by simp [fR, Fence.wide] at h
 suffices hfin : CallsIn (fR none) 0 P gf (#[.func (.yield (w.heap.size + 1)) #[] #[]] ++ lb) W1 (rangePost (fR none) 0 P (w.heap.size + 1) Q { a with defers := mark w.heap.size ++ a.defers }) from
  ⟨w.heap.size + 1, mark w.heap.size, W1, _, W1, gf, _, W1, henter, hres, fun _ _ => trivial, hinv, hz, hfin⟩
 refine calls_fR (callsIn_wide.2 (hcall.mono ?_))
 rintro e w3 ⟨v, m', rfl, ⟨⟨b, i, y⟩, ⟨hJ, hle, hall⟩, rfl, rfl⟩, hm'⟩
 have hu2 := Hp.unstar (m := _ :: _ :: B b i y) (r := q) (hp1W.turn hm')
 have hl3 : w3.heap[w.heap.size + 1]? = some (.loop (recL1 fnx a.tmps p1 assign body w.heap.size (stL b) (peL jmp b y))) := hu2.holds _ (List.mem_cons_self ..)
 have hend := run_endLoop (P := P) hl3 (by cases b <;> simp [recL1, stL])
 have hu3 := (Hp.putO (.loop { recL1 fnx a.tmps p1 assign body w.heap.size (stL b) (peL jmp b y) with state := .exhausted }) hu2).tail
 have eD : ({ a with defers := mark w.heap.size ++ a.defers } : Act) = da (mark w.heap.size) a := by
  unfold da
  rw [hds]
  rfl
 refine ⟨_, _, hend, ?_⟩
 rw [eD]
 cases b with
 | true =>
  have hJ' : i = nn := hall rfl
  subst hJ'
  exact hdone _ y hJ a _ ha hu3
 | false => exact hstop _ i y hle hJ a _ ha hu3
theorem I.rangeK1 {X : Type} {gf nn p1 : Nat} {lb : Array Value} {rr ro pre q : List Ck} {encs : Nat → Value} {g : Operand} {assign body : Code} {fn : Func} {c : Code}
 (J : Bool → Nat → X → Prop) (B : Bool → Nat → X → List Ck) (jmp : X → Code) (A : Nat → Fr) {x0 : X} {ts : List Nat} {l1 : Fr} {L2 : Nat → Fr}
 (hg : ev l g = some (.func (.func gf) #[] lb)) (hf : P.funcs[gf]? = some fn) (hb : fn.body = some c) (hnm : (fn.name == "runtime.NumGoroutine") = false)
 (hseq : SeqR P gf lb ro pre nn (fun i => [encs i]))
 (hm : Sub m (B true 0 x0 ++ pre) q) (hro : ∀ c ∈ rr ++ ro, May w0 S q c) (h0 : J true 0 x0)
 (hp1 : Nat.blt p1 n = true) (hk : Kp l ts l1) (hL : Ap A l1 L2)
 (hassign : ∀ w1 S1 lp m1 i, i < nn → G n w1 S1 ((p1, encs i) :: l) m1 (dq [] (assign.wpIn (fR (some lp)) 0 P (Exit.then (fun a w => At a n (L2 i) ∧ Hp w1 S1 w m1) (fun _ _ _ => False)))))
 (hbody : ∀ w1 S1 lp c i x, i < nn → J true i x → (∀ c ∈ rr, Ro w1 S1 c) → G n w1 S1 (L2 i) (c :: B true i x) (dq [] (body.wpIn (fR (some lp)) 0 P (rnd w1 S1 J B jmp c i))))
 (hdone : ∀ D x, J true nn x → G n w0 S l (dfr D :: (B true nn x ++ q)) (dq (mark D) (Q .normal)))
 (hstop : ∀ D i x, i ≤ nn → J false i x → G n w0 S l (dfr D :: (B false i x ++ q)) (dq (mark D) ((jmp x).wpIn (fR none) 0 P Q))) :
 G n w0 S l m (dq [] ((Code.rangeFunc g #[p1] assign body).wpIn (fR none) 0 P Q)) :=
 I.rangeF1 J B jmp L2 hg hf hb hnm hseq hm hro h0 hp1 hassign hbody hdone hstop
def onlyN (K : Act → World → Prop) : Exit → Act → World → Prop
 | .normal => K
 | _ => fun _ _ => False
theorem I.drawN {ops : Array Oper} {id nn rem : Nat} {mS p : List Ck} (deps frs : List Nat) (hd : ops.all noDefer = true) (hm : P.follows .mixedOrders = true) (hT : Tab ops deps frs nn) (hs : Sub m p mS) (hr : Nat.beq rem (2 ^ nn - 1) = true) (h : Tab ops deps frs nn → G n w0 S l m (GA P ops (dqq ds (onlyN (Q .normal))) (fun w => Hp w0 S w mS) nn nn rem)) : G n w0 S l m (dq ds ((Code.region id ops true).wpIn (fR r) 0 P Q)) := fun a w ha hw =>
 wpIn_mono (I.drawT (Q := onlyN (Q .normal)) deps frs hd (fun ⟨_, _, h⟩ => h) hm hT hs hr h a w ha hw) fun e a1 w1 hq => by
  cases e with
  | normal => exact hq
  | exit id => exact hq.elim
  | goto g => exact hq.elim
  | ret => exact hq.elim
  | panic ch => exact hq.elim
  | outgrown => exact hq.elim
theorem I.overN {ops : Array Oper} {deps frs : List Nat} {nn fuel rem : Nat} {Sx : World → Prop} (hT : Tab ops deps frs nn) (hr : rdB deps rem [] = true) (h : G n w0 S l m (dq ds K)) : G n w0 S l m (GA P ops (dqq ds (onlyN K)) Sx nn fuel rem) := G.overT hT hr h
end
end Go.Proofs.YtcgacpmippdkeaaGreat
set_option maxRecDepth 100000
namespace Go.Proofs.YtcgacpmippdkeaaGreat
open Go.ChangeShapes Go.WideShapes Go.ChangeAt Go.RowKit Go.Deep
theorem Tryz.own : ownKnob Tryz.prog.godebug = none := by kernel_rfl
theorem Tryz.laidOut : laidOutB Tryz.prog = true := by kernel_rfl
theorem trodAll_below {H : Type} {enc : TypeId × Value → H} {W W' : World} (hb : Below W.heap.size W W') : ∀ (ts : List TypeId) (vs : List Value) (ds : List (DataW H)) (ps : List MemPlace),
 (∀ t ∈ ts, Tryz.prog.readableRec t = true ∧ t < Tryz.prog.types.size) → DataW.TrodAll enc Tryz.prog W 0 (fun _ => true) true ts vs ds ps → (∀ x ∈ ps, x.block < W.heap.size) →
 DataW.TrodAll enc Tryz.prog W' 0 (fun b => decide (b < W.heap.size)) true ts vs ds ps
 | [], [], [], ps, _, h, _ => h
 | t :: ts, v :: vs, d :: ds, ps, ht, h, hlt => by
  obtain ⟨p, q, h1, h2, rfl⟩ := h
  have h3 := ht t (by simp)
  exact ⟨p, q, Below.trod Tryz.laidOut h3.1 h3.2 h1 hb (fun x hx => hlt x (by simp [hx])), trodAll_below hb ts vs ds q (fun t' h' => ht t' (by simp [h'])) h2 (fun x hx => hlt x (by simp [hx])), rfl⟩
 | [], _ :: _, _, _, _, h, _ => h.elim
 | [], [], _ :: _, _, _, h, _ => h.elim
 | _ :: _, [], _, _, _, h, _ => h.elim
 | _ :: _, _ :: _, [], _, _, h, _ => h.elim
theorem law_post {H : Type} {enc : TypeId × Value → H} {s : ChangeSpec} {fn : Func} {W W' : World} {args : Array Value} {ds gs : List (DataW H)} {before : List MemPlace}
 (hW : DataW.Whole enc Tryz.prog fn.params.toList s.vars false W args.toList ds gs before) (hts : ∀ t ∈ fn.params.toList, Tryz.prog.readableRec t = true ∧ t < Tryz.prog.types.size) (hv : s.vars = []) (hres : fn.resultTypes = #[4])
 (hr : (s.fn H (ds ++ gs)).results = [.lit (.bool true)]) (ha : (s.fn H (ds ++ gs)).args = ds) (hvv : (s.fn H (ds ++ gs)).vars = []) (hb : Below W.heap.size W W') :
 s.post enc Tryz.prog fn false true false false W args (.bool true) W' := by
 have hlt := hW.lt
 obtain ⟨p, q, hA, hV, hpq, _, _⟩ := id hW
 refine ⟨ds, gs, before, [], p, [], hW, ?_, ?_, ?_, hb.frame _, fun h => by cases h⟩
 ·rw [hr, hres]
  exact trodAll_mk1 (shut_bool Tryz.underlying4 true)
 ·rw [ha]
  exact trodAll_below hb _ _ _ _ hts hA fun x hx => hlt x (by rw [hpq]; simp [hx])
 rw [hv, hvv]; rfl
section
variable {H : Type} {enc : TypeId × Value → H} {W : World}
theorem add_none {a : Addr} {v : Value} {b o : Nat} {n : Nat} (h : W.cell? (a.add n) = some v) (e : a = ⟨b, o, none⟩) : W.cell? ⟨b, o + n, none⟩ = some v := by
 subst e
 unfold Addr.add at h
 split at h
 ·subst_vars; exact h
 exact h
theorem spot_none {a : Addr} {v : Value} (h : W.cell? a = some v) : a = ⟨a.block, a.off, none⟩ := by
 have := World.cell?_spot h
 cases a
 simp at this
 subst this
 rfl
theorem wf_I64 {x : Int} (h : (Lit.int .i64 x).wf = true) : I64 x := by
 simp only [Lit.wf, Bool.and_eq_true, decide_eq_true_eq] at h
 exact ⟨h.1, h.2⟩
end
end Go.Proofs.YtcgacpmippdkeaaGreat
namespace Go.Proofs.YtcgacpmippdkeaaGreat
open Go.RowKit
set_option maxRecDepth 100000
theorem U_nil : U [] = fun _ => False := by
 funext b
 simp [U]
theorem law_callsR {P : Program} {f : FuncId} {args : Array Value} {ro : List Ck} (h : Tr P f args ro [] (T0 (.bool true))) (w : World) (hro : ∀ c ∈ ro, Ro w (fun _ => False) c) : Calls P f args w fun e w' => e = .returned (.bool true) ∧ Below w.heap.size w w' := by
 refine (h w (fun c hc => by rw [U_nil]; exact hro c hc) ⟨Chg.refl _ _, by simp, by simp, .nil⟩).mono ?_
 rintro e w' ⟨v, m', he, ⟨hv, -⟩, hw⟩
 have hc := hw.chg
 rw [U_nil] at hc
 exact ⟨by rw [he, hv], Chg.below_of_none hc⟩
theorem ro_new {c : Ck} {w : World} (h : c.φ w) (hb : ∀ b, c.S b → b < w.heap.size) : Ro w (fun _ => False) c := ⟨h, fun b hc => ⟨hb b hc, id⟩⟩
end Go.Proofs.YtcgacpmippdkeaaGreat
set_option maxRecDepth 100000
namespace Go.Proofs.YtcgacpmippdkeaaGreat
open Go.ChangeShapes Go.WideShapes Go.ChangeAt Go.RowKit Go.Deep
def rArr {α : Type} (n : Nat) (E : Rdr α) : Rdr (List α) where
 sz := n * E.sz
 R := fun Ps w b o xs => xs.length = n ∧ ∀ i (h : i < xs.length), E.R Ps w b (o + i * E.sz) xs[i]
 loc := fun h ⟨h1, h2⟩ => ⟨h1, fun i hi => E.loc h (h2 i hi)⟩
 mono := fun h ⟨h1, h2⟩ => ⟨h1, fun i hi => E.mono h (h2 i hi)⟩
section
variable {H : Type} {enc : TypeId × Value → H} {P : Program} {W : World}
def At0 (w : World) (b o : Nat) (cs : List Value) : Prop := ∀ (j : Nat) v, cs[j]? = some v → w.cell? ⟨b, o + j, none⟩ = some v
theorem At0.drop {w : World} {b o : Nat} {cs : List Value} (h : At0 w b o cs) (k n : Nat) : At0 w b (o + k) ((cs.drop k).take n) := fun j v hj => by
 rw [List.getElem?_take] at hj
 split at hj
 ·rw [List.getElem?_drop] at hj
  rw [Nat.add_assoc]
  exact h _ v hj
 cases hj
theorem list_of_each {α : Type} {q : Nat → α → Prop} : ∀ n : Nat, (∀ i, i < n → ∃ y, q i y) → ∃ ys : List α, ys.length = n ∧ ∀ i (h : i < ys.length), q i ys[i]
 | 0, _ => ⟨[], rfl, fun i h => absurd h (by simp)⟩
 | n + 1, h => by
  obtain ⟨ys, hl, hy⟩ := list_of_each n fun i hi => h i (by omega)
  obtain ⟨y, hn⟩ := h n (by omega)
  refine ⟨ys ++ [y], by simp [hl], fun i hi => ?_⟩
  rcases Nat.lt_or_ge i n with hlt | hge
  ·rw [List.getElem_append_left (by omega)]
   exact hy i (by omega)
  have hin : i = n := by simp [hl] at hi; omega
  subst hin
  rw [List.getElem_append_right (by omega)]
  simpa [hl] using hn
structure Opn (H : Type) (enc : TypeId × Value → H) (P : Program) (W : World) {α : Type} (t : TypeId) (E : Rdr α) : Prop where
 sz : P.cellsOf t = E.sz
 mem : ∀ fuel cs x b o, DataW.trod enc P W 0 (fun _ => true) true fuel t cs = some x → (∀ k ∈ DataW.weights P t x.1, k ≤ reachBytes) → At0 W b o cs → b < W.heap.size → ∃ a, E.R (· < W.heap.size) W b o a
theorem weightsAll_memG {e : TypeId} : ∀ {l : List (DataW H)} {d : DataW H}, d ∈ l → ∀ n ∈ d.weights P e, n ∈ DataW.weightsAll P e l
 | x :: l, d, hd, n, hn => by
  simp only [DataW.weightsAll, List.mem_append]
  rcases List.mem_cons.1 hd with rfl | h
  ·exact Or.inl hn
  exact Or.inr (weightsAll_memG h n hn)
theorem opn_int {t : TypeId} (ht : P.underlying t = some (.int .i64)) (hc : P.cellsOf t = 1) : Opn H enc P W t rInt := ⟨hc, fun fuel cs x b o h hwt hA hb => by
 obtain ⟨n, rfl, _, hw⟩ := DataW.trod_int ht h
 exact ⟨n, hb, by show W.cell? ⟨b, o, none⟩ = some (.int .i64 n); simpa using hA 0 _ rfl, wf_I64 hw⟩⟩
theorem opn_byte {t : TypeId} (ht : P.underlying t = some (.int .u8)) (hc : P.cellsOf t = 1) : Opn H enc P W t rByte := ⟨hc, fun fuel cs x b o h hwt hA hb => by
 obtain ⟨n, rfl, _, hw⟩ := DataW.trod_int ht h
 simp only [Lit.wf, Bool.and_eq_true, decide_eq_true_eq] at hw
 have h0 : (0 : Int) ≤ n := hw.1
 have h1 : n ≤ 255 := hw.2
 refine ⟨UInt8.ofNat n.toNat, hb, ?_, trivial⟩
 have e : vByte (UInt8.ofNat n.toNat) = .int .u8 n := by
  unfold vByte
  congr 1
  rw [UInt8.toNat_ofNat']
  omega
 rw [e]
 simpa using hA 0 _ rfl⟩
theorem opn_slice {α : Type} {t e : TypeId} {E : Rdr α} (ht : P.underlying t = some (.slice e)) (hby : 0 < P.bytesOf e) (hE : Opn H enc P W e E) (hpos : 0 < E.sz) : ∀ fuel cs x, DataW.trod enc P W 0 (fun _ => true) true fuel t cs = some x → (∀ k ∈ DataW.weights P t x.1, k ≤ reachBytes) → ∃ v xs, cs = [v] ∧ IsSl E (· < W.heap.size) W v xs ∧ xs.length ≤ 140737488355328 := fun fuel cs x h hwt => by
 rcases open_slice ht h with ⟨rfl, rfl⟩ | ⟨a, len, cap, m, n, D, Pl, rfl, _, hl, hm, hmm, rfl, hx⟩
 ·exact ⟨_, [], rfl, ⟨none, 0, 0, 0, rfl, Nat.le_refl _, by omega, fun _ => rfl, fun h => absurd h (by simp), fun i hi => absurd hi (by simp)⟩, by simp⟩
 simp only [if_true] at hmm
 subst hmm
 rw [hE.sz] at hx
 have e0 : a.add 0 = a := by unfold Addr.add; simp
 simp only [DataW.weights, ht] at hwt
 have hlen := hwt _ (List.mem_cons_self ..)
 have each : ∀ i, i < len → ∃ y, E.R (· < W.heap.size) W a.block (a.off + i * E.sz) y := fun i hi => by
  obtain ⟨c0, h0, _⟩ := hx 0 (by omega)
  rw [Nat.zero_mul, e0] at h0
  obtain ⟨cs', h1, h2⟩ := hx i (by omega)
  obtain ⟨_, hl0, hc0⟩ := World.cells?_some h0
  obtain ⟨_, hl1, hc1⟩ := World.cells?_some h1
  have g0 := (hc0 0 (by omega)).trans (List.getElem?_eq_getElem (by omega))
  rw [e0] at g0
  have hs := spot_none g0
  refine hE.mem _ cs' _ _ _ h2 (fun k hk => hwt k (List.mem_cons_of_mem _ (List.mem_append_left _ (weightsAll_memG (List.mem_map.2 ⟨i, List.mem_range.2 hi, rfl⟩) k hk)))) (fun j v hj => ?_) (cell_lt g0)
  have hjl : j < cs'.length := (List.getElem?_eq_some_iff.1 hj).1
  have := (hc1 j (by omega)).trans hj
  rw [add_add] at this
  have := add_none this hs
  rw [show a.off + i * E.sz + j = a.off + (i * E.sz + j) by omega]
  exact this
 obtain ⟨ys, hyl, hy⟩ := list_of_each len each
 refine ⟨_, ys, rfl, ⟨some a, m, a.block, a.off, by rw [hyl], by rw [hyl]; exact hl, by unfold maxLen at hm; omega, by simp, fun h0 => ?_, hy⟩, ?_⟩
 ·have h0' : 0 < len := by rw [hyl] at h0; exact h0
  obtain ⟨c0, h1, _⟩ := hx 0 (by omega)
  rw [Nat.zero_mul, e0] at h1
  obtain ⟨_, hl0, hc0⟩ := World.cells?_some h1
  have g0 := (hc0 0 (by omega)).trans (List.getElem?_eq_getElem (by omega))
  rw [e0] at g0
  exact congrArg some (spot_none g0)
 rw [hyl]
 simp only [List.length_map, List.length_range] at hlen
 unfold reachBytes at hlen
 have := Nat.le_mul_of_pos_right (len + (m - len)) hby
 omega
theorem opn_arr {α : Type} {t e : TypeId} {E : Rdr α} {n : Nat} (ht : P.underlying t = some (.array n e)) (hc : P.cellsOf t = n * E.sz) (hE : Opn H enc P W e E) : Opn H enc P W t (rArr n E) := ⟨hc, fun fuel cs x b o h hwt hA hb => by
 obtain ⟨xs, k, rfl, rfl, hl, hxl, hx⟩ := DataW.trod_array ht h
 simp only [DataW.weights, ht] at hwt
 have each : ∀ i, i < n → ∃ y, E.R (· < W.heap.size) W b (o + i * E.sz) y := fun i hi => by
  have hy := hx i hi
  rw [List.getElem?_eq_getElem (by omega)] at hy
  rw [hE.sz] at hy
  exact hE.mem _ _ _ _ _ hy (fun k hk => hwt k (weightsAll_memG (List.mem_map.2 ⟨_, List.getElem_mem (by omega), rfl⟩) k hk)) (hA.drop _ _) hb
 obtain ⟨ys, hyl, hy⟩ := list_of_each n each
 exact ⟨ys, hyl, hy⟩⟩
end
section
variable {w0 : World} {S : Nat → Prop} {Ps : Nat → Prop} {b o : Nat}
theorem Ro.arr8 {n : Nat} {xs : List UInt8} (h : Ro w0 S (elc (rArr n rByte) Ps b o xs)) : xs.length = n ∧ ∀ {m : List Ck} w, Hp w0 S w m → w.rangeAt b o (xs.map vByte) := by
 refine ⟨h.1.1, fun {m} w hw j v hj => ?_⟩
 rw [List.getElem?_map] at hj
 obtain ⟨y, hy, rfl⟩ := Option.map_eq_some_iff.1 hj
 obtain ⟨hlt, rfl⟩ := List.getElem?_eq_some_iff.1 hy
 have := (h.at hw).2 j hlt
 have := this.2.1
 rwa [show o + j * rByte.sz = o + j from by show o + j * 1 = _; omega] at this
end
end Go.Proofs.YtcgacpmippdkeaaGreat
namespace Go.Proofs.YtcgacpmippdkeaaGreat
open Go.RowKit
theorem Tryz.infoByte : (Tryz.prog.info? 5).map (fun i => (i.zero, i.size, i.bytes)) = some (some (.int .u8 0), 1, 1) := by kernel_rfl
theorem Tryz.infoByte' : (Tryz.prog.info? 5).map (fun i => (i.zero.map (·.cells.size), i.size, i.bytes)) = some (some 1, 1, 1) := by kernel_rfl
theorem Tryz.sizeByte : (Tryz.prog.info? 5).map (·.size) = some 1 := by kernel_rfl
theorem same_tr {Pv Pu : Nat → Prop} (v u : Value) (a b : List UInt8) : Tr Tryz.prog 33 #[v, u] [slc rByte Pv v a, slc rByte Pu u b] [] (T0 (.bool (decide (a = b)))) := by
 refine Tr.of (l := [(0, v), (1, u)]) Tryz.func33 rfl (n := 10) rfl (.cons rfl (.cons rfl .nil)) (fun w0 hro => ?_)
 obtain ⟨hv, hu⟩ := ro2 hro
 refine go [9,10,1,7,8,9,10,0] ?_
 refine G.op rfl (G.val rfl rfl (pv_toStr Tryz.underlying31 Tryz.underlying5 Tryz.underlying9 rfl (by first | exact ro_sl (by assumption) | assumption)) ?_)
 refine go [0] ?_
 refine G.op rfl (G.val rfl rfl (pv_toStr Tryz.underlying31 Tryz.underlying5 Tryz.underlying9 rfl (by first | exact ro_sl (by assumption) | assumption)) ?_)
 refine go [2,24,1,7,8,11] ?_
 exact G.done1 rfl rfl .nil ⟨rfl, rfl⟩
def sizeM (x : Int) : Nat := if x < 0 ∨ 2147483647 < x then 0 else if x < 128 then 1 else if x < 16384 then 2 else if x < 2097152 then 3 else if x < 268435456 then 4 else 5
def qM (x : Int) (k : Nat) : Int := x / (128 : Int) ^ k
theorem qM_one (x : Int) : x / 2 ^ 7 = qM x 1 := rfl
theorem qM_step (x : Int) (k : Nat) : qM x k / 128 = qM x (k + 1) := by
 show x / (128 : Int) ^ k / 128 = x / (128 : Int) ^ (k + 1)
 rw [Int.pow_succ, ← Int.ediv_ediv_of_nonneg (Int.le_of_lt (Int.pow_pos (by omega)))]
theorem size_end (x : Int) (k : Nat) (h0 : 0 ≤ x) (h1 : x ≤ 2147483647) (k1 : 1 ≤ k) (k5 : k ≤ 5) (hk : k = 1 ∨ 0 < qM x (k - 1)) (he : ¬ 0 < qM x k) : sizeM x = k := by
 have : k = 1 ∨ k = 2 ∨ k = 3 ∨ k = 4 ∨ k = 5 := by omega
 unfold sizeM
 rcases this with rfl | rfl | rfl | rfl | rfl <;> simp [qM] at hk he <;> split <;> (try omega) <;> split <;> (try omega) <;> split <;> (try omega) <;> split <;> (try omega) <;> split <;> omega
theorem size_more (x : Int) (k : Nat) (h1 : x ≤ 2147483647) (k5 : k ≤ 5) (he : 0 < qM x k) : k + 1 ≤ 5 := by
 rcases Nat.lt_or_ge k 5 with h | h
 ·omega
 obtain rfl : k = 5 := by omega
 simp [qM] at he
 omega
theorem sizeM_le (x : Int) : sizeM x ≤ 5 := by unfold sizeM; (repeat' split) <;> omega
theorem sizeM_pos {x : Int} (h : sizeM x ≠ 0) : 0 ≤ x ∧ x ≤ 2147483647 := by
 unfold sizeM at h
 split at h
 ·exact absurd rfl h
 omega
theorem sizeM_zero {x : Int} (h : sizeM x = 0) : x < 0 ∨ 2147483647 < x := by
 unfold sizeM at h
 split at h
 ·assumption
 (repeat' split at h) <;> omega
theorem sizeM_ok {x : Int} (h0 : 0 ≤ x) (h1 : x ≤ 2147483647) : 1 ≤ sizeM x := by
 have := fun h => sizeM_zero (x := x) h
 omega
theorem qM_nonneg {x : Int} (h : 0 ≤ x) (k : Nat) : 0 ≤ qM x k := Int.ediv_nonneg h (Int.le_of_lt (Int.pow_pos (by omega)))
theorem qM_le {x : Int} (h : 0 ≤ x) (k : Nat) : qM x k ≤ x := Int.ediv_le_self _ h
set_option maxHeartbeats 4000000 in
theorem size_tr (x : Int) : Tr Tryz.prog 82 #[.int .i64 x] [] [] (T0 (.int .i64 (sizeM x))) := by
 refine Tr.of (l := [(0, .int .i64 x)]) Tryz.func82 rfl (n := 19) rfl (.cons rfl .nil) (fun w0 hro => ?_)
 refine go [9,10,1,7,8,9,9,10,0,2,9,0] ?_
 refine G.partP (t := 6) rfl (fun h6 => ?_) (fun h6 => ?_)
 ·refine go [4,4,2,2,7,8,60,0,9,10,1,7,8,11,12] ?_
  first
  | exact G.done1 rfl rfl .nil ⟨congrArg (fun k : Nat => Value.int .i64 k) (size_end x k (by omega) (by omega) (by omega) (by omega) hJ.2.2 (by assumption)).symm, rfl⟩
  | exact G.done1 rfl rfl .nil ⟨by simp [sizeM, *], rfl⟩
 refine go [3,0,3,10,2,2,7,8] ?_
 refine G.condP rfl (fun h9 => ?_) (fun h9 => ?_)
 ·refine go [9,10,1,7,8,11,12] ?_
  first
  | exact G.done1 rfl rfl .nil ⟨congrArg (fun k : Nat => Value.int .i64 k) (size_end x k (by omega) (by omega) (by omega) (by omega) hJ.2.2 (by assumption)).symm, rfl⟩
  | exact G.done1 rfl rfl .nil ⟨by simp [sizeM, *], rfl⟩
 refine go [13,8,9,10,1,7,8,9,9,10,0] ?_
 refine G.op rfl (G.val rfl rfl ((pv_shr (s := 7) rfl rfl (by decide)).int (qM_one x)) ?_)
 refine go [1,7,8,15] ?_
 refine G.loop (X := Nat) (fun k => 1 ≤ k ∧ k ≤ 5 ∧ (k = 1 ∨ 0 < qM x (k - 1))) (fun k => [(3, .int .i64 k), (0, .int .i64 (qM x k))]) (fun k => []) (fun k => 6 - k) (x0 := 1) (by omega) (.consE rfl veqT (.consE rfl veqT .nil)) Sub.nil (fun k hJ => ?_)
 show G _ _ _ [(3, .int .i64 k), (0, .int .i64 (qM x k))] [] _
 refine go [9,9,10,0,2,10,7,8] ?_
 refine G.condP rfl (fun h13 => ?_) (fun h13 => ?_)
 ·refine go [13,8,9,15,10,0,2,6,1,7,16,8,10,0] ?_
  refine G.op rfl (G.val rfl rfl ((pv_shr (s := 7) rfl rfl (by decide)).int (qM_step x k)) ?_)
  refine go [1,7] ?_
  exact G.next (k + 1) (by exact ⟨by omega, size_more x k (by omega) (by omega) (by assumption), .inr (by assumption)⟩) (by have := hJ; omega) (.consE rfl veqT (.consE rfl veqT .nil)) Sub.nil
 refine go [18,14,14,19,8,9,10,0,1,7,8,11] ?_
 first
 | exact G.done1 rfl rfl .nil ⟨congrArg (fun k : Nat => Value.int .i64 k) (size_end x k (by omega) (by omega) (by omega) (by omega) hJ.2.2 (by assumption)).symm, rfl⟩
 | exact G.done1 rfl rfl .nil ⟨by simp [sizeM, *], rfl⟩
def byteAt (x : Int) (i : Nat) : UInt8 := UInt8.ofNat ((qM x i % 128).toNat + if i = 0 then 0 else 128)
def putTo (x : Int) (c : Nat) : List UInt8 := (List.range c).map fun t => byteAt x (sizeM x - 1 - t)
def putM (x : Int) : List UInt8 := putTo x (sizeM x)
theorem putTo_length (x : Int) (c : Nat) : (putTo x c).length = c := by simp [putTo]
theorem putM_length (x : Int) : (putM x).length = sizeM x := putTo_length x _
theorem byteAt_val (x : Int) (i : Nat) : ((byteAt x i).toNat : Int) = qM x i % 128 + if i = 0 then 0 else 128 := by
 unfold byteAt
 rw [UInt8.toNat_ofNat']
 have h0 := Int.emod_nonneg (qM x i) (show (128 : Int) ≠ 0 by omega)
 have h1 := Int.emod_lt_of_pos (qM x i) (show (0 : Int) < 128 by omega)
 split <;> omega
theorem shr_qM (x : Int) (i : Nat) : x / 2 ^ (7 * i) = qM x i := by
 unfold qM
 rw [Int.pow_mul]
 rfl
def byteHi (x : Int) (i : Nat) : UInt8 := UInt8.ofNat ((qM x i % 128).toNat + 128)
def allM (x : Int) (j : Nat) : List Value := (List.range 5).map fun p => if 4 - p < j then vByte (byteHi x (4 - p)) else .int .u8 0
theorem allM_length (x : Int) (j : Nat) : (allM x j).length = 5 := by simp [allM]
theorem allM_set (x : Int) (j : Nat) (hj : j < 5) : (allM x j).set (4 - j) (vByte (byteHi x j)) = allM x (j + 1) := by
 have : j = 0 ∨ j = 1 ∨ j = 2 ∨ j = 3 ∨ j = 4 := by omega
 rcases this with rfl | rfl | rfl | rfl | rfl <;> rfl
theorem allM_end (x : Int) (k : Nat) (hk : sizeM x = k) (h1 : 1 ≤ k) (h5 : k ≤ 5) : ((allM x k).set 4 (vByte (byteAt x 0))).drop (5 - k) = (putM x).map vByte := by
 unfold putM putTo
 rw [hk]
 have : k = 1 ∨ k = 2 ∨ k = 3 ∨ k = 4 ∨ k = 5 := by omega
 rcases this with rfl | rfl | rfl | rfl | rfl <;> rfl
theorem allM_last (x : Int) (k : Nat) (h1 : 1 ≤ k) (h5 : k ≤ 5) : (allM x k)[4]? = some (vByte (byteHi x 0)) := by
 have : k = 1 ∨ k = 2 ∨ k = 3 ∨ k = 4 ∨ k = 5 := by omega
 rcases this with rfl | rfl | rfl | rfl | rfl <;> rfl
theorem byteHi_val (x : Int) (i : Nat) : ((byteHi x i).toNat : Int) = qM x i % 128 + 128 := by
 unfold byteHi
 rw [UInt8.toNat_ofNat']
 have h0 := Int.emod_nonneg (qM x i) (show (128 : Int) ≠ 0 by omega)
 have h1 := Int.emod_lt_of_pos (qM x i) (show (0 : Int) < 128 by omega)
 omega
theorem or128 (x : Int) (h0 : 0 ≤ x) (h1 : x < 128) : bits .or .u8 x 128 = x + 128 := by
 have : ∀ a : Fin 128, bits .or .u8 (a.val : Int) 128 = (a.val : Int) + 128 := by decide +kernel
 have h := this ⟨x.toNat, by omega⟩
 simp only at h
 rwa [show ((x.toNat : Nat) : Int) = x by omega] at h
theorem and127b (x : Int) (h0 : 0 ≤ x) (h1 : x < 256) : bits .and .u8 x 127 = x % 128 := by
 have : ∀ a : Fin 256, bits .and .u8 (a.val : Int) 127 = (a.val : Int) % 128 := by decide +kernel
 have h := this ⟨x.toNat, by omega⟩
 simp only at h
 rwa [show ((x.toNat : Nat) : Int) = x by omega] at h
set_option maxHeartbeats 4000000 in
theorem wint_tr (D : Nat) (bad : Bool) (v : Value) (bs : List UInt8) (x : Int) (k : Nat) (hk : sizeM x = k) (h1 : 1 ≤ k) (hb : bs.length ≤ 1000000000) : Tr Tryz.prog 59 #[.pointer (some ⟨D, 0, none⟩), .int .i64 x] [] [blk D 158 [.bool true, .bool bad, v], own 5 1 v bs.length (bs.map vByte)]
 (TX (fun _ : Value => True) (fun _ => .tuple #[]) (fun v => [blk D 158 [.bool true, .bool bad, v], own 5 1 v (bs.length + k) ((bs ++ putM x).map vByte)])) := by
 have hx := sizeM_pos (x := x) (by omega)
 have h5 := sizeM_le x
 rw [hk] at h5
 refine Tr.of (l := [(0, .pointer (some ⟨D, 0, none⟩)), (1, .int .i64 x)]) Tryz.func59 rfl (n := 61) rfl (.cons rfl (.cons rfl .nil)) (fun w0 hro => ?_)
 refine go [9,9,10,0,2,50,1,0,3,0,3,8,3,16,3,50,12,3,25,2,2,7,8,60,1,13,8,9,10,0] ?_
 refine G.op rfl (G.call0 rfl rfl rfl rfl Tryz.func82 rfl rfl (by have := size_tr x; rw [hk] at this; exact this) may0 ?_)
 refine go [1,7,8,9] ?_
 refine G.cut (X := Unit) (fun _ => True) (fun _ => [(0, .pointer (some ⟨D, 0, none⟩)), (1, .int .i64 x), (4, .int .i64 k)]) (fun _ => [blk D 158 [.bool true, .bool bad, v], own 5 1 v bs.length (bs.map vByte)]) ?_ ?_
 ·refine go [10,0,0,2,8,2,16] ?_
  refine G.op rfl (G.val rfl rfl (pv_load Tryz.underlying4 rfl rfl (blk_cell (v := .bool bad) .here rfl)) ?_)
  refine go [0] ?_
  refine G.part (t := 23) rfl (fun h23 => ?_) (fun h23 => ?_)
  ·obtain rfl : bad = true := (by assumption)
   refine go [4,4,2,2,2,8,2,16,21,7] ?_
   exact G.meet (()) (by exact trivial) (.consE rfl veqT (.consE rfl veqT (.consE rfl veqT .nil))) (.cons selT (.cons selT .nil))
  obtain rfl : bad = false := (by assumption)
  refine go [3,0] ?_
  refine G.want rfl rfl rfl (G.val rfl rfl ((pv_eql rfl rfl).cast (by rw [decide_eq_false (by omega)])) ?_)
  refine go [2,2,2,8,2,16,21,7] ?_
  exact G.meet (()) (by exact trivial) (.consE rfl veqT (.consE rfl veqT (.consE rfl veqT .nil))) (.cons selT (.cons selT .nil))
 rintro _ _
 show G _ _ _ [(0, .pointer (some ⟨D, 0, none⟩)), (1, .int .i64 x), (4, .int .i64 k)] [blk D 158 [.bool true, .bool bad, v], own 5 1 v bs.length (bs.map vByte)] _
 refine go [9,10] ?_
 refine G.op rfl (G.alloc (z := .agg (Array.replicate 5 (.int .u8 0))) (cs := allM x 0) rfl kr rfl ?_)
 intro b5
 refine go [7,8,9,9,10,0,0,7,8,15] ?_
 refine G.loop (X := Nat) (fun k' => k' ≤ k) (fun k' => [(30, .int .i64 k'), (29, .int .i64 k), (0, .pointer (some ⟨D, 0, none⟩)), (1, .int .i64 x), (4, .int .i64 k), (5, .pointer (some ⟨b5, 0, none⟩))]) (fun k' => [blk b5 159 (allM x k'), blk D 158 [.bool true, .bool bad, v], own 5 1 v bs.length (bs.map vByte)]) (fun k' => k - k') (x0 := 0) (Nat.zero_le _) (.consE rfl veqT (.consE rfl veqT (.consE rfl veqT (.consE rfl veqT (.consE rfl veqT (.consE rfl veqT .nil)))))) (.cons selT (.cons selT (.cons selT .nil))) (fun k' hJ => ?_)
 show G _ _ _ [(30, .int .i64 k'), (29, .int .i64 k), (0, .pointer (some ⟨D, 0, none⟩)), (1, .int .i64 x), (4, .int .i64 k), (5, .pointer (some ⟨b5, 0, none⟩))] [blk b5 159 (allM x k'), blk D 158 [.bool true, .bool bad, v], own 5 1 v bs.length (bs.map vByte)] _
 refine go [9,10,2,9,7,8,9] ?_
 refine G.condP rfl (fun h31 => ?_) (fun h31 => ?_)
 ·have hq0 := qM_nonneg hx.1 k'
  have hq1 := qM_le hx.1 k'
  have hbh := byteHi_val x k'
  refine go [13,8,9,15,9,10,0,1,7,8,10,0,2,19,0,0] ?_
  refine G.op rfl (G.val rfl rfl ((pv_mul64 rfl rfl (by omega)).int (show _ = ((7 * k' : Nat) : Int) by omega)) ?_)
  refine G.op rfl (G.val rfl rfl ((pv_shr rfl rfl (show 7 * k' ≤ 64 by omega)).int (shr_qM x k')) ?_)
  refine G.op rfl (G.val rfl rfl ((pv_and rfl rfl).int (and_mask 7 (by omega) _ hq0 (by omega))) ?_)
  refine G.op rfl (G.val rfl rfl ((pv_conv (by rw [Tryz.underlying3]; rfl) Tryz.underlying5 rfl).int (wrap_u8 (show 0 ≤ qM x k' % 128 ∧ qM x k' % 128 ≤ 255 by omega))) ?_)
  refine G.op rfl (G.val rfl rfl ((pv_or rfl rfl).int ((or128 _ (by omega) (by omega)).trans hbh.symm)) ?_)
  refine G.op rfl (G.val rfl rfl (pv_ixA (k := 4 - k') (sz := 1) Tryz.underlying159 Tryz.sizeByte rfl rfl (by omega) (by omega)) ?_)
  refine G.op rfl (G.store (o := 4 - k') Tryz.sizeByte (by simp [ev, Fr.get]) rfl rfl .here (by rw [allM_length]; omega) ?_)
  refine go [7,16,8,10,2,6,0,7] ?_
  exact G.next (k' + 1) (by omega) (by omega) (.consE rfl veqT (.consE rfl veqT (.consE rfl veqT (.consE rfl veqT (.consE rfl veqT (.consE rfl veqT .nil)))))) (by rw [← allM_set x k' (by omega)]; exact .cons .here (.cons .here (.cons .here .nil)))
 obtain rfl : k = k' := by omega
 refine go [18,14,14,19,8,9,9,10,0,2,10,7,8] ?_
 refine G.condT rfl (decide_eq_true (by omega)) ?_
 refine go [10] ?_
 refine G.op rfl (G.val rfl rfl (pv_ixA (k := 4) (sz := 1) Tryz.underlying159 Tryz.sizeByte rfl rfl rfl (by omega)) ?_)
 refine G.op rfl (G.val rfl rfl (pv_load Tryz.underlying5 rfl rfl (blk_cell (o := 0 + 4 * 1) .here (allM_last x k h1 h5))) ?_)
 have hbh := byteHi_val x 0
 have hba := byteAt_val x 0
 refine G.op rfl (G.val rfl rfl ((pv_and rfl rfl).int ((and127b _ (by omega) (by omega)).trans (show _ = ((byteAt x 0).toNat : Int) by rw [hbh, hba]; simp))) ?_)
 refine G.op rfl (G.val rfl rfl (pv_ixA (k := 4) (sz := 1) Tryz.underlying159 Tryz.sizeByte rfl rfl rfl (by omega)) ?_)
 refine G.op rfl (G.store (o := 4) Tryz.sizeByte rfl rfl rfl .here (by rw [allM_length]; omega) ?_)
 refine go [7,8] ?_
 refine G.drawn kr (k := 12) rfl [] ?_
 refine G.take (i := 0) rfl rfl rfl kr kr kr (fun _ _ _ h => h) rfl (pv_move rfl) Sub.nil ?_
 refine G.take (i := 1) rfl rfl rfl kr kr kr (fun _ _ _ h => h) rfl (pv_move rfl) Sub.nil ?_
 refine G.take (i := 2) rfl rfl rfl kr kr kr (fun _ _ _ h => h) rfl (pv_nilCheck rfl) Sub.nil ?_
 refine G.take (i := 3) rfl rfl rfl kr kr kr (fun _ _ _ h => h) rfl (pv_fieldAddr (sz := 0) Tryz.underlying158 rfl kr rfl) Sub.nil ?_
 refine G.take (i := 5) rfl rfl rfl kr kr kr (fun _ _ _ h => h) rfl (pv_move rfl) Sub.nil ?_
 refine G.take (i := 6) rfl rfl rfl kr kr kr (fun _ _ _ h => h) rfl (pv_sub64 rfl rfl (by omega)) Sub.nil ?_
 refine G.take (i := 7) rfl rfl rfl kr kr kr (fun _ _ _ h => h) rfl (pv_subArO (k := 5 - k) (k' := k) (sz := 1) Tryz.underlying159 Tryz.sizeByte rfl rfl (by omega) (by omega)) Sub.nil ?_
 refine G.one (i := 4) kr ?_
 refine G.turnOp rfl rfl (G.val rfl rfl (pv_load Tryz.underlying31 rfl rfl (blk_cell (v := v) (.there .here) rfl)) ?_)
 refine go [60,10] ?_
 refine G.one (i := 8) kr ?_
 refine G.turnOp rfl rfl (G.append (k := bs.length) (j := k) (cs := bs.map vByte) (news := (putM x).map vByte) (b := b5) (off := subOff 5 (5 - k) 0 1) rfl Tryz.underlying31 Tryz.infoByte' rfl rfl rfl (.there (.there .here)) (fun _ => rfl) (fun h => by cases h) (by rw [List.length_map, putM_length, hk, Nat.mul_one]) (blk_news (k := k) .here (by rw [subOff_lt (by omega), Nat.zero_add, Nat.mul_one]; show (((allM x k).set 4 (vByte (byteAt x 0))).drop (5 - k)).take k = _; rw [allM_end x k hk h1 h5, List.take_of_length_le (by rw [List.length_map, putM_length, hk]; exact Nat.le_refl _)])) (vByte_one _) (by omega) (by omega) ?_)
 intro v'
 refine G.ownFact .here (fun hv1 _ => ?_)
 refine go [60,10] ?_
 refine G.take (i := 9) rfl rfl rfl kr kr kr (fun _ _ _ h => h) rfl (pv_nilCheck rfl) Sub.nil ?_
 refine G.take (i := 10) rfl rfl rfl kr kr kr (fun _ _ _ h => h) rfl (pv_fieldAddr (sz := 0) Tryz.underlying158 rfl kr rfl) Sub.nil ?_
 refine G.one (i := 11) kr ?_
 refine G.turnOp rfl rfl (G.store (o := 2) kr rfl rfl hv1 (.there (.there .here)) (by simp) ?_)
 refine go [60,10] ?_
 refine G.over kr ?_
 exact G.doneE (m' := [blk D 158 [.bool true, .bool bad, v'], own 5 1 v' (bs.length + k) ((bs ++ putM x).map vByte)]) rfl (.cons .here (.cons (by rw [List.map_append]; exact .here) .nil)) ⟨v', trivial, rfl, rfl⟩
set_option maxHeartbeats 4000000 in
theorem wint_bad (D : Nat) (bad : Bool) (v : Value) (bs : List UInt8) (x : Int) (hk : sizeM x = 0) (hb : bs.length ≤ 1000000000) : Tr Tryz.prog 59 #[.pointer (some ⟨D, 0, none⟩), .int .i64 x] [] [blk D 158 [.bool true, .bool bad, v], own 5 1 v bs.length (bs.map vByte)]
 (TX (fun _ : Value => True) (fun _ => .tuple #[]) (fun v => [blk D 158 [.bool true, .bool true, v], own 5 1 v bs.length (bs.map vByte)])) := by
 refine Tr.of (l := [(0, .pointer (some ⟨D, 0, none⟩)), (1, .int .i64 x)]) Tryz.func59 rfl (n := 61) rfl (.cons rfl (.cons rfl .nil)) (fun w0 hro => ?_)
 refine go [9,9,10,0,2,50,1,0,3,0,3,8,3,16,3,50,12,3,25,2,2,7,8,60,1,13,8,9,10,0] ?_
 refine G.op rfl (G.call0 rfl rfl rfl rfl Tryz.func82 rfl rfl (by have := size_tr x; rw [hk] at this; exact this) may0 ?_)
 refine go [1,7,8,9] ?_
 refine G.cut (X := Unit) (fun _ => True) (fun _ => [(0, .pointer (some ⟨D, 0, none⟩)), (1, .int .i64 x), (4, .int .i64 0)]) (fun _ => [blk D 158 [.bool true, .bool true, v], own 5 1 v bs.length (bs.map vByte)]) ?_ ?_
 ·refine go [10,0,0,2,8,2,16] ?_
  refine G.op rfl (G.val rfl rfl (pv_load Tryz.underlying4 rfl rfl (blk_cell (v := .bool bad) .here rfl)) ?_)
  refine go [0] ?_
  refine G.part (t := 23) rfl (fun h23 => ?_) (fun h23 => ?_)
  ·obtain rfl : bad = true := (by assumption)
   refine go [4,4,2,2,2,8,2,16,21,7] ?_
   exact G.meet (()) (by exact trivial) (.consE rfl veqT (.consE rfl veqT (.consE rfl veqT .nil))) (.cons selT (.cons selT .nil))
  refine go [3,0,3,13,2,2,2,8,2,16,21,7] ?_
  exact G.meet (()) (by exact trivial) (.consE rfl veqT (.consE rfl veqT (.consE rfl veqT .nil))) (.cons selT (.cons selT .nil))
 rintro _ _
 show G _ _ _ [(0, .pointer (some ⟨D, 0, none⟩)), (1, .int .i64 x), (4, .int .i64 0)] [blk D 158 [.bool true, .bool true, v], own 5 1 v bs.length (bs.map vByte)] _
 refine go [9,10] ?_
 refine G.op rfl (G.alloc (z := .agg (Array.replicate 5 (.int .u8 0))) (cs := allM x 0) rfl kr rfl ?_)
 intro b5
 refine go [7,8,9,9,10,0,0,7,8,15] ?_
 refine G.loop (X := Unit) (fun _ => True) (fun _ => [(30, .int .i64 0), (29, .int .i64 0), (0, .pointer (some ⟨D, 0, none⟩)), (4, .int .i64 0), (5, .pointer (some ⟨b5, 0, none⟩))]) (fun _ => [blk b5 159 (allM x 0), blk D 158 [.bool true, .bool true, v], own 5 1 v bs.length (bs.map vByte)]) (fun _ => 0) (x0 := ()) (trivial) (.consE rfl veqT (.consE rfl veqT (.consE rfl veqT (.consE rfl veqT (.consE rfl veqT .nil))))) (.cons selT (.cons selT (.cons selT .nil))) (fun _ hJ => ?_)
 show G _ _ _ [(30, .int .i64 0), (29, .int .i64 0), (0, .pointer (some ⟨D, 0, none⟩)), (4, .int .i64 0), (5, .pointer (some ⟨b5, 0, none⟩))] [blk b5 159 (allM x 0), blk D 158 [.bool true, .bool true, v], own 5 1 v bs.length (bs.map vByte)] _
 refine go [9,10,2,9,7,8,9,60,1,18,14,14,19,8,9,9,10,0,2,10,7,8,60,1,13,8] ?_
 refine G.drawn kr (k := 12) rfl [] ?_
 refine G.take (i := 0) rfl rfl rfl kr kr kr (fun _ _ _ h => h) rfl (pv_move rfl) Sub.nil ?_
 refine G.take (i := 1) rfl rfl rfl kr kr kr (fun _ _ _ h => h) rfl (pv_move rfl) Sub.nil ?_
 refine G.take (i := 2) rfl rfl rfl kr kr kr (fun _ _ _ h => h) rfl (pv_nilCheck rfl) Sub.nil ?_
 refine G.take (i := 3) rfl rfl rfl kr kr kr (fun _ _ _ h => h) rfl (pv_fieldAddr (sz := 0) Tryz.underlying158 rfl kr rfl) Sub.nil ?_
 refine G.take (i := 5) rfl rfl rfl kr kr kr (fun _ _ _ h => h) rfl (pv_move rfl) Sub.nil ?_
 refine G.take (i := 6) rfl rfl rfl kr kr kr (fun _ _ _ h => h) rfl (pv_sub64 rfl rfl (by omega)) Sub.nil ?_
 refine G.take (i := 7) rfl rfl rfl kr kr kr (fun _ _ _ h => h) rfl (pv_subArO (k := 5) (k' := 0) (sz := 1) Tryz.underlying159 Tryz.sizeByte rfl rfl (by omega) (by omega)) Sub.nil ?_
 refine G.one (i := 4) kr ?_
 refine G.turnOp rfl rfl (G.val rfl rfl (pv_load Tryz.underlying31 rfl rfl (blk_cell (v := v) (.there .here) rfl)) ?_)
 refine go [60,10] ?_
 refine G.one (i := 8) kr ?_
 refine G.turnOp rfl rfl (G.append (k := bs.length) (j := 0) (cs := bs.map vByte) (news := []) (b := b5) (off := subOff 5 5 0 1) rfl Tryz.underlying31 Tryz.infoByte' rfl rfl rfl (.there (.there .here)) (fun _ => rfl) (fun h => by cases h) rfl (fun w hw j u hu => by simp at hu) (by simp) (by omega) (by omega) ?_)
 intro v'
 refine G.ownFact .here (fun hv1 _ => ?_)
 refine go [60,10] ?_
 refine G.take (i := 9) rfl rfl rfl kr kr kr (fun _ _ _ h => h) rfl (pv_nilCheck rfl) Sub.nil ?_
 refine G.take (i := 10) rfl rfl rfl kr kr kr (fun _ _ _ h => h) rfl (pv_fieldAddr (sz := 0) Tryz.underlying158 rfl kr rfl) Sub.nil ?_
 refine G.one (i := 11) kr ?_
 refine G.turnOp rfl rfl (G.store (o := 2) kr rfl rfl hv1 (.there (.there .here)) (by simp) ?_)
 refine go [60,10] ?_
 refine G.over kr ?_
 exact G.doneE (m' := [blk D 158 [.bool true, .bool true, v'], own 5 1 v' bs.length (bs.map vByte)]) rfl (.cons .here (.cons (by rw [Nat.add_zero, List.append_nil]; exact .here) .nil)) ⟨v', trivial, rfl, rfl⟩
theorem wint_any (D : Nat) (bad : Bool) (v : Value) (bs : List UInt8) (x : Int) (hb : bs.length ≤ 1000000000) : Tr Tryz.prog 59 #[.pointer (some ⟨D, 0, none⟩), .int .i64 x] [] [blk D 158 [.bool true, .bool bad, v], own 5 1 v bs.length (bs.map vByte)]
 (TX (fun _ : Value => True) (fun _ => .tuple #[]) (fun v => [blk D 158 [.bool true, .bool (bad || decide (sizeM x = 0)), v], own 5 1 v (bs ++ putM x).length ((bs ++ putM x).map vByte)])) := by
 by_cases hk : sizeM x = 0
 ·have h := wint_bad D bad v bs x hk hb
  have e : putM x = [] := by unfold putM; rw [hk]; rfl
  rw [e, decide_eq_true hk, Bool.or_true, List.append_nil]
  exact h
 have h := wint_tr D bad v bs x (sizeM x) rfl (by omega) hb
 rw [decide_eq_false hk, Bool.or_false, List.length_append, putM_length]
 exact h
def bytesM (b : List UInt8) : List UInt8 := putM b.length ++ b
theorem putM_le (x : Int) : (putM x).length ≤ 5 := by rw [putM_length]; exact sizeM_le x
theorem wbytes_tr (D : Nat) (bad : Bool) (v u : Value) (bs b : List UInt8) {Pu : Nat → Prop} (hb : bs.length ≤ 900000000) (hl : b.length ≤ 10000000) : Tr Tryz.prog 105 #[.pointer (some ⟨D, 0, none⟩), u] [slc rByte Pu u b] [blk D 158 [.bool true, .bool bad, v], own 5 1 v bs.length (bs.map vByte)]
 (TX (fun _ : Value => True) (fun _ => .tuple #[]) (fun v => [blk D 158 [.bool true, .bool (bad || decide (sizeM (b.length : Int) = 0)), v], own 5 1 v (bs ++ bytesM b).length ((bs ++ bytesM b).map vByte)])) := by
 refine Tr.of (l := [(0, .pointer (some ⟨D, 0, none⟩)), (1, u)]) Tryz.func105 rfl (n := 26) rfl (.cons rfl (.cons rfl .nil)) (fun w0 hro => ?_)
 have hu := ro1 hro
 have hu' := hu
 obtain ⟨ad, cap, bb, off, rfl, -⟩ := Ro.open hu
 have hp5 := putM_le b.length
 refine go [9,9,10,0,2,50,1,0,3,0,3,8,3,16,3,50,12,3,25,2,2,7,8,60,1,13,8,9,10,0,0,2,5] ?_
 refine G.op rfl (G.c2 rfl rfl rfl rfl Tryz.func59 rfl rfl (wint_any D bad v bs b.length (by omega)) (.cons selT (.cons selT .nil)) may0 ?_)
 rintro v2 -
 refine go [7,8,10,0,0,2,8,2,16] ?_
 refine G.op rfl (G.val rfl rfl (pv_load Tryz.underlying31 rfl rfl (by first | exact blk_cell selT rfl | exact ro_int (by assumption) | exact ro_byte (by assumption) | exact ro_str (by assumption) | with_reducible assumption | assumption)) ?_)
 refine go [0] ?_
 refine G.op rfl (G.appendS (k := (bs ++ putM b.length).length) (cs := (bs ++ putM b.length).map vByte) rfl Tryz.underlying31 Tryz.infoByte' rfl rfl (.there .here) (ro_sl hu) (vByte_one _) (by simp only [List.length_append]; omega) (by simp only [List.length_append]; omega) ?_)
 intro v'
 refine G.ownFact .here (fun hv1 _ => ?_)
 refine go [2,8,2,16] ?_
 refine G.op rfl (G.store (o := 2) kr rfl rfl hv1 selT (by simp) ?_)
 refine G.nil ?_
 exact G.doneE (m' := [blk D 158 [.bool true, .bool (bad || decide (sizeM (b.length : Int) = 0)), v'], own 5 1 v' (bs ++ bytesM b).length ((bs ++ bytesM b).map vByte)]) rfl (.cons .here (.cons (by rw [show bs ++ bytesM b = (bs ++ putM b.length) ++ b by simp [bytesM], ← own_app]; exact .here) .nil)) ⟨v', trivial, rfl, rfl⟩
theorem wtext_tr (D : Nat) (bad : Bool) (v : Value) (bs b : List UInt8) (hb : bs.length ≤ 900000000) (hl : b.length ≤ 10000000) : Tr Tryz.prog 83 #[.pointer (some ⟨D, 0, none⟩), .string (sB b)] [] [blk D 158 [.bool true, .bool bad, v], own 5 1 v bs.length (bs.map vByte)]
 (TX (fun _ : Value => True) (fun _ => .tuple #[]) (fun v => [blk D 158 [.bool true, .bool (bad || decide (sizeM (b.length : Int) = 0)), v], own 5 1 v (bs ++ bytesM b).length ((bs ++ bytesM b).map vByte)])) := by
 refine Tr.of (l := [(0, .pointer (some ⟨D, 0, none⟩)), (1, .string (sB b))]) Tryz.func83 rfl (n := 8) rfl (.cons rfl (.cons rfl .nil)) (fun w0 hro => ?_)
 refine go [10,0,0] ?_
 refine G.op rfl (G.toBytes rfl Tryz.underlying9 Tryz.underlying31 Tryz.underlying5 rfl (by omega) ?_)
 intro b6 u
 refine G.op rfl (G.c2 rfl rfl rfl rfl Tryz.func105 rfl rfl (wbytes_tr D bad v u bs b (Pu := (· = b6)) hb hl) (.cons selT (.cons selT .nil)) (may1 (by first | exact .old (by first | with_reducible assumption | assumption) | exact Sel.may selT)) ?_)
 rintro v2 -
 refine G.nil ?_
 exact G.doneE (m' := [blk D 158 [.bool true, .bool (bad || decide (sizeM (b.length : Int) = 0)), v2], own 5 1 v2 (bs ++ bytesM b).length ((bs ++ bytesM b).map vByte)]) rfl (.cons .here (.cons .here .nil)) ⟨v2, trivial, rfl, rfl⟩
def vID (id : List UInt8) : Value := .agg (id.map vByte).toArray
theorem wid_tr (D : Nat) (bad : Bool) (v : Value) (bs id : List UInt8) (hid : id.length = 16) (hb : bs.length ≤ 1000000000) : Tr Tryz.prog 84 #[.pointer (some ⟨D, 0, none⟩), vID id] [] [blk D 158 [.bool true, .bool bad, v], own 5 1 v bs.length (bs.map vByte)]
 (TX (fun _ : Value => True) (fun _ => .tuple #[]) (fun v => [blk D 158 [.bool true, .bool bad, v], own 5 1 v (bs ++ id).length ((bs ++ id).map vByte)])) := by
 refine Tr.of (l := [(0, .pointer (some ⟨D, 0, none⟩)), (1, vID id)]) Tryz.func84 rfl (n := 21) rfl (.cons rfl (.cons rfl .nil)) (fun w0 hro => ?_)
 refine go [9,10] ?_
 refine G.op rfl (G.box (cs := id.map vByte) rfl rfl rfl ?_)
 intro b3
 refine go [7,8,9,10,0] ?_
 refine G.op rfl (G.val rfl rfl (pv_neqP0 Tryz.underlying115 rfl rfl) ?_)
 refine go [0,3,0,3,8,3,16] ?_
 refine G.want rfl rfl rfl (G.val rfl rfl (pv_load Tryz.underlying4 rfl rfl (blk_cell (v := .bool true) (.there .here) rfl)) ?_)
 refine go [2,2,7,8,60,0] ?_
 refine G.drawn kr (k := 10) rfl [] ?_
 refine G.take (i := 0) rfl rfl rfl kr kr kr (fun _ _ _ h => h) rfl (pv_move rfl) Sub.nil ?_
 refine G.take (i := 1) rfl rfl rfl kr kr kr (fun _ _ _ h => h) rfl (pv_move rfl) Sub.nil ?_
 refine G.take (i := 2) rfl rfl rfl kr kr kr (fun _ _ _ h => h) rfl (pv_nilCheck rfl) Sub.nil ?_
 refine G.take (i := 3) rfl rfl rfl kr kr kr (fun _ _ _ h => h) rfl (pv_fieldAddr (sz := 0) Tryz.underlying158 rfl kr rfl) Sub.nil ?_
 refine G.take (i := 5) rfl rfl rfl kr kr kr (fun _ _ _ h => h) rfl (pv_subAr (len := 16) Tryz.underlying59 kr rfl) Sub.nil ?_
 refine G.one (i := 4) kr ?_
 refine G.turnOp rfl rfl (G.val rfl rfl (pv_load Tryz.underlying31 rfl rfl (blk_cell (v := v) (.there .here) rfl)) ?_)
 refine go [60,10] ?_
 refine G.one (i := 6) kr ?_
 refine G.turnOp rfl rfl (G.append (k := bs.length) (j := 16) (cs := bs.map vByte) (news := id.map vByte) (b := b3) (off := 0) rfl Tryz.underlying31 Tryz.infoByte' rfl rfl rfl (.there (.there .here)) (fun _ => rfl) (fun h => by cases h) (by rw [List.length_map, hid]) (blk_news (k := 16) .here (by rw [List.drop_zero, List.take_of_length_le (by rw [List.length_map, hid]; exact Nat.le_refl _)])) (vByte_one _) (by omega) (by omega) ?_)
 intro v'
 refine G.ownFact .here (fun hv1 _ => ?_)
 refine go [60,10] ?_
 refine G.take (i := 7) rfl rfl rfl kr kr kr (fun _ _ _ h => h) rfl (pv_nilCheck rfl) Sub.nil ?_
 refine G.take (i := 8) rfl rfl rfl kr kr kr (fun _ _ _ h => h) rfl (pv_fieldAddr (sz := 0) Tryz.underlying158 rfl kr rfl) Sub.nil ?_
 refine G.one (i := 9) kr ?_
 refine G.turnOp rfl rfl (G.store (o := 2) kr rfl rfl hv1 selT (by simp) ?_)
 refine go [60,10] ?_
 refine G.over kr ?_
 exact G.doneE (m' := [blk D 158 [.bool true, .bool bad, v'], own 5 1 v' (bs ++ id).length ((bs ++ id).map vByte)]) rfl (.cons selT (.cons (by rw [List.length_append, hid, List.map_append]; repeat (first | with_reducible exact Sel.here | apply Sel.there)) .nil)) ⟨v', trivial, rfl, rfl⟩
inductive Rn where
 | ok (n next : Nat)
 | bad (e p : Nat)
def getGo (b : List UInt8) (at_ : Nat) : Nat → Nat → Nat → Rn
 | 0, _, _ => .bad 5 at_
 | f + 1, k, n => match b[at_ + k]? with
  | none => .bad 4 b.length
  | some c => if 128 ≤ c.toNat then getGo b at_ f (k + 1) (n * 128 + c.toNat % 128) else if 2147483647 < n * 128 + c.toNat % 128 then .bad 5 at_ else .ok (n * 128 + c.toNat % 128) (at_ + k + 1)
def getM (b : List UInt8) (at_ : Nat) : Rn := if b[at_]? = some 128 then .bad 4 at_ else getGo b at_ 5 0 0
def wrongC (e p : Int) : List PanicEntry := [{ v := .iface 188 (.agg #[.int .i64 e, .int .i64 p]), recovered := false }]
theorem give_tr (e p : Int) : TrO Tryz.prog 110 #[.int .i64 e, .int .i64 p] [] [] (TO (fun _ : Unit => False) (fun _ => .tuple #[]) (fun _ => []) (fun _ : Unit => True) (fun _ => wrongC e p) (fun _ => [])) := by
 refine TrO.of (l := [(0, .int .i64 e), (1, .int .i64 p)]) Tryz.func110 rfl (n := 9) rfl (.cons rfl (.cons rfl .nil)) (fun w0 hro => ?_)
 refine go [10,0,0] ?_
 refine G.op rfl (G.val rfl rfl (pv_build (cells := #[.int .i64 e, .int .i64 p]) (fun a ha => ha.pevs rfl) kr) ?_)
 refine G.op rfl (G.val rfl rfl (pv_build (cells := #[.int .i64 e, .int .i64 p]) (fun a ha => ha.pevs rfl) kr) ?_)
 refine G.op rfl (G.val rfl rfl (pv_iface Tryz.underlying188 rfl rfl) ?_)
 refine G.op rfl (G.panicOp rfl ?_)
 exact G.outP .nil ⟨(), trivial, rfl, rfl⟩
theorem getGo_none {b : List UInt8} {a k n : Nat} (hk : k < 5) (h : a + k = b.length) : getGo b a (5 - k) k n = .bad 4 b.length := by
 obtain ⟨f, hf⟩ : ∃ f, 5 - k = f + 1 := ⟨4 - k, by omega⟩
 rw [hf, getGo, List.getElem?_eq_none (by omega)]
theorem getGo_hi {b : List UInt8} {a k n : Nat} (hk : k < 5) (h : a + k < b.length) (hc : 128 ≤ b[a + k].toNat) : getGo b a (5 - k) k n = getGo b a (5 - (k + 1)) (k + 1) (n * 128 + b[a + k].toNat % 128) := by
 obtain ⟨f, hf⟩ : ∃ f, 5 - k = f + 1 := ⟨4 - k, by omega⟩
 rw [hf, getGo, List.getElem?_eq_getElem h]
 simp only
 rw [if_pos hc, show 5 - (k + 1) = f by omega]
theorem getGo_big {b : List UInt8} {a k n : Nat} (hk : k < 5) (h : a + k < b.length) (hc : ¬ 128 ≤ b[a + k].toNat) (hn : 2147483647 < n * 128 + b[a + k].toNat % 128) : getGo b a (5 - k) k n = .bad 5 a := by
 obtain ⟨f, hf⟩ : ∃ f, 5 - k = f + 1 := ⟨4 - k, by omega⟩
 rw [hf, getGo, List.getElem?_eq_getElem h]
 simp only
 rw [if_neg hc, if_pos hn]
theorem getGo_ok {b : List UInt8} {a k n : Nat} (hk : k < 5) (h : a + k < b.length) (hc : ¬ 128 ≤ b[a + k].toNat) (hn : ¬ 2147483647 < n * 128 + b[a + k].toNat % 128) : getGo b a (5 - k) k n = .ok (n * 128 + b[a + k].toNat % 128) (a + k + 1) := by
 obtain ⟨f, hf⟩ : ∃ f, 5 - k = f + 1 := ⟨4 - k, by omega⟩
 rw [hf, getGo, List.getElem?_eq_getElem h]
 simp only
 rw [if_neg hc, if_neg hn]
theorem getM_128 {b : List UInt8} {a : Nat} (h : a < b.length) (hc : (b[a].toNat : Int) = 128) : getM b a = .bad 4 a := by
 unfold getM
 rw [if_pos]
 rw [List.getElem?_eq_getElem h]
 congr 1
 exact UInt8.toNat_inj.1 (show b[a].toNat = 128 by omega)
theorem getM_go {b : List UInt8} {a : Nat} (h : ∀ h : a < b.length, (b[a].toNat : Int) ≠ 128) : getM b a = getGo b a (5 - 0) 0 0 := by
 unfold getM
 rw [if_neg]
 intro hc
 rcases Nat.lt_or_ge a b.length with h1 | h1
 ·rw [List.getElem?_eq_getElem h1] at hc
  injection hc with hc
  have := h h1
  rw [hc] at this
  exact this rfl
 rw [List.getElem?_eq_none (by omega)] at hc
 cases hc
theorem pow_bound {k n : Nat} (hk : k ≤ 5) (h : n < 128 ^ k) : n < 34359738368 := Nat.lt_of_lt_of_le h (Nat.pow_le_pow_right (by omega) hk : 128 ^ k ≤ 128 ^ 5)
theorem pow_step {k n c : Nat} (h : n < 128 ^ k) (hc : c < 128) : n * 128 + c < 128 ^ (k + 1) := by rw [Nat.pow_succ]; omega
set_option maxHeartbeats 4000000 in
theorem number_tr (D a : Nat) (v : Value) (b : List UInt8) (p : Int) (ha : a ≤ b.length) (hb : b.length ≤ 1000000000) : TrO Tryz.prog 109 #[.pointer (some ⟨D, 0, none⟩)] [] [blk D 167 [.bool true, v, .int .i64 (a : Int), .int .i64 0, .int .i64 p], own 5 1 v b.length (b.map vByte)]
 (TO (fun x : Nat × Nat => getM b a = .ok x.1 x.2) (fun x => .int .i64 (x.1 : Int)) (fun x => [blk D 167 [.bool true, v, .int .i64 (x.2 : Int), .int .i64 0, .int .i64 p], own 5 1 v b.length (b.map vByte)]) (fun y : Nat × Nat × Nat => getM b a = .bad y.1 y.2.1) (fun y => wrongC y.1 y.2.1) (fun y => [blk D 167 [.bool true, v, .int .i64 (y.2.2 : Int), .int .i64 0, .int .i64 p], own 5 1 v b.length (b.map vByte)])) := by
 refine TrO.of (l := [(0, .pointer (some ⟨D, 0, none⟩))]) Tryz.func109 rfl (n := 78) rfl (.cons rfl .nil) (fun w0 hro => ?_)
 refine G.ownNews selT (fun ad cap bb hv hcap hmax had hnil hnews => ?_)
 subst hv
 refine go [9,10,1,7,8,9,10,0,2,8,2,16] ?_
 refine G.op rfl (G.val rfl rfl (pv_load Tryz.underlying3 rfl rfl (blk_cell (v := .int .i64 (a : Int)) selT rfl)) ?_)
 refine go [1,1,7,8,9,9] ?_
 refine G.cut (X := Bool) (fun q => (q = true → ∃ h : a < b.length, (b[a].toNat : Int) = 128) ∧ (q = false → getM b a = getGo b a (5 - 0) 0 0)) (fun q => [(26, .bool q), (3, .int .i64 (a : Int)), (4, .int .i64 0), (0, .pointer (some ⟨D, 0, none⟩))]) (fun q => [blk D 167 [.bool true, (.slice ad b.length cap), .int .i64 (a : Int), .int .i64 0, .int .i64 p], own 5 1 (.slice ad b.length cap) b.length (b.map vByte)]) ?_ ?_
 ·refine go [10,0,0,2,8,2,16] ?_
  refine G.op rfl (G.val rfl rfl (pv_load Tryz.underlying31 rfl rfl (blk_cell (v := .slice ad b.length cap) selT rfl)) ?_)
  refine go [2,5,2,9,0] ?_
  refine G.partP (t := 17) rfl (fun h17 => ?_) (fun h17 => ?_)
  ·refine go [3,0,3,8,3,16] ?_
   refine G.want rfl rfl rfl (G.val rfl rfl (pv_load Tryz.underlying31 rfl rfl (blk_cell (v := .slice ad b.length cap) selT rfl)) ?_)
   refine go [3,0] ?_
   refine G.want rfl rfl rfl (G.val rfl rfl (pv_ixSl (sz := 1) (k := a) Tryz.underlying31 Tryz.sizeByte rfl rfl had rfl (by omega)) ?_)
   have hlt : a < b.length := by omega
   refine G.want rfl rfl rfl (G.val rfl rfl (pv_load Tryz.underlying5 rfl rfl (fun w hw => (hnews selT w hw).byte a hlt)) ?_)
   refine go [3,13,2,2,7] ?_
   first | exact G.meet (decide ((b[a].toNat : Int) = 128)) (by exact ⟨fun h => ⟨hlt, of_decide_eq_true h⟩, fun h => getM_go fun _ => of_decide_eq_false h⟩) (.cons rfl (.cons rfl (.cons rfl (.cons rfl .nil)))) (.cons selT (.cons selT .nil)) | exact G.meet false (by exact ⟨(fun h => by cases h), fun _ => getM_go fun h => absurd h (by omega)⟩) (.cons rfl (.cons rfl (.cons rfl (.cons rfl .nil)))) (.cons selT (.cons selT .nil))
  refine go [4,4,4,4,4,4,4,4,2,2,7] ?_
  first | exact G.meet (decide ((b[a].toNat : Int) = 128)) (by exact ⟨fun h => ⟨hlt, of_decide_eq_true h⟩, fun h => getM_go fun _ => of_decide_eq_false h⟩) (.cons rfl (.cons rfl (.cons rfl (.cons rfl .nil)))) (.cons selT (.cons selT .nil)) | exact G.meet false (by exact ⟨(fun h => by cases h), fun _ => getM_go fun h => absurd h (by omega)⟩) (.cons rfl (.cons rfl (.cons rfl (.cons rfl .nil)))) (.cons selT (.cons selT .nil))
 rintro q ⟨hq1, hq2⟩
 show G _ _ _ [(26, .bool q), (3, .int .i64 (a : Int)), (4, .int .i64 0), (0, .pointer (some ⟨D, 0, none⟩))] [blk D 167 [.bool true, (.slice ad b.length cap), .int .i64 (a : Int), .int .i64 0, .int .i64 p], own 5 1 (.slice ad b.length cap) b.length (b.map vByte)] _
 refine G.cond rfl (fun h26 => ?_) (fun h26 => ?_)
 ·obtain ⟨hlt, hc⟩ := hq1 h26
  refine go [10,0] ?_
  refine G.op rfl (G.cO0 rfl rfl (pe_fn rfl rfl Tryz.func110 rfl rfl) (give_tr _ _) Sub.nil may0 ?_ ?_)
  ·intro x hJ; exact hJ.elim
  rintro _ _
  refine G.pThen ?_
  exact G.outP (.cons selT (.cons selT .nil)) ⟨(4, a, a), getM_128 (by omega) (by assumption), rfl, rfl⟩
 have hgo := hq2 h26
 refine go [13,8,9,9,10,0,7,8,15] ?_
 refine G.loop (X := Nat × Nat) (fun (k, nn) => k ≤ 5 ∧ a + k ≤ b.length ∧ nn < 128 ^ k ∧ getM b a = getGo b a (5 - k) k nn) (fun (k, nn) => [(29, .int .i64 (k : Int)), (4, .int .i64 (nn : Int)), (3, .int .i64 (a : Int)), (0, .pointer (some ⟨D, 0, none⟩))]) (fun (k, nn) => [blk D 167 [.bool true, (.slice ad b.length cap), .int .i64 (((a + k : Nat)) : Int), .int .i64 0, .int .i64 p], own 5 1 (.slice ad b.length cap) b.length (b.map vByte)]) (fun (k, nn) => 5 - k) (x0 := (0, 0)) (⟨by omega, by omega, by decide, hgo⟩) (.consE rfl veqT (.consE rfl veqT (.consE rfl veqT (.consE rfl veqT .nil)))) (.cons selT (.cons selT .nil)) (fun ⟨k, nn⟩ hJ => ?_)
 show G _ _ _ [(29, .int .i64 (k : Int)), (4, .int .i64 (nn : Int)), (3, .int .i64 (a : Int)), (0, .pointer (some ⟨D, 0, none⟩))] [blk D 167 [.bool true, (.slice ad b.length cap), .int .i64 (((a + k : Nat)) : Int), .int .i64 0, .int .i64 p], own 5 1 (.slice ad b.length cap) b.length (b.map vByte)] _
 obtain ⟨hk, hak, hnn, hg⟩ := hJ
 have hnn' := pow_bound hk hnn
 refine go [9,10,2,9,7,8,9] ?_
 refine G.condP rfl (fun h30 => ?_) (fun h30 => ?_)
 ·refine go [13,8,9,15,9,9] ?_
  refine G.drawn kr (k := 10) rfl [blk D 167 [.bool true, (.slice ad b.length cap), .int .i64 (((a + k : Nat)) : Int), .int .i64 0, .int .i64 p], own 5 1 (.slice ad b.length cap) b.length (b.map vByte)] ?_
  refine G.take (i := 0) rfl rfl rfl kr kr kr (fun _ _ _ h => h) rfl (pv_move rfl) (.cons selT (.cons selT .nil)) ?_
  refine G.take (i := 1) rfl rfl rfl kr kr kr (fun _ _ _ h => h) rfl (pv_nilCheck rfl) (.cons selT (.cons selT .nil)) ?_
  refine G.take (i := 2) rfl rfl rfl kr kr kr (fun _ _ _ h => h) rfl (pv_fieldAddr (sz := 0) Tryz.underlying167 rfl kr rfl) (.cons selT (.cons selT .nil)) ?_
  refine G.take (i := 4) rfl rfl rfl kr kr kr (fun _ _ _ h => h) rfl (pv_move rfl) (.cons selT (.cons selT .nil)) ?_
  refine G.take (i := 5) rfl rfl rfl kr kr kr (fun _ _ _ h => h) rfl (pv_nilCheck rfl) (.cons selT (.cons selT .nil)) ?_
  refine G.take (i := 6) rfl rfl rfl kr kr kr (fun _ _ _ h => h) rfl (pv_fieldAddr (sz := 0) Tryz.underlying167 rfl kr rfl) (.cons selT (.cons selT .nil)) ?_
  refine G.take (i := 3) rfl rfl rfl kr kr kr (fun _ _ _ h => h) rfl (pv_load Tryz.underlying3 rfl rfl (blk_cell (v := .int .i64 (((a + k : Nat)) : Int)) selT rfl)) (.cons selT (.cons selT .nil)) ?_
  refine G.one (i := 7) kr ?_
  refine G.turnOp rfl rfl (G.val rfl rfl (pv_load Tryz.underlying31 rfl rfl (blk_cell (v := .slice ad b.length cap) selT rfl)) ?_)
  refine go [60,7] ?_
  refine G.take (i := 8) rfl rfl rfl kr kr kr (fun _ _ _ h => h) rfl (pv_lenSl Tryz.underlying31 rfl) (.cons selT (.cons selT .nil)) ?_
  refine G.take (i := 9) rfl rfl rfl kr kr kr (fun _ _ _ h => h) rfl (pv_eql rfl rfl) (.cons selT (.cons selT .nil)) ?_
  refine G.over kr ?_
  refine go [8] ?_
  refine G.condP rfl (fun h40 => ?_) (fun h40 => ?_)
  ·refine go [10,0,2,8,2,16] ?_
   refine G.op rfl (G.val rfl rfl (pv_load Tryz.underlying31 rfl rfl (blk_cell (v := .slice ad b.length cap) selT rfl)) ?_)
   refine go [2,5] ?_
   refine G.op rfl (G.cO0 rfl rfl (pe_fn rfl rfl Tryz.func110 rfl rfl) (give_tr _ _) Sub.nil may0 ?_ ?_)
   ·intro x hJ; exact hJ.elim
   rintro _ _
   refine G.pThen ?_
   refine G.pBlock ?_
   refine G.pThen ?_
   refine G.pThen ?_
   refine G.pBlock ?_
   refine G.pThen ?_
   exact G.outP (.cons selT (.cons selT .nil)) ⟨(4, b.length, a + k), hg.trans (getGo_none (by omega) (by omega)), rfl, rfl⟩
  have hlt : a + k < b.length := by omega
  refine go [13,8,9] ?_
  refine G.drawn kr (k := 11) rfl [blk D 167 [.bool true, (.slice ad b.length cap), .int .i64 (((a + k : Nat)) : Int), .int .i64 0, .int .i64 p], own 5 1 (.slice ad b.length cap) b.length (b.map vByte)] ?_
  refine G.take (i := 0) rfl rfl rfl kr kr kr (fun _ _ _ h => h) rfl (pv_move rfl) (.cons selT (.cons selT .nil)) ?_
  refine G.take (i := 1) rfl rfl rfl kr kr kr (fun _ _ _ h => h) rfl (pv_nilCheck rfl) (.cons selT (.cons selT .nil)) ?_
  refine G.take (i := 2) rfl rfl rfl kr kr kr (fun _ _ _ h => h) rfl (pv_fieldAddr (sz := 0) Tryz.underlying167 rfl kr rfl) (.cons selT (.cons selT .nil)) ?_
  refine G.take (i := 4) rfl rfl rfl kr kr kr (fun _ _ _ h => h) rfl (pv_move rfl) (.cons selT (.cons selT .nil)) ?_
  refine G.take (i := 5) rfl rfl rfl kr kr kr (fun _ _ _ h => h) rfl (pv_nilCheck rfl) (.cons selT (.cons selT .nil)) ?_
  refine G.take (i := 6) rfl rfl rfl kr kr kr (fun _ _ _ h => h) rfl (pv_fieldAddr (sz := 0) Tryz.underlying167 rfl kr rfl) (.cons selT (.cons selT .nil)) ?_
  refine G.take (i := 3) rfl rfl rfl kr kr kr (fun _ _ _ h => h) rfl (pv_load Tryz.underlying31 rfl rfl (blk_cell (v := .slice ad b.length cap) selT rfl)) (.cons selT (.cons selT .nil)) ?_
  refine G.one (i := 7) kr ?_
  refine G.turnOp rfl rfl (G.val rfl rfl (pv_load Tryz.underlying3 rfl rfl (blk_cell (v := .int .i64 (((a + k : Nat)) : Int)) selT rfl)) ?_)
  refine go [60,7] ?_
  refine G.take (i := 8) rfl rfl rfl kr kr kr (fun _ _ _ h => h) rfl (pv_ixSl (sz := 1) (k := a + k) Tryz.underlying31 Tryz.sizeByte rfl rfl had rfl (by omega)) (.cons selT (.cons selT .nil)) ?_
  refine G.one (i := 9) kr ?_
  refine G.turnOp rfl rfl (G.val rfl rfl (pv_load Tryz.underlying5 rfl rfl (fun w hw => (hnews selT w hw).byte (a + k) hlt)) ?_)
  refine go [60,7] ?_
  refine G.take (i := 10) rfl rfl rfl kr kr kr (fun _ _ _ h => h) rfl (pv_assign rfl) (.cons selT (.cons selT .nil)) ?_
  refine G.over kr ?_
  refine go [8,9,10,0,2,8,2,16] ?_
  refine G.op rfl (G.val rfl rfl (pv_load Tryz.underlying3 rfl rfl (blk_cell (v := .int .i64 (((a + k : Nat)) : Int)) selT rfl)) ?_)
  refine G.op rfl (G.val rfl rfl ((pv_add64 rfl rfl (by omega)).int (show _ = ((a + (k + 1) : Nat) : Int) by omega)) ?_)
  refine go [2,8,2,16] ?_
  refine G.op rfl (G.store (o := 2) kr rfl rfl rfl .here (by simp) ?_)
  refine go [7,8,9,10,0] ?_
  refine G.op rfl (G.val rfl rfl ((pv_shl (s := 7) rfl rfl (by decide)).int (wrap_i64 (by unfold I64; omega))) ?_)
  refine go [0] ?_
  have hc0 := b[a + k].toNat_lt
  refine G.op rfl (G.val rfl rfl ((pv_and rfl rfl).int ((and127b _ (by omega) (by omega)).trans (show _ = ((b[a + k].toNat % 128 : Nat) : Int) by omega))) ?_)
  refine G.op rfl (G.val rfl rfl ((pv_conv (by rw [Tryz.underlying5]; rfl) Tryz.underlying3 rfl).int (wrap_i64 (by unfold I64; omega))) ?_)
  refine G.op rfl (G.val rfl rfl ((pv_or rfl rfl).int ((or_add 7 nn _ (by omega) (by omega) (by omega)).trans (show _ = ((nn * 128 + b[a + k].toNat % 128 : Nat) : Int) by omega))) ?_)
  refine go [1,7,8,9,9,10,0,2,12,7,8] ?_
  refine G.condP rfl (fun h71 => ?_) (fun h71 => ?_)
  ·refine go [18,14,19,8,10,2,6,0,7] ?_
   exact G.next ((k + 1, nn * 128 + b[a + k].toNat % 128)) (by exact ⟨by omega, by omega, pow_step hnn (by omega), hg.trans (getGo_hi (by omega) hlt (by omega))⟩) (by dsimp only; omega) (.consE rfl veqT (.consE rfl veqT (.consE rfl veqT (.consE rfl veqT .nil)))) (.cons selT (.cons selT .nil))
  refine go [13,8,9,9,10,0,2,10,7,8] ?_
  refine G.condP rfl (fun h73 => ?_) (fun h73 => ?_)
  ·refine go [18,14,44,14,14,19,8,9,10,0] ?_
   refine G.op rfl (G.cO0 rfl rfl (pe_fn rfl rfl Tryz.func110 rfl rfl) (give_tr _ _) Sub.nil may0 ?_ ?_)
   ·intro x hJ; exact hJ.elim
   rintro _ _
   refine G.pThen ?_
   first | exact G.outP (.cons selT (.cons selT .nil)) ⟨(5, a, a + (k + 1)), hg.trans (getGo_big (by omega) hlt (by omega) (by omega)), rfl, rfl⟩ | (obtain rfl : k = 5 := (by omega); exact G.outP (.cons selT (.cons selT .nil)) ⟨(5, a, a + 5), hg, rfl, rfl⟩)
  refine go [13,8,9,10,0,1,7,8,11,17,12,12,17,12] ?_
  exact G.out1 rfl rfl (.cons selT (.cons selT .nil)) ⟨(nn * 128 + b[a + k].toNat % 128, a + (k + 1)), hg.trans (getGo_ok (by omega) hlt (by omega) (by omega)), rfl, rfl⟩
 refine go [18,14,14,19,8,9,10,0] ?_
 refine G.op rfl (G.cO0 rfl rfl (pe_fn rfl rfl Tryz.func110 rfl rfl) (give_tr _ _) Sub.nil may0 ?_ ?_)
 ·intro x hJ; exact hJ.elim
 rintro _ _
 refine G.pThen ?_
 first | exact G.outP (.cons selT (.cons selT .nil)) ⟨(5, a, a + (k + 1)), hg.trans (getGo_big (by omega) hlt (by omega) (by omega)), rfl, rfl⟩ | (obtain rfl : k = 5 := (by omega); exact G.outP (.cons selT (.cons selT .nil)) ⟨(5, a, a + 5), hg, rfl, rfl⟩)
def bndM (b : List UInt8) (a : Nat) (low high above : Int) : Rn := match getM b a with
 | .bad e p => .bad e p
 | .ok n nx => if high < n then .bad above.toNat a else if (n : Int) < low then .bad 5 a else .ok n nx
theorem bnd_bad {b : List UInt8} {a e p : Nat} {low high above : Int} (h : getM b a = .bad e p) : bndM b a low high above = .bad e p := by unfold bndM; rw [h]
theorem bnd_hi {b : List UInt8} {a n nx : Nat} {low high above : Int} (h : getM b a = .ok n nx) (h1 : high < n) : bndM b a low high above = .bad above.toNat a := by unfold bndM; rw [h]; exact if_pos h1
theorem bnd_lo {b : List UInt8} {a n nx : Nat} {low high above : Int} (h : getM b a = .ok n nx) (h1 : ¬ high < n) (h2 : (n : Int) < low) : bndM b a low high above = .bad 5 a := by
 unfold bndM
 rw [h]
 simp only
 rw [if_neg h1, if_pos h2]
theorem bnd_ok {b : List UInt8} {a n nx : Nat} {low high above : Int} (h : getM b a = .ok n nx) (h1 : ¬ high < n) (h2 : ¬ (n : Int) < low) : bndM b a low high above = .ok n nx := by
 unfold bndM
 rw [h]
 simp only
 rw [if_neg h1, if_neg h2]
theorem getGo_next {b : List UInt8} : ∀ (f k n a m nx : Nat), getGo b a f k n = .ok m nx → nx ≤ b.length ∧ a + k < nx := by
 intro f
 induction f with
 | zero => intro k n a m nx h; cases h
 | succ f ih =>
  intro k n a m nx h
  unfold getGo at h
  split at h
  ·cases h
  rename_i c hc
  have hlt : a + k < b.length := (List.getElem?_eq_some_iff.1 hc).1
  split at h
  ·have := ih _ _ _ _ _ h
   omega
  split at h
  ·cases h
  injection h with h1 h2
  omega
theorem getM_next {b : List UInt8} {a m nx : Nat} (h : getM b a = .ok m nx) : nx ≤ b.length := by
 unfold getM at h
 split at h
 ·cases h
 exact (getGo_next _ _ _ _ _ _ h).1
theorem bnd_get {b : List UInt8} {a m nx : Nat} {low high above : Int} (h : bndM b a low high above = .ok m nx) : getM b a = .ok m nx ∧ (m : Int) ≤ high ∧ low ≤ m := by
 unfold bndM at h
 split at h
 ·cases h
 rename_i n nx' e
 split at h
 ·cases h
 split at h
 ·cases h
 injection h with h1 h2
 subst h1
 subst h2
 exact ⟨e, by omega, by omega⟩
def subB (b : List UInt8) (a n : Nat) : List UInt8 := (b.take (a + n)).drop a
theorem subB_length {b : List UInt8} {a n : Nat} (h : a + n ≤ b.length) : (subB b a n).length = n := by unfold subB; simp; omega
theorem bounded_tr (D a : Nat) (v : Value) (b : List UInt8) (p low high above : Int) (habove : 0 ≤ above) (ha : a ≤ b.length) (hb : b.length ≤ 1000000000) : TrO Tryz.prog 90 #[.pointer (some ⟨D, 0, none⟩), .int .i64 low, .int .i64 high, .int .i64 above] [] [blk D 167 [.bool true, v, .int .i64 (a : Int), .int .i64 0, .int .i64 p], own 5 1 v b.length (b.map vByte)]
 (TO (fun x : Nat × Nat => bndM b a low high above = .ok x.1 x.2) (fun x => .int .i64 (x.1 : Int)) (fun x => [blk D 167 [.bool true, v, .int .i64 (x.2 : Int), .int .i64 0, .int .i64 p], own 5 1 v b.length (b.map vByte)]) (fun y : Nat × Nat × Nat => bndM b a low high above = .bad y.1 y.2.1) (fun y => wrongC y.1 y.2.1) (fun y => [blk D 167 [.bool true, v, .int .i64 (y.2.2 : Int), .int .i64 0, .int .i64 p], own 5 1 v b.length (b.map vByte)])) := by
 refine TrO.of (l := [(0, .pointer (some ⟨D, 0, none⟩)), (1, .int .i64 low), (2, .int .i64 high), (3, .int .i64 above)]) Tryz.func90 rfl (n := 29) rfl (.cons rfl (.cons rfl (.cons rfl (.cons rfl .nil)))) (fun w0 hro => ?_)
 refine go [9,10,1,7,8,9,10,0,2,8,2,16] ?_
 refine G.op rfl (G.val rfl rfl (pv_load Tryz.underlying3 rfl rfl (blk_cell (v := .int .i64 (a : Int)) selT rfl)) ?_)
 refine go [1,7,8,9,10,0] ?_
 refine G.op rfl (G.cO2 rfl rfl (pe_fn rfl rfl Tryz.func109 rfl rfl) (number_tr D a v b p ha hb) (.cons selT (.cons selT .nil)) may0 ?_ ?_)
 ·rintro ⟨nn, nx⟩ hg
  have hg' : getM b a = .ok nn nx := hg
  refine go [1,7,8,9,9,10,0,0,2,10,7,8] ?_
  refine G.condP rfl (fun h19 => ?_) (fun h19 => ?_)
  ·refine go [10,0,0] ?_
   refine G.op rfl (G.cO0 rfl rfl (pe_fn rfl rfl Tryz.func110 rfl rfl) (give_tr _ _) Sub.nil may0 ?_ ?_)
   ·intro x hJ; exact hJ.elim
   rintro _ _
   refine G.pThen ?_
   have e : wrongC above (a : Int) = wrongC (above.toNat : Int) (a : Int) := by rw [Int.toNat_of_nonneg habove]
   rw [e]
   exact G.outP (.cons selT (.cons selT .nil)) ⟨(above.toNat, a, nx), bnd_hi hg' (by assumption), rfl, rfl⟩
  refine go [13,8,9,9,10,0,0,2,9,7,8] ?_
  refine G.condP rfl (fun h25 => ?_) (fun h25 => ?_)
  ·refine go [10,0] ?_
   refine G.op rfl (G.cO0 rfl rfl (pe_fn rfl rfl Tryz.func110 rfl rfl) (give_tr _ _) Sub.nil may0 ?_ ?_)
   ·intro x hJ; exact hJ.elim
   rintro _ _
   refine G.pThen ?_
   exact G.outP (.cons selT (.cons selT .nil)) ⟨(5, a, nx), bnd_lo hg' (by assumption) (by assumption), rfl, rfl⟩
  refine go [13,8,9,10,0,1,7,8,11] ?_
  exact G.out1 rfl rfl (.cons selT (.cons selT .nil)) ⟨(nn, nx), bnd_ok hg' (by assumption) (by assumption), rfl, rfl⟩
 rintro ⟨ee, pp, aa⟩ hbad
 refine G.pThen ?_
 exact G.outP (.cons selT (.cons selT .nil)) ⟨(ee, pp, aa), bnd_bad hbad, rfl, rfl⟩
theorem some_tr (D a n : Nat) (v : Value) (b : List UInt8) (p : Int) (ha : a ≤ b.length) (hb : b.length ≤ 1000000000) (hn : n ≤ 9000000000000000000) : TrO Tryz.prog 113 #[.pointer (some ⟨D, 0, none⟩), .int .i64 (n : Int)] [] [blk D 167 [.bool true, v, .int .i64 (a : Int), .int .i64 0, .int .i64 p], own 5 1 v b.length (b.map vByte)]
 (TO (fun _ : Value => a + n ≤ b.length) (fun x => x) (fun x => [blk D 167 [.bool true, v, .int .i64 ((a + n : Nat) : Int), .int .i64 0, .int .i64 p], own 5 1 v b.length (b.map vByte), own 5 1 x (subB b a n).length ((subB b a n).map vByte)]) (fun _ : Unit => b.length < a + n) (fun _ => wrongC 4 b.length) (fun _ => [blk D 167 [.bool true, v, .int .i64 (a : Int), .int .i64 0, .int .i64 p], own 5 1 v b.length (b.map vByte)])) := by
 refine TrO.of (l := [(0, .pointer (some ⟨D, 0, none⟩)), (1, .int .i64 (n : Int))]) Tryz.func113 rfl (n := 47) rfl (.cons rfl (.cons rfl .nil)) (fun w0 hro => ?_)
 refine G.ownNews selT (fun ad cap bb hv hcap hmax had hnil hnews => ?_)
 subst hv
 refine go [9,10,1,7,8,9,9] ?_
 refine G.drawn kr (k := 12) rfl [blk D 167 [.bool true, (.slice ad b.length cap), .int .i64 (a : Int), .int .i64 0, .int .i64 p], own 5 1 (.slice ad b.length cap) b.length (b.map vByte)] ?_
 refine G.take (i := 0) rfl rfl rfl kr kr kr (fun _ _ _ h => h) rfl (pv_move rfl) (.cons selT (.cons selT .nil)) ?_
 refine G.take (i := 1) rfl rfl rfl kr kr kr (fun _ _ _ h => h) rfl (pv_move rfl) (.cons selT (.cons selT .nil)) ?_
 refine G.take (i := 2) rfl rfl rfl kr kr kr (fun _ _ _ h => h) rfl (pv_nilCheck rfl) (.cons selT (.cons selT .nil)) ?_
 refine G.take (i := 3) rfl rfl rfl kr kr kr (fun _ _ _ h => h) rfl (pv_fieldAddr (sz := 0) Tryz.underlying167 rfl kr rfl) (.cons selT (.cons selT .nil)) ?_
 refine G.take (i := 6) rfl rfl rfl kr kr kr (fun _ _ _ h => h) rfl (pv_move rfl) (.cons selT (.cons selT .nil)) ?_
 refine G.take (i := 7) rfl rfl rfl kr kr kr (fun _ _ _ h => h) rfl (pv_nilCheck rfl) (.cons selT (.cons selT .nil)) ?_
 refine G.take (i := 8) rfl rfl rfl kr kr kr (fun _ _ _ h => h) rfl (pv_fieldAddr (sz := 0) Tryz.underlying167 rfl kr rfl) (.cons selT (.cons selT .nil)) ?_
 refine G.take (i := 4) rfl rfl rfl kr kr kr (fun _ _ _ h => h) rfl (pv_load Tryz.underlying31 rfl rfl (blk_cell (v := .slice ad b.length cap) selT rfl)) (.cons selT (.cons selT .nil)) ?_
 refine G.take (i := 5) rfl rfl rfl kr kr kr (fun _ _ _ h => h) rfl (pv_lenSl Tryz.underlying31 rfl) (.cons selT (.cons selT .nil)) ?_
 refine G.one (i := 9) kr ?_
 refine G.turnOp rfl rfl (G.val rfl rfl (pv_load Tryz.underlying3 rfl rfl (blk_cell (v := .int .i64 (a : Int)) selT rfl)) ?_)
 refine go [60,7] ?_
 refine G.take (i := 10) rfl rfl rfl kr kr kr (fun _ _ _ h => h) rfl (pv_sub64 rfl rfl (by omega)) (.cons selT (.cons selT .nil)) ?_
 refine G.take (i := 11) rfl rfl rfl kr kr kr (fun _ _ _ h => h) rfl (pv_gtr rfl rfl) (.cons selT (.cons selT .nil)) ?_
 refine G.over kr ?_
 refine go [8] ?_
 refine G.condP rfl (fun h16 => ?_) (fun h16 => ?_)
 ·refine go [10,0,2,8,2,16] ?_
  refine G.op rfl (G.val rfl rfl (pv_load Tryz.underlying31 rfl rfl (blk_cell (v := .slice ad b.length cap) selT rfl)) ?_)
  refine go [2,5] ?_
  refine G.op rfl (G.cO0 rfl rfl (pe_fn rfl rfl Tryz.func110 rfl rfl) (give_tr _ _) Sub.nil may0 ?_ ?_)
  ·intro x hJ; exact hJ.elim
  rintro _ _
  refine G.pThen ?_
  exact G.outP (.cons selT (.cons selT .nil)) ⟨(), by show b.length < a + n; omega, rfl, rfl⟩
 refine go [13,8,9,10,0,2,8,2,16] ?_
 refine G.op rfl (G.val rfl rfl (pv_load Tryz.underlying3 rfl rfl (blk_cell (v := .int .i64 (a : Int)) selT rfl)) ?_)
 refine go [0] ?_
 refine G.op rfl (G.val rfl rfl ((pv_add64 rfl rfl (by omega)).int (show _ = ((a + n : Nat) : Int) by omega)) ?_)
 refine go [2,8,2,16,21,7,8,9] ?_
 have hle : a + n ≤ b.length := by omega
 refine G.drawn kr (k := 17) rfl [blk D 167 [.bool true, (.slice ad b.length cap), .int .i64 ((a + n : Nat) : Int), .int .i64 0, .int .i64 p], own 5 1 (.slice ad b.length cap) b.length (b.map vByte)] ?_
 refine G.take (i := 0) rfl rfl rfl kr kr kr (fun _ _ _ h => h) rfl (pv_move rfl) (.cons selT (.cons selT .nil)) ?_
 refine G.take (i := 1) rfl rfl rfl kr kr kr (fun _ _ _ h => h) rfl (pv_nilCheck rfl) (.cons selT (.cons selT .nil)) ?_
 refine G.take (i := 2) rfl rfl rfl kr kr kr (fun _ _ _ h => h) rfl (pv_fieldAddr (sz := 0) Tryz.underlying167 rfl kr rfl) (.cons selT (.cons selT .nil)) ?_
 refine G.take (i := 4) rfl rfl rfl kr kr kr (fun _ _ _ h => h) rfl (pv_move rfl) (.cons selT (.cons selT .nil)) ?_
 refine G.take (i := 5) rfl rfl rfl kr kr kr (fun _ _ _ h => h) rfl (pv_nilCheck rfl) (.cons selT (.cons selT .nil)) ?_
 refine G.take (i := 6) rfl rfl rfl kr kr kr (fun _ _ _ h => h) rfl (pv_fieldAddr (sz := 0) Tryz.underlying167 rfl kr rfl) (.cons selT (.cons selT .nil)) ?_
 refine G.take (i := 8) rfl rfl rfl kr kr kr (fun _ _ _ h => h) rfl (pv_move rfl) (.cons selT (.cons selT .nil)) ?_
 refine G.take (i := 10) rfl rfl rfl kr kr kr (fun _ _ _ h => h) rfl (pv_move rfl) (.cons selT (.cons selT .nil)) ?_
 refine G.take (i := 11) rfl rfl rfl kr kr kr (fun _ _ _ h => h) rfl (pv_nilCheck rfl) (.cons selT (.cons selT .nil)) ?_
 refine G.take (i := 12) rfl rfl rfl kr kr kr (fun _ _ _ h => h) rfl (pv_fieldAddr (sz := 0) Tryz.underlying167 rfl kr rfl) (.cons selT (.cons selT .nil)) ?_
 refine G.take (i := 3) rfl rfl rfl kr kr kr (fun _ _ _ h => h) rfl (pv_load Tryz.underlying31 rfl rfl (blk_cell (v := .slice ad b.length cap) selT rfl)) (.cons selT (.cons selT .nil)) ?_
 refine G.take (i := 7) rfl rfl rfl kr kr kr (fun _ _ _ h => h) rfl (pv_load Tryz.underlying3 rfl rfl (blk_cell (v := .int .i64 ((a + n : Nat) : Int)) selT rfl)) (.cons selT (.cons selT .nil)) ?_
 refine G.take (i := 9) rfl rfl rfl kr kr kr (fun _ _ _ h => h) rfl ((pv_sub64 rfl rfl (by omega)).int (show _ = (a : Int) by omega)) (.cons selT (.cons selT .nil)) ?_
 refine G.one (i := 13) kr ?_
 refine G.turnOp rfl rfl (G.val rfl rfl (pv_load Tryz.underlying3 rfl rfl (blk_cell (v := .int .i64 ((a + n : Nat) : Int)) selT rfl)) ?_)
 refine go [60,7] ?_
 refine G.take (i := 14) rfl rfl rfl kr kr kr (fun _ _ _ h => h) rfl (pv_subLH (sz := 1) Tryz.underlying31 Tryz.sizeByte rfl rfl rfl rfl rfl (Nat.le_add_right a n) (by omega)) (.cons selT (.cons selT .nil)) ?_
 refine G.one (i := 15) kr ?_
 refine G.ownNil 5 1 ?_
 refine G.turnOp rfl rfl (G.appendS (k := 0) (cs := []) (xs := subB b a n) (f := vByte) (p := fun _ => True) (Ps := fun k => (Value.slice ad b.length cap).ownBlock = some k) rfl Tryz.underlying31 Tryz.infoByte' rfl rfl .here (fun w hw => (own_isSl (f := vByte) (p := fun _ => True) (xs := b) selT rfl (fun _ _ => trivial) w hw).sub (E := rByte) (Nat.le_add_right a n) hle) (vByte_one _) (by rw [subB_length hle]; omega) (by rw [subB_length hle]; omega) ?_)
 intro v'
 rw [Nat.zero_add (subB b a n).length, List.nil_append]
 refine go [60,7] ?_
 refine G.take (i := 16) rfl rfl rfl kr kr kr (fun _ _ _ h => h) rfl (pv_assign rfl) (.cons selT (.cons selT .nil)) ?_
 refine G.over kr ?_
 refine go [8,11] ?_
 exact G.out1 (m' := [blk D 167 [.bool true, (.slice ad b.length cap), .int .i64 ((a + n : Nat) : Int), .int .i64 0, .int .i64 p], own 5 1 (.slice ad b.length cap) b.length (b.map vByte), own 5 1 v' (subB b a n).length ((subB b a n).map vByte)]) rfl rfl (.cons selT (.cons selT (.cons selT .nil))) ⟨v', hle, rfl, rfl⟩
theorem int1_tr (D a bR bL bH bN : Nat) (v : Value) (b : List UInt8) (p low high : Int) (ha : a ≤ b.length) (hb : b.length ≤ 1000000000) : TrO Tryz.prog 89 #[.pointer (some ⟨bR, 0, none⟩), .pointer (some ⟨bL, 0, none⟩), .pointer (some ⟨bH, 0, none⟩), .pointer (some ⟨bN, 0, none⟩)] [] [blk D 167 [.bool true, v, .int .i64 (a : Int), .int .i64 0, .int .i64 p], own 5 1 v b.length (b.map vByte), blk bR 131 [.pointer (some ⟨D, 0, none⟩)], blk bL 3 [.int .i64 low], blk bH 3 [.int .i64 high], blk bN 3 [.int .i64 0]]
 (TO (fun x : Nat × Nat => bndM b a low high 5 = .ok x.1 x.2) (fun _ => .tuple #[]) (fun x => [blk D 167 [.bool true, v, .int .i64 (x.2 : Int), .int .i64 0, .int .i64 p], own 5 1 v b.length (b.map vByte), blk bR 131 [.pointer (some ⟨D, 0, none⟩)], blk bL 3 [.int .i64 low], blk bH 3 [.int .i64 high], blk bN 3 [.int .i64 (x.1 : Int)]]) (fun y : Nat × Nat × Nat => bndM b a low high 5 = .bad y.1 y.2.1) (fun y => wrongC y.1 y.2.1) (fun y => [blk D 167 [.bool true, v, .int .i64 (y.2.2 : Int), .int .i64 0, .int .i64 p], own 5 1 v b.length (b.map vByte), blk bR 131 [.pointer (some ⟨D, 0, none⟩)], blk bL 3 [.int .i64 low], blk bH 3 [.int .i64 high], blk bN 3 [.int .i64 0]])) := by
 refine TrO.of (l := [(0, .pointer (some ⟨bR, 0, none⟩)), (1, .pointer (some ⟨bL, 0, none⟩)), (2, .pointer (some ⟨bH, 0, none⟩)), (3, .pointer (some ⟨bN, 0, none⟩))]) Tryz.func89 rfl (n := 8) rfl (.cons rfl (.cons rfl (.cons rfl (.cons rfl .nil)))) (fun w0 hro => ?_)
 refine go [10] ?_
 refine G.op rfl (G.val rfl rfl (pv_load Tryz.underlying131 rfl rfl (blk_cell (v := .pointer (some ⟨D, 0, none⟩)) selT rfl)) ?_)
 refine G.op rfl (G.val rfl rfl (pv_load Tryz.underlying3 rfl rfl (blk_cell (v := .int .i64 low) selT rfl)) ?_)
 refine G.op rfl (G.val rfl rfl (pv_load Tryz.underlying3 rfl rfl (blk_cell (v := .int .i64 high) selT rfl)) ?_)
 refine G.op rfl (G.cO2 rfl rfl (pe_fn rfl rfl Tryz.func90 rfl rfl) (bounded_tr D a v b p low high 5 (by decide) ha hb) (.cons selT (.cons selT .nil)) may0 ?_ ?_)
 ·rintro ⟨nn, nx⟩ hg
  refine go [21,7] ?_
  exact G.outE (m' := [blk D 167 [.bool true, v, .int .i64 (nx : Int), .int .i64 0, .int .i64 p], own 5 1 v b.length (b.map vByte), blk bR 131 [.pointer (some ⟨D, 0, none⟩)], blk bL 3 [.int .i64 low], blk bH 3 [.int .i64 high], blk bN 3 [.int .i64 (nn : Int)]]) rfl (.cons selT (.cons selT (.cons selT (.cons selT (.cons selT (.cons selT .nil)))))) ⟨(nn, nx), hg, rfl, rfl⟩
 rintro ⟨ee, pp, aa⟩ hbad
 exact G.outP (.cons selT (.cons selT (.cons selT (.cons selT (.cons selT (.cons selT .nil)))))) ⟨(ee, pp, aa), hbad, rfl, rfl⟩
theorem count1_tr (D a bR bH bN : Nat) (v : Value) (b : List UInt8) (p high : Int) (ha : a ≤ b.length) (hb : b.length ≤ 1000000000) : TrO Tryz.prog 91 #[.pointer (some ⟨bR, 0, none⟩), .pointer (some ⟨bH, 0, none⟩), .pointer (some ⟨bN, 0, none⟩)] [] [blk D 167 [.bool true, v, .int .i64 (a : Int), .int .i64 0, .int .i64 p], own 5 1 v b.length (b.map vByte), blk bR 131 [.pointer (some ⟨D, 0, none⟩)], blk bH 3 [.int .i64 high], blk bN 3 [.int .i64 0]]
 (TO (fun x : Nat × Nat => bndM b a 0 high 3 = .ok x.1 x.2) (fun _ => .tuple #[]) (fun x => [blk D 167 [.bool true, v, .int .i64 (x.2 : Int), .int .i64 0, .int .i64 p], own 5 1 v b.length (b.map vByte), blk bR 131 [.pointer (some ⟨D, 0, none⟩)], blk bH 3 [.int .i64 high], blk bN 3 [.int .i64 (x.1 : Int)]]) (fun y : Nat × Nat × Nat => bndM b a 0 high 3 = .bad y.1 y.2.1) (fun y => wrongC y.1 y.2.1) (fun y => [blk D 167 [.bool true, v, .int .i64 (y.2.2 : Int), .int .i64 0, .int .i64 p], own 5 1 v b.length (b.map vByte), blk bR 131 [.pointer (some ⟨D, 0, none⟩)], blk bH 3 [.int .i64 high], blk bN 3 [.int .i64 0]])) := by
 refine TrO.of (l := [(0, .pointer (some ⟨bR, 0, none⟩)), (1, .pointer (some ⟨bH, 0, none⟩)), (2, .pointer (some ⟨bN, 0, none⟩))]) Tryz.func91 rfl (n := 6) rfl (.cons rfl (.cons rfl (.cons rfl .nil))) (fun w0 hro => ?_)
 refine go [10] ?_
 refine G.op rfl (G.val rfl rfl (pv_load Tryz.underlying131 rfl rfl (blk_cell (v := .pointer (some ⟨D, 0, none⟩)) selT rfl)) ?_)
 refine G.op rfl (G.val rfl rfl (pv_load Tryz.underlying3 rfl rfl (blk_cell (v := .int .i64 high) selT rfl)) ?_)
 refine G.op rfl (G.cO2 rfl rfl (pe_fn rfl rfl Tryz.func90 rfl rfl) (bounded_tr D a v b p 0 high 3 (by decide) ha hb) (.cons selT (.cons selT .nil)) may0 ?_ ?_)
 ·rintro ⟨nn, nx⟩ hg
  refine go [21,7] ?_
  exact G.outE (m' := [blk D 167 [.bool true, v, .int .i64 (nx : Int), .int .i64 0, .int .i64 p], own 5 1 v b.length (b.map vByte), blk bR 131 [.pointer (some ⟨D, 0, none⟩)], blk bH 3 [.int .i64 high], blk bN 3 [.int .i64 (nn : Int)]]) rfl (.cons selT (.cons selT (.cons selT (.cons selT (.cons selT .nil))))) ⟨(nn, nx), hg, rfl, rfl⟩
 rintro ⟨ee, pp, aa⟩ hbad
 exact G.outP (.cons selT (.cons selT (.cons selT (.cons selT (.cons selT .nil))))) ⟨(ee, pp, aa), hbad, rfl, rfl⟩
def bytR (b : List UInt8) (a : Nat) (high : Int) : Rn := match bndM b a 0 high 3 with
 | .bad e p => .bad e p
 | .ok n nx => if b.length < nx + n then .bad 4 b.length else .ok n nx
theorem bytR_bad {b : List UInt8} {a e p : Nat} {high : Int} (h : bndM b a 0 high 3 = .bad e p) : bytR b a high = .bad e p := by unfold bytR; rw [h]
theorem bytR_cut {b : List UInt8} {a n nx : Nat} {high : Int} (h : bndM b a 0 high 3 = .ok n nx) (h1 : b.length < nx + n) : bytR b a high = .bad 4 b.length := by unfold bytR; rw [h]; exact if_pos h1
theorem bytR_ok {b : List UInt8} {a n nx : Nat} {high : Int} (h : bndM b a 0 high 3 = .ok n nx) (h1 : nx + n ≤ b.length) : bytR b a high = .ok n nx := by unfold bytR; rw [h]; exact if_neg (by omega)
theorem getGo_small {b : List UInt8} : ∀ (f k n a m nx : Nat), getGo b a f k n = .ok m nx → m ≤ 2147483647 := by
 intro f
 induction f with
 | zero => intro k n a m nx h; cases h
 | succ f ih =>
  intro k n a m nx h
  unfold getGo at h
  split at h
  ·cases h
  split at h
  ·exact ih _ _ _ _ _ h
  split at h
  ·cases h
  injection h with h1 h2
  omega
theorem getM_small {b : List UInt8} {a m nx : Nat} (h : getM b a = .ok m nx) : m ≤ 2147483647 := by
 unfold getM at h
 split at h
 ·cases h
 exact getGo_small _ _ _ _ _ _ h
theorem bytes1_tr (D a bR bH bN : Nat) (v : Value) (b : List UInt8) (p high : Int) (ha : a ≤ b.length) (hb : b.length ≤ 1000000000) : TrO Tryz.prog 122 #[.pointer (some ⟨bR, 0, none⟩), .pointer (some ⟨bH, 0, none⟩), .pointer (some ⟨bN, 0, none⟩)] [] [blk D 167 [.bool true, v, .int .i64 (a : Int), .int .i64 0, .int .i64 p], own 5 1 v b.length (b.map vByte), blk bR 131 [.pointer (some ⟨D, 0, none⟩)], blk bH 3 [.int .i64 high], blk bN 31 [.slice none 0 0]]
 (TO (fun x : Nat × Nat × Value => bytR b a high = .ok x.1 x.2.1) (fun _ => .tuple #[]) (fun x => [blk D 167 [.bool true, v, .int .i64 ((x.2.1 + x.1 : Nat) : Int), .int .i64 0, .int .i64 p], own 5 1 v b.length (b.map vByte), blk bR 131 [.pointer (some ⟨D, 0, none⟩)], blk bH 3 [.int .i64 high], blk bN 31 [x.2.2], own 5 1 x.2.2 (subB b x.2.1 x.1).length ((subB b x.2.1 x.1).map vByte)]) (fun y : Nat × Nat × Nat => bytR b a high = .bad y.1 y.2.1) (fun y => wrongC y.1 y.2.1) (fun y => [blk D 167 [.bool true, v, .int .i64 (y.2.2 : Int), .int .i64 0, .int .i64 p], own 5 1 v b.length (b.map vByte), blk bR 131 [.pointer (some ⟨D, 0, none⟩)], blk bH 3 [.int .i64 high], blk bN 31 [.slice none 0 0]])) := by
 refine TrO.of (l := [(0, .pointer (some ⟨bR, 0, none⟩)), (1, .pointer (some ⟨bH, 0, none⟩)), (2, .pointer (some ⟨bN, 0, none⟩))]) Tryz.func122 rfl (n := 8) rfl (.cons rfl (.cons rfl (.cons rfl .nil))) (fun w0 hro => ?_)
 refine G.drawn kr (k := 6) rfl [blk bR 131 [.pointer (some ⟨D, 0, none⟩)], blk bH 3 [.int .i64 high]] ?_
 refine G.take (i := 0) rfl rfl rfl kr kr kr (fun _ _ _ h => h) rfl (pv_load Tryz.underlying131 rfl rfl (blk_cell (v := .pointer (some ⟨D, 0, none⟩)) selT rfl)) (.cons selT (.cons selT .nil)) ?_
 refine G.take (i := 1) rfl rfl rfl kr kr kr (fun _ _ _ h => h) rfl (pv_load Tryz.underlying131 rfl rfl (blk_cell (v := .pointer (some ⟨D, 0, none⟩)) selT rfl)) (.cons selT (.cons selT .nil)) ?_
 refine G.one (i := 2) kr ?_
 refine G.turnOp rfl rfl (G.val rfl rfl (pv_load Tryz.underlying3 rfl rfl (blk_cell (v := .int .i64 high) selT rfl)) ?_)
 refine go [60,7] ?_
 refine G.one (i := 3) kr ?_
 refine G.turnOp rfl rfl (G.cO2 rfl rfl (pe_fn rfl rfl Tryz.func90 rfl rfl) (bounded_tr D a v b p 0 high 3 (by decide) ha hb) (.cons selT (.cons selT .nil)) may0 ?_ ?_)
 ·rintro ⟨nn, nx⟩ hg
  have hg' : bndM b a 0 high 3 = .ok nn nx := hg
  have hget := (bnd_get hg').1
  have hnx := getM_next hget
  have hsm := getM_small hget
  refine go [60,7] ?_
  refine G.one (i := 4) kr ?_
  refine G.turnOp rfl rfl (G.cO3 rfl rfl (pe_fn rfl rfl Tryz.func113 rfl rfl) (some_tr D nx nn v b p hnx hb (by omega)) (.cons selT (.cons selT .nil)) may0 ?_ ?_)
  ·rintro v' hle
   have hle' : nx + nn ≤ b.length := hle
   refine G.ownFact (v := v') selT (fun hv1 _ => ?_)
   refine go [60,7] ?_
   refine G.one (i := 5) kr ?_
   refine G.turnOp rfl rfl (G.store (o := 0) kr rfl rfl hv1 selT (by simp) ?_)
   refine go [60,7] ?_
   refine G.over kr ?_
   exact G.outE (m' := [blk D 167 [.bool true, v, .int .i64 ((nx + nn : Nat) : Int), .int .i64 0, .int .i64 p], own 5 1 v b.length (b.map vByte), blk bR 131 [.pointer (some ⟨D, 0, none⟩)], blk bH 3 [.int .i64 high], blk bN 31 [v'], own 5 1 v' (subB b nx nn).length ((subB b nx nn).map vByte)]) rfl (.cons selT (.cons selT (.cons selT (.cons selT (.cons selT (.cons selT .nil)))))) ⟨(nn, nx, v'), bytR_ok hg' hle', rfl, rfl⟩
  rintro ⟨⟩ hlt
  exact G.outP (.cons selT (.cons selT (.cons selT (.cons selT (.cons selT .nil))))) ⟨(4, b.length, nx), bytR_cut hg' hlt, rfl, rfl⟩
 rintro ⟨ee, pp, aa⟩ hbad
 exact G.outP (.cons selT (.cons selT (.cons selT (.cons selT (.cons selT .nil))))) ⟨(ee, pp, aa), bytR_bad hbad, rfl, rfl⟩
theorem id1_tr (D a bR bI : Nat) (v : Value) (b : List UInt8) (p : Int) (ha : a ≤ b.length) (hb : b.length ≤ 1000000000) : TrO Tryz.prog 112 #[.pointer (some ⟨bI, 0, none⟩), .pointer (some ⟨bR, 0, none⟩)] [] [blk D 167 [.bool true, v, .int .i64 (a : Int), .int .i64 0, .int .i64 p], own 5 1 v b.length (b.map vByte), blk bR 131 [.pointer (some ⟨D, 0, none⟩)], blk bI 59 (List.replicate 16 (.int .u8 0))]
 (TO (fun _ : Unit => a + 16 ≤ b.length) (fun _ => .tuple #[]) (fun _ => [blk D 167 [.bool true, v, .int .i64 ((a + 16 : Nat) : Int), .int .i64 0, .int .i64 p], own 5 1 v b.length (b.map vByte), blk bR 131 [.pointer (some ⟨D, 0, none⟩)], blk bI 59 ((subB b a 16).map vByte)]) (fun _ : Unit => b.length < a + 16) (fun _ => wrongC 4 b.length) (fun _ => [blk D 167 [.bool true, v, .int .i64 (a : Int), .int .i64 0, .int .i64 p], own 5 1 v b.length (b.map vByte), blk bR 131 [.pointer (some ⟨D, 0, none⟩)], blk bI 59 (List.replicate 16 (.int .u8 0))])) := by
 refine TrO.of (l := [(0, .pointer (some ⟨bI, 0, none⟩)), (1, .pointer (some ⟨bR, 0, none⟩))]) Tryz.func112 rfl (n := 6) rfl (.cons rfl (.cons rfl .nil)) (fun w0 hro => ?_)
 refine G.drawn kr (k := 4) rfl [blk bR 131 [.pointer (some ⟨D, 0, none⟩)]] ?_
 refine G.take (i := 0) rfl rfl rfl kr kr kr (fun _ _ _ h => h) rfl (pv_subAr (len := 16) Tryz.underlying59 kr rfl) (.cons selT .nil) ?_
 refine G.one (i := 1) kr ?_
 refine G.turnOp rfl rfl (G.val rfl rfl (pv_load Tryz.underlying131 rfl rfl (blk_cell (v := .pointer (some ⟨D, 0, none⟩)) selT rfl)) ?_)
 refine G.back (.cons selT .nil) ?_
 refine G.one (i := 2) kr ?_
 refine G.turnOp rfl rfl (G.cO3 rfl rfl (pe_fn rfl rfl Tryz.func113 rfl rfl) (some_tr D a 16 v b p ha hb (by omega)) (.cons selT (.cons selT .nil)) may0 ?_ ?_)
 ·rintro v' hle
  have hle' : a + 16 ≤ b.length := hle
  refine G.ownNews (v := v') selT (fun ad2 cap2 bb2 hv2 hcap2 hmax2 had2 hnil2 hnews2 => ?_)
  subst hv2
  refine G.back (.cons selT .nil) ?_
  refine G.one (i := 3) kr ?_
  refine G.turnOp rfl rfl (G.copy (j := (subB b a 16).length) (news := (subB b a 16).map vByte) (cs := List.replicate 16 (.int .u8 0)) (cs' := (subB b a 16).map vByte) (b' := bb2) (off := 0) rfl Tryz.underlying31 Tryz.sizeByte rfl rfl selT had2 (hnews2 selT) (by rw [List.length_map, subB_length hle']; rfl) (vByte_one _) (by rw [List.length_map, subB_length hle']; exact Nat.le_refl _) (by rw [List.length_map, subB_length hle']; simp) ?_)
  refine G.back (.cons selT .nil) ?_
  refine G.over kr ?_
  exact G.outE (m' := [blk D 167 [.bool true, v, .int .i64 ((a + 16 : Nat) : Int), .int .i64 0, .int .i64 p], own 5 1 v b.length (b.map vByte), blk bR 131 [.pointer (some ⟨D, 0, none⟩)], blk bI 59 ((subB b a 16).map vByte)]) rfl (.cons selT (.cons selT (.cons selT (.cons selT .nil)))) ⟨(), hle', rfl, rfl⟩
 rintro ⟨⟩ hlt
 exact G.outP (.cons selT (.cons selT (.cons selT (.cons selT .nil)))) ⟨(), hlt, rfl, rfl⟩
theorem none_tr (D : Nat) (v : Value) (made : Bool) (a e p : Int) : Tr Tryz.prog 107 #[.pointer (some ⟨D, 0, none⟩)] [blk D 167 [.bool made, v, .int .i64 (a : Int), .int .i64 e, .int .i64 p]] [] (T0 (.bool (!made || decide (e ≠ 0)))) := by
 refine Tr.of (l := [(0, .pointer (some ⟨D, 0, none⟩))]) Tryz.func107 rfl (n := 20) rfl (.cons rfl .nil) (fun w0 hro => ?_)
 have hr := ro1 hro
 refine go [9,10,1,7,8,9,10,0,2,50,1,0,3,0,3,8,3,16] ?_
 refine G.want rfl rfl rfl (G.val rfl rfl (pv_load Tryz.underlying4 rfl rfl (ro_blk (v := .bool made) hr rfl)) ?_)
 refine go [3,25,2,2,0] ?_
 refine G.part (t := 12) rfl (fun h12 => ?_) (fun h12 => ?_)
 ·refine go [4,4,4,4,4,4,2,2,1,7,8,11] ?_
  first | exact G.done1 rfl rfl .nil ⟨by simp [*], rfl⟩ | (cases made <;> first | exact G.done1 rfl rfl .nil ⟨rfl, rfl⟩ | (exfalso; simp at *))
 refine go [3,0,3,8,3,16,3,16] ?_
 refine G.want rfl rfl rfl (G.val rfl rfl (pv_load Tryz.underlying25 rfl rfl (ro_blk (v := .int .i64 e) hr rfl)) ?_)
 refine go [3,14,2,2,1,7,8,11] ?_
 first | exact G.done1 rfl rfl .nil ⟨by simp [*], rfl⟩ | (cases made <;> first | exact G.done1 rfl rfl .nil ⟨rfl, rfl⟩ | (exfalso; simp at *))
theorem try1_ret (D bA bR a nx : Nat) (v : Value) (p e pp : Int) : TrD Tryz.prog 108 #[.pointer (some ⟨bA, 0, none⟩), .pointer (some ⟨bR, 0, none⟩)] .returning .returning [] [] := by
 refine TrD.of (v := .nilIface) (l := [(0, .pointer (some ⟨bA, 0, none⟩)), (1, .pointer (some ⟨bR, 0, none⟩))]) Tryz.func108 rfl rfl (n := 20) rfl (.cons rfl (.cons rfl .nil)) rfl rfl rfl (fun ρ w => rfl) (.inl ⟨rfl, rfl, rfl⟩) (fun w0 => ?_)
 refine go [15,9,10] ?_
 refine G.op rfl (G.val rfl rfl (pv_eqI0 Tryz.underlying20 rfl) ?_)
 refine go [7,8,60,0,10,1,7,16] ?_
 exact G.doneD rfl .nil
theorem try1_pan (D bA bR a nx : Nat) (v : Value) (p e pp : Int) : TrD Tryz.prog 108 #[.pointer (some ⟨bA, 0, none⟩), .pointer (some ⟨bR, 0, none⟩)] (.panicking (wrongC e pp)) (.panicking [{ v := .iface 188 (.agg #[.int .i64 e, .int .i64 pp]), recovered := true }]) [blk D 167 [.bool true, v, .int .i64 (nx : Int), .int .i64 0, .int .i64 p], blk bA 3 [.int .i64 (a : Int)], blk bR 131 [.pointer (some ⟨D, 0, none⟩)]] [blk D 167 [.bool true, v, .int .i64 (a : Int), .int .i64 e, .int .i64 pp], blk bA 3 [.int .i64 (a : Int)], blk bR 131 [.pointer (some ⟨D, 0, none⟩)]] := by
 refine TrD.of (v := .iface 188 (.agg #[.int .i64 e, .int .i64 pp])) (l := [(0, .pointer (some ⟨bA, 0, none⟩)), (1, .pointer (some ⟨bR, 0, none⟩))]) Tryz.func108 rfl rfl (n := 20) rfl (.cons rfl (.cons rfl .nil)) rfl rfl rfl (fun ρ w => rfl) (.inr ⟨_, rfl, rfl, rfl⟩) (fun w0 => ?_)
 refine go [15,9,10] ?_
 refine G.op rfl (G.val rfl rfl (pv_eqI1 Tryz.underlying20 rfl) ?_)
 refine go [7,8,60,1,9,10] ?_
 refine G.op rfl (G.val rfl rfl (pv_assertOk Tryz.underlying188 rfl rfl) ?_)
 refine go [2,7,2,7,7,8,60,0,9,10,60,4] ?_
 intro b3
 refine go [20,7,8,10] ?_
 refine G.op rfl (G.val rfl rfl (pv_load Tryz.underlying131 rfl rfl (blk_cell (v := .pointer (some ⟨D, 0, none⟩)) selT rfl)) ?_)
 refine G.op rfl (G.val rfl rfl (pv_load Tryz.underlying131 rfl rfl (blk_cell (v := .pointer (some ⟨D, 0, none⟩)) selT rfl)) ?_)
 refine go [2,16] ?_
 refine G.op rfl (G.val rfl rfl (pv_loadN (cs := [.int .i64 e, .int .i64 pp]) Tryz.underlying97 rfl kr rfl (blk_range (k := 2) selT rfl)) ?_)
 refine G.op rfl (G.val rfl rfl (pv_load Tryz.underlying3 rfl rfl (blk_cell (v := .int .i64 (a : Int)) selT rfl)) ?_)
 refine go [2,8,2,16,20,2,8,2,16,21,7,16] ?_
 exact G.doneD rfl (.cons selT (.cons selT (.cons selT .nil)))
theorem try_tr {X Y : Type} {J : X → Prop} {J' : Y → Prop} {nx : X → Nat} {at' : Y → Nat} {e pp : Y → Int} {q : List Ck} {q1 : X → List Ck} {q2 : Y → List Ck} (D a f : Nat) {caps args : Array Value} (v : Value) (p : Int) (hargs : args = #[] ++ #[] ++ caps) {fn : Func} {c : Code}
 (hf : Tryz.prog.funcs[f]? = some fn) (hb : fn.body = some c) (hnm : (fn.name == "runtime.NumGoroutine") = false)
 (hcl : TrO Tryz.prog f args [] (blk D 167 [.bool true, v, .int .i64 (a : Int), .int .i64 0, .int .i64 p] :: q) (TO J (fun _ => .tuple #[]) (fun x => blk D 167 [.bool true, v, .int .i64 (nx x : Int), .int .i64 0, .int .i64 p] :: q1 x) J' (fun y => wrongC (e y) (pp y)) (fun y => blk D 167 [.bool true, v, .int .i64 (at' y : Int), .int .i64 0, .int .i64 p] :: q2 y))) :
 Tr Tryz.prog 88 #[.pointer (some ⟨D, 0, none⟩), (.func (.func f) #[] caps)] [] (blk D 167 [.bool true, v, .int .i64 (a : Int), .int .i64 0, .int .i64 p] :: q)
 (fun u m => u = .tuple #[] ∧ ((∃ x, J x ∧ m = blk D 167 [.bool true, v, .int .i64 (nx x : Int), .int .i64 0, .int .i64 p] :: q1 x) ∨ ∃ y, J' y ∧ m = blk D 167 [.bool true, v, .int .i64 (a : Int), .int .i64 (e y), .int .i64 (pp y)] :: q2 y)) := by
 subst hargs
 refine Tr.ofD (l := [(0, .pointer (some ⟨D, 0, none⟩)), (1, (.func (.func f) #[] caps))]) Tryz.func88 rfl (n := 14) rfl (.cons rfl (.cons rfl .nil)) (fun w0 hro => ?_)
 refine go [9,10,60,2] ?_
 intro b2
 obtain ⟨bR, hbR⟩ : ∃ bR, bR = b2 := ⟨_, rfl⟩
 subst hbR
 refine go [7,8,9,9,10] ?_
 refine G.op rfl (G.val rfl rfl (pv_load Tryz.underlying131 rfl rfl (blk_cell (v := .pointer (some ⟨D, 0, none⟩)) selT rfl)) ?_)
 refine G.op rfl (G.call0 rfl rfl rfl rfl Tryz.func107 rfl rfl (none_tr D v true (a : Int) 0 p) (may1 (.own (by simp))) ?_)
 refine go [7,8,60,1,13,8,9,10] ?_
 refine G.op rfl (G.val rfl rfl (pv_load Tryz.underlying131 rfl rfl (blk_cell (v := .pointer (some ⟨D, 0, none⟩)) selT rfl)) ?_)
 refine go [2,8,2,16] ?_
 refine G.op rfl (G.val rfl rfl (pv_load Tryz.underlying3 rfl rfl (blk_cell (v := .int .i64 (a : Int)) selT rfl)) ?_)
 refine go [60,13] ?_
 intro b4
 refine go [21,7,8,9,10,2,26] ?_
 refine G.op rfl (G.defer rfl rfl rfl ?_)
 refine GD.nil (GD.nThen ?_)
 refine GD.region ?_
 refine GD.op rfl (GD.val rfl rfl (pv_move rfl) ?_)
 refine GD.op rfl (GD.callO rfl rfl (pe_val rfl rfl rfl hf hb hnm) hcl (.cons (.there (.there .here)) (Sub.right [_, _] q)) may0 ?_ ?_ (fun m' h => h))
 ·rintro u m' ⟨x, hJ, hu, hm⟩
  subst hu
  subst hm
  refine GD.nil ?_
  exact GD.leave (e := .normal) (fun a w => rfl) (by simp) (run_invokeF Tryz.func108 rfl rfl) (try1_ret D b4 bR a 0 v p 0 0) .nil rfl rfl (fun w hw => ⟨_, _, rfl, ⟨rfl, .inl ⟨x, hJ, rfl⟩⟩, hw.sub (List.sublist_append_left _ _)⟩)
 rintro ch m' ⟨y, hJ, hc, hm⟩
 subst hc
 subst hm
 exact GD.leave (e := .panic _) (fun a w => rfl) (by simp) (run_invokeF Tryz.func108 rfl rfl) (try1_pan D b4 bR a (at' y) v p (e y) (pp y)) (.cons .here (Sub.right (q2 y) _)) rfl rfl (fun w hw => ⟨_, _, rfl, ⟨rfl, .inr ⟨y, hJ, rfl⟩⟩, hw.sub (List.Sublist.cons_cons _ (List.Sublist.cons _ (List.Sublist.cons _ (List.Sublist.refl _))))⟩)
def numN : Rn → Nat
 | .ok n _ => n
 | .bad _ _ => 0
def nextN (a : Nat) : Rn → Nat
 | .ok _ nx => nx
 | .bad _ _ => a
def errN : Rn → Nat
 | .ok _ _ => 0
 | .bad e _ => e
def posN (p : Int) : Rn → Int
 | .ok _ _ => p
 | .bad _ q => q
def endB (a : Nat) : Rn → Nat
 | .ok n nx => nx + n
 | .bad _ _ => a
def outB (b : List UInt8) : Rn → List UInt8
 | .ok n nx => subB b nx n
 | .bad _ _ => []
def idR (b : List UInt8) (a : Nat) : Rn := if b.length < a + 16 then .bad 4 b.length else .ok 16 a
def outI (b : List UInt8) (a : Nat) : List UInt8 := if b.length < a + 16 then List.replicate 16 0 else subB b a 16
def Off (pv : Value) (ro : List Ck) : Prop := ∀ cl : Value, Tr Tryz.prog 88 #[pv, cl] ro [] (T0 (.tuple #[]))
theorem off_rd (D : Nat) (v : Value) (made : Bool) (a e p : Int) (h : made = false ∨ e ≠ 0) : Off (.pointer (some ⟨D, 0, none⟩)) [blk D 167 [.bool made, v, .int .i64 (a : Int), .int .i64 e, .int .i64 p]] := by
 intro cl
 refine Tr.ofD (l := [(0, .pointer (some ⟨D, 0, none⟩)), (1, cl)]) Tryz.func88 rfl (n := 14) rfl (.cons rfl (.cons rfl .nil)) (fun w0 hro => ?_)
 refine go [9,10,60,2] ?_
 intro b2
 refine go [7,8,9,9,10] ?_
 refine G.op rfl (G.val rfl rfl (pv_load Tryz.underlying131 rfl rfl (blk_cell (v := .pointer (some ⟨D, 0, none⟩)) selT rfl)) ?_)
 refine G.op rfl (G.call0 rfl rfl rfl rfl Tryz.func107 rfl rfl (none_tr D v made a e p) (may1 (.old (ro1 hro))) ?_)
 refine go [7,8] ?_
 refine G.condT rfl (by rcases h with rfl | h <;> simp [*]) ?_
 refine go [11,12] ?_
 exact G.noDefers rfl (fun w hw => ⟨_, [], rfl, ⟨rfl, rfl⟩, hw.sub (List.nil_sublist _)⟩)
theorem int_off {pv : Value} {ro : List Ck} (hoff : Off pv ro) (hpv : pv.oneCell' = true) (low high : Int) : Tr Tryz.prog 67 #[pv, .int .i64 low, .int .i64 high] ro [] (T0 (.int .i64 0)) := by
 refine Tr.of (l := [(0, pv), (1, .int .i64 low), (2, .int .i64 high)]) Tryz.func67 rfl (n := 11) rfl (.cons rfl (.cons rfl (.cons rfl .nil))) (fun w0 hro => ?_)
 refine go [9,10] ?_
 refine G.op rfl (G.box rfl rfl (cs := [pv]) (by cases pv <;> first | rfl | cases hpv) ?_)
 intro b3
 refine go [60,2] ?_
 intro b4
 refine go [60,2] ?_
 intro b5
 refine go [60,13] ?_
 intro b6
 refine go [7,8,9,10] ?_
 refine G.op rfl (G.val rfl rfl (pv_load Tryz.underlying131 rfl rfl (blk_cell (v := pv) selT rfl)) ?_)
 refine go [2,26] ?_
 refine G.op rfl (G.call0 rfl rfl rfl rfl Tryz.func88 rfl rfl (hoff _) (fun c hc => .old (hro c hc)) ?_)
 refine go [7,8,9,10] ?_
 refine G.op rfl (G.val rfl rfl (pv_load Tryz.underlying3 rfl rfl (blk_cell (v := .int .i64 0) selT rfl)) ?_)
 refine go [21,7,8,11] ?_
 exact G.doneC (v := .int .i64 0) rfl rfl Tryz.underlying3 rfl (blk_cell selT rfl) .nil ⟨rfl, rfl⟩
theorem count_off {pv : Value} {ro : List Ck} (hoff : Off pv ro) (hpv : pv.oneCell' = true) (high : Int) : Tr Tryz.prog 68 #[pv, .int .i64 high] ro [] (T0 (.int .i64 0)) := by
 refine Tr.of (l := [(0, pv), (1, .int .i64 high)]) Tryz.func68 rfl (n := 9) rfl (.cons rfl (.cons rfl .nil)) (fun w0 hro => ?_)
 refine go [9,10] ?_
 refine G.op rfl (G.box rfl rfl (cs := [pv]) (by cases pv <;> first | rfl | cases hpv) ?_)
 intro b2
 refine go [60,2] ?_
 intro b3
 refine go [60,13] ?_
 intro b4
 refine go [7,8,9,10] ?_
 refine G.op rfl (G.val rfl rfl (pv_load Tryz.underlying131 rfl rfl (blk_cell (v := pv) selT rfl)) ?_)
 refine go [2,26] ?_
 refine G.op rfl (G.call0 rfl rfl rfl rfl Tryz.func88 rfl rfl (hoff _) (fun c hc => .old (hro c hc)) ?_)
 refine go [7,8,9,10] ?_
 refine G.op rfl (G.val rfl rfl (pv_load Tryz.underlying3 rfl rfl (blk_cell (v := .int .i64 0) selT rfl)) ?_)
 refine go [21,7,8,11] ?_
 exact G.doneC (v := .int .i64 0) rfl rfl Tryz.underlying3 rfl (blk_cell selT rfl) .nil ⟨rfl, rfl⟩
theorem bytes_off {pv : Value} {ro : List Ck} (hoff : Off pv ro) (hpv : pv.oneCell' = true) (high : Int) : Tr Tryz.prog 111 #[pv, .int .i64 high] ro [] (T0 (.slice none 0 0)) := by
 refine Tr.of (l := [(0, pv), (1, .int .i64 high)]) Tryz.func111 rfl (n := 9) rfl (.cons rfl (.cons rfl .nil)) (fun w0 hro => ?_)
 refine go [9,10] ?_
 refine G.op rfl (G.box rfl rfl (cs := [pv]) (by cases pv <;> first | rfl | cases hpv) ?_)
 intro b2
 refine go [60,2] ?_
 intro b3
 refine go [60,17] ?_
 intro b4
 refine go [7,8,9,10] ?_
 refine G.op rfl (G.val rfl rfl (pv_load Tryz.underlying131 rfl rfl (blk_cell (v := pv) selT rfl)) ?_)
 refine go [2,26] ?_
 refine G.op rfl (G.call0 rfl rfl rfl rfl Tryz.func88 rfl rfl (hoff _) (fun c hc => .old (hro c hc)) ?_)
 refine go [7,8,9,10] ?_
 refine G.op rfl (G.val rfl rfl (pv_load Tryz.underlying31 rfl rfl (blk_cell (v := .slice none 0 0) selT rfl)) ?_)
 refine go [21,7,8,11] ?_
 exact G.doneC (v := .slice none 0 0) rfl rfl Tryz.underlying31 rfl (blk_cell selT rfl) .nil ⟨rfl, rfl⟩
theorem id_off {pv : Value} {ro : List Ck} (hoff : Off pv ro) (hpv : pv.oneCell' = true) : Tr Tryz.prog 93 #[pv] ro [] (T0 (.agg (List.replicate 16 (.int .u8 0)).toArray)) := by
 refine Tr.of (l := [(0, pv)]) Tryz.func93 rfl (n := 7) rfl (.cons rfl .nil) (fun w0 hro => ?_)
 refine go [9,10] ?_
 refine G.op rfl (G.box rfl rfl (cs := [pv]) (by cases pv <;> first | rfl | cases hpv) ?_)
 intro b1
 refine go [60,14] ?_
 intro b2
 refine go [7,8,9,10] ?_
 refine G.op rfl (G.val rfl rfl (pv_load Tryz.underlying131 rfl rfl (blk_cell (v := pv) selT rfl)) ?_)
 refine go [2,26] ?_
 refine G.op rfl (G.call0 rfl rfl rfl rfl Tryz.func88 rfl rfl (hoff _) (fun c hc => .old (hro c hc)) ?_)
 refine go [7,8,9,10] ?_
 refine G.op rfl (G.val rfl rfl (pv_loadN (cs := List.replicate 16 (.int .u8 0)) Tryz.underlying59 rfl kr rfl (blk_range (k := 16) selT rfl)) ?_)
 refine G.op rfl (G.storeN kr rfl rfl (by first | exact List.all_eq_true.2 (vByte_one _) | rfl) selT leT ?_)
 refine go [7,8,11] ?_
 exact G.doneCN (cs := List.replicate 16 (.int .u8 0)) rfl rfl Tryz.underlying59 rfl kr (blk_range (k := 16) selT rfl) .nil ⟨rfl, rfl⟩
theorem int_try (D a bR bL bH bN : Nat) (v : Value) (b : List UInt8) (p low high : Int) (ha : a ≤ b.length) (hb : b.length ≤ 1000000000) : Tr Tryz.prog 88 #[.pointer (some ⟨D, 0, none⟩), .func (.func 89) #[] #[.pointer (some ⟨bR, 0, none⟩), .pointer (some ⟨bL, 0, none⟩), .pointer (some ⟨bH, 0, none⟩), .pointer (some ⟨bN, 0, none⟩)]] [] [blk D 167 [.bool true, v, .int .i64 (a : Int), .int .i64 0, .int .i64 p], own 5 1 v b.length (b.map vByte), blk bR 131 [.pointer (some ⟨D, 0, none⟩)], blk bL 3 [.int .i64 low], blk bH 3 [.int .i64 high], blk bN 3 [.int .i64 0]]
 (TX (fun _ : Unit => True) (fun _ => .tuple #[]) (fun _ => [blk D 167 [.bool true, v, .int .i64 ((nextN a (bndM b a low high 5) : Nat) : Int), .int .i64 (errN (bndM b a low high 5) : Int), .int .i64 (posN p (bndM b a low high 5))], own 5 1 v b.length (b.map vByte), blk bR 131 [.pointer (some ⟨D, 0, none⟩)], blk bL 3 [.int .i64 low], blk bH 3 [.int .i64 high], blk bN 3 [.int .i64 (numN (bndM b a low high 5) : Int)]])) :=
 (try_tr D a _ v p (by simp) Tryz.func89 rfl rfl (int1_tr D a bR bL bH bN v b p low high ha hb)).imp fun u m ⟨hu, hm⟩ => by
  rcases hm with ⟨x, hJ, rfl⟩ | ⟨y, hJ, rfl⟩ <;> exact ⟨(), trivial, hu, by rw [hJ]; rfl⟩
theorem count_try (D a bR bH bN : Nat) (v : Value) (b : List UInt8) (p high : Int) (ha : a ≤ b.length) (hb : b.length ≤ 1000000000) : Tr Tryz.prog 88 #[.pointer (some ⟨D, 0, none⟩), .func (.func 91) #[] #[.pointer (some ⟨bR, 0, none⟩), .pointer (some ⟨bH, 0, none⟩), .pointer (some ⟨bN, 0, none⟩)]] [] [blk D 167 [.bool true, v, .int .i64 (a : Int), .int .i64 0, .int .i64 p], own 5 1 v b.length (b.map vByte), blk bR 131 [.pointer (some ⟨D, 0, none⟩)], blk bH 3 [.int .i64 high], blk bN 3 [.int .i64 0]]
 (TX (fun _ : Unit => True) (fun _ => .tuple #[]) (fun _ => [blk D 167 [.bool true, v, .int .i64 ((nextN a (bndM b a 0 high 3) : Nat) : Int), .int .i64 (errN (bndM b a 0 high 3) : Int), .int .i64 (posN p (bndM b a 0 high 3))], own 5 1 v b.length (b.map vByte), blk bR 131 [.pointer (some ⟨D, 0, none⟩)], blk bH 3 [.int .i64 high], blk bN 3 [.int .i64 (numN (bndM b a 0 high 3) : Int)]])) :=
 (try_tr D a _ v p (by simp) Tryz.func91 rfl rfl (count1_tr D a bR bH bN v b p high ha hb)).imp fun u m ⟨hu, hm⟩ => by
  rcases hm with ⟨x, hJ, rfl⟩ | ⟨y, hJ, rfl⟩ <;> exact ⟨(), trivial, hu, by rw [hJ]; rfl⟩
theorem bytes_try (D a bR bH bN : Nat) (v : Value) (b : List UInt8) (p high : Int) (ha : a ≤ b.length) (hb : b.length ≤ 1000000000) : Tr Tryz.prog 88 #[.pointer (some ⟨D, 0, none⟩), .func (.func 122) #[] #[.pointer (some ⟨bR, 0, none⟩), .pointer (some ⟨bH, 0, none⟩), .pointer (some ⟨bN, 0, none⟩)]] [] [blk D 167 [.bool true, v, .int .i64 (a : Int), .int .i64 0, .int .i64 p], own 5 1 v b.length (b.map vByte), blk bR 131 [.pointer (some ⟨D, 0, none⟩)], blk bH 3 [.int .i64 high], blk bN 31 [.slice none 0 0]]
 (TX (fun _ : Value => True) (fun _ => .tuple #[]) (fun x => [blk D 167 [.bool true, v, .int .i64 ((endB a (bytR b a high) : Nat) : Int), .int .i64 (errN (bytR b a high) : Int), .int .i64 (posN p (bytR b a high))], own 5 1 v b.length (b.map vByte), blk bR 131 [.pointer (some ⟨D, 0, none⟩)], blk bH 3 [.int .i64 high], blk bN 31 [x], own 5 1 x (outB b (bytR b a high)).length ((outB b (bytR b a high)).map vByte)])) :=
 (try_tr D a _ v p (by simp) Tryz.func122 rfl rfl (bytes1_tr D a bR bH bN v b p high ha hb)).impH fun u m ⟨hu, hm⟩ => by
  rcases hm with ⟨⟨n, nx, v'⟩, hJ, rfl⟩ | ⟨⟨e, q, aa⟩, hJ, rfl⟩
  ·exact ⟨_, ⟨v', trivial, hu, rfl⟩, fun w0 S w hw => by
    have hJ' : bytR b a high = .ok n nx := hJ
    rw [hJ']
    exact hw⟩
  exact ⟨_, ⟨.slice none 0 0, trivial, hu, rfl⟩, fun w0 S w hw => by
   have hJ' : bytR b a high = .bad e q := hJ
   rw [hJ']
   exact (hp_ownNil 5 1 hw).perm (List.perm_append_comm (l₁ := [own 5 1 (.slice none 0 0) 0 []]))⟩
theorem id_try (D a bR bI : Nat) (v : Value) (b : List UInt8) (p : Int) (ha : a ≤ b.length) (hb : b.length ≤ 1000000000) : Tr Tryz.prog 88 #[.pointer (some ⟨D, 0, none⟩), .func (.func 112) #[] #[.pointer (some ⟨bI, 0, none⟩), .pointer (some ⟨bR, 0, none⟩)]] [] [blk D 167 [.bool true, v, .int .i64 (a : Int), .int .i64 0, .int .i64 p], own 5 1 v b.length (b.map vByte), blk bR 131 [.pointer (some ⟨D, 0, none⟩)], blk bI 59 (List.replicate 16 (.int .u8 0))]
 (TX (fun _ : Unit => True) (fun _ => .tuple #[]) (fun _ => [blk D 167 [.bool true, v, .int .i64 ((endB a (idR b a) : Nat) : Int), .int .i64 (errN (idR b a) : Int), .int .i64 (posN p (idR b a))], own 5 1 v b.length (b.map vByte), blk bR 131 [.pointer (some ⟨D, 0, none⟩)], blk bI 59 ((outI b a).map vByte)])) :=
 (try_tr D a _ v p (by simp) Tryz.func112 rfl rfl (id1_tr D a bR bI v b p ha hb)).imp fun u m ⟨hu, hm⟩ => by
  rcases hm with ⟨x, hJ, rfl⟩ | ⟨y, hJ, rfl⟩
  ·have hJ' : a + 16 ≤ b.length := hJ
   exact ⟨(), trivial, hu, by unfold idR outI; rw [if_neg (by omega), if_neg (by omega)]; rfl⟩
  have hJ' : b.length < a + 16 := hJ
  exact ⟨(), trivial, hu, by unfold idR outI; rw [if_pos hJ', if_pos hJ']; rfl⟩
theorem int_tr (D a : Nat) (v : Value) (b : List UInt8) (p low high : Int) (ha : a ≤ b.length) (hb : b.length ≤ 1000000000) : Tr Tryz.prog 67 #[.pointer (some ⟨D, 0, none⟩), .int .i64 low, .int .i64 high] [] [blk D 167 [.bool true, v, .int .i64 (a : Int), .int .i64 0, .int .i64 p], own 5 1 v b.length (b.map vByte)]
 (TX (fun _ : Unit => True) (fun _ => .int .i64 (numN (bndM b a low high 5) : Int)) (fun _ => [blk D 167 [.bool true, v, .int .i64 ((nextN a (bndM b a low high 5) : Nat) : Int), .int .i64 (errN (bndM b a low high 5) : Int), .int .i64 (posN p (bndM b a low high 5))], own 5 1 v b.length (b.map vByte)])) := by
 refine Tr.of (l := [(0, .pointer (some ⟨D, 0, none⟩)), (1, .int .i64 low), (2, .int .i64 high)]) Tryz.func67 rfl (n := 11) rfl (.cons rfl (.cons rfl (.cons rfl .nil))) (fun w0 hro => ?_)
 refine go [9,10,60,2] ?_
 intro b3
 refine go [60,2] ?_
 intro b4
 refine go [60,2] ?_
 intro b5
 refine go [60,13] ?_
 intro b6
 refine go [7,8,9,10] ?_
 refine G.op rfl (G.val rfl rfl (pv_load Tryz.underlying131 rfl rfl (blk_cell (v := .pointer (some ⟨D, 0, none⟩)) selT rfl)) ?_)
 refine go [2,26] ?_
 refine G.op rfl (G.cN rfl rfl rfl rfl Tryz.func88 rfl rfl (int_try D a b3 b4 b5 b6 v b p low high ha hb) (.cons selT (.cons selT (.cons selT (.cons selT (.cons selT (.cons selT .nil)))))) may0 ?_)
 rintro ⟨⟩ -
 simp only [List.cons_append, List.nil_append]
 refine go [7,8,9,10] ?_
 refine G.op rfl (G.val rfl rfl (pv_load Tryz.underlying3 rfl rfl (blk_cell (v := .int .i64 (numN (bndM b a low high 5) : Int)) selT rfl)) ?_)
 refine go [21,7,8,11] ?_
 exact G.doneC (v := .int .i64 (numN (bndM b a low high 5) : Int)) rfl rfl Tryz.underlying3 rfl (blk_cell selT rfl) (.cons selT (.cons selT .nil)) ⟨(), trivial, rfl, rfl⟩
theorem count_tr (D a : Nat) (v : Value) (b : List UInt8) (p high : Int) (ha : a ≤ b.length) (hb : b.length ≤ 1000000000) : Tr Tryz.prog 68 #[.pointer (some ⟨D, 0, none⟩), .int .i64 high] [] [blk D 167 [.bool true, v, .int .i64 (a : Int), .int .i64 0, .int .i64 p], own 5 1 v b.length (b.map vByte)]
 (TX (fun _ : Unit => True) (fun _ => .int .i64 (numN (bndM b a 0 high 3) : Int)) (fun _ => [blk D 167 [.bool true, v, .int .i64 ((nextN a (bndM b a 0 high 3) : Nat) : Int), .int .i64 (errN (bndM b a 0 high 3) : Int), .int .i64 (posN p (bndM b a 0 high 3))], own 5 1 v b.length (b.map vByte)])) := by
 refine Tr.of (l := [(0, .pointer (some ⟨D, 0, none⟩)), (1, .int .i64 high)]) Tryz.func68 rfl (n := 9) rfl (.cons rfl (.cons rfl .nil)) (fun w0 hro => ?_)
 refine go [9,10,60,2] ?_
 intro b2
 refine go [60,2] ?_
 intro b3
 refine go [60,13] ?_
 intro b4
 refine go [7,8,9,10] ?_
 refine G.op rfl (G.val rfl rfl (pv_load Tryz.underlying131 rfl rfl (blk_cell (v := .pointer (some ⟨D, 0, none⟩)) selT rfl)) ?_)
 refine go [2,26] ?_
 refine G.op rfl (G.cN rfl rfl rfl rfl Tryz.func88 rfl rfl (count_try D a b2 b3 b4 v b p high ha hb) (.cons selT (.cons selT (.cons selT (.cons selT (.cons selT .nil))))) may0 ?_)
 rintro ⟨⟩ -
 simp only [List.cons_append, List.nil_append]
 refine go [7,8,9,10] ?_
 refine G.op rfl (G.val rfl rfl (pv_load Tryz.underlying3 rfl rfl (blk_cell (v := .int .i64 (numN (bndM b a 0 high 3) : Int)) selT rfl)) ?_)
 refine go [21,7,8,11] ?_
 exact G.doneC (v := .int .i64 (numN (bndM b a 0 high 3) : Int)) rfl rfl Tryz.underlying3 rfl (blk_cell selT rfl) (.cons selT (.cons selT .nil)) ⟨(), trivial, rfl, rfl⟩
theorem bytes_tr (D a : Nat) (v : Value) (b : List UInt8) (p high : Int) (ha : a ≤ b.length) (hb : b.length ≤ 1000000000) : Tr Tryz.prog 111 #[.pointer (some ⟨D, 0, none⟩), .int .i64 high] [] [blk D 167 [.bool true, v, .int .i64 (a : Int), .int .i64 0, .int .i64 p], own 5 1 v b.length (b.map vByte)]
 (TX (fun _ : Value => True) (fun x => x) (fun x => [blk D 167 [.bool true, v, .int .i64 ((endB a (bytR b a high) : Nat) : Int), .int .i64 (errN (bytR b a high) : Int), .int .i64 (posN p (bytR b a high))], own 5 1 v b.length (b.map vByte), own 5 1 x (outB b (bytR b a high)).length ((outB b (bytR b a high)).map vByte)])) := by
 refine Tr.of (l := [(0, .pointer (some ⟨D, 0, none⟩)), (1, .int .i64 high)]) Tryz.func111 rfl (n := 9) rfl (.cons rfl (.cons rfl .nil)) (fun w0 hro => ?_)
 refine go [9,10,60,2] ?_
 intro b2
 refine go [60,2] ?_
 intro b3
 refine go [60,17] ?_
 intro b4
 refine go [7,8,9,10] ?_
 refine G.op rfl (G.val rfl rfl (pv_load Tryz.underlying131 rfl rfl (blk_cell (v := .pointer (some ⟨D, 0, none⟩)) selT rfl)) ?_)
 refine go [2,26] ?_
 refine G.op rfl (G.cN rfl rfl rfl rfl Tryz.func88 rfl rfl (bytes_try D a b2 b3 b4 v b p high ha hb) (.cons selT (.cons selT (.cons selT (.cons selT (.cons selT .nil))))) may0 ?_)
 rintro x -
 simp only [List.cons_append, List.nil_append]
 refine G.ownFact (v := x) selT (fun hv1 _ => ?_)
 refine go [7,8,9,10] ?_
 refine G.op rfl (G.val rfl rfl (pv_load Tryz.underlying31 rfl rfl (blk_cell (v := x) selT rfl)) ?_)
 refine G.op rfl (G.store kr rfl rfl hv1 selT (by simp) ?_)
 refine go [7,8,11] ?_
 exact G.doneC (v := x) rfl rfl Tryz.underlying31 rfl (blk_cell selT rfl) (.cons selT (.cons selT (.cons selT .nil))) ⟨x, trivial, rfl, rfl⟩
theorem id_tr (D a : Nat) (v : Value) (b : List UInt8) (p : Int) (ha : a ≤ b.length) (hb : b.length ≤ 1000000000) : Tr Tryz.prog 93 #[.pointer (some ⟨D, 0, none⟩)] [] [blk D 167 [.bool true, v, .int .i64 (a : Int), .int .i64 0, .int .i64 p], own 5 1 v b.length (b.map vByte)]
 (TX (fun _ : Unit => True) (fun _ => vID (outI b a)) (fun _ => [blk D 167 [.bool true, v, .int .i64 ((endB a (idR b a) : Nat) : Int), .int .i64 (errN (idR b a) : Int), .int .i64 (posN p (idR b a))], own 5 1 v b.length (b.map vByte)])) := by
 refine Tr.of (l := [(0, .pointer (some ⟨D, 0, none⟩))]) Tryz.func93 rfl (n := 7) rfl (.cons rfl .nil) (fun w0 hro => ?_)
 have hol : (outI b a).length = 16 := by unfold outI; split; (first | rfl | simp); exact subB_length (by omega)
 refine go [9,10,60,2] ?_
 intro b1
 refine go [60,14] ?_
 intro b2
 refine go [7,8,9,10] ?_
 refine G.op rfl (G.val rfl rfl (pv_load Tryz.underlying131 rfl rfl (blk_cell (v := .pointer (some ⟨D, 0, none⟩)) selT rfl)) ?_)
 refine go [2,26] ?_
 refine G.op rfl (G.cN rfl rfl rfl rfl Tryz.func88 rfl rfl (id_try D a b1 b2 v b p ha hb) (.cons selT (.cons selT (.cons selT (.cons selT .nil)))) may0 ?_)
 rintro ⟨⟩ -
 simp only [List.cons_append, List.nil_append]
 refine go [7,8,9,10] ?_
 refine G.op rfl (G.val rfl rfl (pv_loadN (cs := (outI b a).map vByte) Tryz.underlying59 rfl (by rw [List.length_map, hol]; kernel_rfl) rfl (blk_range (k := 16) selT (List.take_of_length_le (by rw [List.drop_zero, List.length_map, hol]; exact Nat.le_refl _)))) ?_)
 refine G.op rfl (G.storeN (by rw [List.length_map, hol]; kernel_rfl) rfl rfl (List.all_eq_true.2 (vByte_one _)) selT (by simp) ?_)
 refine go [7,8,11] ?_
 exact G.doneCN (cs := (outI b a).map vByte) rfl rfl Tryz.underlying59 rfl (by rw [List.length_map, hol]; kernel_rfl) (blk_range (k := 16) selT (by rw [show putN ((outI b a).map vByte) 0 ((outI b a).map vByte) = (outI b a).map vByte from putN_all _ _ [] rfl]; exact List.take_of_length_le (by rw [List.drop_zero, List.length_map, hol]; exact Nat.le_refl _))) (.cons selT (.cons selT .nil)) ⟨(), trivial, rfl, rfl⟩
theorem fault_tr (D : Nat) (v : Value) (made : Bool) (a e p : Int) : Tr Tryz.prog 69 #[.pointer (some ⟨D, 0, none⟩)] [blk D 167 [.bool made, v, .int .i64 (a : Int), .int .i64 e, .int .i64 p]] [] (T0 (.agg #[.int .i64 (if made then e else 1), .int .i64 (if made then p else 0)])) := by
 refine Tr.of (l := [(0, .pointer (some ⟨D, 0, none⟩))]) Tryz.func69 rfl (n := 17) rfl (.cons rfl .nil) (fun w0 hro => ?_)
 have hr := ro1 hro
 refine go [9,10,60,4] ?_
 intro b2
 refine go [7,8,9,9,10,0,2,50,1,0,3,0,3,8,3,16] ?_
 refine G.want rfl rfl rfl (G.val rfl rfl (pv_load Tryz.underlying4 rfl rfl (ro_blk (v := .bool made) hr rfl)) ?_)
 refine go [3,25,2,2,7,8] ?_
 refine G.cond rfl (fun h11 => ?_) (fun h11 => ?_)
 ·obtain rfl : made = false := by cases made <;> first | rfl | cases h11
  refine go [9,10] ?_
  refine G.op rfl (G.val rfl rfl (pv_build (cells := #[.int .i64 1, .int .i64 0]) (fun a ha => ha.pevs rfl) kr) ?_)
  refine go [20,7,8,11,12] ?_
  first | exact G.doneCN (cs := [.int .i64 1, .int .i64 0]) rfl rfl Tryz.underlying97 rfl kr (blk_range (k := 2) selT rfl) .nil ⟨rfl, rfl⟩ | exact G.doneCN (cs := [.int .i64 e, .int .i64 p]) rfl rfl Tryz.underlying97 rfl kr (blk_range (k := 2) selT rfl) .nil ⟨rfl, rfl⟩
 obtain rfl : made = true := by cases made <;> first | rfl | cases h11
 refine go [13,8,9,10,0,2,8,2,16] ?_
 refine G.op rfl (G.val rfl rfl (pv_loadN (cs := [.int .i64 e, .int .i64 p]) Tryz.underlying97 rfl kr rfl (ro_range (k := 2) hr rfl)) ?_)
 refine go [20,7,8,11] ?_
 first | exact G.doneCN (cs := [.int .i64 1, .int .i64 0]) rfl rfl Tryz.underlying97 rfl kr (blk_range (k := 2) selT rfl) .nil ⟨rfl, rfl⟩ | exact G.doneCN (cs := [.int .i64 e, .int .i64 p]) rfl rfl Tryz.underlying97 rfl kr (blk_range (k := 2) selT rfl) .nil ⟨rfl, rfl⟩
theorem open_tr {Pu : Nat → Prop} (u : Value) (b : List UInt8) (hb : b.length ≤ 1000000000) : Tr Tryz.prog 66 #[u] [slc rByte Pu u b] []
 (TX (fun _ : Nat × Value => True) (fun x => .pointer (some ⟨x.1, 0, none⟩)) (fun x => [blk x.1 167 [.bool true, x.2, .int .i64 (0 : Int), .int .i64 0, .int .i64 0], own 5 1 x.2 b.length (b.map vByte)])) := by
 refine Tr.of (l := [(0, u)]) Tryz.func66 rfl (n := 7) rfl (.cons rfl .nil) (fun w0 hro => ?_)
 have hr := ro1 hro
 refine go [9,10,1,7,8,9,10,0] ?_
 refine G.ownNil 5 1 ?_
 refine G.op rfl (G.appendS (k := 0) (cs := []) (xs := b) (f := vByte) (p := fun _ => True) (Ps := Pu) rfl Tryz.underlying31 Tryz.infoByte' rfl rfl .here (ro_sl hr) (vByte_one _) (by omega) (by omega) ?_)
 intro v'
 rw [Nat.zero_add b.length, List.nil_append]
 refine G.ownFact .here (fun hv1 _ => ?_)
 refine G.op rfl (G.val rfl rfl (pv_build (cells := #[.bool true, v', .int .i64 0, .int .i64 0, .int .i64 0]) (fun a ha => ha.pevs rfl) (by cases v' <;> first | (cases hv1; done) | kernel_rfl)) ?_)
 refine G.op rfl (G.box rfl rfl (cs := [.bool true, v', .int .i64 0, .int .i64 0, .int .i64 0]) rfl ?_)
 intro b6
 refine go [1,7,8,11] ?_
 exact G.done1 (m' := [blk b6 167 [.bool true, v', .int .i64 (0 : Int), .int .i64 0, .int .i64 0], own 5 1 v' b.length (b.map vByte)]) rfl rfl (.cons selT (.cons selT .nil)) ⟨(b6, v'), trivial, rfl, rfl⟩
theorem new_tr : Tr Tryz.prog 58 #[] [] [] (TX (fun _ : Nat => True) (fun D => .pointer (some ⟨D, 0, none⟩)) (fun D => [blk D 158 [.bool true, .bool false, .slice none 0 0], own 5 1 (.slice none 0 0) ([] : List UInt8).length (([] : List UInt8).map vByte)])) := by
 refine Tr.of (l := []) Tryz.func58 rfl (n := 3) rfl Fa.nil (fun w0 hro => ?_)
 refine go [9,10,1,7,8,9,10] ?_
 refine G.op rfl (G.val rfl rfl (pv_build (cells := #[.bool true, .bool false, .slice none 0 0]) (fun a ha => ha.pevs rfl) kr) ?_)
 refine G.op rfl (G.box rfl rfl (cs := [.bool true, .bool false, .slice none 0 0]) rfl ?_)
 intro b2
 refine G.ownNil 5 1 ?_
 refine go [1,7,8,11] ?_
 exact G.done1 rfl rfl (.cons selT (.cons selT .nil)) ⟨b2, trivial, rfl, rfl⟩
theorem ro_own {w0 : World} {S : Nat → Prop} {m : List Ck} {e : TypeId} {v : Value} {xs : List UInt8} (h : Ro w0 S (own e 1 v xs.length (xs.map vByte))) : ∀ w, Hp w0 S w m → IsSl (r1 vByte fun _ => True) (fun b => v.ownBlock = some b) w v xs := fun w hw => own_isSl' (h.at hw) rfl fun _ _ => trivial
def preN (x : Int) (i : Nat) : Nat := (qM x (sizeM x - i)).toNat
theorem preN_step {x : Int} {i : Nat} (h : sizeM x ≠ 0) (hi : i < sizeM x) : preN x i * 128 + (byteAt x (sizeM x - 1 - i)).toNat % 128 = preN x (i + 1) := by
 have h0 := sizeM_pos h
 have hb := byteAt_val x (sizeM x - 1 - i)
 have h1 := qM_step x (sizeM x - 1 - i)
 rw [show sizeM x - 1 - i + 1 = sizeM x - i by omega] at h1
 have h2 := qM_nonneg h0.1 (sizeM x - i)
 have h3 := qM_nonneg h0.1 (sizeM x - 1 - i)
 unfold preN
 rw [show sizeM x - (i + 1) = sizeM x - 1 - i by omega]
 split at hb <;> omega
theorem byteAt_hi {x : Int} {i : Nat} (h : i ≠ 0) : 128 ≤ (byteAt x i).toNat := by
 have := byteAt_val x i
 rw [if_neg h] at this
 have h0 := Int.emod_nonneg (qM x i) (show (128 : Int) ≠ 0 by omega)
 omega
section
variable {x : Int} {b : List UInt8} {L : Nat}
theorem go_cut (h : sizeM x ≠ 0) (hb : ∀ i, i < L → b[i]? = some (byteAt x (sizeM x - 1 - i))) (hL : L < sizeM x) (hl : b.length = L) : ∀ j i, i + j = L → getGo b 0 (5 - i) i (preN x i) = .bad 4 L
 | 0, i, hi => by
  have := sizeM_le x
  rw [getGo_none (by omega) (by omega), hl]
 | j + 1, i, hi => by
  have h5 := sizeM_le x
  have hbi := hb i (by omega)
  have hlt : 0 + i < b.length := by omega
  have e : b[0 + i] = byteAt x (sizeM x - 1 - i) := by
   have h3 : b[0 + i]? = some (byteAt x (sizeM x - 1 - i)) := by rw [Nat.zero_add]; exact hbi
   exact Option.some.inj ((List.getElem?_eq_getElem hlt).symm.trans h3)
  rw [getGo_hi (by omega) hlt (by rw [e]; exact byteAt_hi (by omega)), e, preN_step h (by omega)]
  exact go_cut h hb hL hl j (i + 1) (by omega)
end
def rID : Rdr (List UInt8) := rArr 16 rByte
def flatI (ids : List (List UInt8)) : List Value := ids.flatMap fun x => x.map vByte
def all16 (ids : List (List UInt8)) : Prop := ∀ x ∈ ids, x.length = 16
theorem all16.cons {x : List UInt8} {ids : List (List UInt8)} (h : all16 (x :: ids)) : x.length = 16 ∧ all16 ids := ⟨h x (List.mem_cons_self ..), fun y hy => h y (List.mem_cons_of_mem _ hy)⟩
theorem all16.snoc {x : List UInt8} {ids : List (List UInt8)} (h : all16 ids) (hx : x.length = 16) : all16 (ids ++ [x]) := fun y hy => by
 rcases List.mem_append.1 hy with h1 | h1
 ·exact h y h1
 obtain rfl : y = x := by simpa using h1
 exact hx
theorem flatI_length : ∀ {ids : List (List UInt8)}, all16 ids → (flatI ids).length = ids.length * 16
 | [], _ => rfl
 | x :: ids, h => by
  have := flatI_length h.cons.2
  unfold flatI at this ⊢
  rw [List.flatMap_cons, List.length_append, List.length_map, this, h.cons.1, List.length_cons]
  omega
theorem flatI_get : ∀ {ids : List (List UInt8)}, all16 ids → ∀ (i j : Nat) (hi : i < ids.length), j < 16 → (flatI ids)[i * 16 + j]? = (ids[i].map vByte)[j]?
 | x :: ids, h, 0, j, hi, hj => by
  unfold flatI
  rw [List.flatMap_cons, List.getElem?_append_left (by rw [List.length_map, h.cons.1]; omega)]
  simp
 | x :: ids, h, i + 1, j, hi, hj => by
  have := flatI_get h.cons.2 i j (by simpa using hi) hj
  unfold flatI at this ⊢
  rw [List.flatMap_cons, List.getElem?_append_right (by rw [List.length_map, h.cons.1]; omega), List.length_map, h.cons.1, show (i + 1) * 16 + j - 16 = i * 16 + j by omega, this]
  rfl
theorem flatI_app (a b : List (List UInt8)) : flatI (a ++ b) = flatI a ++ flatI b := List.flatMap_append
theorem flatI_one (ids : List (List UInt8)) : ∀ u ∈ flatI ids, u.oneCell' = true := fun u hu => by
 obtain ⟨x, hx, hu⟩ := List.mem_flatMap.1 hu
 exact vByte_one x u hu
theorem flatI_at {ids : List (List UInt8)} (h : all16 ids) {q : Nat} {u : Value} (hq : (flatI ids)[q]? = some u) : ∃ (hi : q / 16 < ids.length), (ids[q / 16].map vByte)[q % 16]? = some u := by
 have hlt := (List.getElem?_eq_some_iff.1 hq).1
 rw [flatI_length h] at hlt
 have hi : q / 16 < ids.length := by omega
 refine ⟨hi, ?_⟩
 have := flatI_get h (q / 16) (q % 16) hi (by omega)
 rw [← this, show q / 16 * 16 + q % 16 = q by omega]
 exact hq
section
variable {P : Program} {n : Nat} {w0 : World} {S : Nat → Prop} {l : Fr} {m : List Ck} {Q : Exit → Act → World → Prop} {K : Act → World → Prop}
theorem IsSl.flat {Ps : Nat → Prop} {w : World} {v : Value} {ids : List (List UInt8)} (h : IsSl rID Ps w v ids) : all16 ids ∧ ∃ ad cap b off, v = .slice ad ids.length cap ∧ (0 < ids.length → ad = some ⟨b, off, none⟩) ∧ (ad = none → cap = 0) ∧ News w b off (flatI ids) := by
 obtain ⟨ad, cap, b, off, e, hs⟩ := h
 have h16 : all16 ids := fun x hx => by
  obtain ⟨i, hi, rfl⟩ := List.getElem_of_mem hx
  exact (hs.cell i hi).1
 refine ⟨h16, ad, cap, b, off, e, hs.had, hs.hnil, fun q u hq => ?_⟩
 obtain ⟨hi, hu⟩ := flatI_at h16 hq
 rw [List.getElem?_map] at hu
 obtain ⟨y, hy, rfl⟩ := Option.map_eq_some_iff.1 hu
 obtain ⟨hj, rfl⟩ := List.getElem?_eq_some_iff.1 hy
 have := ((hs.cell _ hi).2 _ hj).2.1
 have e1 : off + q / 16 * rID.sz + q % 16 * rByte.sz = off + q := by show off + q / 16 * 16 + q % 16 * 1 = off + q; omega
 rwa [e1] at this
theorem own_isI {e : TypeId} {v : Value} {ids : List (List UInt8)} {w : World} (h : w.ownsRow 0 e 16 v ids.length (flatI ids)) (h16 : all16 ids) : IsSl rID (fun b => v.ownBlock = some b) w v ids := by
 have h0 := h
 rcases h.2 with ⟨rfl, h2⟩ | ⟨g', cap, cur, rfl, _, hg, hc, hm, hs, ht⟩
 ·obtain rfl : ids = [] := List.length_eq_zero_iff.1 h2
  exact ⟨none, 0, 0, 0, rfl, Nat.le_refl _, by omega, fun _ => rfl, fun h => absurd h (by simp), fun i hi => absurd hi (by simp)⟩
 refine ⟨_, cap, g', 0, rfl, hc, by unfold maxLen at hm; omega, (fun h => by cases h), fun _ => rfl, fun i hi => ⟨h16 _ (List.getElem_mem hi), fun j hj => ⟨rfl, ?_, trivial⟩⟩⟩
 have hj' : j < 16 := by have := h16 _ (List.getElem_mem hi); omega
 have := h0.cells (g := g') rfl (i * 16 + j) (vByte ids[i][j]) (by rw [flatI_get h16 i j hi hj', List.getElem?_map, List.getElem?_eq_getElem hj]; rfl)
 rw [addr_mid] at this
 have e1 : 0 + i * rID.sz + j * rByte.sz = 0 + (i * 16 + j) := by show 0 + i * 16 + j * 1 = _; omega
 rw [e1]
 exact this
theorem may_ownI {e : TypeId} {v : Value} {ids : List (List UInt8)} {r : List Ck} (h : Sel m (own e 16 v ids.length (flatI ids)) r) (h16 : all16 ids) : May w0 S m (slc rID (fun b => v.ownBlock = some b) v ids) := .view h.mem (fun w hw => own_isI hw h16) fun b h => h
theorem may_ownN {e : TypeId} {v : Value} {xs : List Int} {r : List Ck} (h : Sel m (own e 1 v xs.length (xs.map vInt)) r) (h64 : ∀ x ∈ xs, I64 x) : May w0 S m (slc rInt (fun b => v.ownBlock = some b) v xs) := may_own h rfl h64
theorem Ro.all16 {Ps : Nat → Prop} {v : Value} {ids : List (List UInt8)} (h : Ro w0 S (slc rID Ps v ids)) : all16 ids := (IsSl.flat h.1).1
theorem G.appendI {ty : TypeId} {pos : String} {after : Array Edge} {g : Option (Nat × Bool)} {Ps : Nat → Prop} {t e d k : Nat} {s x : Operand} {v u : Value} {cs : List Value} {ids : List (List UInt8)} {r : List Ck} (hn : Nat.blt d n = true) (hu : P.underlying t = some (.slice e)) (hi : (P.info? e).map (fun i => (i.zero.map (·.cells.size), i.size, i.bytes)) = some (some 16, 16, 16))
 (hs : ev l s = some v) (hx : ev l x = some u) (hsel : Sel m (own e 16 v k cs) r) (hsl : ∀ w, Hp w0 S w m → IsSl rID Ps w u ids) (hbig : (k + ids.length) * 16 ≤ 140737488355328)
 (h : ∀ v', G n w0 S ((d, v') :: l) (own e 16 v' (k + ids.length) (cs ++ flatI ids) :: r) K) : G n w0 S l m (fun a w => Oper.wp P ⟨some d, .call ⟨.builtin .append, #[s, x], #[t, t]⟩, ty, pos, after, g⟩ a w K Q) := fun a w ha hw => by
 obtain ⟨h16, ad, cap, b, off, rfl, had, hnil, _⟩ := (hsl w hw).flat
 refine G.append (K := K) (Q := Q) (w0 := w0) (S := S) (m := m) (l := l) (off := off) (b := b) hn hu hi rfl hs hx hsel had hnil (flatI_length h16) (fun w2 hw2 => ?_) (flatI_one ids) hbig (by omega) h a w ha hw
 obtain ⟨_, ad2, cap2, b2, off2, e2, had2, _, hn2⟩ := (hsl w2 hw2).flat
 injection e2 with e3 e4 e5
 subst e3
 intro i y hy
 have hj : 0 < ids.length := by
  obtain ⟨hlt, _⟩ := flatI_at h16 hy
  omega
 have := (had hj).symm.trans (had2 hj)
 injection this with this
 injection this with e6 e7
 subst e6 e7
 exact hn2 i y hy
end
theorem takes_next {α : Type} {a b : List α} {k : Nat} (h : a.take k = b.take k) (ha : k < a.length) (hb : k < b.length) (e : a[k] = b[k]) : a.take (k + 1) = b.take (k + 1) := by
 rw [List.take_succ_eq_append_getElem ha, List.take_succ_eq_append_getElem hb, h, e]
theorem takes_off {α : Type} {a b : List α} {k : Nat} (ha : k < a.length) (hb : k < b.length) (e : ¬ a[k] = b[k]) : ¬ a = b := fun h => by
 subst h
 exact e rfl
theorem takes_all {α : Type} {a b : List α} {k : Nat} (h : a.take k = b.take k) (ha : a.length ≤ k) (hb : b.length ≤ k) : a = b := by
 rwa [List.take_of_length_le ha, List.take_of_length_le hb] at h
theorem Tryz.infoInt' : (Tryz.prog.info? 3).map (fun i => (i.zero.map (·.cells.size), i.size, i.bytes)) = some (some 1, 1, 8) := by kernel_rfl
theorem Tryz.infoID' : (Tryz.prog.info? 59).map (fun i => (i.zero.map (·.cells.size), i.size, i.bytes)) = some (some 16, 16, 16) := by kernel_rfl
set_option maxHeartbeats 4000000 in
theorem sameInts_tr {Pv Pu : Nat → Prop} (v u : Value) (a b : List Int) : Tr Tryz.prog 21 #[v, u] [slc rInt Pv v a, slc rInt Pu u b] [] (T0 (.bool (decide (a = b)))) := by
 refine Tr.of (l := [(0, v), (1, u)]) Tryz.func21 rfl (n := 26) rfl (.cons rfl (.cons rfl .nil)) (fun w0 hro => ?_)
 obtain ⟨hv, hu⟩ := ro2 hro
 obtain ⟨ad, ca, ba, oa, rfl, hca, hma, -, had, hea⟩ := Ro.open hv
 obtain ⟨ad2, cb, bb, ob, rfl, hcb, hmb, -, hbd, heb⟩ := Ro.open hu
 refine go [9,10,1,7,8,9,9,10,0,2,5,0,2,5,2,14,7,8] ?_
 refine G.condP rfl (fun h10 => ?_) (fun h10 => ?_)
 ·refine go [9,10,1,7,8,11,12] ?_
  exact G.done1 rfl rfl .nil ⟨congrArg Value.bool ((decide_eq_false (fun e => by subst e; omega)).symm), rfl⟩
 refine go [13,8,9,9,10,1,7,8,15] ?_
 refine G.loopK (X := Nat) (ts := [0, 1]) (fun k => k ≤ a.length ∧ (a.take k = b.take k)) (fun k => [(5, .int .i64 (k : Int))]) (fun k => []) (fun k => a.length - k) (x0 := 0) (.cons rfl (.cons rfl .nil)) subT (.cons .nil) apT (by first | exact trivial | ((try dsimp only) <;> exact ⟨Nat.zero_le _, (by rw [List.take_zero, List.take_zero])⟩)) (.consE rfl veqT .nil) (fun k hJ => ?_)
 try dsimp only at hJ
 try dsimp only
 obtain ⟨hkk, hJ⟩ := hJ
 refine go [9,9,10,0,0,2,5,2,9,7,8] ?_
 refine G.condP rfl (fun h14 => ?_) (fun h14 => ?_)
 ·have hka : k < a.length := by omega
  have hkb : k < b.length := by omega
  have hA := hea k hka
  have hB := heb k hkb
  refine go [13,8,9,15,9] ?_
  refine G.drawT (nn := 9) (p := []) (rem := 511) [0, 0, 3, 4, 0, 0, 48, 64, 136] [0, 0, 3, 4, 0, 0, 48, 64, 136] kr ⟨rfl, by kernel_rfl, by kernel_rfl⟩ subT kr (fun hT6 => ?_)
  refine go [22,0,510,0,22,1,508,0,22,2,504,20,1,22,4,488,0,22,5,456,0,22,6,392,20,1,22,3,384,4,24,7,256,25,4,26,22,8,0,14,27,8] ?_
  refine G.condP rfl (fun h25 => ?_) (fun h25 => ?_)
  ·refine go [9,10,1,7,8,11,17,12,12,17,12] ?_
   exact G.done1 rfl rfl .nil ⟨congrArg Value.bool ((decide_eq_false (takes_off hka hkb h25)).symm), rfl⟩
  refine go [13,16,8,10,0,2,6,1,7] ?_
  exact G.next (k + 1) (by first | exact trivial | ((try dsimp only) <;> exact ⟨by omega, takes_next hJ hka hkb (by first | exact Decidable.of_not_not h25 | (simpa using h25))⟩)) (by (try dsimp only); omega) (.consE rfl veqT (.cons rfl (.cons rfl .nil))) subT
 refine go [18,14,14,19,8,9,10,1,7,8,11] ?_
 exact G.done1 rfl rfl .nil ⟨congrArg Value.bool ((decide_eq_true (takes_all hJ (by omega) (by omega))).symm), rfl⟩
set_option maxHeartbeats 4000000 in
theorem sameIDs_tr {Pv Pu : Nat → Prop} (v u : Value) (a b : List (List UInt8)) : Tr Tryz.prog 32 #[v, u] [slc rID Pv v a, slc rID Pu u b] [] (T0 (.bool (decide (a = b)))) := by
 refine Tr.of (l := [(0, v), (1, u)]) Tryz.func32 rfl (n := 26) rfl (.cons rfl (.cons rfl .nil)) (fun w0 hro => ?_)
 obtain ⟨hv, hu⟩ := ro2 hro
 obtain ⟨ad, ca, ba, oa, rfl, hca, hma, -, had, hea⟩ := Ro.open hv
 obtain ⟨ad2, cb, bb, ob, rfl, hcb, hmb, -, hbd, heb⟩ := Ro.open hu
 refine go [9,10,1,7,8,9,9,10,0,2,5,0,2,5,2,14,7,8] ?_
 refine G.condP rfl (fun h10 => ?_) (fun h10 => ?_)
 ·refine go [9,10,1,7,8,11,12] ?_
  exact G.done1 rfl rfl .nil ⟨congrArg Value.bool ((decide_eq_false (fun e => by subst e; omega)).symm), rfl⟩
 refine go [13,8,9,9,10,1,7,8,15] ?_
 refine G.loopK (X := Nat) (ts := [0, 1]) (fun k => k ≤ a.length ∧ (a.take k = b.take k)) (fun k => [(5, .int .i64 (k : Int))]) (fun k => []) (fun k => a.length - k) (x0 := 0) (.cons rfl (.cons rfl .nil)) subT (.cons .nil) apT (by first | exact trivial | ((try dsimp only) <;> exact ⟨Nat.zero_le _, (by rw [List.take_zero, List.take_zero])⟩)) (.consE rfl veqT .nil) (fun k hJ => ?_)
 try dsimp only at hJ
 try dsimp only
 obtain ⟨hkk, hJ⟩ := hJ
 refine go [9,9,10,0,0,2,5,2,9,7,8] ?_
 refine G.condP rfl (fun h14 => ?_) (fun h14 => ?_)
 ·have hka : k < a.length := by omega
  have hkb : k < b.length := by omega
  have hA := hea k hka
  have hB := heb k hkb
  obtain ⟨la, ra⟩ := Ro.arr8 hA
  obtain ⟨lb, rb⟩ := Ro.arr8 hB
  refine go [13,8,9,15,9] ?_
  refine G.drawT (nn := 9) (p := []) (rem := 511) [0, 0, 3, 4, 0, 0, 48, 64, 136] [0, 0, 3, 4, 0, 0, 48, 64, 136] kr ⟨rfl, by kernel_rfl, by kernel_rfl⟩ subT kr (fun hT6 => ?_)
  refine go [22,0,510,0,22,1,508,0,22,2,504,20,16,22,4,488,0,22,5,456,0,22,6,392,20,16] ?_
  refine G.takeT hT6 (i := 3) (rem' := 384) rfl rfl rfl kr (fun _ _ _ h => h) rfl (pv_loadN (cs := a[k].map vByte) Tryz.underlying59 rfl (by rw [List.length_map, la]; kernel_rfl) rfl ra) subT ?_
  refine go [24,7,256] ?_
  refine G.turnOp rfl rfl (G.val rfl rfl (pv_loadN (cs := b[k].map vByte) Tryz.underlying59 rfl (by rw [List.length_map, lb]; kernel_rfl) rfl rb) ?_)
  refine go [26] ?_
  refine G.takeT hT6 (i := 8) (rem' := 0) rfl rfl rfl kr (fun _ _ _ h => h) rfl (pv_neqAr8 (a := a[k]) (b := b[k]) Tryz.underlying59 rfl kr Tryz.underlying5 kr rfl rfl la lb) subT ?_
  refine go [27,8] ?_
  refine G.cond rfl (fun h25 => ?_) (fun h25 => ?_)
  ·refine go [9,10,1,7,8,11,17,12,12,17,12] ?_
   exact G.done1 rfl rfl .nil ⟨congrArg Value.bool ((decide_eq_false (takes_off hka hkb (by simpa using h25))).symm), rfl⟩
  refine go [13,16,8,10,0,2,6,1,7] ?_
  exact G.next (k + 1) (by first | exact trivial | ((try dsimp only) <;> exact ⟨by omega, takes_next hJ hka hkb (by first | exact Decidable.of_not_not h25 | (simpa using h25))⟩)) (by (try dsimp only); omega) (.consE rfl veqT (.cons rfl (.cons rfl .nil))) subT
 refine go [18,14,14,19,8,9,10,1,7,8,11] ?_
 exact G.done1 rfl rfl .nil ⟨congrArg Value.bool ((decide_eq_true (takes_all hJ (by omega) (by omega))).symm), rfl⟩
end Go.Proofs.YtcgacpmippdkeaaGreat
