/- Merged of XH, TreeOpn, ModOpn. Conditions: none. -/
import Derived.Test.YtakeannapfaodaaBb
import Derived.ChangeMaps5
namespace Go.Proofs.Ytakeannapfaodaa
open Go.RowKit
set_option linter.unusedVariables false
set_option linter.unusedSimpArgs false
def nonC (p : Value) : Ck := ⟨fun b => p = .pointer (some ⟨b, 0, none⟩), fun w => p = .pointer none ∨ ∃ b, p = .pointer (some ⟨b, 0, none⟩) ∧ w.cell? ⟨b, 0, none⟩ = some (.map none), fun w w' h hw => by
 rcases hw with hw | ⟨b, hb, hc⟩
 ·exact .inl hw
 exact .inr ⟨b, hb, (World.cell?_of_block (h b hb)).trans hc⟩⟩
set_option maxRecDepth 20000 in
set_option maxHeartbeats 4000000 in
theorem none0_tr : Tr Try.prog 26 #[.pointer none] [] [] (T0 (.bool true)) := by
 refine Tr.of (l := [(0, .pointer none)]) Try.func26 rfl (n := 12) rfl (.cons rfl .nil) (fun w0 hro => ?_)
 refine go [9,10,1,7,8,9,10,0] ?_
 refine G.op rfl (G.val rfl rfl (pv_eqlP0 Try.underlying24 rfl rfl) ?_)
 refine go [0,4,4,4,4,4,2,2,1,7,8,11] ?_
 exact G.done0G rfl (Rv.tmp rfl Rv.nil) Y2
set_option maxRecDepth 20000 in
set_option maxHeartbeats 4000000 in
theorem none1_tr (b : Nat) : Tr Try.prog 26 #[.pointer (some ⟨b, 0, none⟩)] [rng b 0 [.map none]] [] (T0 (.bool true)) := by
 refine Tr.of (l := [(0, .pointer (some ⟨b, 0, none⟩))]) Try.func26 rfl (n := 12) rfl (.cons rfl .nil) (fun w0 hro => ?_)
 have hr := ro1 hro
 refine go [9,10,1,7,8,9,10,0] ?_
 refine G.op rfl (G.val rfl rfl (pv_eqlP0 Try.underlying24 rfl rfl) ?_)
 refine go [0,3,0,3,8,3,3,0] ?_
 refine G.want rfl rfl rfl (G.val rfl rfl (pv_load (v := .map none) Try.underlying38 rfl rfl (ro_rngC hr rfl)) ?_)
 refine G.want rfl rfl rfl (G.val rfl rfl (pv_eqlM0 Try.underlying38 rfl rfl) ?_)
 refine go [2,2,1,7,8,11] ?_
 exact G.done0G rfl (Rv.tmp rfl Rv.nil) Y2
theorem noneN_tr (p : Value) : Tr Try.prog 26 #[p] [nonC p] [] (T0 (.bool true)) := fun w hro hw => by
 have h := hro _ (List.mem_cons_self ..)
 rcases h.1 with rfl | ⟨b, rfl, hb⟩
 ·exact none0_tr w (fun c hc => by cases hc) hw
 refine none1_tr b w (fun c hc => ?_) hw
 obtain rfl : c = _ := by simpa using hc
 refine ⟨fun j v hj => ?_, fun k hk => h.2 k (by obtain rfl : k = b := hk; rfl)⟩
 obtain ⟨hlt, rfl⟩ := List.getElem?_eq_some_iff.1 hj
 have hj0 : j = 0 := by simpa using hlt
 subst hj0
 exact hb
set_option maxRecDepth 20000 in
set_option maxHeartbeats 4000000 in
theorem noneB_tr (p : Value) (c k t : Int) (v : Value) : Tr Try.prog 10 #[p, .int .i64 c, .int .i64 k, .int .i64 t, v] [nonC p] [] (T0 (.tuple #[.int .i64 0, .int .i64 1])) := by
 refine Tr.ofM (l := [(0, p), (1, .int .i64 c), (2, .int .i64 k), (3, .int .i64 t), (4, v)]) Try.func10 rfl (n := 66) rfl (.cons rfl (.cons rfl (.cons rfl (.cons rfl (.cons rfl .nil))))) (fun w0 hro => ?_)
 have hn := ro1 hro
 refine go [32,33,60,3] ?_
 intro b7
 refine go [60,4] ?_
 intro b10
 refine go [60,4] ?_
 intro b11
 refine go [34,31,32,32,33,0] ?_
 refine G.op rfl (G.cR rfl rfl rfl rfl Try.func26 rfl rfl (may1 (.old hn)) (noneN_tr p) ?_)
 refine go [34,31] ?_
 refine I.condT rfl (rfl) ?_
 refine go [32,33,21,21,34,31,37,35] ?_
 exact I.doneT0 rfl (Rv.cell1 rfl Try.underlying3 rfl celT (Rv.cell1 rfl Try.underlying32 rfl celT Rv.nil)) Y2
set_option maxRecDepth 20000 in
set_option maxHeartbeats 4000000 in
theorem noneT_tr (p : Value) (c n k t : Int) (v : Value) : Tr Try.prog 15 #[p, .int .i64 c, .int .i64 n, .int .i64 k, .int .i64 t, v] [nonC p] [] (T0 (.int .i64 1)) := by
 refine Tr.of (l := [(0, p), (1, .int .i64 c), (2, .int .i64 n), (3, .int .i64 k), (4, .int .i64 t), (5, v)]) Try.func15 rfl (n := 71) rfl (.cons rfl (.cons rfl (.cons rfl (.cons rfl (.cons rfl (.cons rfl .nil)))))) (fun w0 hro => ?_)
 have hn := ro1 hro
 refine go [9,10,1,7,8,9,9,10,0] ?_
 refine G.op rfl (G.cR rfl rfl rfl rfl Try.func26 rfl rfl (may1 (.old hn)) (noneN_tr p) ?_)
 refine go [7,8,60,0,9,10,1,7,8,11,12] ?_
 exact G.done0G rfl (Rv.tmp rfl Rv.nil) Y2
set_option maxRecDepth 20000 in
set_option maxHeartbeats 4000000 in
theorem noneF_tr (p : Value) (c n : Int) : Tr Try.prog 16 #[p, .int .i64 c, .int .i64 n] [nonC p] [] (T0 (.int .i64 1)) := by
 refine Tr.of (l := [(0, p), (1, .int .i64 c), (2, .int .i64 n)]) Try.func16 rfl (n := 28) rfl (.cons rfl (.cons rfl (.cons rfl .nil))) (fun w0 hro => ?_)
 have hn := ro1 hro
 refine go [9,10,1,7,8,9,9,10,0] ?_
 refine G.op rfl (G.cR rfl rfl rfl rfl Try.func26 rfl rfl (may1 (.old hn)) (noneN_tr p) ?_)
 refine go [7,8,60,0,9,10,1,7,8,11,12] ?_
 exact G.done0G rfl (Rv.tmp rfl Rv.nil) Y2
set_option maxRecDepth 20000 in
set_option maxHeartbeats 4000000 in
theorem noneG_tr (p : Value) (c n : Int) : Tr Try.prog 14 #[p, .int .i64 c, .int .i64 n] [nonC p] [] (T0 (.tuple #[.slice none 0 0, .int .i64 1])) := by
 refine Tr.of (l := [(0, p), (1, .int .i64 c), (2, .int .i64 n)]) Try.func14 rfl (n := 32) rfl (.cons rfl (.cons rfl (.cons rfl .nil))) (fun w0 hro => ?_)
 have hn := ro1 hro
 refine go [9,10,1,1,7,8,9,9,10,0] ?_
 refine G.op rfl (G.cR rfl rfl rfl rfl Try.func26 rfl rfl (may1 (.old hn)) (noneN_tr p) ?_)
 refine go [7,8,60,0,9,10,1,1,7,8,11,12] ?_
 exact G.done0G rfl (Rv.tmp rfl (Rv.tmp rfl Rv.nil)) Y2
set_option maxRecDepth 20000 in
set_option maxHeartbeats 4000000 in
theorem noneL_tr (p : Value) (c : Int) : Tr Try.prog 11 #[p, .int .i64 c] [nonC p] [] (T0 (.slice none 0 0)) := by
 refine Tr.of (l := [(0, p), (1, .int .i64 c)]) Try.func11 rfl (n := 34) rfl (.cons rfl (.cons rfl .nil)) (fun w0 hro => ?_)
 have hn := ro1 hro
 refine go [9,10,1,7,8,9,9,10,0] ?_
 refine G.op rfl (G.cR rfl rfl rfl rfl Try.func26 rfl rfl (may1 (.old hn)) (noneN_tr p) ?_)
 refine go [7,8,60,0,9,10,1,7,8,11,12] ?_
 exact G.done0G rfl (Rv.tmp rfl Rv.nil) Y2
set_option maxRecDepth 20000 in
set_option maxHeartbeats 4000000 in
theorem noneX_tr (p : Value) (c : Int) : Tr Try.prog 17 #[p, .int .i64 c] [nonC p] [] (T0 (.int .i64 0)) := by
 refine Tr.of (l := [(0, p), (1, .int .i64 c)]) Try.func17 rfl (n := 13) rfl (.cons rfl (.cons rfl .nil)) (fun w0 hro => ?_)
 have hn := ro1 hro
 refine go [9,10,1,7,8,9,9,10,0] ?_
 refine G.op rfl (G.cR rfl rfl rfl rfl Try.func26 rfl rfl (may1 (.old hn)) (noneN_tr p) ?_)
 refine go [7,8,60,0,9,10,1,7,8,11,12] ?_
 exact G.done0G rfl (Rv.tmp rfl Rv.nil) Y2
set_option maxRecDepth 20000 in
set_option maxHeartbeats 4000000 in
theorem noneC_tr (p : Value)  : Tr Try.prog 18 #[p] [nonC p] [] (T0 (.slice none 0 0)) := by
 refine Tr.of (l := [(0, p)]) Try.func18 rfl (n := 11) rfl (.cons rfl .nil) (fun w0 hro => ?_)
 have hn := ro1 hro
 refine go [9,10,1,7,8,9,9,10,0] ?_
 refine G.op rfl (G.cR rfl rfl rfl rfl Try.func26 rfl rfl (may1 (.old hn)) (noneN_tr p) ?_)
 refine go [7,8,60,0,9,10,1,7,8,11,12] ?_
 exact G.done0G rfl (Rv.tmp rfl Rv.nil) Y2
set_option maxRecDepth 20000 in
set_option maxHeartbeats 4000000 in
theorem noneE_tr (p : Value) (c a b d : Int) : Tr Try.prog 13 #[p, .int .i64 c, .agg #[.int .i64 a, .int .i64 b, .int .i64 d]] [nonC p] [] (T0 (.tuple #[.slice none 0 0, .int .i64 1])) := by
 refine Tr.of (l := [(0, p), (1, .int .i64 c), (2, .agg #[.int .i64 a, .int .i64 b, .int .i64 d])]) Try.func13 rfl (n := 62) rfl (.cons rfl (.cons rfl (.cons rfl .nil))) (fun w0 hro => ?_)
 have hn := ro1 hro
 refine go [9,10] ?_
 refine G.op rfl (G.box rfl rfl (cs := [_, _, _]) rfl ?_)
 intro b5
 refine go [1,1,7,8,9,9,10,0] ?_
 refine G.op rfl (G.cR rfl rfl rfl rfl Try.func26 rfl rfl (may1 (.old hn)) (noneN_tr p) ?_)
 refine go [7,8,60,0,9,10,1,1,7,8,11,12] ?_
 exact G.done0G rfl (Rv.tmp rfl (Rv.tmp rfl Rv.nil)) Y2
section
variable {n : Nat} {w0 : World} {S : Nat → Prop} {l : Fr} {m : List Ck} {K : Act → World → Prop}
theorem may_actR {e : TypeId} {Pd : Nat → Prop} {v : Value} {x : AT} {r : List Ck} (h : Sel m (own e 9 v 1 (acC x)) r) (hd : Ro w0 S (slc rEV Pd x.2.1 x.2.2)) (hok : AcOk x.1) (hl : x.2.2.length ≤ 140737488355328) : May w0 S m (slc rAT (fun b => v.ownBlock = some b ∨ Pd b) v [x]) :=
 .mix (fun w hw => rows_sl9 (xs := [x]) acC_len rfl (by have h1 : w.ownsRow 0 e 9 v 1 (acC x) := hw.holds _ h.mem; simpa using h1) (fun b hb => .inl hb) fun b o y hy hP hr => by
  obtain rfl : y = x := by simpa using hy
  exact ⟨hP, hr, (hd.at hw : IsSl rEV Pd w _ _).mono fun k hk => .inr hk, hok, hl⟩) fun b hb => by
  rcases hb with hb | hb
  ·exact .inr ⟨_, h.mem, hb⟩
  exact .inl (hd.2 b hb)
theorem may_nonC {b : Nat} {p : Value} {r : List Ck} (h : Sel m (blk b 40 [.map none]) r) (hp : p = .pointer none ∨ p = .pointer (some ⟨b, 0, none⟩)) : May w0 S m (nonC p) :=
 .mix (fun w hw => by
  rcases hp with rfl | rfl
  ·exact .inl rfl
  ·exact .inr ⟨b, rfl, blk_cell h rfl w hw⟩) fun k hk => .inr ⟨_, h.mem, by
  rcases hp with rfl | rfl
  ·cases hk
  injection hk with hk
  injection hk with hk
  injection hk with hk
  exact hk.symm⟩
end
set_option maxRecDepth 20000 in
set_option maxHeartbeats 4000000 in
theorem mnone {Pd : Nat → Prop} (x : Ac) (v : Value) (ts : List ET) (hok : AcOk x) (hl : ts.length ≤ 140737488355328) : Tr Try.prog 4 #[.agg #[.int .i64 x.kd, .int .i64 x.cl, .int .i64 x.n, .int .i64 x.cm, .int .i64 x.tk, v, .int .i64 x.pa, .int .i64 x.pb, .int .i64 x.pc]] [slc rEV Pd v ts] [] (T0 (.bool true)) := by
 refine Tr.of (l := [(0, .agg #[.int .i64 x.kd, .int .i64 x.cl, .int .i64 x.n, .int .i64 x.cm, .int .i64 x.tk, v, .int .i64 x.pa, .int .i64 x.pb, .int .i64 x.pc])]) Try.func4 rfl (n := 130) rfl (.cons rfl .nil) (fun w0 hro => ?_)
 have hd := ro1 hro
 have hdv := hd
 obtain ⟨aD, cD, rfl⟩ := Ro.slv hdv
 refine go [9,10] ?_
 refine G.op rfl (G.box rfl rfl (cs := [_, _, _, _, _, _, _, _, _]) rfl ?_)
 intro b1
 refine go [1,7,8,9,9,10] ?_
 refine G.op rfl (G.val rfl rfl (pv_loadN (cs := [_, _, _, _, _, _, _, _, _]) Try.underlying31 rfl kr rfl (by first | exact blk_range (k := 9) selD (by rfl) | exact ro_rng0 (by assumption) | exact rng_range (k := 9) selD (by rfl) | exact ro_range (k := 9) (by assumption) (by rfl) | exact ro_rngR (k := 9) (by assumption) (by rfl))) ?_)
 refine G.op rfl (G.buildSlice (z := .agg #[.int .i64 0, .int .i64 0, .int .i64 0, .int .i64 0, .int .i64 0, .slice none 0 0, .int .i64 0, .int .i64 0, .int .i64 0]) (sz := 9) (cs := acC (x, .slice aD ts.length cD, ts)) rfl Try.underlying22 kr (by decide) (by decide) rfl kr ?_)
 intro b13
 refine G.ownBlk (b := b13) (k := 1) (sz := 9) selT rfl (by omega) ?_
 refine G.op rfl (G.cR rfl rfl rfl rfl Try.func9 rfl rfl (may1 (may_actR selT hd hok hl)) (long_tr _ [(x, .slice aD ts.length cD, ts)]) ?_)
 refine go [7,8] ?_
 refine G.condP rfl (fun h14 => ?_) (fun h14 => ?_)
 ·refine go [9,10] ?_
  refine G.op rfl (G.cR rfl rfl rfl rfl Try.func7 rfl rfl may0 (awake30_tr) ?_)
  refine go [1,7,8,11,12] ?_
  exact G.done0G rfl (Rv.tmp rfl Rv.nil) Y2
 refine go [13,8,9,10] ?_
 refine G.op rfl (G.val rfl rfl (pv_buildSt (z := [.map none]) (pl := [(0, 1)]) Try.underlying40 kr kr rfl flT) ?_)
 refine go [60,3] ?_
 intro b17
 refine G.op rfl (G.lit1 (vs := [.pointer none, .pointer (some ⟨b17, 0, none⟩)]) rfl Try.underlying41 kr rfl (by decide) (by decide) rfl rfl ?_)
 intro b18
 refine go [1,7,8,9,9,10,1,7,8,15] ?_
 refine G.loopK (X := Nat) (ts := [1, 3]) (fun i => i ≤ 2) (fun i => [(4, .int .i64 (i : Int))]) (fun i => []) (fun i => 2 - i) (x0 := 0) (.cons rfl (.cons rfl .nil)) subT (.cons .nil) apT (by first | exact trivial | ((try dsimp only) <;> exact Nat.zero_le _)) (.consE rfl veqT .nil) (fun i hJ => ?_)
 try dsimp only at hJ
 try dsimp only
 have hki := hJ
 refine go [9,9,10,0,0,2,5,2,9,7,8] ?_
 refine G.condP rfl (fun h22 => ?_) (fun h22 => ?_)
 ·have hi2 : i < 2 := by omega
  obtain ⟨p, hpi, hp⟩ : ∃ p, ([.pointer none, .pointer (some ⟨b17, 0, none⟩)] : List Value)[i]? = some p ∧ (p = .pointer none ∨ p = .pointer (some ⟨b17, 0, none⟩)) := by rcases (by omega : i = 0 ∨ i = 1) with rfl | rfl; exact ⟨_, rfl, .inl rfl⟩; exact ⟨_, rfl, .inr rfl⟩
  refine go [13,8,9,15,9,10,0,0] ?_
  refine G.op rfl (G.val rfl rfl (pv_ixSl (sz := 1) (k := i) Try.underlying41 kr rfl rfl (fun _ => rfl) rfl (by omega)) ?_)
  refine G.op rfl (G.val rfl rfl (pv_load (v := p) Try.underlying24 rfl rfl (blk_cell selD (by rw [← hpi]; congr 1; omega))) ?_)
  refine go [1,7,8,9,10,0,2,3,1,2,4,2,3,3,2,4,2,3,4,2,4,2,3,5,2,4] ?_
  refine G.op rfl (G.cR rfl rfl rfl rfl Try.func10 rfl rfl (may1 (may_nonC selT hp)) (noneB_tr p _ _ _ _) ?_)
  refine go [0,2,7,2,7,1,1,7,8,9,10,0,2,3,1,2,4,2,3,6] ?_
  refine G.op rfl (G.val rfl rfl (pv_loadN (cs := [_, _, _]) Try.underlying29 rfl kr rfl (by first | exact blk_range (k := 3) selD (by rfl) | exact ro_rng0 (by assumption) | exact rng_range (k := 3) selD (by rfl) | exact ro_range (k := 3) (by assumption) (by rfl) | exact ro_rngR (k := 3) (by assumption) (by rfl))) ?_)
  refine G.op rfl (G.cR rfl rfl rfl rfl Try.func13 rfl rfl (may1 (may_nonC selT hp)) (noneE_tr p _ _ _ _) ?_)
  refine go [0,2,7,2,7,1,1,7,8,9,10,0,2,3,1,2,4,2,3,2,2,4] ?_
  refine G.op rfl (G.cR rfl rfl rfl rfl Try.func14 rfl rfl (may1 (may_nonC selT hp)) (noneG_tr p _ _) ?_)
  refine go [0,2,7,2,7,1,1,7,8,9,10,0,2,3,1,2,4,2,3,2,2,4,2,3,3,2,4,2,3,4,2,4,2,3,5,2,4] ?_
  refine G.op rfl (G.cR rfl rfl rfl rfl Try.func15 rfl rfl (may1 (may_nonC selT hp)) (noneT_tr p _ _ _ _ _) ?_)
  refine G.op rfl (G.val rfl rfl ((pv_neq rfl rfl).cast (v' := .bool false) (congrArg Value.bool Y10)) ?_)
  refine go [0,3,0] ?_
  refine G.want rfl rfl rfl (G.val rfl rfl ((pv_neq rfl rfl).cast (v' := .bool false) (congrArg Value.bool Y10)) ?_)
  refine go [2,2,0,3,0] ?_
  refine G.want rfl rfl rfl (G.val rfl rfl ((pv_neq rfl rfl).cast (v' := .bool false) (congrArg Value.bool Y10)) ?_)
  refine go [2,2,0,3,0,3,3,1,3,4,3,3,2,3,4] ?_
  refine G.want rfl rfl rfl (G.cR rfl rfl rfl rfl Try.func16 rfl rfl (may1 (may_nonC selT hp)) (noneF_tr p _ _) ?_)
  refine G.want rfl rfl rfl (G.val rfl rfl ((pv_neq rfl rfl).cast (v' := .bool false) (congrArg Value.bool Y10)) ?_)
  refine go [2,2,0,3,0,3,5] ?_
  refine G.want rfl rfl rfl (G.val rfl rfl ((pv_gtr rfl rfl).cast (v' := .bool false) (congrArg Value.bool (by exact decide_eq_false (by decide)))) ?_)
  refine go [2,2,0,3,0] ?_
  refine G.want rfl rfl rfl (G.val rfl rfl ((pv_neq rfl rfl).cast (v' := .bool false) (congrArg Value.bool Y10)) ?_)
  refine go [2,2,0,3,0,3,5] ?_
  refine G.want rfl rfl rfl (G.val rfl rfl ((pv_gtr rfl rfl).cast (v' := .bool false) (congrArg Value.bool (by exact decide_eq_false (by decide)))) ?_)
  refine go [2,2,0,3,0] ?_
  refine G.want rfl rfl rfl (G.val rfl rfl ((pv_neq rfl rfl).cast (v' := .bool false) (congrArg Value.bool Y10)) ?_)
  refine go [2,2,0,3,0,3,3,1,3,4] ?_
  refine G.want rfl rfl rfl (G.cR rfl rfl rfl rfl Try.func11 rfl rfl (may1 (may_nonC selT hp)) (noneL_tr p _) ?_)
  refine go [3,5] ?_
  refine G.want rfl rfl rfl (G.val rfl rfl ((pv_gtr rfl rfl).cast (v' := .bool false) (congrArg Value.bool (by exact decide_eq_false (by decide)))) ?_)
  refine go [2,2,0,3,0,3,3,1,3,4] ?_
  refine G.want rfl rfl rfl (G.cR rfl rfl rfl rfl Try.func17 rfl rfl (may1 (may_nonC selT hp)) (noneX_tr p _) ?_)
  refine G.want rfl rfl rfl (G.val rfl rfl ((pv_neq rfl rfl).cast (v' := .bool false) (congrArg Value.bool Y10)) ?_)
  refine go [2,2,0,3,0] ?_
  refine G.want rfl rfl rfl (G.cR rfl rfl rfl rfl Try.func18 rfl rfl (may1 (may_nonC selT hp)) (noneC_tr p) ?_)
  refine go [3,5] ?_
  refine G.want rfl rfl rfl (G.val rfl rfl ((pv_gtr rfl rfl).cast (v' := .bool false) (congrArg Value.bool (by exact decide_eq_false (by decide)))) ?_)
  refine go [2,2,7,8,60,1,13,16,8,10,0,2,6,1,7] ?_
  exact G.next (i + 1) (by first | exact trivial | ((try dsimp only) <;> exact by omega)) (by (try dsimp only); omega) (.consE rfl veqT (.cons rfl (.cons rfl .nil))) subT
 refine go [18,14,14,19,8,9,10] ?_
 refine G.op rfl (G.cR rfl rfl rfl rfl Try.func7 rfl rfl may0 (awake30_tr) ?_)
 refine go [1,7,8,11] ?_
 exact G.done0G rfl (Rv.tmp rfl Rv.nil) Y2
end Go.Proofs.Ytakeannapfaodaa
set_option maxRecDepth 100000
set_option linter.unusedVariables false
set_option linter.unusedSimpArgs false
namespace Go.Proofs.Ytakeannapfaodaa
open Go.ChangeShapes Go.WideShapes Go.ChangeAt Go.RowKit Go.Deep
section
variable {H : Type} {enc : TypeId × Value → H} {W : World}
theorem opn_weak {P : Program} {α β : Type} {t : TypeId} {E : Rdr α} {F : Rdr β} (h : Opn H enc P W t E) (hs : E.sz = F.sz) (hf : ∀ Ps w b o a, E.R Ps w b o a → ∃ a', F.R Ps w b o a') : Opn H enc P W t F := ⟨h.sz.trans hs, fun fuel cs x b o hx hwt hA hb => by
 obtain ⟨a, ha⟩ := h.mem fuel cs x b o hx hwt hA hb
 exact hf _ _ _ _ _ ha⟩
theorem opn_entry : Opn H enc Try.prog W 89 rEV := by
 refine opn_weak (opn_struct Try.underlying89 (F := rProd rStrB (rProd rInt (rProd rInt (rProd (rSlB rByte) (rProd rStrB rUnit))))) kr
  (.cons (opn_str Try.underlying9 kr) rfl (.cons (opn_int Try.underlying3 kr) rfl (.cons (opn_int Try.underlying3 kr) rfl
   (.cons (opn_rSl Try.underlying87 kr (of_decide_eq_true kr) (opn_byte Try.underlying5 kr) (by decide)) rfl (.cons (opn_str Try.underlying9 kr) rfl .nil)))))) rfl ?_
 rintro Ps w b o ⟨a0, a1, a2, a3, a4, _⟩ ⟨⟨hb, h0, l0⟩, ⟨_, h1, l1⟩, ⟨_, h2, l2⟩, ⟨⟨_, d, h3, hd⟩, l3⟩, ⟨_, h4, l4⟩, _⟩
 refine ⟨(⟨a0, a1, a2, a3, a4⟩, d), hb, fun j v hj => ?_, hd, l1, l2, l0, l3, l4⟩
 have hlt : j < 5 := by
  have := (List.getElem?_eq_some_iff.1 hj).1
  exact this
 rcases (by omega : j = 0 ∨ j = 1 ∨ j = 2 ∨ j = 3 ∨ j = 4) with rfl | rfl | rfl | rfl | rfl
 ·obtain rfl : _ = v := Option.some.inj hj
  exact h0
 ·obtain rfl : _ = v := Option.some.inj hj
  exact h1
 ·obtain rfl : _ = v := Option.some.inj hj
  exact h2
 ·obtain rfl : _ = v := Option.some.inj hj
  exact h3
 obtain rfl : _ = v := Option.some.inj hj
 exact h4
end
end Go.Proofs.Ytakeannapfaodaa
set_option maxRecDepth 100000
set_option linter.unusedVariables false
set_option linter.unusedSimpArgs false
namespace Go.Proofs.Ytakeannapfaodaa
open Go.ChangeShapes Go.WideShapes Go.ChangeAt Go.RowKit Go.Deep
section
variable {H : Type} {enc : TypeId × Value → H} {W : World}
theorem open_act {v : Value} {d : DataW H} {p : List MemPlace} {r : Reach} {base : Nat} (hok : Value.okWide Try.prog W r base 31 v) (h : DataW.Trod enc Try.prog W 0 (fun _ => true) true 31 v d p)
 {ts : List TypeId} {ds : List (DataW H)} {j : Nat} (hsz : (DataW.weightsEach Try.prog ts ds).all (· ≤ reachBytes) = true) (hts : ts[j]? = some 31) (hds : ds[j]? = some d) :
 ∃ (x : Ac) (u : Value) (l : List ET), v = .agg #[.int .i64 x.kd, .int .i64 x.cl, .int .i64 x.n, .int .i64 x.cm, .int .i64 x.tk, u, .int .i64 x.pa, .int .i64 x.pb, .int .i64 x.pc] ∧ AcOk x ∧ Ro W (fun _ => False) (slc rEV (· < W.heap.size) u l) ∧ l.length ≤ 140737488355328 := by
 obtain ⟨cs, rfl, hcs⟩ := okWide_struct Try.underlying31 hok
 rw [show Try.prog.cellsOf 31 = 9 by kernel_rfl] at hcs
 obtain ⟨fuel, hf⟩ := h
 obtain ⟨xs, n, rfl, hx, hl, hxl, hxx⟩ := DataW.trod_struct Try.underlying31 hf
 have hw : ∀ k ∈ DataW.weights Try.prog 31 d, k ≤ reachBytes := fun k hk => of_decide_eq_true (List.all_eq_true.1 hsz k (DataW.weights_mem_each hts hds k hk))
 have hd : d = .agg (xs.map (·.1)) := congrArg Prod.fst hx
 subst hd
 simp only [DataW.weights, Try.underlying31] at hw
 obtain ⟨c0, c1, c2, c3, c4, c5, c6, c7, c8, rfl⟩ : ∃ c0 c1 c2 c3 c4 c5 c6 c7 c8, cs = #[c0, c1, c2, c3, c4, c5, c6, c7, c8] := by
  obtain ⟨l⟩ := cs
  match l, hcs with
  | [c0, c1, c2, c3, c4, c5, c6, c7, c8], _ => exact ⟨c0, c1, c2, c3, c4, c5, c6, c7, c8, rfl⟩
 obtain ⟨y0, y1, y2, y3, y4, y5, y6, rfl⟩ : ∃ y0 y1 y2 y3 y4 y5 y6, xs = [y0, y1, y2, y3, y4, y5, y6] := by
  match xs, hxl with
  | [y0, y1, y2, y3, y4, y5, y6], _ => exact ⟨y0, y1, y2, y3, y4, y5, y6, rfl⟩
 have f0 : DataW.trod enc Try.prog W 0 (fun _ => true) true n 3 (([c0, c1, c2, c3, c4, c5, c6, c7, c8].drop 0).take (Try.prog.cellsOf 3)) = some y0 := hxx 0 _ rfl
 have f1 : DataW.trod enc Try.prog W 0 (fun _ => true) true n 3 (([c0, c1, c2, c3, c4, c5, c6, c7, c8].drop 1).take (Try.prog.cellsOf 3)) = some y1 := hxx 1 _ rfl
 have f2 : DataW.trod enc Try.prog W 0 (fun _ => true) true n 3 (([c0, c1, c2, c3, c4, c5, c6, c7, c8].drop 2).take (Try.prog.cellsOf 3)) = some y2 := hxx 2 _ rfl
 have f3 : DataW.trod enc Try.prog W 0 (fun _ => true) true n 3 (([c0, c1, c2, c3, c4, c5, c6, c7, c8].drop 3).take (Try.prog.cellsOf 3)) = some y3 := hxx 3 _ rfl
 have f4 : DataW.trod enc Try.prog W 0 (fun _ => true) true n 3 (([c0, c1, c2, c3, c4, c5, c6, c7, c8].drop 4).take (Try.prog.cellsOf 3)) = some y4 := hxx 4 _ rfl
 have f5 : DataW.trod enc Try.prog W 0 (fun _ => true) true n 27 (([c0, c1, c2, c3, c4, c5, c6, c7, c8].drop 5).take (Try.prog.cellsOf 27)) = some y5 := hxx 5 _ rfl
 have f6 : DataW.trod enc Try.prog W 0 (fun _ => true) true n 29 (([c0, c1, c2, c3, c4, c5, c6, c7, c8].drop 6).take (Try.prog.cellsOf 29)) = some y6 := hxx 6 _ rfl
 rw [show Try.prog.cellsOf 3 = 1 by kernel_rfl] at f0 f1 f2 f3 f4
 rw [show Try.prog.cellsOf 27 = 1 by kernel_rfl] at f5
 rw [show Try.prog.cellsOf 29 = 3 by kernel_rfl] at f6
 obtain ⟨zs, n', rfl, -, -, hzl, hzz⟩ := DataW.trod_struct Try.underlying29 f6
 obtain ⟨z0, z1, z2, rfl⟩ : ∃ z0 z1 z2, zs = [z0, z1, z2] := by
  match zs, hzl with
  | [z0, z1, z2], _ => exact ⟨z0, z1, z2, rfl⟩
 have g0 : DataW.trod enc Try.prog W 0 (fun _ => true) true n' 3 (([c6, c7, c8].drop 0).take (Try.prog.cellsOf 3)) = some z0 := hzz 0 _ rfl
 have g1 : DataW.trod enc Try.prog W 0 (fun _ => true) true n' 3 (([c6, c7, c8].drop 1).take (Try.prog.cellsOf 3)) = some z1 := hzz 1 _ rfl
 have g2 : DataW.trod enc Try.prog W 0 (fun _ => true) true n' 3 (([c6, c7, c8].drop 2).take (Try.prog.cellsOf 3)) = some z2 := hzz 2 _ rfl
 rw [show Try.prog.cellsOf 3 = 1 by kernel_rfl] at g0 g1 g2
 obtain ⟨k0, e0, _, w0⟩ := DataW.trod_int Try.underlying3 f0
 obtain ⟨k1, e1, _, w1⟩ := DataW.trod_int Try.underlying3 f1
 obtain ⟨k2, e2, _, w2⟩ := DataW.trod_int Try.underlying3 f2
 obtain ⟨k3, e3, _, w3⟩ := DataW.trod_int Try.underlying3 f3
 obtain ⟨k4, e4, _, w4⟩ := DataW.trod_int Try.underlying3 f4
 obtain ⟨k6, e6, _, w6⟩ := DataW.trod_int Try.underlying3 g0
 obtain ⟨k7, e7, _, w7⟩ := DataW.trod_int Try.underlying3 g1
 obtain ⟨k8, e8, _, w8⟩ := DataW.trod_int Try.underlying3 g2
 obtain ⟨u5, es, e5, h5, l5⟩ := opn_slice (E := rEV) Try.underlying27 (of_decide_eq_true kr) opn_entry (by decide) _ _ _ f5 (fun q hq => hw q (DataW.weights_mem_each (j := 5) rfl rfl q hq))
 have q0 : c0 = .int .i64 k0 := by simpa [Value.cells] using e0
 have q1 : c1 = .int .i64 k1 := by simpa [Value.cells] using e1
 have q2 : c2 = .int .i64 k2 := by simpa [Value.cells] using e2
 have q3 : c3 = .int .i64 k3 := by simpa [Value.cells] using e3
 have q4 : c4 = .int .i64 k4 := by simpa [Value.cells] using e4
 have q6 : c6 = .int .i64 k6 := by simpa [Value.cells] using e6
 have q7 : c7 = .int .i64 k7 := by simpa [Value.cells] using e7
 have q8 : c8 = .int .i64 k8 := by simpa [Value.cells] using e8
 have q5 : c5 = u5 := by simpa [Value.cells] using e5
 subst q0 q1 q2 q3 q4 q5 q6 q7 q8
 exact ⟨⟨k0, k1, k2, k3, k4, k6, k7, k8⟩, _, es, rfl, ⟨wf_I64 w0, wf_I64 w1, wf_I64 w2, wf_I64 w3, wf_I64 w4, wf_I64 w6, wf_I64 w7, wf_I64 w8⟩, ro_new h5 fun b hb => hb, l5⟩
end
end Go.Proofs.Ytakeannapfaodaa
