/- Merged of XC, WQ, WP, XD, WN, XE, XI, XJ, KeysShelf, XK, RetM, RetN, RetF, RetG, RetH, RetI, RetA, RetE, RetJ, RetZ, XL, XF, XG, XN, XO. Conditions: none. -/
import Derived.Test.YtakeannapfaodaaEb
import Derived.Shelf.SlIterI.Nil
import Derived.Shelf.SortM.Plain
import Derived.Shelf.SortM.SortNone
import Derived.Ground.GgzProg
import Derived.Ground.SlgmProg
import Derived.Test.YtakeannapfaodaaProg
import Derived.Maps.OwnSet
import Derived.Maps.RangeWalk
import Derived.StillTailTactics
import Derived.Deep.RegionWith
namespace Go.Proofs.Ytakeannapfaodaa
open Go.RowKit
set_option linter.unusedVariables false
set_option linter.unusedSimpArgs false
set_option maxRecDepth 20000 in
set_option maxHeartbeats 4000000 in
theorem mtake_tr {Ps : Nat → Prop} (Dm bm : Nat) (st : MS) (c n k t : Int) (v : Value) (xs : List ET) (hok : okM (plM st)) (hc : I64 c) : Tr Try.prog 15 #[.pointer (some ⟨Dm, 0, none⟩), .int .i64 c, .int .i64 n, .int .i64 k, .int .i64 t, v] [slc rEV Ps v xs] [blk Dm 40 [.map (some bm)], mpc vInt I64 bm (ptrs st), clis st]
 (TX (fun st' : MS => plM st' = (takeM (plM st) c n k t (ens xs)).2) (fun _ => .int .i64 (takeM (plM st) c n k t (ens xs)).1) (fun st' => [blk Dm 40 [.map (some bm)], mpc vInt I64 bm (ptrs st'), clis st'])) := by
 refine Tr.of (l := [(0, .pointer (some ⟨Dm, 0, none⟩)), (1, .int .i64 c), (2, .int .i64 n), (3, .int .i64 k), (4, .int .i64 t), (5, v)]) Try.func15 rfl (n := 71) rfl (.cons rfl (.cons rfl (.cons rfl (.cons rfl (.cons rfl (.cons rfl .nil)))))) (fun w0 hro => ?_)
 have hv := ro1 hro
 have hel' := ens_length xs
 refine go [9,10,1,7,8,9,9,10,0] ?_
 refine G.op rfl (G.cS rfl rfl rfl rfl Try.func26 rfl rfl subT may0 (none_tr _ _) apT ?_)
 intro x16 hJ
 try dsimp only at hJ
 try dsimp only
 refine go [7,8,60,0,13,8,9,9,10,0,0,0,0,0] ?_
 refine G.op rfl (G.cR rfl rfl rfl rfl Try.func27 rfl rfl (may1 (.old hv)) (fits_tr _ _ _ _ _ _) ?_)
 refine go [1,7,8,9,10,0,2,14,7,8] ?_
 refine G.condP rfl (fun h24 => ?_) (fun h24 => ?_)
 ·refine go [9,10,0,1,7,8,11,12] ?_
  rw [takeM_fit (by assumption)]
  exact G.doneX1 (st) Y14 rfl rfl rfl subT
 have hf0 : fitE c n k t (ens xs) = 0 := Decidable.of_not_not (by assumption)
 obtain ⟨f1, f2, f3, f4, f5, f6⟩ := fitE_zero hf0
 refine go [13,8,9,10,0,0] ?_
 refine G.op rfl (G.cS rfl rfl rfl rfl Try.func28 rfl rfl subT may0 (of_tr _ _ _ _ (by assumption)) apT ?_)
 intro x28 hJ
 obtain ⟨zb, zv, zg, zs⟩ := x28
 try dsimp only at hJ
 try dsimp only
 have hz : IsCl st c ⟨zb, zv, zg, zs⟩ := hJ
 have hpl : plGet (plM st) c = (zg, sps zs) := hz.pl
 have hokc := hok.get c
 rw [hpl] at hokc
 obtain ⟨⟨hg1, hg2⟩, hsl, hss⟩ := hokc
 have hsl : zs.length ≤ 64 := by rw [← sps_length]; exact hsl
 refine G.cliOpen selT ?_
 refine G.ownOpen (v := zv) selT (fun za zc hzv _ _ => ?_)
 subst hzv
 refine go [1,7,8,9,15,9,10,0,0,2,8,2,3,1,2,4,2,11,1,7,8] ?_
 refine G.condP rfl (fun h29 => ?_) (fun h29 => ?_)
 ·refine go [9,10,1,7,8,11,17,12] ?_
  rw [takeM_there hf0 (by rw [hpl]; assumption)]
  refine G.cliMk (zb := zb) (zv := .slice za zs.length zc) (zg := zg) (zs := zs) subT ?_
  refine G.cliBack hz selT selT ?_
  exact G.doneX1 (st) Y14 rfl rfl rfl subT
 refine go [9,10,0,2,8,2,3,0,2,3,0,2,4,2,5,2,12,1,7,8] ?_
 refine G.condP rfl (fun h36 => ?_) (fun h36 => ?_)
 ·refine go [9,10,1,7,8,11,17,12] ?_
  rw [takeM_full hf0 (by rw [hpl]; assumption) (by rw [hpl, sps_length]; assumption)]
  refine G.cliMk (zb := zb) (zv := .slice za zs.length zc) (zg := zg) (zs := zs) subT ?_
  refine G.cliBack hz selT selT ?_
  exact G.doneX1 (st) Y14 rfl rfl rfl subT
 refine go [13,16,8,9] ?_
 refine G.drawT (nn := 18) (p := [blk zb 74 _, own 70 4 _ _ _]) (rem := 262143) [0, 0, 2, 4, 8, 16, 0, 0, 0, 0, 512, 1472, 2048, 5152, 16383, 32767, 49151, 81919] [0, 0, 2, 4, 8, 16, 0, 0, 0, 0, 512, 1472, 2048, 4128, 1, 16384, 32768, 73728] kr ⟨rfl, by kernel_rfl, by kernel_rfl⟩ subT kr (fun hT11 => ?_)
 refine go [22,0,262142,0,22,1,262140,0,22,2,262136,8,22,3,262128,3,0,22,4,262112,3,0,22,6,262048,0,22,7,261920,0,22,8,261664,0,22,9,261152,0] ?_
 refine G.twoT hT11 (i := 5) (j := 10) (rem' := 261120) (rem'' := 260128) kr kr kr ?_ ?_
 ·refine go [25,4,26,24,10,260096] ?_
  refine G.turnOp rfl rfl (G.cS rfl rfl rfl rfl Try.func33 rfl rfl subT (may1 (.old hv)) (mclone_tr _ _ (by omega)) apT ?_)
  intro x54 hJ
  obtain ⟨v', l'⟩ := x54
  try dsimp only at hJ
  try dsimp only
  have hel : ens l' = ens xs := hJ
  refine G.ownFact (v := v') selT (fun hv'1 _ => ?_)
  refine go [26] ?_
  refine G.takeT hT11 (i := 11) (rem' := 258048) rfl rfl rfl kr (fun _ _ _ h => h) rfl (pv_buildSt (z := [.int .i64 0, .int .i64 0, .int .i64 0, .slice none 0 0]) (pl := [(0, 1), (1, 1), (2, 1), (3, 1)]) Try.underlying70 kr kr rfl flT) subT ?_
  refine go [24,12,253952] ?_
  refine G.turnOp rfl rfl (G.buildSlice (z := .agg #[.int .i64 0, .int .i64 0, .int .i64 0, .slice none 0 0]) (sz := 4) (cs := snC ⟨n, k, t, v', l'⟩) rfl Try.underlying68 kr (by decide) (by decide) rfl kr ?_)
  intro b56
  refine go [26,24,13,245760] ?_
  refine G.turnOp rfl rfl (G.append (k := zs.length) (j := 1) (cs := zs.flatMap snC) (news := snC ⟨n, k, t, v', l'⟩) (b := b56) (off := 0) rfl Try.underlying68 Try.infoSn rfl rfl rfl selT (fun _ => rfl) (fun h => by cases h) rfl (blk_news (k := 4) selT rfl) (snC_one hv'1) (by omega) (by omega) ?_)
  intro vn
  rw [snC_app, show zs.length + 1 = (zs ++ [(⟨n, k, t, v', l'⟩ : ST)]).length from by rw [List.length_append]; rfl]
  refine G.ownFact (v := vn) selT (fun hvn _ => ?_)
  refine go [26,22,14,229376,8,22,15,196608,3,0,22,16,131072,3,0,24,17,0,30,26,27,8,9,10,0,0,2,8,2,3,1,21,7,8,9,10,0,2,8,2,3,0,2,4,0,0] ?_
  refine G.op rfl (G.mapSet (f := vInt) (ok := I64) (x := c) (v := .pointer (some ⟨zb, 0, none⟩)) (xs := ptrs st) keyN Try.underlying38 rfl rfl rfl hc selT ?_)
  refine go [7,8,9,10,1,7,8,11] ?_
  rw [takeM_new hf0 (by rw [hpl]; assumption) (by rw [hpl, sps_length]; assumption)]
  refine G.treesSnoc (ss := zs) (s := ⟨n, k, t, v', l'⟩) selT selT selT ?_
  refine G.cliMk (zb := zb) (zv := vn) (zg := n) (zs := zs ++ [⟨n, k, t, v', l'⟩]) subT ?_
  refine G.cliIn (st := st) (c := c) (z := ⟨zb, vn, n, zs ++ [⟨n, k, t, v', l'⟩]⟩) selT selT ?_
  rw [← ptrs_set st c ⟨zb, vn, n, zs ++ [⟨n, k, t, v', l'⟩]⟩ hz.b]
  exact G.doneX1 (stSet st c ⟨zb, vn, n, zs ++ [⟨n, k, t, v', l'⟩]⟩) Y10 rfl rfl rfl subT
 refine G.turnOp rfl rfl (G.cS rfl rfl rfl rfl Try.func33 rfl rfl subT (may1 (.old hv)) (mclone_tr _ _ (by omega)) apT ?_)
 intro x54 hJ
 obtain ⟨v', l'⟩ := x54
 try dsimp only at hJ
 try dsimp only
 have hel : ens l' = ens xs := hJ
 refine G.ownFact (v := v') selT (fun hv'1 _ => ?_)
 refine go [26] ?_
 refine G.takeT hT11 (i := 11) (rem' := 258080) rfl rfl rfl kr (fun _ _ _ h => h) rfl (pv_buildSt (z := [.int .i64 0, .int .i64 0, .int .i64 0, .slice none 0 0]) (pl := [(0, 1), (1, 1), (2, 1), (3, 1)]) Try.underlying70 kr kr rfl flT) subT ?_
 refine G.twoT hT11 (i := 5) (j := 12) (rem' := 258048) (rem'' := 253984) kr kr kr ?_ ?_
 ·refine go [25,4,26,24,12,253952] ?_
  refine G.turnOp rfl rfl (G.buildSlice (z := .agg #[.int .i64 0, .int .i64 0, .int .i64 0, .slice none 0 0]) (sz := 4) (cs := snC ⟨n, k, t, v', l'⟩) rfl Try.underlying68 kr (by decide) (by decide) rfl kr ?_)
  intro b56
  refine go [26,24,13,245760] ?_
  refine G.turnOp rfl rfl (G.append (k := zs.length) (j := 1) (cs := zs.flatMap snC) (news := snC ⟨n, k, t, v', l'⟩) (b := b56) (off := 0) rfl Try.underlying68 Try.infoSn rfl rfl rfl selT (fun _ => rfl) (fun h => by cases h) rfl (blk_news (k := 4) selT rfl) (snC_one hv'1) (by omega) (by omega) ?_)
  intro vn
  rw [snC_app, show zs.length + 1 = (zs ++ [(⟨n, k, t, v', l'⟩ : ST)]).length from by rw [List.length_append]; rfl]
  refine G.ownFact (v := vn) selT (fun hvn _ => ?_)
  refine go [26,22,14,229376,8,22,15,196608,3,0,22,16,131072,3,0,24,17,0,30,26,27,8,9,10,0,0,2,8,2,3,1,21,7,8,9,10,0,2,8,2,3,0,2,4,0,0] ?_
  refine G.op rfl (G.mapSet (f := vInt) (ok := I64) (x := c) (v := .pointer (some ⟨zb, 0, none⟩)) (xs := ptrs st) keyN Try.underlying38 rfl rfl rfl hc selT ?_)
  refine go [7,8,9,10,1,7,8,11] ?_
  rw [takeM_new hf0 (by rw [hpl]; assumption) (by rw [hpl, sps_length]; assumption)]
  refine G.treesSnoc (ss := zs) (s := ⟨n, k, t, v', l'⟩) selT selT selT ?_
  refine G.cliMk (zb := zb) (zv := vn) (zg := n) (zs := zs ++ [⟨n, k, t, v', l'⟩]) subT ?_
  refine G.cliIn (st := st) (c := c) (z := ⟨zb, vn, n, zs ++ [⟨n, k, t, v', l'⟩]⟩) selT selT ?_
  rw [← ptrs_set st c ⟨zb, vn, n, zs ++ [⟨n, k, t, v', l'⟩]⟩ hz.b]
  exact G.doneX1 (stSet st c ⟨zb, vn, n, zs ++ [⟨n, k, t, v', l'⟩]⟩) Y10 rfl rfl rfl subT
 refine G.turnOp rfl rfl (G.buildSlice (z := .agg #[.int .i64 0, .int .i64 0, .int .i64 0, .slice none 0 0]) (sz := 4) (cs := snC ⟨n, k, t, v', l'⟩) rfl Try.underlying68 kr (by decide) (by decide) rfl kr ?_)
 intro b56
 refine go [26,24,5,253952,25,4,26,24,13,245760] ?_
 refine G.turnOp rfl rfl (G.append (k := zs.length) (j := 1) (cs := zs.flatMap snC) (news := snC ⟨n, k, t, v', l'⟩) (b := b56) (off := 0) rfl Try.underlying68 Try.infoSn rfl rfl rfl selT (fun _ => rfl) (fun h => by cases h) rfl (blk_news (k := 4) selT rfl) (snC_one hv'1) (by omega) (by omega) ?_)
 intro vn
 rw [snC_app, show zs.length + 1 = (zs ++ [(⟨n, k, t, v', l'⟩ : ST)]).length from by rw [List.length_append]; rfl]
 refine G.ownFact (v := vn) selT (fun hvn _ => ?_)
 refine go [26,22,14,229376,8,22,15,196608,3,0,22,16,131072,3,0,24,17,0,30,26,27,8,9,10,0,0,2,8,2,3,1,21,7,8,9,10,0,2,8,2,3,0,2,4,0,0] ?_
 refine G.op rfl (G.mapSet (f := vInt) (ok := I64) (x := c) (v := .pointer (some ⟨zb, 0, none⟩)) (xs := ptrs st) keyN Try.underlying38 rfl rfl rfl hc selT ?_)
 refine go [7,8,9,10,1,7,8,11] ?_
 rw [takeM_new hf0 (by rw [hpl]; assumption) (by rw [hpl, sps_length]; assumption)]
 refine G.treesSnoc (ss := zs) (s := ⟨n, k, t, v', l'⟩) selT selT selT ?_
 refine G.cliMk (zb := zb) (zv := vn) (zg := n) (zs := zs ++ [⟨n, k, t, v', l'⟩]) subT ?_
 refine G.cliIn (st := st) (c := c) (z := ⟨zb, vn, n, zs ++ [⟨n, k, t, v', l'⟩]⟩) selT selT ?_
 rw [← ptrs_set st c ⟨zb, vn, n, zs ++ [⟨n, k, t, v', l'⟩]⟩ hz.b]
 exact G.doneX1 (stSet st c ⟨zb, vn, n, zs ++ [⟨n, k, t, v', l'⟩]⟩) Y10 rfl rfl rfl subT
set_option maxRecDepth 100000
section
variable {P : Program} {n : Nat} {w0 : World} {S : Nat → Prop} {l : Fr} {m : List Ck} {Q : Exit → Act → World → Prop} {K : Act → World → Prop} {r : Option Nat} {ds : List Deferred}
def TrYr (P : Program) (lp : Nat) (args : Array Value) (ro pre : List Ck) (post : Value → List Ck → Prop) : Prop :=
 ∀ w, (∀ c ∈ ro, Ro w (U pre) c) → Hp w (U pre) w pre → YieldAt Fence.wide 0 P lp args w fun e w' => ∃ v m', e = .returned v ∧ post v m' ∧ Hp w (U pre) w' m'
theorem IL.yieldR {X : Type} {J : X → Prop} {V : X → Value} {M M' : X → List Ck} {o : Oper} {d lp : Nat} {x : Operand} {xs : List Operand} {ts : Array TypeId} {vs : List Value} {ro pre q : List Ck} (hd : o.dst = some d) (hn : Nat.blt d n = true)
 (ho : o.op = .call { callee := .value x, args := xs.toArray, argTypes := ts }) (hv : ev l x = some (.func (.yield lp) #[] #[])) (hx : evs l xs = some vs)
 (hm : Sub m pre q) (hro : ∀ c ∈ ro, May w0 S q c) (ht : TrYr P lp vs.toArray ro pre (TX J V M)) (hM : Ap M q M') (h : ∀ x, J x → G n w0 S ((d, V x) :: l) (M' x) (dq ds K)) : G n w0 S l m (dq ds (fun a w => o.wpIn (fR none) 0 P a w K Q)) := fun a w ha hw => by
 have hw' := hw.perm hm.perm
 have hp : Hp w (U pre) w pre := ⟨Chg.refl _ _, fun c hc => hw'.holds c (List.mem_append_left _ hc), fun c hc b hb => ⟨.inl ⟨c, hc, hb⟩, (hw'.own c (List.mem_append_left _ hc) b hb).2⟩, (List.pairwise_append.1 hw'.dis).1⟩
 obtain ⟨fn, tmps, assign, body, hy, hR⟩ := ht w (fun c hc => (hro c hc).ro hw') hp
 refine ⟨fun _ _ => trivial, ?_⟩
 have hrun : (o.semAt (fR none).round (da ds a).eval).run P w = .ok (.round lp fn tmps assign body) w := by
  rw [da_eval]
  show (execOp a.eval o).run P w = _
  have e1 : xs.toArray.map a.eval = vs.toArray := by rw [← ha.evs hx]; simp
  simp [execOp, ho, resolve, Deferred.ofValue, e1, ha.eval hv, invoke, Sem.run_bind, Sem.run_pure, Result.andThen, hy]
 rw [hrun, Oper.uponIn_round]
 refine ⟨fun h => by simp [fR, Fence.wide] at h, hR.mono ?_⟩
 rintro e w2 ⟨v, m', rfl, ⟨x, hJ, rfl, rfl⟩, hm'⟩
 show K ((da ds a).put _ _) _
 rw [da_put, hd]
 have := hw'.turn hm'
 rw [hM.eq x] at this
 exact h x hJ _ _ (ha.put hn _) this
def SeqR (P : Program) (g : FuncId) (lb : Array Value) (ro pre : List Ck) (nn : Nat) (encs : Nat → List Value) : Prop :=
 ∀ (rr : List Ck) (lp : Nat) (X : Type) (J : Bool → Nat → X → Prop) (C : Bool → Nat → X → Ck) (x0 : X), J true 0 x0 →
  (∀ i x, i < nn → J true i x → TrYr P lp (encs i).toArray rr [C true i x] (TX (fun z : Bool × X => J z.1 (i + 1) z.2) (fun z => .bool z.1) (fun z => [C z.1 (i + 1) z.2]))) →
  Tr P g (#[.func (.yield lp) #[] #[]] ++ lb) (rr ++ ro) (C true 0 x0 :: pre) (TX (fun z : Bool × Nat × X => J z.1 z.2.1 z.2.2 ∧ z.2.1 ≤ nn ∧ (z.1 = true → z.2.1 = nn)) (fun _ => .tuple #[]) (fun z => [C z.1 z.2.1 z.2.2]))
end
section
variable {P : Program} {n : Nat} {w0 : World} {S : Nat → Prop} {l : Fr} {m : List Ck} {Q : Exit → Act → World → Prop} {K : Act → World → Prop} {r : Option Nat} {ds : List Deferred}
theorem I.asgA {Z : Type} {L : Z → Fr} {M2 : Z → List Ck} {m1 : List Ck} {Q' : Exit → Act → World → Prop} (z : Z) (hl : Fw l (L z)) (hm : m = M2 z ++ m1) : G n w0 S l m (dq [] (Exit.then (fun a w => ∃ z, At a n (L z) ∧ Hp w0 S w (M2 z ++ m1)) Q' .normal)) := fun a w ha hw => by
 unfold dq
 rw [da_nil ha]
 exact ⟨z, ha.weak hl, hm ▸ hw⟩
theorem I.round2A {X Z : Type} {fnx p1 p2 D lp i : Nat} {a : Act} {assign body : Code} {v1 v2 : Value} {l2 : Z → Fr} {M2 : Z → List Ck} {J : Bool → Nat → X → Prop} {B : Bool → Nat → X → List Ck} {jmp : X → Code} {x : X} {rr : List Ck} (ha : At a n l) (hp1 : Nat.blt p1 n = true) (hp2 : Nat.blt p2 n = true)
 (hassign : ∀ w1 S1 m1, G n w1 S1 ((p2, v2) :: (p1, v1) :: l) m1 (dq [] (assign.wpIn (fR (some lp)) 0 P (Exit.then (fun a w => ∃ z, At a n (l2 z) ∧ Hp w1 S1 w (M2 z ++ m1)) (fun _ _ _ => False)))))
 (hbody : ∀ w1 S1 c z, (∀ c ∈ rr, Ro w1 S1 c) → G n w1 S1 (l2 z) (c :: (B true i x ++ M2 z)) (dq [] (body.wpIn (fR (some lp)) 0 P (rnd w1 S1 J B jmp c i)))) :
 TrYr P lp [v1, v2].toArray rr [cL (recL fnx a.tmps p1 p2 assign body D) lp D B jmp true i x] (TX (fun z : Bool × X => J z.1 (i + 1) z.2) (fun z => .bool z.1) (fun z => [cL (recL fnx a.tmps p1 p2 assign body D) lp D B jmp z.1 (i + 1) z.2])) := by
 intro w1 hrr hw1
 have hds : a.defers = [] := ha.defs
 obtain ⟨S1, hS1⟩ : ∃ S1, U [cL (recL fnx a.tmps p1 p2 assign body D) lp D B jmp true i x] = S1 := ⟨_, rfl⟩
 rw [hS1] at hw1 hrr ⊢
 have hu : Hp w1 S1 w1 (obc lp (.loop (recL fnx a.tmps p1 p2 assign body D .ready none)) :: dfr D :: B true i x) := by
  have := Hp.unstar hw1
  rw [List.append_nil] at this
  exact this
 have hl : w1.heap[lp]? = some (.loop (recL fnx a.tmps p1 p2 assign body D .ready none)) := hu.holds _ (List.mem_cons_self ..)
 have hy := run_yield (P := P) (args := #[v1, v2]) hl rfl
 refine ⟨_, _, _, _, hy, roundIn_of_wpIn (F := Fence.wide) trivial ?_⟩
 have hA : At (n := n) { tmps := (a.tmps.setIfInBounds p1 v1).setIfInBounds p2 v2, defers := [] } ((p2, v2) :: (p1, v1) :: l) := by
  have h2 := (ha.put hp1 v1).put hp2 v2
  have e : ((a.put (some p1) v1).put (some p2) v2) = { tmps := (a.tmps.setIfInBounds p1 v1).setIfInBounds p2 v2, defers := [] } := by
   simp [Act.put, hds]
  rwa [e] at h2
 have h3 := hassign w1 S1 _ _ w1 hA hu
 unfold dq at h3
 rw [da_nil hA] at h3
 have eT : ((#[p1, p2] : Array Nat).zip #[v1, v2]).foldl (fun t (x : Nat × Value) => t.setIfInBounds x.1 x.2) a.tmps = (a.tmps.setIfInBounds p1 v1).setIfInBounds p2 v2 := by simp
 show assign.wpIn (fR (some lp)) 0 P _ { tmps := ((#[p1, p2] : Array Nat).zip #[v1, v2]).foldl (fun t (x : Nat × Value) => t.setIfInBounds x.1 x.2) a.tmps, defers := [] } w1
 rw [eT]
 refine wpIn_mono h3 ?_
 intro e a1 w2 hq
 cases e with
 | exit id => exact hq.elim
 | goto t => exact hq.elim
 | ret => exact hq.elim
 | panic ch => exact hq.elim
 | outgrown => exact hq.elim
 | normal =>
  obtain ⟨z, hA1, hH0⟩ := hq
  have hH1 : Hp w1 S1 w2 (obc lp (.loop (recL fnx a.tmps p1 p2 assign body D .ready none)) :: dfr D :: (B true i x ++ M2 z)) := hH0.perm List.perm_append_comm
  have hl1 : w2.heap[lp]? = some (.loop (recL fnx a.tmps p1 p2 assign body D .ready none)) := hH1.holds _ (List.mem_cons_self ..)
  have hbr := run_beginRound (P := P) hl1 rfl
  refine ⟨_, hbr, ?_⟩
  have hH2 := Hp.putO (.loop (recL fnx a.tmps p1 p2 assign body D .busy none)) hH1
  have hH3 := Hp.star (m := [_, _]) (r := B true i x ++ M2 z) hH2
  have h4 := hbody w1 S1 _ z hrr a1 _ hA1 hH3
  unfold dq at h4
  rw [da_nil hA1] at h4
  refine wpIn_mono h4 ?_
  intro e a2 w4 hq
  cases e with
  | normal =>
   obtain ⟨y, hJy, hH4⟩ := hq
   exact I.fin (b := true) hJy rfl hH4
  | ret =>
   obtain ⟨y, hJy, hj, hH4⟩ := hq
   exact I.fin (b := false) hJy (by rw [← hj]; rfl) hH4
  | exit k =>
   obtain ⟨y, hJy, hj, hH4⟩ := hq
   exact I.fin (b := false) hJy (by rw [← hj]; rfl) hH4
  | goto t => exact hq.elim
  | panic ch => exact hq.elim
  | outgrown => exact hq.elim
theorem I.rangeF2A {X Z : Type} {gf nn p1 p2 : Nat} {lb : Array Value} {rr ro pre q : List Ck} {encs : Nat → Value × Value} {g : Operand} {assign body : Code} {fn : Func} {c : Code}
 (J : Bool → Nat → X → Prop) (B : Bool → Nat → X → List Ck) (jmp : X → Code) (M2 : Nat → Z → List Ck) (L2 : Nat × Z → Fr) {x0 : X}
 (hg : ev l g = some (.func (.func gf) #[] lb)) (hf : P.funcs[gf]? = some fn) (hb : fn.body = some c) (hnm : (fn.name == "runtime.NumGoroutine") = false)
 (hseq : SeqR P gf lb ro pre nn (fun i => [(encs i).1, (encs i).2]))
 (hm : Sub m (B true 0 x0 ++ pre) q) (hro : ∀ c ∈ rr ++ ro, May w0 S q c) (h0 : J true 0 x0)
 (hp1 : Nat.blt p1 n = true) (hp2 : Nat.blt p2 n = true)
 (hassign : ∀ w1 S1 lp m1 i, i < nn → G n w1 S1 ((p2, (encs i).2) :: (p1, (encs i).1) :: l) m1 (dq [] (assign.wpIn (fR (some lp)) 0 P (Exit.then (fun a w => ∃ z, At a n (L2 (i, z)) ∧ Hp w1 S1 w (M2 i z ++ m1)) (fun _ _ _ => False)))))
 (hbody : ∀ w1 S1 lp c i x z, i < nn → J true i x → (∀ c ∈ rr, Ro w1 S1 c) → G n w1 S1 (L2 (i, z)) (c :: (B true i x ++ M2 i z)) (dq [] (body.wpIn (fR (some lp)) 0 P (rnd w1 S1 J B jmp c i))))
 (hdone : ∀ D x, J true nn x → G n w0 S l (dfr D :: (B true nn x ++ q)) (dq (mark D) (Q .normal)))
 (hstop : ∀ D i x, i ≤ nn → J false i x → G n w0 S l (dfr D :: (B false i x ++ q)) (dq (mark D) ((jmp x).wpIn (fR none) 0 P Q))) :
 G n w0 S l m (dq [] ((Code.rangeFunc g #[p1, p2] assign body).wpIn (fR none) 0 P Q)) := fun a w ha hw => by
 unfold dq
 rw [da_nil ha]
 have hds : a.defers = [] := ha.defs
 have hw' := hw.perm hm.perm
 refine wpIn_rangeFunc (F := fR none) (n := 0) ?_
 intro fnx _
 obtain ⟨W1, hW1⟩ : ∃ W1, (w.alloc (.deferred (some []))).alloc (.loop (recL fnx a.tmps p1 p2 assign body w.heap.size .ready none)) = W1 := ⟨_, rfl⟩
 have hp1W : Hp w0 S W1 (cL (recL fnx a.tmps p1 p2 assign body w.heap.size) (w.heap.size + 1) w.heap.size B jmp true 0 x0 :: pre ++ q) := by
  rw [← hW1]
  have h2 := (hw'.allocO (.deferred (some []))).allocO (.loop (recL fnx a.tmps p1 p2 assign body w.heap.size .ready none))
  rw [World.size_alloc, List.append_assoc] at h2
  exact Hp.star (m := _ :: _ :: B true 0 x0) (r := pre ++ q) h2
 have hT := hseq rr (w.heap.size + 1) X J (cL (recL fnx a.tmps p1 p2 assign body w.heap.size) (w.heap.size + 1) w.heap.size B jmp) x0 h0 fun i x hi hJ => I.round2A (l2 := fun z => L2 (i, z)) (M2 := M2 i) ha hp1 hp2 (fun w1 S1 m1 => hassign w1 S1 _ m1 i hi) (fun w1 S1 c z hr => hbody w1 S1 _ c i x z hi hJ hr)
 have hpp : Hp W1 (U (cL (recL fnx a.tmps p1 p2 assign body w.heap.size) (w.heap.size + 1) w.heap.size B jmp true 0 x0 :: pre)) W1 (cL (recL fnx a.tmps p1 p2 assign body w.heap.size) (w.heap.size + 1) w.heap.size B jmp true 0 x0 :: pre) := ⟨Chg.refl _ _, fun c hc => hp1W.holds c (List.mem_append_left _ hc), fun c hc b hb => ⟨.inl ⟨c, hc, hb⟩, (hp1W.own c (List.mem_append_left _ hc) b hb).2⟩, (List.pairwise_append.1 hp1W.dis).1⟩
 have hcall := hT W1 (fun c hc => (hro c hc).ro hp1W) hpp
 have henter : (Instr.enterLoop fnx a.tmps #[p1, p2] assign body (fR none).round).run P w = .ok (w.heap.size + 1, mark w.heap.size) W1 := by
  rw [← hW1]
  exact run_enterLoop_outer _ _ _ _ _
 have hres : (resolve a.eval (rangeCall g (w.heap.size + 1)) 0).run P W1 = .ok { target := .fn (.func gf) lb, args := #[.func (.yield (w.heap.size + 1)) #[] #[]] } W1 := by
  simp only [resolve, rangeCall, ha.eval hg]
  simp [Deferred.ofValue, Sem.run_bind, Sem.run_pure, Result.andThen, Act.eval, Sem.run]
 have hinv := run_invokeF (P := P) (args := #[.func (.yield (w.heap.size + 1)) #[] #[]]) (cap := lb) hf hb hnm W1
 have hz : (fR none).depth.isSome = true → 1 ≤ 0 := fun h => by simp [fR, Fence.wide] at h
 suffices hfin : CallsIn (fR none) 0 P gf (#[.func (.yield (w.heap.size + 1)) #[] #[]] ++ lb) W1 (rangePost (fR none) 0 P (w.heap.size + 1) Q { a with defers := mark w.heap.size ++ a.defers }) from
  ⟨w.heap.size + 1, mark w.heap.size, W1, _, W1, gf, _, W1, henter, hres, fun _ _ => trivial, hinv, hz, hfin⟩
 refine calls_fR (callsIn_wide.2 (hcall.mono ?_))
 rintro e w3 ⟨v, m', rfl, ⟨⟨b, i, y⟩, ⟨hJ, hle, hall⟩, rfl, rfl⟩, hm'⟩
 have hu2 := Hp.unstar (m := _ :: _ :: B b i y) (r := q) (hp1W.turn hm')
 have hl3 : w3.heap[w.heap.size + 1]? = some (.loop (recL fnx a.tmps p1 p2 assign body w.heap.size (stL b) (peL jmp b y))) := hu2.holds _ (List.mem_cons_self ..)
 have hend := run_endLoop (P := P) hl3 (by cases b <;> simp [recL, stL])
 have hu3 := (Hp.putO (.loop { recL fnx a.tmps p1 p2 assign body w.heap.size (stL b) (peL jmp b y) with state := .exhausted }) hu2).tail
 have eD : ({ a with defers := mark w.heap.size ++ a.defers } : Act) = da (mark w.heap.size) a := by
  unfold da
  rw [hds]
  rfl
 refine ⟨_, _, hend, ?_⟩
 rw [eD]
 cases b with
 | true =>
  have hJ' : i = nn := hall rfl
  subst hJ'
  exact hdone _ y hJ a _ ha hu3
 | false => exact hstop _ i y hle hJ a _ ha hu3
theorem I.rangeK2A {X Z : Type} {gf nn p1 p2 : Nat} {lb : Array Value} {rr ro pre q : List Ck} {encs : Nat → Value × Value} {g : Operand} {assign body : Code} {fn : Func} {c : Code}
 (J : Bool → Nat → X → Prop) (B : Bool → Nat → X → List Ck) (jmp : X → Code) (M2 : Nat → Z → List Ck) (A : Nat × Z → Fr) {x0 : X} {ts : List Nat} {l1 : Fr} {L2 : Nat × Z → Fr}
 (hg : ev l g = some (.func (.func gf) #[] lb)) (hf : P.funcs[gf]? = some fn) (hb : fn.body = some c) (hnm : (fn.name == "runtime.NumGoroutine") = false)
 (hseq : SeqR P gf lb ro pre nn (fun i => [(encs i).1, (encs i).2]))
 (hm : Sub m (B true 0 x0 ++ pre) q) (hro : ∀ c ∈ rr ++ ro, May w0 S q c) (h0 : J true 0 x0)
 (hp1 : Nat.blt p1 n = true) (hp2 : Nat.blt p2 n = true) (hk : Kp l ts l1) (hL : Ap A l1 L2)
 (hassign : ∀ w1 S1 lp m1 i, i < nn → G n w1 S1 ((p2, (encs i).2) :: (p1, (encs i).1) :: l) m1 (dq [] (assign.wpIn (fR (some lp)) 0 P (Exit.then (fun a w => ∃ z, At a n (L2 (i, z)) ∧ Hp w1 S1 w (M2 i z ++ m1)) (fun _ _ _ => False)))))
 (hbody : ∀ w1 S1 lp c i x z, i < nn → J true i x → (∀ c ∈ rr, Ro w1 S1 c) → G n w1 S1 (L2 (i, z)) (c :: (B true i x ++ M2 i z)) (dq [] (body.wpIn (fR (some lp)) 0 P (rnd w1 S1 J B jmp c i))))
 (hdone : ∀ D x, J true nn x → G n w0 S l (dfr D :: (B true nn x ++ q)) (dq (mark D) (Q .normal)))
 (hstop : ∀ D i x, i ≤ nn → J false i x → G n w0 S l (dfr D :: (B false i x ++ q)) (dq (mark D) ((jmp x).wpIn (fR none) 0 P Q))) :
 G n w0 S l m (dq [] ((Code.rangeFunc g #[p1, p2] assign body).wpIn (fR none) 0 P Q)) :=
 I.rangeF2A J B jmp M2 L2 hg hf hb hnm hseq hm hro h0 hp1 hp2 hassign hbody hdone hstop
end
set_option maxRecDepth 20000 in
set_option maxHeartbeats 4000000 in
theorem sback_tr (v : Value) (hv : v.oneCell' = true) : Tr Try.prog 29 #[v] [] [] (TX (fun _ : Nat => True) (fun b => .func (.func 42) #[] #[.pointer (some ⟨b, 0, none⟩)]) (fun b => [blk b 68 [v]])) := by
 refine Tr.of (l := [(0, v)]) Try.func29 rfl (n := 4) rfl (.cons rfl .nil) (fun w0 hro => ?_)
 refine go [9,10] ?_
 refine G.op rfl (G.box rfl rfl (cs := [v]) (cells_of hv) ?_)
 intro b1
 refine go [1,7,8,9,10,2,26,1,7,8,11] ?_
 exact G.doneX1 (b1) trT rfl rfl Y4 subT
set_option maxRecDepth 20000 in
set_option maxHeartbeats 4000000 in
theorem sback_seq {Pv : Nat → Prop} (v : Value) (xs : List ST) (bb : Nat) : SeqR Try.prog 42 #[.pointer (some ⟨bb, 0, none⟩)] [slc rSn Pv v xs] [blk bb 68 [v]] xs.length (fun k => [.int .i64 ((xs.length : Int) - 1 - (k : Int)), .agg (snC (sbk xs k)).toArray]) := by
 intro rr lp X J C x0 h0 hY
 show Tr _ _ #[.func (.yield lp) #[] #[], .pointer (some ⟨bb, 0, none⟩)] _ _ _
 refine Tr.ofI (l := [(0, .func (.yield lp) #[] #[]), (1, .pointer (some ⟨bb, 0, none⟩))]) Try.func42 rfl (n := 19) rfl (.cons rfl (.cons rfl .nil)) (fun w0 hro => ?_)
 have hv := hro _ (List.mem_append_right _ (List.mem_cons_self ..))
 have hrr : ∀ c ∈ rr, Ro w0 _ c := fun c hc => hro c (List.mem_append_left _ hc)
 obtain ⟨av, cv, bv, fv, rfl, hcapv, hmaxv, hnilv, hadv, helv⟩ := Ro.open hv
 refine go [32,33,2,4,2,5,2,19,1,34,31,38] ?_
 refine I.loopK (X := Nat × X) (ts := [0, 1]) (fun st => st.1 ≤ xs.length ∧ J true st.1 st.2) (fun st => [(3, .int .i64 ((xs.length : Int) - 1 - (st.1 : Int)))]) (fun st => [C true st.1 st.2]) (fun st => xs.length - st.1) (x0 := (0, x0)) (.cons rfl (.cons rfl .nil)) subT (.cons .nil) apT (by first | exact trivial | ((try dsimp only) <;> exact ⟨Nat.zero_le _, h0⟩)) (.consE rfl veqT .nil) (fun st hJ => ?_)
 obtain ⟨i, x⟩ := st
 try dsimp only at hJ
 try dsimp only
 obtain ⟨hki, hJx⟩ := hJ
 refine go [32,32,33,0,2,12,34,31] ?_
 refine I.condP rfl (fun h8 => ?_) (fun h8 => ?_)
 ·have hlt : i < xs.length := by omega
  obtain ⟨j, hj⟩ : ∃ j, xs.length - 1 - i = j := ⟨_, rfl⟩
  have hjl : j < xs.length := by omega
  have hbk : sbk xs i = xs[j] := by rw [sbk_eq hlt]; congr 1
  have hE := helv j hjl
  have hR := Ro.snRng hE
  refine go [39,31,32,38,32] ?_
  refine IL.region ?_
  refine go [60,1,60,1] ?_
  refine IL.op rfl (IL.lift kr (G.val rfl rfl (pv_load Try.underlying68 rfl rfl celT) ?_))
  refine go [60,1] ?_
  refine IL.op rfl (IL.lift kr (G.val rfl rfl (pv_ixSl (sz := 4) (k := j) Try.underlying68 kr rfl rfl hadv (by omega) (by omega)) ?_))
  refine IL.op rfl (IL.lift kr (G.val rfl rfl (pv_loadN (cs := snC (sbk xs i)) Try.underlying70 rfl kr rfl (by rw [hbk]; exact fun w hw => hR.at hw)) ?_))
  refine IL.op rfl (IL.yieldR rfl rfl rfl rfl rfl subT (fun c hc => .old (hrr c hc)) (hY i x hlt hJx) apT ?_)
  intro x17 hJ
  obtain ⟨v, y⟩ := x17
  try dsimp only at hJ
  try dsimp only
  have hJ2 := hJ
  refine IL.op rfl (IL.lift kr (G.val rfl rfl (pv_not rfl) ?_))
  refine IL.nil ?_
  refine I.nThen ?_
  refine I.cond rfl (fun h18 => ?_) (fun h18 => ?_)
  ·obtain rfl : v = false := by cases v <;> simp_all
   refine go [37,36,35,35,36] ?_
   exact I.doneIr ((false, i + 1, y)) (by first | exact trivial | ((try dsimp only) <;> exact ⟨hJ2, by omega, fun h => by cases h⟩)) rfl rfl subT
  obtain rfl : v = true := by cases v <;> simp_all
  refine go [39,40,31,33,0,2,19,1,34] ?_
  exact I.next ((i + 1, y)) (by first | exact trivial | ((try dsimp only) <;> exact ⟨by omega, hJ2⟩)) (by (try dsimp only); omega) (.consE rfl veqT (.cons rfl (.cons rfl .nil))) subT
 obtain rfl : i = xs.length := by omega
 refine go [42,41,41,43] ?_
 exact I.doneI ((true, xs.length, x)) (by first | exact trivial | ((try dsimp only) <;> exact ⟨hJx, Nat.le_refl _, fun _ => rfl⟩)) rfl rfl subT
set_option maxRecDepth 20000 in
set_option maxHeartbeats 4000000 in
theorem mback_tr {Ps : Nat → Prop} (Dm bm : Nat) (st : MS) (c k t : Int) (v : Value) (xs : List ET) (hok : okM (plM st)) (hc : I64 c) : Tr Try.prog 10 #[.pointer (some ⟨Dm, 0, none⟩), .int .i64 c, .int .i64 k, .int .i64 t, v] [slc rEV Ps v xs] [blk Dm 40 [.map (some bm)], mpc vInt I64 bm (ptrs st), clis st]
 (TX (fun st' : MS => plM st' = (backM (plM st) c k t (ens xs)).2) (fun _ => .tuple #[.int .i64 (backM (plM st) c k t (ens xs)).1.1, .int .i64 (backM (plM st) c k t (ens xs)).1.2]) (fun st' => [blk Dm 40 [.map (some bm)], mpc vInt I64 bm (ptrs st'), clis st'])) := by
 refine Tr.ofM (l := [(0, .pointer (some ⟨Dm, 0, none⟩)), (1, .int .i64 c), (2, .int .i64 k), (3, .int .i64 t), (4, v)]) Try.func10 rfl (n := 66) rfl (.cons rfl (.cons rfl (.cons rfl (.cons rfl (.cons rfl .nil))))) (fun w0 hro => ?_)
 have hv := ro1 hro
 have hel' := ens_length xs
 refine go [32,33,60,2] ?_
 intro b7
 refine go [60,5] ?_
 intro b10
 refine go [60,5] ?_
 intro b11
 refine go [34,31,32,32,33,0] ?_
 refine G.op rfl (G.cS rfl rfl rfl rfl Try.func26 rfl rfl subT may0 (none_tr _ _) apT ?_)
 intro x19 hJ
 try dsimp only at hJ
 try dsimp only
 refine go [34,31] ?_
 refine I.condF rfl (rfl) ?_
 refine go [39,31,32,32,33,0,2,4,0,0] ?_
 refine G.op rfl (G.cR rfl rfl rfl rfl Try.func27 rfl rfl (may1 (.old hv)) (fits_tr _ _ _ _ _ _) ?_)
 refine go [1,34,31,32,33,0,2,14,34,31] ?_
 refine I.condP rfl (fun h26 => ?_) (fun h26 => ?_)
 ·refine go [32,33,0,21,21,34,31,37,35] ?_
  rw [backM_fit (by assumption)]
  exact I.doneM0 (st) Y14 rfl (Rv.cell1 rfl Try.underlying3 rfl celT (Rv.cell1 rfl Try.underlying32 rfl celT Rv.nil)) rfl subT
 have hf0 : fitE c 1 k t (ens xs) = 0 := Decidable.of_not_not (by assumption)
 refine go [39,31,32,33,0,0] ?_
 refine G.op rfl (G.cS rfl rfl rfl rfl Try.func28 rfl rfl subT may0 (of_tr _ _ _ _ (by assumption)) apT ?_)
 intro x30 hJ
 obtain ⟨zb, zv, zg, zs⟩ := x30
 try dsimp only at hJ
 try dsimp only
 have hz : IsCl st c ⟨zb, zv, zg, zs⟩ := hJ
 have hpl : plGet (plM st) c = (zg, sps zs) := hz.pl
 have hokc := hok.get c
 rw [hpl] at hokc
 obtain ⟨⟨hg1, hg2⟩, hsl, hss⟩ := hokc
 have hsl : zs.length ≤ 64 := by rw [← sps_length]; exact hsl
 refine G.cliOpen selT ?_
 refine G.ownOpen (v := zv) selT (fun za zc hzv _ _ => ?_)
 subst hzv
 refine G.treesOne selT (fun hone => ?_)
 have hbk1 : ∀ q, (sbk zs q).v.oneCell' = true := fun q => by unfold sbk; cases h : zs[zs.length - 1 - q]? with | none => rfl | some x => exact hone x (List.mem_of_getElem? h)
 refine go [1,34,31,32,32,33,0,2,8,2,3,0,2,3,0,2,4] ?_
 refine G.op rfl (G.cS rfl rfl rfl rfl Try.func29 rfl rfl subT may0 (sback_tr _ rfl) apT ?_)
 intro x36 hJ
 try dsimp only at hJ
 try dsimp only
 refine go [34,31,38] ?_
 refine I.rangeK2A (X := Int) (rr := [slc rSn (fun b => (Value.slice za zs.length zc).ownBlock = some b) (.slice za zs.length zc) zs]) (encs := fun i => (.int .i64 ((zs.length : Int) - 1 - (i : Int)), .agg (snC (sbk zs i)).toArray)) (ts := [7, 10, 11]) (fun b i x => (b = true → x = 0 ∧ ∀ q, q < i → ¬ (sbk zs q).c = k) ∧ (b = false → ∃ s, lastOf (sps zs) k = some s ∧ x = s.n)) (fun b i x => [blk b10 3 [.int .i64 x], blk b11 32 [.int .i64 0], blk b7 3 [.int .i64 k]]) (fun x => .ret) (fun i (yb : Nat) => [blk yb 70 (snC (sbk zs i))]) (fun p => [(15, .pointer (some ⟨p.2, 0, none⟩))]) (x0 := 0) rfl Try.func42 rfl rfl (sback_seq (Pv := (fun b => (Value.slice za zs.length zc).ownBlock = some b)) (.slice za zs.length zc) zs x36) (by show Sub _ [blk b10 3 [.int .i64 0], blk b11 32 [.int .i64 0], blk b7 3 [.int .i64 k], blk x36 68 [(.slice za zs.length zc)]] _; repeat (first | exact Sub.nil | (apply Sub.cons; (repeat (first | with_reducible exact Sel.here | exact Sel.here | apply Sel.there))))) (may2 (may_snaps selT) (may_snaps selT)) (by first | exact trivial | (exact ⟨fun _ => ⟨rfl, fun q h => absurd h (by omega)⟩, fun h => (by cases h)⟩)) rfl rfl (.cons rfl (.cons rfl (.cons rfl .nil))) (.cons .nil) ?_ ?_ ?_ ?_
 ·intro w1 S1 lp m1 i hi
  try dsimp only at hJ
  try dsimp only
  refine go [33,60,4] ?_
  intro b15
  refine G.op rfl (G.storeN (vs := snC (sbk zs i)) kr rfl rfl (List.all_eq_true.2 (snC_one (hbk1 i))) selT (by exact Nat.le_of_ble_eq_true rfl) ?_)
  rw [putN_whole _ _ (by rfl)]
  refine I.nil ?_
  exact I.asgA (Z := Nat) b15 (.consE rfl veqT (.cons rfl (.cons rfl (.cons rfl .nil)))) rfl
 ·intro w1 S1 lp c i x yb hi hJ hrr
  try dsimp only at hJ
  try dsimp only
  obtain ⟨hT, -⟩ := hJ
  obtain ⟨rfl, hno⟩ := hT rfl
  rw [show blk yb 70 (snC (sbk zs i)) = blk yb 70 [.int .i64 (sbk zs i).n, .int .i64 (sbk zs i).c, .int .i64 (sbk zs i).t, (sbk zs i).v] from rfl]
  refine go [38,32,33,2,3,1,2,4,2,4,2,13,34,31] ?_
  refine I.condP rfl (fun h42 => ?_) (fun h42 => ?_)
  ·refine go [32,33,2,3,0,2,4,21,21,34,31,37,36] ?_
   exact I.rR ((sbk zs i).n) (by first | exact trivial | ((try dsimp only) <;> exact ⟨fun h => (by cases h), fun _ => ⟨_, slast_at hi hno (by assumption), rfl⟩⟩)) rfl subT
  refine go [39,40] ?_
  exact I.rN (0) (by first | exact trivial | ((try dsimp only) <;> exact ⟨fun _ => ⟨rfl, fun q h => by rcases Nat.lt_or_ge q i with h1 | h1; exact hno q h1; obtain rfl : q = i := (by omega); assumption⟩, fun h => (by cases h)⟩)) subT
 ·intro D x hJ
  try dsimp only at hJ
  try dsimp only
  obtain ⟨hT, -⟩ := hJ
  obtain ⟨rfl, hno⟩ := hT rfl
  have hlast := slast_none hno
  refine go [40,31,32,32,33,0,2,8,2,3,1,2,4,2,13,34,31] ?_
  refine I.condP rfl (fun h49 => ?_) (fun h49 => ?_)
  ·refine go [32,33,21,21,34,31,37,35] ?_
   rw [backM_max hf0 (by rw [hpl]; exact hlast) (by rw [hpl]; assumption)]
   refine G.cliMk (zb := zb) (zv := .slice za zs.length zc) (zg := zg) (zs := zs) subT ?_
   refine G.cliBack hz selT selT ?_
   exact I.doneM (st) Y14 rfl Y9 (Rv.cell1 rfl Try.underlying3 rfl celT (Rv.cell1 rfl Try.underlying32 rfl celT Rv.nil)) rfl subT
  have hmx : ¬ zg = 2147483647 := by assumption
  refine go [39,31,32,33,0,2,8,2,3,1,2,4,2,6,1,34,31,32,32,33,0,0,0,2,4,0,0] ?_
  refine G.cliMk (zb := zb) (zv := .slice za zs.length zc) (zg := zg) (zs := zs) subT ?_
  refine G.cliBack hz selT selT ?_
  refine G.op rfl (G.cS rfl rfl rfl rfl Try.func15 rfl rfl subT (may1 (.old hv)) (mtake_tr Dm bm st c (zg + 1) k t _ xs hok hc) apT ?_)
  intro x61 hJ
  try dsimp only at hJ
  try dsimp only
  have hpt : plM x61 = (takeM (plM st) c (zg + 1) k t (ens xs)).2 := hJ
  refine go [1,34,31,32,33,0,2,14,34,31] ?_
  refine I.condP rfl (fun h63 => ?_) (fun h63 => ?_)
  ·refine go [32,33,0,21,21,34,31,37,35] ?_
   rw [backM_bad hf0 (by rw [hpl]; exact hlast) (by rw [hpl]; exact hmx) (n := zg + 1) (by rw [hpl]) (by assumption)]
   exact I.doneM (x61) (by first | exact trivial | ((try dsimp only) <;> exact hpt)) rfl Y9 (Rv.cell1 rfl Try.underlying3 rfl celT (Rv.cell1 rfl Try.underlying32 rfl celT Rv.nil)) rfl subT
  refine go [39,31,32,33,0,21,21,34,31,37] ?_
  rw [backM_new hf0 (by rw [hpl]; exact hlast) (by rw [hpl]; exact hmx) (n := zg + 1) (by rw [hpl]) (Decidable.of_not_not (by assumption))]
  exact I.doneM (x61) (by first | exact trivial | ((try dsimp only) <;> exact hpt)) rfl Y9 (Rv.cell1 rfl Try.underlying3 rfl celT (Rv.cell1 rfl Try.underlying32 rfl celT Rv.nil)) rfl subT
 intro D i x hle hJ
 try dsimp only at hJ
 try dsimp only
 obtain ⟨-, hF⟩ := hJ
 obtain ⟨s, hlast, rfl⟩ := hF rfl
 refine go [37,36,35] ?_
 rw [backM_old hf0 (by rw [hpl]; exact hlast)]
 refine G.cliMk (zb := zb) (zv := .slice za zs.length zc) (zg := zg) (zs := zs) subT ?_
 refine G.cliBack hz selT selT ?_
 exact I.doneM (st) Y14 rfl Y9 (Rv.cell1 rfl Try.underlying3 rfl celT (Rv.cell1 rfl Try.underlying32 rfl celT Rv.nil)) rfl subT
section
variable {α : Type} {f : α → List Value} {k : Nat}
theorem rows_len (hf : ∀ x, (f x).length = k) (xs : List α) : (xs.flatMap f).length = xs.length * k := flatMap_length f k hf xs
theorem rows_at (hf : ∀ x, (f x).length = k) {xs : List α} {sp : List Value} {i : Nat} (h : i < xs.length) (j : Nat) (hj : j < k) : (xs.flatMap f ++ sp)[0 + i * k + j]? = (f xs[i])[j]? := by
 have h1 : (i + 1) * k ≤ xs.length * k := Nat.mul_le_mul_right k h
 have h2 : (i + 1) * k = i * k + k := Nat.succ_mul i k
 rw [List.getElem?_append_left (by rw [rows_len hf]; omega), show 0 + i * k + j = i * k + j by omega]
 exact flatMap_get f k hf xs i j h hj
theorem rows_row (hf : ∀ x, (f x).length = k) {xs : List α} {sp : List Value} {i : Nat} (h : i < xs.length) : ((xs.flatMap f ++ sp).drop (0 + i * k)).take k = f xs[i] := by
 apply List.ext_getElem?
 intro j
 rcases Nat.lt_or_ge j k with hj | hj
 ·rw [List.getElem?_take_of_lt hj, List.getElem?_drop]
  exact rows_at hf h j hj
 rw [List.getElem?_eq_none (by rw [List.length_take]; omega), List.getElem?_eq_none (by rw [hf]; omega)]
theorem rows_fit (hf : ∀ x, (f x).length = k) {xs : List α} {sp : List Value} {i : Nat} (h : i < xs.length) (x : α) : 0 + i * k + (f x).length ≤ (xs.flatMap f ++ sp).length := by
 have h1 : (i + 1) * k ≤ xs.length * k := Nat.mul_le_mul_right k h
 have h2 : (i + 1) * k = i * k + k := Nat.succ_mul i k
 rw [List.length_append, rows_len hf, hf]
 omega
theorem rows_put (hf : ∀ x, (f x).length = k) {xs : List α} {sp : List Value} {i : Nat} (h : i < xs.length) (x : α) : putN (xs.flatMap f ++ sp) (0 + i * k) (f x) = (xs.set i x).flatMap f ++ sp := by
 have hl : ((xs.set i x).flatMap f).length = xs.length * k := by rw [rows_len hf, List.length_set]
 have hl2 := rows_len hf xs
 apply List.ext_getElem?
 intro j
 rw [putN_get _ _ _ _ (rows_fit hf h x), hf]
 rcases Nat.lt_or_ge j (xs.length * k) with hj | hj
 ·have hk : 0 < k := by
   rcases Nat.eq_zero_or_pos k with h0 | h0
   ·subst h0; omega
   exact h0
  obtain ⟨q, r, rfl, hr, hq⟩ : ∃ q r, j = q * k + r ∧ r < k ∧ q < xs.length := ⟨j / k, j % k, by rw [Nat.mul_comm]; exact (Nat.div_add_mod j k).symm, Nat.mod_lt _ hk, Nat.div_lt_of_lt_mul (by rw [Nat.mul_comm]; exact hj)⟩
  rw [List.getElem?_append_left (by rw [hl2]; exact hj), flatMap_get f k hf xs q r hq hr, List.getElem?_append_left (by rw [hl]; exact hj), flatMap_get f k hf (xs.set i x) q r (by rw [List.length_set]; exact hq) hr]
  by_cases hiq : i = q
  ·subst hiq
   rw [List.getElem_set_self, if_pos ⟨by omega, by omega⟩, show i * k + r - (0 + i * k) = r by omega]
  have : ¬ (0 + i * k ≤ q * k + r ∧ q * k + r < 0 + i * k + k) := by
   rcases Nat.lt_or_ge i q with h1 | h1
   ·have h2 : (i + 1) * k ≤ q * k := Nat.mul_le_mul_right k h1
    have h3 : (i + 1) * k = i * k + k := Nat.succ_mul i k
    omega
   have h2 : (q + 1) * k ≤ i * k := Nat.mul_le_mul_right k (show q + 1 ≤ i by omega)
   have h3 : (q + 1) * k = q * k + k := Nat.succ_mul q k
   omega
  rw [List.getElem_set_ne hiq, if_neg this]
 have h1 : (i + 1) * k ≤ xs.length * k := Nat.mul_le_mul_right k h
 have h2 : (i + 1) * k = i * k + k := Nat.succ_mul i k
 rw [if_neg (by omega), List.getElem?_append_right (by rw [hl2]; omega), List.getElem?_append_right (by rw [hl]; omega), hl, hl2]
end
abbrev Ls := Int × Int × Int
def liC (x : Ls) : List Value := [.int .i64 x.1, .int .i64 x.2.1, .int .i64 x.2.2, .bool true]
theorem liC_len (x : Ls) : (liC x).length = 4 := rfl
def lsS (ss : List ST) : List Ls := ss.map fun s => (s.n, s.t, s.c)
def lsM (l : List Sp) : List Ls := l.map fun s => (s.n, s.t, s.c)
theorem lsM_sps (ss : List ST) : lsM (sps ss) = lsS ss := by simp [lsM, sps, lsS, ST.pl]
theorem lsS_take {ss : List ST} {i : Nat} (h : i < ss.length) : lsS (ss.take (i + 1)) = lsS (ss.take i) ++ [(ss[i].n, ss[i].t, ss[i].c)] := by
 unfold lsS
 rw [List.take_succ_eq_append_getElem h, List.map_append]
 rfl
theorem lsS_len (ss : List ST) : (lsS ss).length = ss.length := List.length_map ..
theorem lsM_len (l : List Sp) : (lsM l).length = l.length := List.length_map ..
def rLi : Rdr Ls where
 sz := 4
 R := fun Ps w b o x => Ps b ∧ w.rangeAt b o (liC x)
 loc := fun h ⟨h1, h2⟩ => ⟨h1, rangeAt_loc (h _ h1) h2⟩
 mono := fun h ⟨h1, h2⟩ => ⟨h _ h1, h2⟩
theorem news_row {α : Type} {f : α → List Value} {k : Nat} (hf : ∀ x, (f x).length = k) {w : World} {b : Nat} {xs : List α} (h : News w b 0 (xs.flatMap f)) {i : Nat} (hi : i < xs.length) : w.rangeAt b (0 + i * k) (f xs[i]) := fun j v hj => by
 have hjk : j < k := by
  have := (List.getElem?_eq_some_iff.1 hj).1
  rwa [hf] at this
 have := h (i * k + j) v (by rw [flatMap_get f k hf xs i j hi hjk]; exact hj)
 rwa [show 0 + i * k + j = 0 + (i * k + j) from by omega]
theorem Try.infoLi : (Try.prog.info? 61).map (fun i => (i.zero.map (·.cells.size), i.size, i.bytes)) = some (some 4, 4, 32) := by kernel_rfl
section
variable {n : Nat} {w0 : World} {S : Nat → Prop} {l : Fr} {m : List Ck} {K : Act → World → Prop}
theorem Ro.liRng {Ps : Nat → Prop} {b o : Nat} {x : Ls} (h : Ro w0 S (elc rLi Ps b o x)) : Ro w0 S (rng b o [.int .i64 x.1, .int .i64 x.2.1, .int .i64 x.2.2, .bool true]) := ⟨h.1.2, fun k hk => h.2 k (by obtain rfl : k = b := hk; exact h.1.1)⟩
theorem may_ls {e : TypeId} {v : Value} {xs : List Ls} {r : List Ck} (h : Sel m (own e 4 v xs.length (xs.flatMap liC)) r) : May w0 S m (slc rLi (fun b => v.ownBlock = some b) v xs) :=
 .view h.mem (fun w hw => rows_sl9 liC_len rfl hw (fun b hb => hb) fun b o x hx hP hr => ⟨hP, hr⟩) fun b hb => hb
end
theorem ls_app (e : TypeId) (v : Value) (ls : List Ls) (x : Ls) : own e 4 v (ls.length + 1) (ls.flatMap liC ++ liC x) = own e 4 v (ls ++ [x]).length ((ls ++ [x]).flatMap liC) := by
 rw [List.length_append, List.flatMap_append]
 congr 2
theorem liC_one (x : Ls) : ∀ u ∈ liC x, u.oneCell' = true := fun u hu => by
 simp only [liC, List.mem_cons, List.not_mem_nil, or_false] at hu
 rcases hu with rfl | rfl | rfl | rfl <;> rfl
set_option maxRecDepth 20000 in
set_option maxHeartbeats 4000000 in
theorem great_tr (Dm bm : Nat) (st : MS) (c : Int) (hok : okM (plM st)) (hc : I64 c) : Tr Try.prog 17 #[.pointer (some ⟨Dm, 0, none⟩), .int .i64 c] [] [blk Dm 40 [.map (some bm)], mpc vInt I64 bm (ptrs st), clis st] (TX (fun _ : Unit => True) (fun _ => .int .i64 (plGet (plM st) c).1) (fun _ => [blk Dm 40 [.map (some bm)], mpc vInt I64 bm (ptrs st), clis st])) := by
 refine Tr.of (l := [(0, .pointer (some ⟨Dm, 0, none⟩)), (1, .int .i64 c)]) Try.func17 rfl (n := 13) rfl (.cons rfl (.cons rfl .nil)) (fun w0 hro => ?_)
 refine go [9,10,1,7,8,9,9,10,0] ?_
 refine G.op rfl (G.cS rfl rfl rfl rfl Try.func26 rfl rfl subT may0 (none_tr _ _) apT ?_)
 intro x6 hJ
 try dsimp only at hJ
 try dsimp only
 refine go [7,8,60,0,13,8,9,10,0,0] ?_
 refine G.op rfl (G.cS rfl rfl rfl rfl Try.func28 rfl rfl subT may0 (of_tr _ _ _ _ (by assumption)) apT ?_)
 intro x9 hJ
 obtain ⟨zb, zv, zg, zs⟩ := x9
 try dsimp only at hJ
 try dsimp only
 have hz : IsCl st c ⟨zb, zv, zg, zs⟩ := hJ
 have hpl : plGet (plM st) c = (zg, sps zs) := hz.pl
 have hokc := hok.get c
 rw [hpl] at hokc
 obtain ⟨⟨hg1, hg2⟩, hsl, hss⟩ := hokc
 have hsl : zs.length ≤ 64 := by rw [← sps_length]; exact hsl
 refine G.cliOpen selT ?_
 refine G.ownOpen (v := zv) selT (fun za zc hzv _ _ => ?_)
 subst hzv
 refine go [2,8,2,3,1,2,4,1,7,8,11] ?_
 rw [hpl]
 refine G.cliMk (zb := zb) (zv := .slice za zs.length zc) (zg := zg) (zs := zs) subT ?_
 refine G.cliBack hz selT selT ?_
 exact G.doneX1 (()) trT rfl rfl rfl subT
set_option maxRecDepth 20000 in
set_option maxHeartbeats 4000000 in
theorem list_tr (Dm bm : Nat) (st : MS) (c : Int) (hok : okM (plM st)) (hc : I64 c) : Tr Try.prog 11 #[.pointer (some ⟨Dm, 0, none⟩), .int .i64 c] [] [blk Dm 40 [.map (some bm)], mpc vInt I64 bm (ptrs st), clis st] (TX (fun _ : Value => True) (fun x => x) (fun x => [own 61 4 x (lsM (plGet (plM st) c).2).length ((lsM (plGet (plM st) c).2).flatMap liC), blk Dm 40 [.map (some bm)], mpc vInt I64 bm (ptrs st), clis st])) := by
 refine Tr.of (l := [(0, .pointer (some ⟨Dm, 0, none⟩)), (1, .int .i64 c)]) Try.func11 rfl (n := 34) rfl (.cons rfl (.cons rfl .nil)) (fun w0 hro => ?_)
 refine go [9,10,1,7,8,9,9,10,0] ?_
 refine G.op rfl (G.cS rfl rfl rfl rfl Try.func26 rfl rfl subT may0 (none_tr _ _) apT ?_)
 intro x9 hJ
 try dsimp only at hJ
 try dsimp only
 refine go [7,8,60,0,13,8,9,10,1,7,8,9,9,10,0,0] ?_
 refine G.op rfl (G.cS rfl rfl rfl rfl Try.func28 rfl rfl subT may0 (of_tr _ _ _ _ (by assumption)) apT ?_)
 intro x12 hJ
 obtain ⟨zb, zv, zg, zs⟩ := x12
 try dsimp only at hJ
 try dsimp only
 have hz : IsCl st c ⟨zb, zv, zg, zs⟩ := hJ
 have hpl : plGet (plM st) c = (zg, sps zs) := hz.pl
 have hokc := hok.get c
 rw [hpl] at hokc
 obtain ⟨⟨hg1, hg2⟩, hsl, hss⟩ := hokc
 have hsl : zs.length ≤ 64 := by rw [← sps_length]; exact hsl
 refine G.cliOpen selT ?_
 refine G.treesOne selT (fun hone => ?_)
 refine G.ownNews (v := zv) selT (fun za zc zk hzv hkz hmz hadz hnilz hnewz => ?_)
 subst hzv
 refine go [2,8,2,3,0,2,3,0,2,4,2,5,0,7,8,15] ?_
 refine G.ownNil 61 4 ?_
 refine G.loopK (X := Nat × Value) (ts := [4, 16, 17]) (fun st => st.1 ≤ zs.length) (fun st => [(18, .int .i64 (st.1 : Int)), (5, st.2)]) (fun st => [own 61 4 st.2 (lsS (zs.take st.1)).length ((lsS (zs.take st.1)).flatMap liC)]) (fun st => zs.length - st.1) (x0 := (0, .slice none 0 0)) (.cons rfl (.cons rfl (.cons rfl .nil))) subT (.cons (.cons .nil)) apT Y13 (.consE rfl veqT (.consE rfl veqT .nil)) (fun st hJ => ?_)
 obtain ⟨i, vo⟩ := st
 try dsimp only at hJ
 try dsimp only
 have hki := hJ
 have hol := lsS_len (zs.take i)
 have hol2 : (zs.take i).length ≤ i := List.length_take_le _ _
 refine go [9,10,2,9,7,8,9] ?_
 refine G.condP rfl (fun h19 => ?_) (fun h19 => ?_)
 ·have hlt : i < zs.length := by omega
  have hsv := hone _ (List.getElem_mem hlt)
  refine go [13,8,9,15,9,10] ?_
  refine G.op rfl (G.val rfl rfl (pv_ixSl (sz := 4) (k := i) Try.underlying68 kr rfl rfl hadz rfl (by omega)) ?_)
  refine G.op rfl (G.val rfl rfl (pv_loadN (cs := snC zs[i]) Try.underlying70 rfl kr rfl (fun w hw => news_row snC_len (hnewz selT w hw) hlt)) ?_)
  refine go [60,4] ?_
  intro b7
  refine G.op rfl (G.storeN (vs := snC zs[i]) kr rfl rfl (List.all_eq_true.2 (snC_one hsv)) selT (by exact Nat.le_of_ble_eq_true rfl) ?_)
  rw [putN_whole _ _ (by rfl)]
  rw [show blk b7 70 (snC zs[i]) = blk b7 70 [.int .i64 zs[i].n, .int .i64 zs[i].c, .int .i64 zs[i].t, zs[i].v] from rfl]
  refine go [7,8,10,0,2,3,0,2,4,2,3,2,2,4,2,3,1,2,4,2,50,2] ?_
  refine G.op rfl (G.buildSlice (z := .agg #[.int .i64 0, .int .i64 0, .int .i64 0, .bool false]) (sz := 4) (cs := liC (zs[i].n, zs[i].t, zs[i].c)) rfl Try.underlying35 kr (by decide) (by decide) rfl kr ?_)
  intro b30
  refine G.op rfl (G.append (k := (lsS (zs.take i)).length) (j := 1) (cs := (lsS (zs.take i)).flatMap liC) (news := liC (zs[i].n, zs[i].t, zs[i].c)) (b := b30) (off := 0) rfl Try.underlying35 Try.infoLi rfl rfl rfl selT (fun _ => rfl) (fun h => by cases h) rfl (blk_news (k := 4) selT rfl) (liC_one _) (by omega) (by omega) ?_)
  intro vn
  rw [ls_app, ← lsS_take hlt]
  refine go [1,7,16,8,10,2,6,0,7] ?_
  exact G.next ((i + 1, vn)) Y7 (by (try dsimp only); omega) (.consE rfl veqT (.consE rfl veqT (.cons rfl (.cons rfl (.cons rfl .nil))))) subT
 obtain rfl : i = zs.length := by omega
 rw [List.take_length]
 refine go [18,14,14,19,8,9,10,0,1,7,8,11] ?_
 rw [hpl, lsM_sps]
 refine G.cliMk (zb := zb) (zv := .slice za zs.length zc) (zg := zg) (zs := zs) subT ?_
 refine G.cliBack hz selT selT ?_
 exact G.doneX1 (vo) trT rfl rfl rfl subT
theorem ls_eq (a b : Ls) : (decide (a.1 = b.1) && (decide (a.2.1 = b.2.1) && (decide (a.2.2 = b.2.2) && ((true == true) && true)))) = decide (a = b) := by
 rw [Bool.eq_iff_iff]
 simp [Prod.ext_iff]
theorem ls_ne {a b : List Ls} {i : Nat} (h1 : i < a.length) (h2 : i < b.length) (h : ¬ a[i] = b[i]) : ¬ a = b := fun e => h (by subst e; rfl)
theorem ls_all {a b : List Ls} (h : a.length = b.length) (h2 : ∀ q (hq : q < a.length), a[q] = b[q]'(by omega)) : a = b := List.ext_getElem h fun q h1 _ => h2 q h1
set_option maxRecDepth 20000 in
set_option maxHeartbeats 4000000 in
theorem slist_tr {Ps Pu : Nat → Prop} (v u : Value) (xs ys : List Ls) : Tr Try.prog 12 #[v, u] [slc rLi Ps v xs, slc rLi Pu u ys] [] (T0 (.bool (decide (xs = ys)))) := by
 refine Tr.of (l := [(0, v), (1, u)]) Try.func12 rfl (n := 26) rfl (.cons rfl (.cons rfl .nil)) (fun w0 hro => ?_)
 obtain ⟨hv0, hu0⟩ := ro2 hro
 have hv := hv0
 have hv' := hv
 obtain ⟨av, cv, bv, fv, rfl, hcapv, hmaxv, hnilv, hadv, helv⟩ := Ro.open hv
 have hu := hu0
 have hu' := hu
 obtain ⟨au, cu, bu, fu, rfl, hcapu, hmaxu, hnilu, hadu, helu⟩ := Ro.open hu
 refine go [9,10,1,7,8,9,9,10,0,2,5,0,2,5,2,14,7,8] ?_
 refine G.condP rfl (fun h10 => ?_) (fun h10 => ?_)
 ·refine go [9,10,1,7,8,11,12] ?_
  exact G.done0G rfl (Rv.tmp rfl Rv.nil) (by rw [decide_eq_false (show ¬ xs = ys from fun e => by subst e; omega)]; rfl)
 have hxy : xs.length = ys.length := by omega
 refine go [13,8,9,9,10,1,7,8,15] ?_
 refine G.loopK (X := Nat) (ts := [0, 1]) (fun i => i ≤ xs.length ∧ (∀ q (hq : q < xs.length), q < i → xs[q] = ys[q]'(by omega))) (fun i => [(5, .int .i64 (i : Int))]) (fun i => []) (fun i => xs.length - i) (x0 := 0) (.cons rfl (.cons rfl .nil)) subT (.cons .nil) apT Y11 (.consE rfl veqT .nil) (fun i hJ => ?_)
 try dsimp only at hJ
 try dsimp only
 obtain ⟨hki, hJ⟩ := hJ
 have hJ0 := hJ
 refine go [9,9,10,0,0,2,5,2,9,7,8] ?_
 refine G.condP rfl (fun h14 => ?_) (fun h14 => ?_)
 ·have hlt : i < xs.length := by omega
  have hlu : i < ys.length := by omega
  have hRv := Ro.liRng (helv i hlt)
  have hRu := Ro.liRng (helu i hlu)
  refine go [13,8,9,15,9] ?_
  refine G.drawT (nn := 9) (p := []) (rem := 511) [0, 0, 3, 4, 0, 0, 48, 64, 136] [0, 0, 3, 4, 0, 0, 48, 64, 136] kr ⟨rfl, by kernel_rfl, by kernel_rfl⟩ subT kr (fun hT6 => ?_)
  refine go [22,0,510,0,22,1,508,0] ?_
  refine G.takeT hT6 (i := 2) (rem' := 504) rfl rfl rfl kr (fun _ _ _ h => h) rfl (pv_ixSl (sz := 4) (k := i) Try.underlying35 kr rfl rfl Y20 rfl (by omega)) subT ?_
  refine go [22,4,488,0,22,5,456,0] ?_
  refine G.takeT hT6 (i := 6) (rem' := 392) rfl rfl rfl kr (fun _ _ _ h => h) rfl (pv_ixSl (sz := 4) (k := i) Try.underlying35 kr rfl rfl Y20 rfl (by omega)) subT ?_
  refine G.takeT hT6 (i := 3) (rem' := 384) rfl rfl rfl kr (fun _ _ _ h => h) rfl (pv_loadN (cs := [.int .i64 xs[i].1, .int .i64 xs[i].2.1, .int .i64 xs[i].2.2, .bool true]) Try.underlying61 rfl kr rfl (fun w hw => hRv.at hw)) subT ?_
  refine go [24,7,256] ?_
  refine G.turnOp rfl rfl (G.val rfl rfl (pv_loadN (cs := [.int .i64 ys[i].1, .int .i64 ys[i].2.1, .int .i64 ys[i].2.2, .bool true]) Try.underlying61 rfl kr rfl (fun w hw => hRu.at hw)) ?_)
  refine go [26] ?_
  refine G.takeT hT6 (i := 8) (rem' := 0) rfl rfl rfl kr (fun _ _ _ h => h) rfl ((pv_neqSt (xs := [.int .i64 xs[i].1, .int .i64 xs[i].2.1, .int .i64 xs[i].2.2, .bool true]) (ys := [.int .i64 ys[i].1, .int .i64 ys[i].2.1, .int .i64 ys[i].2.2, .bool true]) (r := decide (xs[i].1 = ys[i].1) && (decide (xs[i].2.1 = ys[i].2.1) && (decide (xs[i].2.2 = ys[i].2.2) && ((true == true) && true)))) Try.underlying61 kr kr rfl rfl kr).cast (v' := .bool (decide (¬ xs[i] = ys[i]))) (by rw [ls_eq, decide_not])) subT ?_
  refine go [27,8] ?_
  refine G.condP rfl (fun h25 => ?_) (fun h25 => ?_)
  ·have hne : ¬ xs[i] = ys[i] := by assumption
   refine go [9,10,1,7,8,11,17,12,12,17,12] ?_
   exact G.done0G rfl (Rv.tmp rfl Rv.nil) (by rw [decide_eq_false (ls_ne hlt hlu hne)]; rfl)
  have heq : xs[i] = ys[i] := Decidable.of_not_not (by assumption)
  refine go [13,16,8,10,0,2,6,1,7] ?_
  exact G.next (i + 1) Y16 (by (try dsimp only); omega) (.consE rfl veqT (.cons rfl (.cons rfl .nil))) subT
 refine go [18,14,14,19,8,9,10,1,7,8,11] ?_
 exact G.done0G rfl (Rv.tmp rfl Rv.nil) (by rw [decide_eq_true (ls_all hxy (fun q hq => hJ q hq (by omega)))]; rfl)
section
variable {α : Type} {f : α → List Value} {k : Nat}
theorem rows_take (hf : ∀ x, (f x).length = k) {xs : List α} {sp : List Value} {i : Nat} (h : i ≤ xs.length) : (xs.flatMap f ++ sp).take (0 + i * k) = (xs.take i).flatMap f := by
 rw [show xs.flatMap f = (xs.take i).flatMap f ++ (xs.drop i).flatMap f from by rw [← List.flatMap_append, List.take_append_drop], List.append_assoc]
 exact List.take_left' (by rw [rows_len hf, List.length_take, Nat.min_eq_left h]; omega)
end
def idxN (n : Int) (xs : List ST) : Nat := xs.findIdx fun s => decide (s.n = n)
def keepN (n : Int) (s : ST) : Bool := ! decide (s.n = n)
def dropN (n : Int) (xs : List ST) : List ST := xs.filter (keepN n)
theorem idxN_at {n : Int} {xs : List ST} {i : Nat} (hi : i < xs.length) (h : ∀ q (hq : q < xs.length), q < i → ¬ xs[q].n = n) (hg : xs[i].n = n) : idxN n xs = i :=
 (List.findIdx_eq hi).2 ⟨by simpa using hg, fun j hj => by simpa using h j (by omega) hj⟩
theorem idxN_no {n : Int} {xs : List ST} (h : ∀ q (hq : q < xs.length), ¬ xs[q].n = n) : idxN n xs = xs.length := List.findIdx_eq_length_of_false fun x hx => by
 obtain ⟨j, hj, rfl⟩ := List.getElem_of_mem hx
 simpa using h j hj
theorem idxN_le (n : Int) (xs : List ST) : idxN n xs ≤ xs.length := List.findIdx_le_length
theorem idxN_lt {n : Int} {xs : List ST} {k : Nat} (h : idxN n xs = k) : ∀ q (hq : q < xs.length), q < k → ¬ xs[q].n = n := fun q hq hqk => by
 have := List.not_of_lt_findIdx (p := fun s : ST => decide (s.n = n)) (xs := xs) (i := q) (by unfold idxN at h; omega)
 simpa using this
theorem idxN_is {n : Int} {xs : List ST} {k : Nat} (h : idxN n xs = k) (hk : k < xs.length) : xs[k].n = n := by
 have := List.findIdx_getElem (p := fun s : ST => decide (s.n = n)) (xs := xs) (w := by unfold idxN at h; omega)
 unfold idxN at h
 simp only [h] at this
 simpa using this
theorem keepN_t {n : Int} {s : ST} (h : ¬ s.n = n) : keepN n s = true := by unfold keepN; rw [decide_eq_false h]; rfl
theorem keepN_f {n : Int} {s : ST} (h : s.n = n) : keepN n s = false := by unfold keepN; rw [decide_eq_true h]; rfl
theorem dropN_all {n : Int} {xs : List ST} (h : idxN n xs = xs.length) : dropN n xs = xs := List.filter_eq_self.2 fun x hx => by
 obtain ⟨q, hq, rfl⟩ := List.getElem_of_mem hx
 exact keepN_t (idxN_lt h q hq hq)
theorem idxN_spec {n : Int} {xs : List ST} {k : Nat} (h : idxN n xs = k) (hk : k < xs.length) : (xs.take (k + 1)).filter (keepN n) = xs.take k := by
 rw [List.take_succ_eq_append_getElem hk, List.filter_append, List.filter_eq_self.2 (fun x hx => by
  obtain ⟨q, hq, rfl⟩ := List.getElem_of_mem hx
  rw [List.getElem_take]
  rw [List.length_take] at hq
  exact keepN_t (idxN_lt h q (by omega) (by omega)))]
 simp [keepN_f (idxN_is h hk)]
theorem keepN_one {n : Int} {xs : List ST} {j : Nat} (h : j < xs.length) (k : ¬ xs[j].n = n) : (xs.take (j + 1)).filter (keepN n) = (xs.take j).filter (keepN n) ++ [xs[j]] := by
 rw [List.take_succ_eq_append_getElem h, List.filter_append]
 simp [keepN_t k]
theorem keepN_no {n : Int} {xs : List ST} {j : Nat} (h : j < xs.length) (k : xs[j].n = n) : (xs.take (j + 1)).filter (keepN n) = (xs.take j).filter (keepN n) := by
 rw [List.take_succ_eq_append_getElem h, List.filter_append]
 simp [keepN_f k]
section
variable {n : Nat} {w0 : World} {S : Nat → Prop} {l : Fr} {m : List Ck} {K : Act → World → Prop}
theorem G.treesDrop {ss : List ST} {p : ST → Bool} {r : List Ck} (h1 : Sel m (trees ss) r) (h : G n w0 S l (trees (ss.filter p) :: r) K) : G n w0 S l m K :=
 G.mem (fun w hw => by
  have h2 : Hp w0 S w ((ss.flatMap fun s => [ownT 89 s.v s.l, datC 5 s.l]) ++ r) := Hp.unstar (hw.sel h1)
  have h3 : ∀ l : List ST, ((l.filter p).flatMap fun s => [ownT 89 s.v s.l, datC 5 s.l]).Sublist (l.flatMap fun s => [ownT 89 s.v s.l, datC 5 s.l]) := fun l => by
   induction l with
   | nil => exact List.Sublist.refl _
   | cons s l ih =>
    rw [List.filter_cons]
    split
    ·rw [List.flatMap_cons, List.flatMap_cons]
     exact (List.Sublist.refl _).append ih
    rw [List.flatMap_cons]
    exact ih.trans (List.sublist_append_right _ _)
  exact Hp.star (h2.sub ((h3 ss).append (List.Sublist.refl _)))) h
theorem erase_perm {α : Type} {ss : List α} {k : Nat} (hk : k < ss.length) : ss.Perm (ss[k] :: ss.eraseIdx k) := by
 induction ss generalizing k with
 | nil => exact absurd hk (by simp)
 | cons a ss ih =>
  cases k with
  | zero => exact List.Perm.refl _
  | succ k => exact ((ih (k := k) (by simpa using hk)).cons a).trans (List.Perm.swap ..)
theorem trees_perm {ss : List ST} {k : Nat} (hk : k < ss.length) : (ss.flatMap fun s => [ownT 89 s.v s.l, datC 5 s.l]).Perm (ownT 89 ss[k].v ss[k].l :: datC 5 ss[k].l :: (ss.eraseIdx k).flatMap fun s => [ownT 89 s.v s.l, datC 5 s.l]) := by
 have h := List.Perm.flatMap_right (fun s : ST => [ownT 89 s.v s.l, datC 5 s.l]) (erase_perm hk)
 rw [List.flatMap_cons] at h
 exact h
theorem G.treeOut {ss : List ST} {k : Nat} {r : List Ck} (hk : k < ss.length) (h1 : Sel m (trees ss) r) (h : G n w0 S l (ownT 89 ss[k].v ss[k].l :: datC 5 ss[k].l :: trees (ss.eraseIdx k) :: r) K) : G n w0 S l m K :=
 G.mem (fun w hw => by
  have h2 : Hp w0 S w ((ss.flatMap fun s => [ownT 89 s.v s.l, datC 5 s.l]) ++ r) := Hp.unstar (hw.sel h1)
  have h3 := h2.perm (List.Perm.append_right r (trees_perm hk))
  have h4 : Hp w0 S w (((ss.eraseIdx k).flatMap fun s => [ownT 89 s.v s.l, datC 5 s.l]) ++ (ownT 89 ss[k].v ss[k].l :: datC 5 ss[k].l :: r)) := h3.perm (by
   show (([_, _] : List Ck) ++ _ ++ r).Perm (_ ++ (([_, _] : List Ck) ++ r))
   rw [← List.append_assoc]
   exact List.Perm.append_right r List.perm_append_comm)
  exact (Hp.star h4).perm (by
   show ([_] ++ ([_, _] ++ r) : List Ck).Perm ([_, _] ++ ([_] ++ r))
   rw [← List.append_assoc, ← List.append_assoc]
   exact List.Perm.append_right r List.perm_append_comm)) h
theorem G.treeIn {ss : List ST} {k : Nat} {r r' r'' : List Ck} (hk : k < ss.length) (h1 : Sel m (ownT 89 ss[k].v ss[k].l) r) (h2 : Sel r (datC 5 ss[k].l) r') (h3 : Sel r' (trees (ss.eraseIdx k)) r'') (h : G n w0 S l (trees ss :: r'') K) : G n w0 S l m K :=
 G.mem (fun w hw => by
  have p := h1.perm.trans (List.Perm.cons _ (h2.perm.trans (List.Perm.cons _ h3.perm)))
  have h4 : Hp w0 S w (trees (ss.eraseIdx k) :: ownT 89 ss[k].v ss[k].l :: datC 5 ss[k].l :: r'') := hw.perm (p.trans (by
   show ([_, _] ++ ([_] ++ r'') : List Ck).Perm ([_] ++ ([_, _] ++ r''))
   rw [← List.append_assoc, ← List.append_assoc]
   exact List.Perm.append_right r'' List.perm_append_comm))
  have h5 := Hp.unstar h4
  exact Hp.star (h5.perm (by
   refine List.Perm.trans ?_ (List.Perm.append_right r'' (trees_perm hk).symm)
   show (_ ++ ([_, _] ++ r'') : List Ck).Perm ([_, _] ++ _ ++ r'')
   rw [← List.append_assoc]
   exact List.Perm.append_right r'' List.perm_append_comm))) h
end
set_option maxRecDepth 20000 in
set_option maxHeartbeats 4000000 in
theorem sat1_tr (c : Nat) (s : ST) (n : Int) (hs : s.v.oneCell' = true) : Tr Try.prog 47 #[.agg #[.int .i64 s.n, .int .i64 s.c, .int .i64 s.t, s.v], .pointer (some ⟨c, 0, none⟩)] [blk c 3 [.int .i64 n]] [] (T0 (.bool (decide (s.n = n)))) := by
 refine Tr.of (l := [(0, .agg #[.int .i64 s.n, .int .i64 s.c, .int .i64 s.t, s.v]), (1, .pointer (some ⟨c, 0, none⟩))]) Try.func47 rfl (n := 8) rfl (.cons rfl (.cons rfl .nil)) (fun w0 hro => ?_)
 have hb := ro1 hro
 refine go [9,10] ?_
 refine G.op rfl (G.box rfl rfl (cs := [_, _, _, _]) rfl ?_)
 intro b2
 refine go [1,7,8,9,10,2,3,0,2,4,2,4,2,13,1,7,8,11] ?_
 exact G.done0G rfl (Rv.tmp rfl Rv.nil) rfl
set_option maxRecDepth 20000 in
set_option maxHeartbeats 4000000 in
theorem sdrop1_tr (c : Nat) (s : ST) (n : Int) (hs : s.v.oneCell' = true) : Tr Try.prog 45 #[.agg #[.int .i64 s.n, .int .i64 s.c, .int .i64 s.t, s.v], .pointer (some ⟨c, 0, none⟩)] [blk c 3 [.int .i64 n]] [] (T0 (.bool (decide (s.n = n)))) := by
 refine Tr.of (l := [(0, .agg #[.int .i64 s.n, .int .i64 s.c, .int .i64 s.t, s.v]), (1, .pointer (some ⟨c, 0, none⟩))]) Try.func45 rfl (n := 8) rfl (.cons rfl (.cons rfl .nil)) (fun w0 hro => ?_)
 have hb := ro1 hro
 refine go [9,10] ?_
 refine G.op rfl (G.box rfl rfl (cs := [_, _, _, _]) rfl ?_)
 intro b2
 refine go [1,7,8,9,10,2,3,0,2,4,2,4,2,13,1,7,8,11] ?_
 exact G.done0G rfl (Rv.tmp rfl Rv.nil) rfl
set_option maxRecDepth 20000 in
set_option maxHeartbeats 4000000 in
theorem sidx_at_tr {Ps : Nat → Prop} (v : Value) (xs : List ST) (c : Nat) (n : Int) (hone : ∀ s ∈ xs, s.v.oneCell' = true) : Tr Try.prog 46 #[v, .func (.func 47) #[] #[.pointer (some ⟨c, 0, none⟩)]] [slc rSn Ps v xs, blk c 3 [.int .i64 n]] [] (T0 (.int .i64 (if idxN n xs = xs.length then -1 else (idxN n xs : Int)))) := by
 refine Tr.of (l := [(0, v), (1, .func (.func 47) #[] #[.pointer (some ⟨c, 0, none⟩)])]) Try.func46 rfl (n := 19) rfl (.cons rfl (.cons rfl .nil)) (fun w0 hro => ?_)
 obtain ⟨hv0, hbc⟩ := ro2 hro
 have hv := hv0
 have hv' := hv
 obtain ⟨av, cv, bv, fv, rfl, hcapv, hmaxv, hnilv, hadv, helv⟩ := Ro.open hv
 refine go [9,10,1,7,8,9,9,10,0,2,5,0,7,8,15] ?_
 refine G.loopK (X := Nat) (ts := [0, 1, 7]) (fun i => i ≤ xs.length ∧ (∀ q (hq : q < xs.length), q < i → ¬ xs[q].n = n)) (fun i => [(8, .int .i64 (i : Int))]) (fun i => []) (fun i => xs.length - i) (x0 := 0) (.cons rfl (.cons rfl (.cons rfl .nil))) subT (.cons .nil) apT Y11 (.consE rfl veqT .nil) (fun i hJ => ?_)
 try dsimp only at hJ
 try dsimp only
 obtain ⟨hki, hJ⟩ := hJ
 have hJ0 := hJ
 refine go [9,10,2,9,7,8,9] ?_
 refine G.condP rfl (fun h9 => ?_) (fun h9 => ?_)
 ·have hlt : i < xs.length := by omega
  have hR := Ro.snRng (helv i hlt)
  refine go [13,8,9,15,9,10,0,1,7,8,9,10,0,0,0] ?_
  refine G.op rfl (G.val rfl rfl (pv_ixSl (sz := 4) (k := i) Try.underlying68 kr rfl rfl hadv (by omega) (by omega)) ?_)
  refine G.op rfl (G.val rfl rfl (pv_loadN (cs := [.int .i64 xs[i].n, .int .i64 xs[i].c, .int .i64 xs[i].t, xs[i].v]) Try.underlying70 rfl kr rfl (fun w hw => hR.at hw)) ?_)
  refine G.op rfl (G.cRv rfl rfl rfl rfl rfl Try.func47 rfl rfl (by rfl) (may1 Y0) (sat1_tr c xs[i] n (hone _ (List.getElem_mem hlt))) ?_)
  refine go [7,8] ?_
  refine G.condP rfl (fun h16 => ?_) (fun h16 => ?_)
  ·have hg : xs[i].n = n := by assumption
   refine go [9,10,0,1,7,8,11,17,12,12,17,12] ?_
   exact G.done0G rfl (Rv.tmp rfl Rv.nil) (by rw [idxN_at (n := n) hlt hJ0 hg, if_neg (by omega)]; rfl)
  have hng : ¬ xs[i].n = n := by assumption
  refine go [13,16,8,10,2,6,0,7] ?_
  exact G.next (i + 1) (by first | exact trivial | ((try dsimp only) <;> exact ⟨by omega, fun q hq hqi => by rcases Nat.lt_or_ge q i with h1 | h1; exact hJ0 q hq h1; obtain rfl : q = i := (by omega); exact hng⟩)) (by (try dsimp only); omega) (.consE rfl veqT (.cons rfl (.cons rfl (.cons rfl .nil)))) subT
 refine go [18,14,14,19,8,9,10,1,7,8,11] ?_
 exact G.done0G rfl (Rv.tmp rfl Rv.nil) (by rw [idxN_no (n := n) (fun q hq => hJ q hq (by omega)), if_pos rfl]; rfl)
set_option maxRecDepth 20000 in
set_option maxHeartbeats 4000000 in
theorem sidx_drop_tr {Ps : Nat → Prop} (v : Value) (xs : List ST) (c : Nat) (n : Int) (hone : ∀ s ∈ xs, s.v.oneCell' = true) : Tr Try.prog 46 #[v, .func (.func 45) #[] #[.pointer (some ⟨c, 0, none⟩)]] [slc rSn Ps v xs, blk c 3 [.int .i64 n]] [] (T0 (.int .i64 (if idxN n xs = xs.length then -1 else (idxN n xs : Int)))) := by
 refine Tr.of (l := [(0, v), (1, .func (.func 45) #[] #[.pointer (some ⟨c, 0, none⟩)])]) Try.func46 rfl (n := 19) rfl (.cons rfl (.cons rfl .nil)) (fun w0 hro => ?_)
 obtain ⟨hv0, hbc⟩ := ro2 hro
 have hv := hv0
 have hv' := hv
 obtain ⟨av, cv, bv, fv, rfl, hcapv, hmaxv, hnilv, hadv, helv⟩ := Ro.open hv
 refine go [9,10,1,7,8,9,9,10,0,2,5,0,7,8,15] ?_
 refine G.loopK (X := Nat) (ts := [0, 1, 7]) (fun i => i ≤ xs.length ∧ (∀ q (hq : q < xs.length), q < i → ¬ xs[q].n = n)) (fun i => [(8, .int .i64 (i : Int))]) (fun i => []) (fun i => xs.length - i) (x0 := 0) (.cons rfl (.cons rfl (.cons rfl .nil))) subT (.cons .nil) apT Y11 (.consE rfl veqT .nil) (fun i hJ => ?_)
 try dsimp only at hJ
 try dsimp only
 obtain ⟨hki, hJ⟩ := hJ
 have hJ0 := hJ
 refine go [9,10,2,9,7,8,9] ?_
 refine G.condP rfl (fun h9 => ?_) (fun h9 => ?_)
 ·have hlt : i < xs.length := by omega
  have hR := Ro.snRng (helv i hlt)
  refine go [13,8,9,15,9,10,0,1,7,8,9,10,0,0,0] ?_
  refine G.op rfl (G.val rfl rfl (pv_ixSl (sz := 4) (k := i) Try.underlying68 kr rfl rfl hadv (by omega) (by omega)) ?_)
  refine G.op rfl (G.val rfl rfl (pv_loadN (cs := [.int .i64 xs[i].n, .int .i64 xs[i].c, .int .i64 xs[i].t, xs[i].v]) Try.underlying70 rfl kr rfl (fun w hw => hR.at hw)) ?_)
  refine G.op rfl (G.cRv rfl rfl rfl rfl rfl Try.func45 rfl rfl (by rfl) (may1 Y0) (sdrop1_tr c xs[i] n (hone _ (List.getElem_mem hlt))) ?_)
  refine go [7,8] ?_
  refine G.condP rfl (fun h16 => ?_) (fun h16 => ?_)
  ·have hg : xs[i].n = n := by assumption
   refine go [9,10,0,1,7,8,11,17,12,12,17,12] ?_
   exact G.done0G rfl (Rv.tmp rfl Rv.nil) (by rw [idxN_at (n := n) hlt hJ0 hg, if_neg (by omega)]; rfl)
  have hng : ¬ xs[i].n = n := by assumption
  refine go [13,16,8,10,2,6,0,7] ?_
  exact G.next (i + 1) (by first | exact trivial | ((try dsimp only) <;> exact ⟨by omega, fun q hq hqi => by rcases Nat.lt_or_ge q i with h1 | h1; exact hJ0 q hq h1; obtain rfl : q = i := (by omega); exact hng⟩)) (by (try dsimp only); omega) (.consE rfl veqT (.cons rfl (.cons rfl (.cons rfl .nil)))) subT
 refine go [18,14,14,19,8,9,10,1,7,8,11] ?_
 exact G.done0G rfl (Rv.tmp rfl Rv.nil) (by rw [idxN_no (n := n) (fun q hq => hJ q hq (by omega)), if_pos rfl]; rfl)
set_option maxRecDepth 20000 in
set_option maxHeartbeats 4000000 in
theorem sdel_tr (v : Value) (xs : List ST) (c : Nat) (n : Int) (hone : ∀ s ∈ xs, s.v.oneCell' = true) : Tr Try.prog 44 #[v, .func (.func 45) #[] #[.pointer (some ⟨c, 0, none⟩)]] [blk c 3 [.int .i64 n]] [own 70 4 v xs.length (xs.flatMap snC)]
 (TX (fun _ : Value => True) (fun x => x) (fun x => [own 70 4 x (dropN n xs).length ((dropN n xs).flatMap snC)])) := by
 refine Tr.of (l := [(0, v), (1, .func (.func 45) #[] #[.pointer (some ⟨c, 0, none⟩)])]) Try.func44 rfl (n := 42) rfl (.cons rfl (.cons rfl .nil)) (fun w0 hro => ?_)
 have hbc := ro1 hro
 have hix := idxN_le n xs
 have hia := dropN_all (n := n) (xs := xs)
 have hlk := fun {k : Nat} (h : idxN n xs = k) (hk : k < xs.length) => idxN_spec (n := n) (xs := xs) h hk
 refine go [9,10,1,7,8,9,10,0,0] ?_
 refine G.op rfl (G.cR rfl rfl rfl rfl Try.func46 rfl rfl (may2 Y1 Y1) (sidx_drop_tr (Ps := fun b => v.ownBlock = some b) v xs c n hone) ?_)
 obtain ⟨k, hk0⟩ : ∃ k, idxN n xs = k := ⟨_, rfl⟩
 have his := hlk hk0
 rw [hk0] at hix hia
 rw [hk0]
 refine go [1,7,8,9,9,10,0,2,13,7,8] ?_
 refine G.condP rfl (fun h12 => ?_) (fun h12 => ?_)
 ·have hkk : k = xs.length := by by_cases h : k = xs.length; exact h; rw [if_neg h] at h12; omega
  refine go [9,10,0,1,7,8,11,12] ?_
  rw [hia hkk]
  exact G.doneX1 (v) trT rfl rfl rfl subT
 have hkk : ¬ k = xs.length := fun h => h12 (by rw [if_pos h])
 rw [if_neg hkk]
 refine G.ownTo (v := v) selT (by omega) (fun g cap sp hvv hkc hmx hl hlen => ?_)
 subst hvv
 refine go [13,8,9,9,10,0,2,6,1,7,8,15] ?_
 refine G.loopK (X := (List ST) × Nat × Nat) (ts := [0, 1, 4]) (fun st => st.1.length = xs.length ∧ st.2.1 < st.2.2 ∧ st.2.2 ≤ xs.length ∧ st.1.take st.2.1 = (xs.take st.2.2).filter (keepN n) ∧ ∀ q (h1 : q < st.1.length) (h2 : q < xs.length), st.2.2 ≤ q → st.1[q] = xs[q]) (fun st => [(5, .int .i64 (st.2.1 : Int)), (6, .int .i64 (st.2.2 : Int))]) (fun st => [blk g 70 (st.1.flatMap snC ++ sp)]) (fun st => xs.length - st.2.2) (x0 := (xs, k, (k + 1))) (.cons rfl (.cons rfl (.cons rfl .nil))) subT (.cons (.cons .nil)) apT (by first | exact trivial | ((try dsimp only) <;> exact ⟨rfl, by omega, by omega, (his (by omega)).symm, fun q _ _ _ => rfl⟩)) (.consE rfl veqT (.consE rfl veqT .nil)) (fun st hJ => ?_)
 obtain ⟨ws, i, j⟩ := st
 try dsimp only at hJ
 try dsimp only
 obtain ⟨hwl, hij, hjn, hwt, hwq0⟩ := hJ
 refine go [9,9,10,0,0,2,5,2,9,7,8] ?_
 refine G.condP rfl (fun h19 => ?_) (fun h19 => ?_)
 ·have hlt : j < xs.length := by omega
  have hlw : j < ws.length := by omega
  have hwq : ws[j] = xs[j] := hwq0 j hlw hlt (Nat.le_refl _)
  have hsv := hone _ (List.getElem_mem hlt)
  refine go [13,8,9,15,9,10,0,0,2,20,4] ?_
  refine G.op rfl (G.val rfl rfl (pv_loadN (cs := snC xs[j]) Try.underlying70 rfl kr rfl (blk_range (k := 4) selD (by rw [← hwq]; exact rows_row snC_len (by omega)))) ?_)
  refine go [60,4] ?_
  intro b7
  refine G.op rfl (G.storeN (vs := snC xs[j]) kr rfl rfl (List.all_eq_true.2 (snC_one hsv)) selT (by exact Nat.le_of_ble_eq_true rfl) ?_)
  rw [putN_whole _ _ (by rfl)]
  rw [show blk b7 70 (snC xs[j]) = blk b7 70 [.int .i64 xs[j].n, .int .i64 xs[j].c, .int .i64 xs[j].t, xs[j].v] from rfl]
  refine go [7,8,9,10,0] ?_
  refine G.op rfl (G.val rfl rfl (pv_loadN (cs := [_, _, _, _]) Try.underlying70 rfl kr rfl (by first | exact blk_range (k := 4) selD (by rfl) | exact ro_rng0 (by assumption) | exact rng_range (k := 4) selD (by rfl) | exact ro_range (k := 4) (by assumption) (by rfl) | exact ro_rngR (k := 4) (by assumption) (by rfl))) ?_)
  refine G.op rfl (G.cRv rfl rfl rfl rfl rfl Try.func45 rfl rfl (by rfl) (may1 Y1) (sdrop1_tr c xs[j] n hsv) ?_)
  refine go [2,15,7,8] ?_
  refine G.condP rfl (fun h29 => ?_) (fun h29 => ?_)
  ·have hng : ¬ xs[j].n = n := by assumption
   refine go [9,10,0,0] ?_
   refine G.op rfl (G.val rfl rfl (pv_loadN (cs := [_, _, _, _]) Try.underlying70 rfl kr rfl (by first | exact blk_range (k := 4) selD (by rfl) | exact ro_rng0 (by assumption) | exact rng_range (k := 4) selD (by rfl) | exact ro_range (k := 4) (by assumption) (by rfl) | exact ro_rngR (k := 4) (by assumption) (by rfl))) ?_)
   refine go [2,20,4] ?_
   refine G.op rfl (G.storeN (vs := snC xs[j]) kr rfl rfl (List.all_eq_true.2 (snC_one hsv)) selT (rows_fit snC_len (show i < ws.length by omega) _) ?_)
   rw [rows_put snC_len (show i < ws.length by omega)]
   refine go [7,8,10,0,2,6,1,7,16,8,10,0,2,6,1,7] ?_
   exact G.next ((ws.set i xs[j], i + 1, j + 1)) (by first | exact trivial | ((try dsimp only) <;> exact ⟨by rw [List.length_set, hwl], by omega, by omega, by rw [take_set_succ (by omega), hwt, keepN_one hlt hng], fun q h1 h2 hq => by rw [List.getElem_set_ne (by omega)]; exact hwq0 q (by rw [List.length_set] at h1; exact h1) h2 (by omega)⟩)) (by (try dsimp only); omega) (.consE rfl veqT (.consE rfl veqT (.cons rfl (.cons rfl (.cons rfl .nil))))) subT
  have hg : xs[j].n = n := Decidable.of_not_not (by assumption)
  refine go [13,16,8,10,0,2,6,1,7] ?_
  exact G.next ((ws, i, j + 1)) (by first | exact trivial | ((try dsimp only) <;> exact ⟨hwl, by omega, by omega, by rw [hwt, keepN_no hlt hg], fun q h1 h2 hq => hwq0 q h1 h2 (by omega)⟩)) (by (try dsimp only); omega) (.consE rfl veqT (.consE rfl veqT (.cons rfl (.cons rfl (.cons rfl .nil))))) subT
 refine go [18,14,14,19,8,9,10,0,0] ?_
 refine G.op rfl (G.val rfl rfl (pv_subL (sz := 4) Try.underlying68 kr rfl rfl rfl (by omega)) ?_)
 obtain rfl : j = xs.length := by omega
 rw [show subV 4 (some ⟨g, 0, none⟩) i xs.length cap = .slice (some ⟨g, 0 + i * 4, none⟩) (xs.length - i) (cap - i) from by unfold subV; rw [if_neg (by omega), Option.map_some, addr_mid]]
 refine G.op rfl (G.clear (z := [.int .i64 0, .int .i64 0, .int .i64 0, .slice none 0 0]) Try.underlying68 kr rfl rfl selT (by rw [List.length_append, rows_len snC_len]; simp only [List.length_cons, List.length_nil]; omega) ?_)
 intro sp2 hsp2
 rw [rows_take snC_len (by omega)] at hsp2 ⊢
 rw [List.take_length] at hwt
 have hfl : (dropN n xs).length = i := by unfold dropN; rw [← hwt, List.length_take]; omega
 have hwt2 : ws.take i = dropN n xs := hwt
 rw [hwt2] at hsp2 ⊢
 refine go [7,8,9,10,0,0] ?_
 refine G.op rfl (G.val rfl rfl (pv_subH (sz := 4) Try.underlying68 kr rfl rfl rfl (by omega)) ?_)
 refine go [1,7,8,11] ?_
 refine G.ownOf (sz := 4) (k := i) (cs := (dropN n xs).flatMap snC) (sp := sp2) (cap := cap) selT (by rw [rows_len snC_len, hfl]) (by omega) hmx (by rw [hsp2, List.length_append, rows_len snC_len, hwl]; rw [List.length_append, rows_len snC_len] at hl; exact hl) ?_
 rw [hfl]
 exact G.doneX1 (.slice (some ⟨g, 0, none⟩) i cap) trT rfl rfl rfl subT
set_option maxRecDepth 20000 in
set_option maxHeartbeats 4000000 in
theorem sdrop_tr (zb : Nat) (v : Value) (zg : Int) (xs : List ST) (n : Int) (hone : ∀ s ∈ xs, s.v.oneCell' = true) : Tr Try.prog 31 #[.pointer (some ⟨zb, 0, none⟩), .int .i64 n] [] [blk zb 74 [v, .int .i64 zg], own 70 4 v xs.length (xs.flatMap snC)]
 (TX (fun _ : Value => True) (fun _ => .tuple #[]) (fun x => [blk zb 74 [x, .int .i64 zg], own 70 4 x (dropN n xs).length ((dropN n xs).flatMap snC)])) := by
 refine Tr.of (l := [(0, .pointer (some ⟨zb, 0, none⟩)), (1, .int .i64 n)]) Try.func31 rfl (n := 13) rfl (.cons rfl (.cons rfl .nil)) (fun w0 hro => ?_)
 refine go [9,10,60,2] ?_
 intro b3
 refine go [7,8,10,0,0,2,8,2,3,0,2,4,2,26] ?_
 refine G.op rfl (G.cS rfl rfl rfl rfl Try.func44 rfl rfl subT (may1 Y1) (sdel_tr v xs b3 n hone) apT ?_)
 intro x10 hJ
 try dsimp only at hJ
 try dsimp only
 refine G.ownFact (v := x10) selT (fun hx' _ => ?_)
 refine go [2,8,2,3,0,21,7] ?_
 exact G.doneXE (x10) trT rfl rfl subT
set_option maxRecDepth 20000 in
set_option maxHeartbeats 4000000 in
theorem sat_tr {Ps : Nat → Prop} (zb : Nat) (v : Value) (zg : Int) (xs : List ST) (n : Int) (hone : ∀ s ∈ xs, s.v.oneCell' = true) : Tr Try.prog 32 #[.pointer (some ⟨zb, 0, none⟩), .int .i64 n] [blk zb 74 [v, .int .i64 zg], slc rSn Ps v xs] []
 (T0 (.int .i64 (if idxN n xs = xs.length then -1 else (idxN n xs : Int)))) := by
 refine Tr.of (l := [(0, .pointer (some ⟨zb, 0, none⟩)), (1, .int .i64 n)]) Try.func32 rfl (n := 11) rfl (.cons rfl (.cons rfl .nil)) (fun w0 hro => ?_)
 obtain ⟨hbz, hsl⟩ := ro2 hro
 refine go [9,10,60,2] ?_
 intro b3
 refine go [1,7,8,9,10,0,2,8,2,3,0,2,4,2,26] ?_
 refine G.op rfl (G.cR rfl rfl rfl rfl Try.func46 rfl rfl (may2 (.old hsl) (Sel.may selT)) (sidx_at_tr v xs b3 n hone) ?_)
 refine go [1,7,8,11] ?_
 exact G.done0G rfl (Rv.tmp rfl Rv.nil) Y4
theorem mset_same {κ : Type} [DecidableEq κ] {l : List (κ × Value)} {k : κ} {v : Value} (h : mget l k = some v) : mset l k v = l := by
 induction l with
 | nil => cases h
 | cons p l ih =>
  obtain ⟨a, u⟩ := p
  rw [mget] at h
  unfold mset
  by_cases h1 : a = k
  ·rw [if_pos h1] at h ⊢
   injection h with h
   rw [h, h1]
  rw [if_neg h1] at h ⊢
  rw [ih h]
def cutS (n : Int) (l : List Sp) : List Sp := l.filter fun s => ! decide (s.n = n)
theorem cut_sps (n : Int) (xs : List ST) : sps (dropN n xs) = cutS n (sps xs) := by
 unfold sps dropN cutS
 rw [List.filter_map]
 rfl
def forM (pm : PM) (c n : Int) : Int × PM := if n < 1 ∨ (plGet pm c).1 < n then (6, pm) else (0, plSet pm c ((plGet pm c).1, cutS n (plGet pm c).2))
theorem forM_no {pm : PM} {c n : Int} (h : n < 1 ∨ (plGet pm c).1 < n) : forM pm c n = (6, pm) := if_pos h
theorem forM_yes {pm : PM} {c n : Int} (h : ¬ (n < 1 ∨ (plGet pm c).1 < n)) : forM pm c n = (0, plSet pm c ((plGet pm c).1, cutS n (plGet pm c).2)) := if_neg h
theorem plGet_in {pm : PM} {c : Int} (h : 0 < (plGet pm c).1) : (c, plGet pm c) ∈ pm := by
 induction pm with
 | nil => exact absurd h (by show ¬ (0 : Int) < 0; decide)
 | cons p pm ih =>
  obtain ⟨k, z⟩ := p
  rw [plGet] at h ⊢
  split at h
  ·rename_i e
   subst e
   simp
  rename_i e
  rw [if_neg e]
  exact List.mem_cons_of_mem _ (ih h)
def getM (pm : PM) (c n : Int) : List En × Int := match (plGet pm c).2.find? fun s => decide (s.n = n) with
 | some s => (s.l, 0)
 | none => ([], 6)
theorem getM_no {pm : PM} {c n : Int} {g : Int} {xs : List ST} (hp : plGet pm c = (g, sps xs)) (h : idxN n xs = xs.length) : getM pm c n = ([], 6) := by
 have e : (plGet pm c).2.find? (fun s => decide (s.n = n)) = none := by
  rw [hp]
  refine List.find?_eq_none.2 fun s hs => ?_
  obtain ⟨t, ht, rfl⟩ := List.mem_map.1 hs
  obtain ⟨q, hq, rfl⟩ := List.getElem_of_mem ht
  exact fun e => idxN_lt h q hq hq (of_decide_eq_true e)
 unfold getM
 rw [e]
theorem getM_at {pm : PM} {c n : Int} {g : Int} {xs : List ST} {k : Nat} (hp : plGet pm c = (g, sps xs)) (h : idxN n xs = k) (hk : k < xs.length) : getM pm c n = (ens xs[k].l, 0) := by
 have e : (plGet pm c).2.find? (fun s => decide (s.n = n)) = some xs[k].pl := by
  rw [hp]
  refine List.find?_eq_some_iff_getElem.2 ⟨decide_eq_true (idxN_is h hk), k, by rw [sps_length]; exact hk, by simp [sps], fun j hj => ?_⟩
  have := idxN_lt h j (by omega) hj
  simpa [sps, ST.pl] using this
 unfold getM
 rw [e]
 rfl
set_option maxRecDepth 20000 in
set_option maxHeartbeats 4000000 in
theorem mforget_tr (Dm bm : Nat) (st : MS) (c n : Int) (hok : okM (plM st)) (hc : I64 c) : Tr Try.prog 16 #[.pointer (some ⟨Dm, 0, none⟩), .int .i64 c, .int .i64 n] [] [blk Dm 40 [.map (some bm)], mpc vInt I64 bm (ptrs st), clis st]
 (TX (fun st' : MS => plM st' = (forM (plM st) c n).2) (fun _ => .int .i64 (forM (plM st) c n).1) (fun st' => [blk Dm 40 [.map (some bm)], mpc vInt I64 bm (ptrs st'), clis st'])) := by
 refine Tr.of (l := [(0, .pointer (some ⟨Dm, 0, none⟩)), (1, .int .i64 c), (2, .int .i64 n)]) Try.func16 rfl (n := 28) rfl (.cons rfl (.cons rfl (.cons rfl .nil))) (fun w0 hro => ?_)
 refine go [9,10,1,7,8,9,9,10,0] ?_
 refine G.op rfl (G.cS rfl rfl rfl rfl Try.func26 rfl rfl subT may0 (none_tr _ _) apT ?_)
 intro x9 hJ
 try dsimp only at hJ
 try dsimp only
 refine go [7,8,60,0,13,8,9,10,0,0] ?_
 refine G.op rfl (G.cS rfl rfl rfl rfl Try.func28 rfl rfl subT may0 (of_tr _ _ _ _ (by assumption)) apT ?_)
 intro x12 hJ
 obtain ⟨zb, zv, zg, zs⟩ := x12
 try dsimp only at hJ
 try dsimp only
 have hz : IsCl st c ⟨zb, zv, zg, zs⟩ := hJ
 have hpl : plGet (plM st) c = (zg, sps zs) := hz.pl
 have hokc := hok.get c
 rw [hpl] at hokc
 obtain ⟨⟨hg1, hg2⟩, hsl, hss⟩ := hokc
 have hsl : zs.length ≤ 64 := by rw [← sps_length]; exact hsl
 refine G.cliOpen selT ?_
 refine G.treesOne selT (fun hone => ?_)
 refine G.ownFact (v := zv) selT (fun hzv1 _ => ?_)
 refine go [1,7,8,9,9] ?_
 refine G.cutK (X := Unit) (ts := [2, 6, 7]) (p := []) (fun _ => True) (fun _ => [(22, .bool (decide (n < 1 ∨ zg < n)))]) (fun _ => []) (.cons rfl (.cons rfl (.cons rfl .nil))) subT (.cons .nil) apT ?_ ?_
 ·refine go [10,0,2,9,0] ?_
  refine G.partP (t := 15) rfl (fun h15 => ?_) (fun h15 => ?_)
  ·refine go [4,4,4,4,4,4,2,2,7] ?_
   exact G.meet (()) trT (.consE rfl Y12 (.cons rfl (.cons rfl (.cons rfl .nil)))) subT
  refine go [3,0,3,0,3,8,3,3,1,3,4,3,10,2,2,7] ?_
  exact G.meet (()) trT (.consE rfl Y12 (.cons rfl (.cons rfl (.cons rfl .nil)))) subT
 intro _ hJ
 try dsimp only at hJ
 try dsimp only
 refine G.condP rfl (fun h22 => ?_) (fun h22 => ?_)
 ·have hno : n < 1 ∨ (plGet (plM st) c).1 < n := by rw [hpl]; assumption
  refine go [9,10,1,7,8,11,12] ?_
  rw [forM_no hno]
  refine G.cliMk (zb := zb) (zv := zv) (zg := zg) (zs := zs) subT ?_
  refine G.cliBack hz selT selT ?_
  exact G.doneX1 (st) Y14 rfl rfl rfl subT
 have hyes : ¬ (n < 1 ∨ (plGet (plM st) c).1 < n) := by rw [hpl]; assumption
 have hzs : stGet st c = some ⟨zb, zv, zg, zs⟩ := by rcases hz with h | ⟨_, _, h, _⟩; exact h; exfalso; rw [hpl] at hyes; replace h : zg = 0 := h; subst h; exact hyes (by show n < 1 ∨ (0 : Int) < n; omega)
 refine go [13,8,9,10,0,2,8,2,3,0,0] ?_
 refine G.op rfl (G.cS rfl rfl rfl rfl Try.func31 rfl rfl subT may0 (sdrop_tr zb zv zg zs n hone) apT ?_)
 intro x27 hJ
 try dsimp only at hJ
 try dsimp only
 refine go [7,8,9,10,1,7,8,11] ?_
 rw [forM_yes hyes]
 refine G.treesDrop (p := keepN n) selT ?_
 rw [show zs.filter (keepN n) = dropN n zs from rfl]
 refine G.cliMk (zb := zb) (zv := x27) (zg := zg) (zs := dropN n zs) subT ?_
 refine G.cliIn (st := st) (c := c) (z := ⟨zb, x27, zg, dropN n zs⟩) selT selT ?_
 rw [show ptrs st = ptrs (stSet st c ⟨zb, x27, zg, dropN n zs⟩) from (by rw [ptrs_set st c ⟨zb, x27, zg, dropN n zs⟩ hz.b]; exact (mset_same (by rw [ptrs_get, hzs]; rfl)).symm)]
 exact G.doneX1 (stSet st c ⟨zb, x27, zg, dropN n zs⟩) (by first | exact trivial | ((try dsimp only) <;> exact (by rw [pl_set, hpl]; show plSet _ _ (zg, sps (dropN n zs)) = _; rw [cut_sps]))) rfl rfl rfl subT
set_option maxRecDepth 20000 in
set_option maxHeartbeats 4000000 in
theorem mget_tr (Dm bm : Nat) (st : MS) (c n : Int) (hok : okM (plM st)) (hc : I64 c) : Tr Try.prog 14 #[.pointer (some ⟨Dm, 0, none⟩), .int .i64 c, .int .i64 n] [] [blk Dm 40 [.map (some bm)], mpc vInt I64 bm (ptrs st), clis st]
 (TX (fun z : Value × List ET => ens z.2 = (getM (plM st) c n).1) (fun z => .tuple #[z.1, .int .i64 (getM (plM st) c n).2]) (fun z => [ownT 89 z.1 z.2, datC 5 z.2, blk Dm 40 [.map (some bm)], mpc vInt I64 bm (ptrs st), clis st])) := by
 refine Tr.of (l := [(0, .pointer (some ⟨Dm, 0, none⟩)), (1, .int .i64 c), (2, .int .i64 n)]) Try.func14 rfl (n := 32) rfl (.cons rfl (.cons rfl (.cons rfl .nil))) (fun w0 hro => ?_)
 refine go [9,10,1,1,7,8,9,9,10,0] ?_
 refine G.op rfl (G.cS rfl rfl rfl rfl Try.func26 rfl rfl subT may0 (none_tr _ _) apT ?_)
 intro x11 hJ
 try dsimp only at hJ
 try dsimp only
 refine go [7,8,60,0,13,8,9,10,0,0] ?_
 refine G.op rfl (G.cS rfl rfl rfl rfl Try.func28 rfl rfl subT may0 (of_tr _ _ _ _ (by assumption)) apT ?_)
 intro x14 hJ
 obtain ⟨zb, zv, zg, zs⟩ := x14
 try dsimp only at hJ
 try dsimp only
 have hz : IsCl st c ⟨zb, zv, zg, zs⟩ := hJ
 have hpl : plGet (plM st) c = (zg, sps zs) := hz.pl
 have hokc := hok.get c
 rw [hpl] at hokc
 obtain ⟨⟨hg1, hg2⟩, hsl, hss⟩ := hokc
 have hsl : zs.length ≤ 64 := by rw [← sps_length]; exact hsl
 refine G.cliOpen selT ?_
 refine G.treesOne selT (fun hone => ?_)
 refine G.ownFact (v := zv) selT (fun hzv1 _ => ?_)
 refine G.ownNews (v := zv) selT (fun za zc zk hzv hkz hmz hadz hnilz hnewz => ?_)
 subst hzv
 refine go [1,7,8,9,10,0,2,8,2,3,0,0] ?_
 refine G.op rfl (G.cR rfl rfl rfl rfl Try.func32 rfl rfl (may2 Y1 Y1) (sat_tr (Ps := fun b => (Value.slice za zs.length zc).ownBlock = some b) zb (.slice za zs.length zc) zg zs n hone) ?_)
 obtain ⟨k, hk0⟩ : ∃ k, idxN n zs = k := ⟨_, rfl⟩
 have hkle := idxN_le n zs
 have hno := fun (h : k = zs.length) => getM_no (c := c) hpl (hk0.trans h)
 have hyes := fun (h : k < zs.length) => getM_at (c := c) hpl hk0 h
 rw [hk0] at hkle ⊢
 refine go [1,7,8,9,9,10,0,2,9,7,8] ?_
 refine G.condP rfl (fun h21 => ?_) (fun h21 => ?_)
 ·have hkk : k = zs.length := by by_cases h : k = zs.length; exact h; rw [if_neg h] at h21; omega
  refine go [9,10,1,1,7,8,11,12] ?_
  refine G.datNil 5 ?_
  refine G.ownNil 89 5 ?_
  refine G.cliMk (zb := zb) (zv := .slice za zs.length zc) (zg := zg) (zs := zs) subT ?_
  refine G.cliBack hz selT selT ?_
  exact G.doneX2 ((.slice none 0 0, [])) (by first | exact trivial | ((try dsimp only) <;> exact (by rw [hno hkk]; rfl))) rfl rfl rfl (by rw [hno hkk]) subT
 have hkk : ¬ k = zs.length := fun h => h21 (by rw [if_pos h]; decide)
 have hlt : k < zs.length := by omega
 rw [if_neg hkk]
 obtain ⟨-, -, -, hsl, hsok⟩ := hss _ (by show zs[k].pl ∈ sps zs; exact List.mem_map_of_mem (List.getElem_mem hlt))
 have hsl2 : zs[k].l.length ≤ 200 := by rw [← ens_length]; exact hsl
 refine go [13,8,9,10,0,2,8,2,3,0,2,3,0,2,4,0] ?_
 refine G.op rfl (G.val rfl rfl (pv_ixSl (sz := 4) (k := k) Try.underlying68 kr rfl rfl hadz (by omega) (by omega)) ?_)
 refine go [2,3,3] ?_
 refine G.op rfl (G.val rfl rfl (pv_load (v := zs[k].v) Try.underlying27 rfl rfl (fun w hw => news_row snC_len (hnewz selT w hw) hlt 3 _ rfl)) ?_)
 refine G.treeOut hlt selT ?_
 refine G.op rfl (G.cS rfl rfl rfl rfl Try.func33 rfl rfl subT (may1 (may_tree selT selT (fun x hx => hsok _ (List.mem_map_of_mem hx)))) (mclone_tr _ zs[k].l (by omega)) apT ?_)
 intro x31 hJ
 obtain ⟨v', ys⟩ := x31
 try dsimp only at hJ
 try dsimp only
 have hys : ens ys = ens zs[k].l := hJ
 refine go [1,1,7,8,11] ?_
 refine G.treeIn hlt selT selT selT ?_
 refine G.cliMk (zb := zb) (zv := .slice za zs.length zc) (zg := zg) (zs := zs) subT ?_
 refine G.cliBack hz selT selT ?_
 exact G.doneX2 ((v', ys)) (by first | exact trivial | ((try dsimp only) <;> exact (by rw [hyes hlt, hys]))) rfl rfl rfl (by rw [hyes hlt]) subT
end Go.Proofs.Ytakeannapfaodaa
namespace Go.Proofs
open Go.Shelf
def Try.keysI_ren : Go.Shelf.Ren := ⟨fun | 7 => 35 | 10 => 52 | n => n, fun | 23 => 38 | 26 => 3 | 3 => 63 | 28 => 83 | 0 => 0 | 27 => 82 | 33 => 103 | 4 => 4 | n => n, fun | n => n⟩
theorem Try.keysI : Go.Proofs.SlLaysZI.n7 Try.prog Try.keysI_ren := {
  mixed := by kernel_rfl
  f7 := ⟨Try.f35.name, by decide, Try.func35.trans (congrArg some (by kernel_rfl))⟩
  f10 := ⟨Try.f52.name, by decide, Try.func52.trans (congrArg some (by kernel_rfl))⟩
  t0 := Try.underlying0
  a0 := Try.isAgg0
  z0 := Try.sizeOf0
  v0 := Try.zeroValue0
  t4 := Try.underlying4
  a4 := Try.isAgg4
  z4 := Try.sizeOf4
  v4 := Try.zeroValue4
  t23 := Try.underlying38
  a23 := Try.isAgg38
  z23 := Try.sizeOf38
  v23 := Try.zeroValue38
  t26 := Try.underlying3
  a26 := Try.isAgg3
  z26 := Try.sizeOf3
  v26 := Try.zeroValue3
  t27 := Try.underlying82
  a27 := Try.isAgg82
  z27 := Try.sizeOf82
  v27 := Try.zeroValue82
  t28 := Try.underlying83
  a28 := Try.isAgg83
  z28 := Try.sizeOf83
  v28 := Try.zeroValue83
  t33 := Try.underlying103
  a33 := Try.isAgg103
  z33 := Try.sizeOf103
  v33 := Try.zeroValue103 }
def Try.sortedI_ren : Go.Shelf.Ren := ⟨fun | 6 => 34 | 8 => 50 | 9 => 51 | 11 => 62 | 13 => 64 | 12 => 63 | 23 => 83 | 24 => 84 | 14 => 74 | 15 => 75 | 16 => 76 | 17 => 77 | 18 => 78 | 19 => 79 | 20 => 80 | 21 => 81 | 22 => 82 | 25 => 90 | 26 => 91 | 27 => 92 | 28 => 93 | 29 => 94 | 30 => 95 | 31 => 98 | n => n, fun | 26 => 3 | 28 => 83 | 24 => 42 | 0 => 0 | 3 => 3 | 37 => 121 | 48 => 138 | 50 => 140 | 4 => 4 | 40 => 132 | 39 => 131 | 45 => 110 | 5 => 5 | 9 => 9 | 51 => 147 | 55 => 151 | 57 => 154 | 58 => 155 | 33 => 103 | n => n, fun | n => n⟩
theorem Try.sortedI : Go.Proofs.SlLaysZI.n6 Try.prog Try.sortedI_ren := {
  mixed := by kernel_rfl
  f6 := ⟨Try.f34.name, by decide, Try.func34.trans (congrArg some (by kernel_rfl))⟩
  f8 := ⟨Try.f50.name, by decide, Try.func50.trans (congrArg some (by kernel_rfl))⟩
  f11 := ⟨Try.f62.name, by decide, Try.func62.trans (congrArg some (by kernel_rfl))⟩
  t0 := Try.underlying0
  a0 := Try.isAgg0
  z0 := Try.sizeOf0
  v0 := Try.zeroValue0
  t24 := Try.underlying42
  a24 := Try.isAgg42
  z24 := Try.sizeOf42
  v24 := Try.zeroValue42
  t26 := Try.underlying3
  a26 := Try.isAgg3
  z26 := Try.sizeOf3
  v26 := Try.zeroValue3
  t28 := Try.underlying83
  a28 := Try.isAgg83
  z28 := Try.sizeOf83
  v28 := Try.zeroValue83
  i26 := by kernel_rfl }
def Try.sortI_ren : Go.Shelf.Ren := ⟨fun | 5 => 51 | 8 => 64 | 7 => 63 | 19 => 83 | 20 => 84 | 10 => 74 | 11 => 75 | 12 => 76 | 13 => 77 | 14 => 78 | 15 => 79 | 16 => 80 | 17 => 81 | 18 => 82 | 30 => 90 | 31 => 91 | 32 => 92 | 33 => 93 | 34 => 94 | 35 => 95 | 40 => 98 | n => n, fun | 23 => 42 | 25 => 3 | 3 => 3 | 32 => 121 | 22 => 42 | 0 => 0 | 44 => 138 | 46 => 140 | 4 => 4 | 36 => 132 | 35 => 131 | 41 => 110 | 5 => 5 | 9 => 9 | 53 => 147 | 57 => 151 | 63 => 154 | 64 => 155 | n => n, fun | n => n⟩
theorem Try.sortI : Go.Proofs.SlLaysM.n5 Try.prog Try.sortI_ren := {
  mixed := by kernel_rfl
  f5 := ⟨Try.f51.name, by decide, Try.func51.trans (congrArg some (by kernel_rfl))⟩
  f7 := ⟨Try.f63.name, by decide, Try.func63.trans (congrArg some (by kernel_rfl))⟩
  f8 := Try.func64.trans (congrArg some (by kernel_rfl))
  f10 := ⟨Try.f74.name, by decide, Try.func74.trans (congrArg some (by kernel_rfl))⟩
  f11 := ⟨Try.f75.name, by decide, Try.func75.trans (congrArg some (by kernel_rfl))⟩
  f12 := ⟨Try.f76.name, by decide, Try.func76.trans (congrArg some (by kernel_rfl))⟩
  f13 := ⟨Try.f77.name, by decide, Try.func77.trans (congrArg some (by kernel_rfl))⟩
  f14 := ⟨Try.f78.name, by decide, Try.func78.trans (congrArg some (by kernel_rfl))⟩
  f15 := ⟨Try.f79.name, by decide, Try.func79.trans (congrArg some (by kernel_rfl))⟩
  f16 := ⟨Try.f80.name, by decide, Try.func80.trans (congrArg some (by kernel_rfl))⟩
  f17 := ⟨Try.f81.name, by decide, Try.func81.trans (congrArg some (by kernel_rfl))⟩
  f18 := ⟨Try.f82.name, by decide, Try.func82.trans (congrArg some (by kernel_rfl))⟩
  f19 := Try.func83.trans (congrArg some (by kernel_rfl))
  f20 := Try.func84.trans (congrArg some (by kernel_rfl))
  f30 := ⟨Try.f90.name, by decide, Try.func90.trans (congrArg some (by kernel_rfl))⟩
  f31 := Try.func91.trans (congrArg some (by kernel_rfl))
  f32 := Try.func92.trans (congrArg some (by kernel_rfl))
  f33 := ⟨Try.f93.name, by decide, Try.func93.trans (congrArg some (by kernel_rfl))⟩
  f34 := ⟨Try.f94.name, by decide, Try.func94.trans (congrArg some (by kernel_rfl))⟩
  f35 := ⟨Try.f95.name, by decide, Try.func95.trans (congrArg some (by kernel_rfl))⟩
  f40 := ⟨Try.f98.name, by decide, Try.func98.trans (congrArg some (by kernel_rfl))⟩
  t0 := Try.underlying0
  a0 := Try.isAgg0
  z0 := Try.sizeOf0
  v0 := Try.zeroValue0
  t3 := Try.underlying3
  a3 := Try.isAgg3
  z3 := Try.sizeOf3
  v3 := Try.zeroValue3
  t4 := Try.underlying4
  a4 := Try.isAgg4
  z4 := Try.sizeOf4
  v4 := Try.zeroValue4
  t5 := Try.underlying5
  a5 := Try.isAgg5
  z5 := Try.sizeOf5
  v5 := Try.zeroValue5
  t9 := Try.underlying9
  a9 := Try.isAgg9
  z9 := Try.sizeOf9
  v9 := Try.zeroValue9
  t22 := Try.underlying42
  a22 := Try.isAgg42
  z22 := Try.sizeOf42
  v22 := Try.zeroValue42
  t23 := Try.underlying42
  a23 := Try.isAgg42
  z23 := Try.sizeOf42
  v23 := Try.zeroValue42
  t25 := Try.underlying3
  a25 := Try.isAgg3
  z25 := Try.sizeOf3
  v25 := Try.zeroValue3
  t32 := Try.underlying121
  a32 := Try.isAgg121
  z32 := Try.sizeOf121
  v32 := Try.zeroValue121
  t35 := Try.underlying131
  a35 := Try.isAgg131
  z35 := Try.sizeOf131
  v35 := Try.zeroValue131
  t36 := Try.underlying132
  a36 := Try.isAgg132
  z36 := Try.sizeOf132
  v36 := Try.zeroValue132
  t41 := Try.underlying110
  a41 := Try.isAgg110
  z41 := Try.sizeOf110
  v41 := Try.zeroValue110
  t44 := Try.underlying138
  a44 := Try.isAgg138
  z44 := Try.sizeOf138
  v44 := Try.zeroValue138
  t46 := Try.underlying140
  a46 := Try.isAgg140
  z46 := Try.sizeOf140
  v46 := Try.zeroValue140
  t53 := Try.underlying147
  a53 := Try.isAgg147
  z53 := Try.sizeOf147
  v53 := Try.zeroValue147
  t57 := Try.underlying151
  a57 := Try.isAgg151
  z57 := Try.sizeOf151
  v57 := Try.zeroValue151
  t63 := Try.underlying154
  a63 := Try.isAgg154
  z63 := Try.sizeOf154
  v63 := Try.zeroValue154
  t64 := Try.underlying155
  a64 := Try.isAgg155
  z64 := Try.sizeOf155
  v64 := Try.zeroValue155 }
end Go.Proofs
namespace Go.Proofs.Ytakeannapfaodaa
open Go.RowKit
set_option linter.unusedVariables false
set_option linter.unusedSimpArgs false
theorem hp_new {w w' : World} {S : Nat → Prop} {e sz k : Nat} {v : Value} {cs : List Value} (h : w'.ownsRow w.heap.size e sz v k cs) (hb : Below w.heap.size w w') : Hp w S w' [own e sz v k cs] := by
 refine ⟨(Chg.none_of_below hb).mono fun b hb => hb.elim, fun c hc => ?_, fun c hc b hbb => ?_, by simp⟩
 ·obtain rfl : c = _ := by simpa using hc
  exact ownsRow_base_a h (Nat.zero_le _)
 obtain rfl : c = _ := by simpa using hc
 rcases h.2 with ⟨rfl, _⟩ | ⟨g, cap, cur, rfl, hg, hh, _⟩
 ·cases hbb
 have e1 : some g = some b := hbb
 injection e1 with e1
 subst e1
 exact ⟨.inr hg, (Array.getElem?_eq_some_iff.1 hh).1⟩
def keyZ : Value → Int
 | .int _ a => a
 | _ => 0
def keysM (l : List Int) : List Int := l.mergeSort fun x y => decide (x ≤ y)
theorem keysM_perm (l : List Int) : (keysM l).Perm l := List.mergeSort_perm ..
abbrev R9 : Value → Option (DataW Unit × List MemPlace) := fun _ => some (.lit (.bool true), [])
theorem owns9 {w : World} {b clock : Nat} {es : Array MapEntry} {l : List (Int × Value)} (hb : w.heap[b]? = some (.map es clock)) (hi : MapIs vInt I64 es l) (hs : Go.MapKept.Stamped es clock) (hl : l.length ≤ 1000000) :
 ∃ D : DataW Unit, w.ownsMap Try.prog 3 R9 b es.size D ∧ Go.Maps.size D ≤ 1000000 ∧ (Go.intKeys D).Perm (l.map (·.1)) := by
 have hsz : es.size = l.length := by
  have := congrArg List.length hi.eq
  simpa using this
 have hk : ∀ x ∈ es.toList, ∃ a, I64 a ∧ x.key = vInt a := fun x hx => by
  obtain ⟨a, ha, e⟩ := hi.mem hx
  exact ⟨a, hi.ok _ ha, e.symm⟩
 have hr : ∀ x ∈ es.toList, ∀ a, I64 a → x.key = vInt a → Go.WideElems.rd Try.prog 3 R9 x = some (.int .i64 a, .lit (.bool true)) := fun x hx a ha e => by
  have hkk : keyOf Try.prog 3 x.key = some (.int .i64 a) := by
   rw [e]
   exact Go.Maps.keyOf_int_mk Try.underlying3 (by simp only [Lit.wf, Bool.and_eq_true, decide_eq_true_eq]; exact ⟨ha.1, ha.2⟩)
  obtain ⟨key, val, born⟩ := x
  exact Go.WideElems.rd_mk (R := R9) (yv := (.lit (.bool true), [])) hkk rfl
 refine ⟨.map ((es.toList.map (Go.WideElems.rg Try.prog 3 R9)).foldr DataW.insert []), ⟨es, clock, hb, ⟨by rw [hsz]; unfold maxLen; omega, hs, fun x hx => ?_⟩, Nat.le_refl _, rfl⟩, ?_, ?_⟩
 ·obtain ⟨a, ha, e⟩ := hk x hx
  exact ⟨_, hr x hx a ha e⟩
 ·show (List.foldr DataW.insert [] (es.toList.map (Go.WideElems.rg Try.prog 3 R9))).length ≤ _
  rw [(Go.WideShapes.sorted_perm _).length_eq, List.length_map, Array.length_toList, hsz]
  exact hl
 have h1 : (es.toList.map (Go.WideElems.rg Try.prog 3 R9)).map (fun p : Lit × DataW Unit => Go.intOf p.1) = l.map (·.1) := by
  have h0 : ∀ x ∈ es.toList, (fun p : Lit × DataW Unit => Go.intOf p.1) (Go.WideElems.rg Try.prog 3 R9 x) = keyZ x.key := fun x hx => by
   obtain ⟨a, ha, e⟩ := hk x hx
   have h2 := Go.WideElems.rg_of (hr x hx a ha e)
   have h3 : keyZ x.key = a := by rw [e]; rfl
   exact (congrArg (fun p : Lit × DataW Unit => Go.intOf p.1) h2).trans h3.symm
  generalize Go.WideElems.rg Try.prog 3 R9 = G at h0
  have h4 := congrArg (fun q : List (Value × Value) => q.map fun p => keyZ p.1) hi.eq
  simp only [List.map_map] at h4
  rw [List.map_map]
  refine (List.map_congr_left (g := fun x : MapEntry => keyZ x.key) fun x hx => h0 x hx).trans (h4.trans ?_)
  exact List.map_congr_left fun p _ => rfl
 exact ((Go.WideShapes.sorted_perm _).map fun p : Lit × DataW Unit => Go.intOf p.1).trans (List.Perm.of_eq h1)
theorem sorts9 (m : Nat) : AnyZI.SortsIn Try.prog Try.sortedI_ren Fence.wide m :=
 ⟨fun blk off cap ss W hH hblk hsz => callsIn_wide.2 (AnyM.slices_Sort_int Try.sortI blk off cap ss W hH hblk hsz),
  fun p cap W => callsIn_wide.2 (AnyM.slices_Sort_int_none Try.sortI p cap W)⟩
theorem keys_tr (bm : Nat) : Tr Try.prog 35 #[.map (some bm)] [] [] (TX (fun _ : Nat => True) (fun g => .func (.func 52) #[] #[.pointer (some ⟨g, 0, none⟩)]) (fun g => [blk g 38 [.map (some bm)]])) := fun w _ hp =>
 ((callsIn_wide (n := 5)).1 (AnyZI.keys_in Try.keysI Fence.wide 5 trivial rfl (some bm) w)).mono fun e w' ⟨he, hw⟩ => ⟨_, _, he, ⟨w.heap.size, trivial, rfl, rfl⟩, by rw [hw]; exact hp.alloc [.map (some bm)] 38⟩
theorem sorted_tr (g bm : Nat) (l : List (Int × Value)) (hl : l.length ≤ 1000000) : Tr Try.prog 34 #[.func (.func 52) #[] #[.pointer (some ⟨g, 0, none⟩)]] [blk g 38 [.map (some bm)], mpc vInt I64 bm l] []
 (TX (fun _ : Value => True) (fun v => v) (fun v => [own 3 1 v (keysM (l.map (·.1))).length ((keysM (l.map (·.1))).map vInt)])) := fun w hro hp => by
 obtain ⟨h1, h2⟩ := ro2 hro
 obtain ⟨es, clock, hb, hi, hs⟩ : ∃ es clock, w.heap[bm]? = some (.map es clock) ∧ MapIs vInt I64 es l ∧ Go.MapKept.Stamped es clock := h2.1
 obtain ⟨D, hown, hsz, hpm⟩ := owns9 hb hi hs hl
 have hg : w.heap[g]? = some (.cells #[.map (some bm)] 38 (0, 0)) := h1.1
 have hseq := AnyZI.keys_gives (ρ := Try.keysI_ren) { Try.keysI with } Fence.wide 2 trivial rfl (by omega) g bm es.size D w (Array.getElem?_eq_some_iff.1 hg).1 (by simp [World.cell?, hg]) hown
 have c := AnyZI.sorted_in Try.sortedI Fence.wide 5 trivial trivial trivial trivial rfl (by omega) (sorts9 _) (enters_of Try.func51 kr rfl) 52 #[.pointer (some ⟨g, 0, none⟩)] trivial (enters_of Try.func52 kr rfl) _ _ (Nat.le_trans hsz (by unfold maxLen; omega)) (by omega) w hseq
 refine ((callsIn_wide (n := 5)).1 c).mono fun e w' ⟨v, ss, he, hS, hrow, _, hbl⟩ => ⟨v, _, he, ⟨v, trivial, rfl, rfl⟩, hp_new ?_ hbl⟩
 have e1 : keysM (l.map (·.1)) = ss.mergeSort (fun x y => decide (x ≤ y)) := (mergeSort_of_perm_i (hS.trans hpm)).symm
 rw [e1, List.length_mergeSort]
 exact hrow
theorem ptrs_keys (st : MS) : (ptrs st).map (·.1) = st.map (·.1) := by unfold ptrs; rw [List.map_map]; rfl
theorem plM_keys (st : MS) : (plM st).map (·.1) = st.map (·.1) := by unfold plM; rw [List.map_map]; rfl
theorem ptrs_len (st : MS) : (ptrs st).length = st.length := List.length_map ..
theorem plM_len (st : MS) : (plM st).length = st.length := List.length_map ..
def cliM (pm : PM) : List Int := keysM (pm.map (·.1))
theorem cliM_eq (st : MS) : keysM ((ptrs st).map (·.1)) = cliM (plM st) := by rw [cliM, plM_keys, ptrs_keys]
set_option maxRecDepth 20000 in
set_option maxHeartbeats 4000000 in
theorem clients_tr (Dm bm : Nat) (st : MS) (hl : st.length ≤ 1000000) : Tr Try.prog 18 #[.pointer (some ⟨Dm, 0, none⟩)] [] [blk Dm 40 [.map (some bm)], mpc vInt I64 bm (ptrs st), clis st]
 (TX (fun _ : Value => True) (fun v => v) (fun v => [own 3 1 v (cliM (plM st)).length ((cliM (plM st)).map vInt), blk Dm 40 [.map (some bm)], mpc vInt I64 bm (ptrs st), clis st])) := by
 refine Tr.of (l := [(0, .pointer (some ⟨Dm, 0, none⟩))]) Try.func18 rfl (n := 11) rfl (.cons rfl .nil) (fun w0 hro => ?_)
 refine go [9,10,1,7,8,9,9,10,0] ?_
 refine G.op rfl (G.cS rfl rfl rfl rfl Try.func26 rfl rfl subT may0 (none_tr _ _) apT ?_)
 intro x4 hJ
 try dsimp only at hJ
 try dsimp only
 refine go [7,8,60,0,13,8,9,10,0,2,8,2,3,0,2,4] ?_
 refine G.op rfl (G.cS rfl rfl rfl rfl Try.func35 rfl rfl subT may0 (keys_tr bm) apT ?_)
 intro x9 hJ
 try dsimp only at hJ
 try dsimp only
 refine G.op rfl (G.cS rfl rfl rfl rfl Try.func34 rfl rfl subT (may2 Y0 Y0) (sorted_tr x9 bm (ptrs st) (by rw [ptrs_len]; exact hl)) apT ?_)
 intro x10 hJ
 try dsimp only at hJ
 try dsimp only
 rw [cliM_eq]
 refine go [1,7,8,11] ?_
 exact G.doneX1 (x10) trT rfl rfl rfl subT
end Go.Proofs.Ytakeannapfaodaa
set_option linter.unusedVariables false
set_option linter.unusedSimpArgs false
set_option maxRecDepth 100000
namespace Go.Proofs.Ytakeannapfaodaa
abbrev Snap := Int × Int
def withinB (n lo hi : Int) : Bool := decide (lo ≤ n) && decide (n ≤ hi)
def polM (last span spans : Int) : Int := if withinB last 0 64 && withinB spans 0 64 && withinB span 0 2147483647 then 0 else 5
def soundFrom (last : Int) : List Snap → Bool
 | [] => true
 | s :: r => decide (last < s.1) && (decide (s.1 ≤ 2147483647) && withinB s.2 0 2147483647) && soundFrom s.1 r
def soundM (l : List Snap) : Bool := soundFrom 0 l
theorem polM_bounds {last span spans : Int} (h : polM last span spans = 0) : (0 ≤ last ∧ last ≤ 64) ∧ (0 ≤ span ∧ span ≤ 2147483647) ∧ (0 ≤ spans ∧ spans ≤ 64) := by
 unfold polM withinB at h
 split at h
 ·rename_i hh; simp at hh; omega
 omega
def nthLast (last : Int) : List Snap → Int
 | [] => last
 | s :: r => nthLast s.1 r
theorem nthLast_append (last : Int) (l r : List Snap) : nthLast last (l ++ r) = nthLast (nthLast last l) r := by
 induction l generalizing last with
 | nil => rfl
 | cons s l ih => exact ih s.1
theorem soundFrom_append (last : Int) (l r : List Snap) : soundFrom last (l ++ r) = (soundFrom last l && soundFrom (nthLast last l) r) := by
 induction l generalizing last with
 | nil => simp [soundFrom, nthLast]
 | cons s l ih => simp only [List.cons_append, soundFrom, ih, Bool.and_assoc, nthLast]
theorem take_snoc {α : Type} (l : List α) (k : Nat) (h : k < l.length) : l.take (k + 1) = l.take k ++ [l[k]] := List.take_succ_eq_append_getElem h
theorem nthLast_take_succ (l : List Snap) (k : Nat) (h : k < l.length) : nthLast 0 (l.take (k + 1)) = l[k].1 := by
 rw [take_snoc l k h, nthLast_append]; rfl
theorem soundFrom_take_succ (l : List Snap) (k : Nat) (h : k < l.length) : soundFrom 0 (l.take (k + 1)) =
 (soundFrom 0 (l.take k) && (decide (nthLast 0 (l.take k) < l[k].1) && (decide (l[k].1 ≤ 2147483647) && withinB l[k].2 0 2147483647))) := by
 rw [take_snoc l k h, soundFrom_append]; simp [soundFrom]
theorem soundFrom_take (l : List Snap) (k : Nat) (h : soundFrom 0 (l.take k) = false) : soundM l = false := by
 unfold soundM
 rw [← List.take_append_drop k l, soundFrom_append, h]; rfl
theorem soundM_eq (l : List Snap) (k : Nat) (h : l.length ≤ k) : soundM l = soundFrom 0 (l.take k) := by
 rw [List.take_of_length_le h]; rfl
def dcountFrom (p : Int → Bool) : List Int → List Int → Nat
 | _, [] => 0
 | seen, x :: r => (if p x && !seen.contains x then 1 else 0) + dcountFrom p (seen ++ [x]) r
def dcount (p : Int → Bool) (xs : List Int) : Nat := dcountFrom p [] xs
def hasB (xs : List Int) (x : Int) : Bool := xs.contains x
theorem dcount_le (p : Int → Bool) (xs : List Int) : dcount p xs ≤ xs.length := by
 have : ∀ seen, dcountFrom p seen xs ≤ xs.length := by
  induction xs with
  | nil => intro seen; simp [dcountFrom]
  | cons x r ih => intro seen; have := ih (seen ++ [x]); simp only [dcountFrom, List.length_cons]; split <;> omega
 exact this []
def spansOf (l : List Snap) (span : Int) : List Int := l.map (·.2 / span)
def laterM (l : List Snap) (span at_ : Int) : Nat := dcount (fun x => decide (at_ < x)) (spansOf l span)
theorem spansOf_length (l : List Snap) (span : Int) : (spansOf l span).length = l.length := by simp [spansOf]
theorem spansOf_get (l : List Snap) (span : Int) (k : Nat) (h : k < l.length) : (spansOf l span)[k]'(by rw [spansOf_length]; exact h) = l[k].2 / span := by simp [spansOf]
theorem hasB_take_succ (xs : List Int) (x : Int) (m : Nat) (h : m < xs.length) : hasB (xs.take (m + 1)) x = (hasB (xs.take m) x || xs[m] == x) := by
 unfold hasB
 rw [take_snoc xs m h, Bool.eq_iff_iff]
 simp only [List.contains_iff_mem, List.mem_append, List.mem_singleton, Bool.or_eq_true, beq_iff_eq]
 exact ⟨fun h => h.imp id Eq.symm, fun h => h.imp id Eq.symm⟩
def lastIn (l : List Snap) (span : Int) (i : Nat) : Bool := !hasB ((spansOf l span).drop (i + 1)) ((l.getD i (0, 0)).2 / span)
theorem lastIn_eq (l : List Snap) (span : Int) (i : Nat) (h : i < l.length) : lastIn l span i = !hasB ((spansOf l span).drop (i + 1)) (l[i].2 / span) := by simp [lastIn, h]
def staysM (l : List Snap) (last span spans : Int) (i : Nat) : Bool :=
 decide ((l.length : Int) - 1 - i = 0) || decide ((l.length : Int) - 1 - i < last) ||
  (!decide (span = 0) && (lastIn l span i && decide ((laterM l span ((l.getD i (0, 0)).2 / span) : Int) < spans)))
def toldTo (l : List Snap) (last span spans : Int) (stay : Bool) (k : Nat) : List Int := ((List.range k).filter fun i => staysM l last span spans i == stay).map fun i => (l.getD i (0, 0)).1
def toldM (l : List Snap) (last span spans : Int) (stay : Bool) : List Int := if polM last span spans = 0 then if soundM l then toldTo l last span spans stay l.length else [] else []
def toldE (l : List Snap) (last span spans : Int) : Int := if polM last span spans = 0 then if soundM l then 0 else 2 else 5
theorem toldTo_succ (l : List Snap) (last span spans : Int) (stay : Bool) (k : Nat) (h : k < l.length) :
 toldTo l last span spans stay (k + 1) = toldTo l last span spans stay k ++ if staysM l last span spans k == stay then [l[k].1] else [] := by
 unfold toldTo
 rw [List.range_succ, List.filter_append, List.map_append]
 congr 1
 by_cases hs : staysM l last span spans k == stay
 ·simp [hs, h]
 simp [hs]
theorem soundFrom_bounds {l : List Snap} : ∀ {last : Int}, soundFrom last l = true → ∀ s ∈ l, last < s.1 ∧ s.1 ≤ 2147483647 ∧ 0 ≤ s.2 ∧ s.2 ≤ 2147483647 := by
 induction l with
 | nil => intro last _ s hs; simp at hs
 | cons t r ih =>
  intro last h s hs
  simp [soundFrom, withinB] at h
  rcases List.mem_cons.1 hs with rfl | hs
  ·omega
  have := ih h.2 s hs; omega
theorem soundM_bounds {l : List Snap} (h : soundM l = true) (k : Nat) (hk : k < l.length) : 0 < l[k].1 ∧ l[k].1 ≤ 2147483647 ∧ 0 ≤ l[k].2 ∧ l[k].2 ≤ 2147483647 :=
 soundFrom_bounds h _ (List.getElem_mem hk)
theorem div_bounds (x y : Int) (h0 : 0 ≤ x) (h1 : 1 ≤ y) : 0 ≤ x / y ∧ x / y ≤ x := ⟨Int.ediv_nonneg h0 (by omega), Int.ediv_le_self _ h0⟩
end Go.Proofs.Ytakeannapfaodaa
set_option linter.unusedVariables false
set_option linter.unusedSimpArgs false
set_option maxRecDepth 100000
namespace Go.Proofs.Ytakeannapfaodaa
open Go.RowKit Go.Maps
theorem dcountFrom_congr {p q : Int → Bool} : ∀ (xs seen : List Int), (∀ x ∈ xs, p x = q x) → dcountFrom p seen xs = dcountFrom q seen xs := by
 intro xs
 induction xs with
 | nil => intro seen _; rfl
 | cons x r ih =>
  intro seen h
  simp only [dcountFrom]
  rw [h x (by simp), ih _ fun y hy => h y (by simp [hy])]
theorem dcount_congr {p q : Int → Bool} (xs : List Int) (h : ∀ x ∈ xs, p x = q x) : dcount p xs = dcount q xs := dcountFrom_congr xs [] h
theorem dcountFrom_step {p q : Int → Bool} (x : Int) (hp : p x = false) (hq : q x = true) (hpq : ∀ y, y ≠ x → p y = q y) : ∀ (xs seen : List Int),
 dcountFrom q seen xs = dcountFrom p seen xs + if xs.contains x && !seen.contains x then 1 else 0 := by
 intro xs
 induction xs with
 | nil => intro seen; simp [dcountFrom]
 | cons y r ih =>
  intro seen
  simp only [dcountFrom]
  rw [ih (seen ++ [y])]
  by_cases hy : y = x
  ·subst hy
   by_cases hs : seen.contains y = true
   ·simp_all
   simp_all; omega
  rw [hpq y hy]
  have e1 : (y :: r).contains x = r.contains x := by
   rw [Bool.eq_iff_iff]; simp only [List.contains_iff_mem, List.mem_cons]; exact ⟨fun h => h.resolve_left (fun e => hy e.symm), .inr⟩
  have e2 : (seen ++ [y]).contains x = seen.contains x := by
   rw [Bool.eq_iff_iff]; simp only [List.contains_iff_mem, List.mem_append, List.mem_singleton]; exact ⟨fun h => h.resolve_right (fun e => hy e.symm), .inl⟩
  rw [e1, e2]; omega
theorem dcount_step {p q : Int → Bool} (x : Int) (xs : List Int) (hx : hasB xs x = true) (hp : p x = false) (hq : q x = true) (hpq : ∀ y, y ≠ x → p y = q y) : dcount q xs = dcount p xs + 1 := by
 have := dcountFrom_step x hp hq hpq xs []
 unfold hasB at hx
 rw [hx] at this
 simpa [dcount] using this
def SetIs (P : Program) (kt : TypeId) (w : World) (b n : Nat) (xs : List Int) : Prop := ∃ D : DataW Unit, w.ownsMap P kt unitElem b n D ∧ ∀ x : Int, Maps.has D (.int .i64 x) = hasB xs x
theorem isKey_int (x : Int) : WideAt.IsKeyLit (.int .i64 x) := trivial
theorem sameKey_int (x y : Int) : (Lit.int .i64 y).sameKey (.int .i64 x) = decide (y = x) := by
 by_cases h : y = x
 ·subst h; rw [WideAt.sameKey_self (isKey_int y)]; simp
 rw [sameKey_ne (by intro e; cases e; exact h rfl)]; simp [h]
theorem SetIs.put {P : Program} {kt : TypeId} {w : World} {b m : Nat} {xs : List Int} {D : DataW Unit} {x : Int} (hD : IsMap D) (h : ∀ x : Int, Maps.has D (.int .i64 x) = hasB xs x)
 (h' : w.ownsMap P kt unitElem b m (D.put (.int .i64 x) (.agg []))) : SetIs P kt w b m (x :: xs) := by
 refine ⟨_, h', fun y => ?_⟩
 by_cases e : y = x
 ·subst e
  rw [has_put_same hD (isKey_int y)]; simp [hasB]
 rw [has_put_other (by intro e'; cases e'; exact e rfl), h]
 unfold hasB
 rw [Bool.eq_iff_iff]; simp only [List.contains_iff_mem, List.mem_cons]
 exact ⟨.inr, fun h => h.resolve_left e⟩
theorem SetIs.congr {P : Program} {kt : TypeId} {w : World} {b n : Nat} {xs ys : List Int} (h : SetIs P kt w b n xs) (e : ∀ x, hasB xs x = hasB ys x) : SetIs P kt w b n ys := by
 obtain ⟨D, h1, h2⟩ := h
 exact ⟨D, h1, fun x => (h2 x).trans (e x)⟩
theorem owns_mapBelow {H : Type} {P : Program} {kt : TypeId} {R : Value → Option (DataW H × List MemPlace)} {w w' : World} {b n B : Nat} {D : DataW H} (h : w.ownsMap P kt R b n D) (hb : Below B w w') (hB : b < B) : w'.ownsMap P kt R b n D := by
 obtain ⟨es, clock, hh, r⟩ := h
 exact ⟨es, clock, by rw [hb.block b hB]; exact hh, r⟩
theorem owns_lt {H : Type} {P : Program} {kt : TypeId} {R : Value → Option (DataW H × List MemPlace)} {w : World} {b n : Nat} {D : DataW H} (h : w.ownsMap P kt R b n D) : b < w.heap.size := by
 obtain ⟨es, clock, hh, r⟩ := h
 rcases Nat.lt_or_ge b w.heap.size with h1 | h1
 ·exact h1
 simp [Array.getElem?_eq_none h1] at hh
theorem SetIs.below {P : Program} {kt : TypeId} {w w' : World} {b n B : Nat} {xs : List Int} (h : SetIs P kt w b n xs) (hb : Below B w w') (hB : b < B) : SetIs P kt w' b n xs := by
 obtain ⟨D, h1, h2⟩ := h
 exact ⟨D, owns_mapBelow h1 hb hB, h2⟩
theorem SetIs.lt {P : Program} {kt : TypeId} {w : World} {b n : Nat} {xs : List Int} (h : SetIs P kt w b n xs) : b < w.heap.size := by
 obtain ⟨D, h1, h2⟩ := h
 exact owns_lt h1
theorem dcount_false (xs : List Int) : dcount (fun _ => false) xs = 0 := by
 have : ∀ seen, dcountFrom (fun _ => false) seen xs = 0 := by
  induction xs with
  | nil => intro seen; rfl
  | cons x r ih => intro seen; simp [dcountFrom, ih]
 exact this []
theorem later_start {at_ : Int} {xs : List Int} {D : DataW Unit} (h : ∀ x : Int, Maps.has D (.int .i64 x) = hasB xs x) : dcount (fun x => decide (at_ < x) && !Maps.has D (.int .i64 x)) xs = 0 := by
 rw [dcount_congr (q := fun _ => false) xs ?_, dcount_false]
 intro x hx
 have : hasB xs x = true := by unfold hasB; rw [List.contains_iff_mem]; exact hx
 simp [h, this]
theorem later_end {at_ : Int} {xs : List Int} {left : Lit → Bool} (h : ∀ kl, left kl = false) : dcount (fun x => decide (at_ < x) && !left (.int .i64 x)) xs = dcount (fun x => decide (at_ < x)) xs :=
 dcount_congr xs fun x _ => by simp [h]
theorem later_step {at_ x : Int} {xs : List Int} {D : DataW Unit} {left : Lit → Bool} {y : DataW Unit} (h : ∀ x : Int, Maps.has D (.int .i64 x) = hasB xs x) (hl : left (.int .i64 x) = true) (hat : ∀ zd, D.atKey (.int .i64 x) zd = y) :
 dcount (fun z => decide (at_ < z) && !(left (.int .i64 z) && !(Lit.int .i64 z).sameKey (.int .i64 x))) xs = dcount (fun z => decide (at_ < z) && !left (.int .i64 z)) xs + if at_ < x then 1 else 0 := by
 have hx : hasB xs x = true := by rw [← h]; exact Maps.has_true_of_atKey hat
 by_cases hlt : at_ < x
 ·rw [if_pos hlt]
  refine dcount_step x xs hx (by simp [hl]) (by simp [hlt, sameKey_int]) fun z hz => ?_
  simp [sameKey_int, hz]
 rw [if_neg hlt]
 refine dcount_congr xs fun z _ => ?_
 by_cases hz : z = x
 ·subst hz; simp [hlt]
 simp [sameKey_int, hz]
def keepB (l : List Snap) (span spans : Int) (i : Nat) : Bool := lastIn l span i && decide ((laterM l span ((l.getD i (0, 0)).2 / span) : Int) < spans)
def outsTo (l : List Snap) (span spans : Int) : Nat → List Int
 | 0 => []
 | c + 1 => if keepB l span spans (l.length - (c + 1)) then (l.getD (l.length - (c + 1)) (0, 0)).1 :: outsTo l span spans c else outsTo l span spans c
def outsM (l : List Snap) (span spans : Int) : List Int := if span = 0 then [] else outsTo l span spans l.length
structure EndsAt (P : Program) (kt : TypeId) (w0 w : World) (B : Nat) (last span spans : Int) (n : Nat) (outs seen sps : List Int) : Prop where
 below : Below B w0 w
 room : B + 5 ≤ w.heap.size
 c0 : w.cell? ⟨B, 0, none⟩ = some (.int .i64 last)
 c1 : w.cell? ⟨B, 1, none⟩ = some (.int .i64 span)
 c2 : w.cell? ⟨B, 2, none⟩ = some (.int .i64 spans)
 box : w.cell? ⟨B + 1 + 1 + 1 + 1, 0, none⟩ = some (.map (some (B + 1 + 1 + 1)))
 outs : SetIs P kt w (B + 1) n outs
 seen : SetIs P kt w (B + 1 + 1) n seen
 sps : SetIs P kt w (B + 1 + 1 + 1) n sps
theorem cell_grown {w w' : World} {row : Option Nat} (hg : w.grownBy w' row) {a : Addr} {v : Value} (h : w.cell? a = some v) (hne : some a.block ≠ row) : w'.cell? a = some v := hg.cell h hne
theorem SetIs.grown {P : Program} {kt : TypeId} {w w' : World} {b n n' : Nat} {xs : List Int} {row : Option Nat} (h : SetIs P kt w b n xs) (hg : w.grownBy w' row) (hne : some b ≠ row) (hn : n ≤ n') : SetIs P kt w' b n' xs := by
 obtain ⟨D, h1, h2⟩ := h
 exact ⟨D, (h1.kept hg hne).mono hn, h2⟩
theorem EndsAt.grown {P : Program} {kt : TypeId} {w0 w w' : World} {B : Nat} {last span spans : Int} {n : Nat} {outs seen sps : List Int} (h : EndsAt P kt w0 w B last span spans n outs seen sps) (hg : w.grownBy w' none) : EndsAt P kt w0 w' B last span spans n outs seen sps :=
 ⟨h.below.grown hg (by have := h.room; omega) (fun _ hk => by cases hk), Nat.le_trans h.room hg.size, cell_grown hg h.c0 (by simp), cell_grown hg h.c1 (by simp), cell_grown hg h.c2 (by simp), cell_grown hg h.box (by simp),
  h.outs.grown hg (by simp) (Nat.le_refl _), h.seen.grown hg (by simp) (Nat.le_refl _), h.sps.grown hg (by simp) (Nat.le_refl _)⟩
theorem EndsAt.drewN {P : Program} {kt : TypeId} {w0 w : World} {B : Nat} {last span spans : Int} {n : Nat} {outs seen sps : List Int} (h : EndsAt P kt w0 w B last span spans n outs seen sps) (k : Nat) : EndsAt P kt w0 (w.drewN k) B last span spans n outs seen sps :=
 h.grown ⟨rfl, rfl, rfl, Nat.le_refl _, fun _ _ _ => rfl⟩
theorem EndsAt.drew {P : Program} {kt : TypeId} {w0 w : World} {B : Nat} {last span spans : Int} {n : Nat} {outs seen sps : List Int} (h : EndsAt P kt w0 w B last span spans n outs seen sps) : EndsAt P kt w0 w.drew B last span spans n outs seen sps :=
 h.grown ⟨rfl, rfl, rfl, Nat.le_refl _, fun _ _ _ => rfl⟩
theorem EndsAt.alloc {P : Program} {kt : TypeId} {w0 w : World} {B : Nat} {last span spans : Int} {n : Nat} {outs seen sps : List Int} (h : EndsAt P kt w0 w B last span spans n outs seen sps) (o : Obj) : EndsAt P kt w0 (w.alloc o) B last span spans n outs seen sps :=
 h.grown (World.grownBy_alloc w o none)
theorem EndsAt.later {P : Program} {kt : TypeId} {w0 w w' : World} {B : Nat} {last span spans : Int} {n : Nat} {outs seen sps : List Int} (h : EndsAt P kt w0 w B last span spans n outs seen sps) (hb : Below w.heap.size w w') : EndsAt P kt w0 w' B last span spans n outs seen sps :=
 h.grown ⟨hb.os, hb.tape, hb.output, hb.size, fun k hk _ => hb.block k hk⟩
theorem hasB_cons (x : Int) (xs : List Int) (y : Int) : hasB (x :: xs) y = (decide (y = x) || hasB xs y) := by
 unfold hasB
 rw [Bool.eq_iff_iff]
 simp [List.contains_iff_mem]
theorem hasB_take_cons {xs : List Int} {m : Nat} (h : m < xs.length) {x : Int} (hx : xs[m] = x) (y : Int) : hasB (x :: xs.take m) y = hasB (xs.take (m + 1)) y := by
 rw [hasB_cons, hasB_take_succ _ _ _ h, hx, Bool.or_comm]
 congr 1
 rw [Bool.eq_iff_iff]; simp; exact eq_comm
theorem hasB_drop_cons {xs : List Int} {m : Nat} (h : m < xs.length) {x : Int} (hx : xs[m] = x) (y : Int) : hasB (x :: xs.drop (m + 1)) y = hasB (xs.drop m) y := by
 rw [List.drop_eq_getElem_cons h, hx]
theorem EndsAt.putSps {P : Program} {kt : TypeId} {w0 w w' : World} {B : Nat} {last span spans : Int} {n : Nat} {outs seen sps sps' : List Int} (h : EndsAt P kt w0 w B last span spans n outs seen sps) {x : Int} {D : DataW Unit} (hD : w.ownsMap P kt unitElem (B + 1 + 1 + 1) n D) (hh : ∀ x : Int, Maps.has D (.int .i64 x) = hasB sps x)
 (h' : w'.ownsMap P kt unitElem (B + 1 + 1 + 1) (n + 1) (D.put (.int .i64 x) (.agg []))) (hg : w.grownBy w' (some (B + 1 + 1 + 1))) (he : ∀ y, hasB (x :: sps) y = hasB sps' y) : EndsAt P kt w0 w' B last span spans (n + 1) outs seen sps' :=
 ⟨h.below.grown hg (by have := h.room; omega) (fun _ hk => by cases hk; omega), Nat.le_trans h.room hg.size, cell_grown hg h.c0 Y6, cell_grown hg h.c1 Y6, cell_grown hg h.c2 Y6, cell_grown hg h.box (by simp),
  h.outs.grown hg Y6 (by omega), h.seen.grown hg (by simp) (by omega), (SetIs.put hD.isMap hh h').congr he⟩
theorem EndsAt.putSeen {P : Program} {kt : TypeId} {w0 w w' : World} {B : Nat} {last span spans : Int} {n : Nat} {outs seen seen' sps : List Int} (h : EndsAt P kt w0 w B last span spans n outs seen sps) {x : Int} {D : DataW Unit} (hD : w.ownsMap P kt unitElem (B + 1 + 1) n D) (hh : ∀ x : Int, Maps.has D (.int .i64 x) = hasB seen x)
 (h' : w'.ownsMap P kt unitElem (B + 1 + 1) (n + 1) (D.put (.int .i64 x) (.agg []))) (hg : w.grownBy w' (some (B + 1 + 1))) (he : ∀ y, hasB (x :: seen) y = hasB seen' y) : EndsAt P kt w0 w' B last span spans (n + 1) outs seen' sps :=
 ⟨h.below.grown hg (by have := h.room; omega) (fun _ hk => by cases hk; omega), Nat.le_trans h.room hg.size, cell_grown hg h.c0 Y6, cell_grown hg h.c1 Y6, cell_grown hg h.c2 Y6, cell_grown hg h.box Y6,
  h.outs.grown hg (by simp) (by omega), (SetIs.put hD.isMap hh h').congr he, h.sps.grown hg (by simp) (by omega)⟩
theorem EndsAt.putOuts {P : Program} {kt : TypeId} {w0 w w' : World} {B : Nat} {last span spans : Int} {n : Nat} {outs seen sps : List Int} (h : EndsAt P kt w0 w B last span spans n outs seen sps) {x : Int} {D : DataW Unit} (hD : w.ownsMap P kt unitElem (B + 1) n D) (hh : ∀ x : Int, Maps.has D (.int .i64 x) = hasB outs x)
 (h' : w'.ownsMap P kt unitElem (B + 1) (n + 1) (D.put (.int .i64 x) (.agg []))) (hg : w.grownBy w' (some (B + 1))) : EndsAt P kt w0 w' B last span spans (n + 1) (x :: outs) seen sps :=
 ⟨h.below.grown hg (by have := h.room; omega) (fun _ hk => by cases hk; omega), Nat.le_trans h.room hg.size, cell_grown hg h.c0 Y6, cell_grown hg h.c1 Y6, cell_grown hg h.c2 Y6, cell_grown hg h.box Y6,
  SetIs.put hD.isMap hh h', h.seen.grown hg (by simp) (by omega), h.sps.grown hg Y6 (by omega)⟩
theorem SetIs.none (P : Program) (kt : TypeId) (w : World) : SetIs P kt (w.alloc (.map #[] 0)) w.heap.size 0 [] := ⟨_, World.ownsMap_made w P kt _, fun _ => rfl⟩
theorem EndsAt.start (P : Program) (kt tp tm : TypeId) (w : World) (last span spans : Int) :
 EndsAt P kt w (((((w.alloc (.cells #[.int .i64 last, .int .i64 span, .int .i64 spans] tp)).alloc (.map #[] 0)).alloc (.map #[] 0)).alloc (.map #[] 0)).alloc (.cells #[.map (some (w.heap.size + 1 + 1 + 1))] tm)) w.heap.size last span spans 0 [] [] [] where
 below := (((((Below.refl _ _).alloc (Nat.le_refl _) _).alloc (by simp) _).alloc Y6 _).alloc Y6 _).alloc Y6 _
 room := by simp
 c0 := by go_simp
 c1 := by go_simp
 c2 := by go_simp
 box := by go_simp
 outs := by
  have h := SetIs.none P kt (w.alloc (.cells #[.int .i64 last, .int .i64 span, .int .i64 spans] tp))
  simp only [World.size_alloc] at h
  exact ((h.grown (World.grownBy_alloc _ _ none) (by simp) (Nat.le_refl _)).grown (World.grownBy_alloc _ _ none) (by simp) (Nat.le_refl _)).grown (World.grownBy_alloc _ _ none) (by simp) (Nat.le_refl _)
 seen := by
  have h := SetIs.none P kt ((w.alloc (.cells #[.int .i64 last, .int .i64 span, .int .i64 spans] tp)).alloc (.map #[] 0))
  simp only [World.size_alloc] at h
  exact (h.grown (World.grownBy_alloc _ _ none) (by simp) (Nat.le_refl _)).grown (World.grownBy_alloc _ _ none) (by simp) (Nat.le_refl _)
 sps := by
  have h := SetIs.none P kt (((w.alloc (.cells #[.int .i64 last, .int .i64 span, .int .i64 spans] tp)).alloc (.map #[] 0)).alloc (.map #[] 0))
  simp only [World.size_alloc] at h
  exact h.grown (World.grownBy_alloc _ _ none) (by simp) (Nat.le_refl _)
theorem getD_snap {l : List Snap} {i : Nat} (h : i < l.length) : l.getD i (0, 0) = l[i] := by simp [h]
def outsAt (l : List Snap) (span spans : Int) (j : Nat) : List Int := outsTo l span spans (l.length - j)
theorem outsAt_step (l : List Snap) (span spans : Int) (m : Nat) (h : m < l.length) : outsAt l span spans m = if keepB l span spans m then l[m].1 :: outsAt l span spans (m + 1) else outsAt l span spans (m + 1) := by
 unfold outsAt
 have e : l.length - m = (l.length - (m + 1)) + 1 := by omega
 have e2 : l.length - (l.length - (m + 1) + 1) = m := by omega
 rw [e]
 simp only [outsTo, e2]
 simp [h]
theorem EndsAt.seenAs {P : Program} {kt : TypeId} {w0 w : World} {B : Nat} {last span spans : Int} {n : Nat} {outs seen seen' sps : List Int} (h : EndsAt P kt w0 w B last span spans n outs seen sps) (he : ∀ y, hasB seen y = hasB seen' y) : EndsAt P kt w0 w B last span spans n outs seen' sps :=
 { h with seen := h.seen.congr he }
theorem EndsAt.mono {P : Program} {kt : TypeId} {w0 w : World} {B : Nat} {last span spans : Int} {n n' : Nat} {outs seen sps : List Int} (h : EndsAt P kt w0 w B last span spans n outs seen sps) (hn : n ≤ n') : EndsAt P kt w0 w B last span spans n' outs seen sps :=
 { h with outs := h.outs.grown ⟨rfl, rfl, rfl, Nat.le_refl _, fun _ _ _ => rfl⟩ (by simp : _ ≠ none) hn, seen := h.seen.grown ⟨rfl, rfl, rfl, Nat.le_refl _, fun _ _ _ => rfl⟩ (by simp : _ ≠ none) hn, sps := h.sps.grown ⟨rfl, rfl, rfl, Nat.le_refl _, fun _ _ _ => rfl⟩ (by simp : _ ≠ none) hn }
theorem hasB_drop_seen {xs : List Int} {m : Nat} (h : m < xs.length) {x : Int} (hx : xs[m] = x) (hs : hasB (xs.drop (m + 1)) x = true) (y : Int) : hasB (xs.drop (m + 1)) y = hasB (xs.drop m) y := by
 rw [← hasB_drop_cons h hx, hasB_cons]
 by_cases e : y = x
 ·subst e; simp [hs]
 simp [e]
end Go.Proofs.Ytakeannapfaodaa
set_option linter.unusedVariables false
set_option linter.unusedSimpArgs false
set_option maxRecDepth 100000
namespace Go.Proofs.Ytakeannapfaodaa
open Go.RowKit Go.Maps
theorem lawInt : Keyed Try.prog 3 := int_keyed Try.underlying3
set_option maxHeartbeats 1000000 in
theorem later_any (bx mb n : Nat) (xs : List Int) (at_ : Int) (w : World) (hc : w.cell? ⟨bx, 0, none⟩ = some (.map (some mb))) (hx : xs.length ≤ 1000) (hset : SetIs Try.prog 3 w mb n xs) :
 Calls Try.prog 73 #[.int .i64 at_, .pointer (some ⟨bx, 0, none⟩)] w fun e w' => e = .returned (.int .i64 (dcount (fun x => decide (at_ < x)) xs)) ∧ Below w.heap.size w w' := by
 obtain ⟨D, hown, hhas⟩ := hset
 have HH := Lib.hid hhas; clear hhas
 go_enter Try.func73, Try.ntmps73
 go_wp2_with (at_range; refine wpList_range_own _ rfl _ 114 rfl 3 116 lawInt Try.underlying114 (unitElem (H := Unit)) mb n D rfl hown ?_; intro w0 hrg0 hg0 hs0)
 go_frame
 go_loopw [4] (fun c wr => ∃ (left : Lit → Bool) (cnt : Nat), wr.ranges Try.prog 3 (unitElem (H := Unit)) mb w.heap.size n D left cnt ∧ c = .int .i64 (dcount (fun x => decide (at_ < x) && !left (.int .i64 x)) xs) ∧ Below w.heap.size w wr)
  (fun _ wr => wr.rangeLeft mb w.heap.size)
 case atStart => exact ⟨_, _, hrg0, by rw [later_start HH.out]; rfl, (Below.refl _ _).grown hg0 (Nat.le_refl _) (fun _ h => by cases h)⟩
 case round =>
  obtain ⟨left, cnt, hrg, rfl, hb⟩ := hrel
  go_wp2_with (at_next; refine wpList_next_ranges _ rfl _ rfl 3 lawInt (unitElem (H := Unit)) (Value.int .i64) (fun _ : Unit => Value.agg #[]) (fun key kl hkey => by obtain ⟨x, rfl, _⟩ := Maps.keyOf_int_inv Try.underlying3 hkey; exact ⟨x, rfl⟩) (fun v y hv => ⟨(), (unitElem_inv hv).1⟩) mb w.heap.size n _ _ _ rfl hrg ?_ ?_)
  ·intro _ hl0
   go_wp2
   go_ret
   exact ⟨ret_int (by rw [later_end hl0]), hb⟩
  intro x c kl y w1 cnt1 hkey hlx hy hat hrg1 hlt hg1 hs1 hen
  have hb1 : Below w.heap.size w w1 := hb.grown hg1 (hb.size) (fun j hj => by cases hj; exact Nat.le_refl _)
  obtain ⟨x', ex, rfl, _⟩ := Maps.keyOf_int_inv Try.underlying3 hkey
  cases ex
  have HST := Lib.hid (later_step (at_ := at_) HH.out hlx hat)
  have hdc := dcount_le (fun x => decide (at_ < x) && !left (Lit.int IntKind.i64 x)) xs
  clear hat hlx hkey hy
  go_wp2_with fail
  all_goals
   go_roundw
   case rel => exact ⟨_, cnt1, hrg1, by rw [HST.out]; first | rw [if_pos (by assumption)]; rfl | rw [if_neg (by omega)]; rfl, hb1⟩
   case measure => rw [hrg1.left_eq, hrg.left_eq]; exact hlt
end Go.Proofs.Ytakeannapfaodaa
set_option linter.unusedVariables false
set_option linter.unusedSimpArgs false
set_option maxRecDepth 100000
namespace Go.Proofs.Ytakeannapfaodaa
open Go.RowKit Go.Maps
theorem zeroUnit (w : World) : (zeroValue 116).run Try.prog w = .ok (.agg #[]) w := by kernel_rfl
def EndsPost (l : List Snap) (span spans : Int) (w : World) (e : Ending) (w' : World) : Prop := ∃ b n, e = .returned (.map (some b)) ∧ b < w'.heap.size ∧ w.heap.size ≤ b ∧ SetIs Try.prog 3 w' b n (outsM l span spans) ∧ Below w.heap.size w w'
set_option maxHeartbeats 1000000 in
theorem ends_zero (v : Value) (l : List Snap) (last spans : Int) (w : World) :
 Calls Try.prog 60 #[v, .agg #[.int .i64 last, .int .i64 0, .int .i64 spans]] w (EndsPost l 0 spans w) := by
 have hmm := @run_makeMap Try.prog
 go_enter Try.func60, Try.ntmps60
 go_wp2
 go_ret
 refine ⟨w.heap.size + 1, 0, rfl, by simp, by omega, ?_, ?_⟩
 ·have h := SetIs.none Try.prog 3 (w.alloc (.cells #[.int .i64 last, .int .i64 0, .int .i64 spans] 29))
  simp only [World.size_alloc] at h
  exact h.grown (World.grownBy_alloc _ _ none) (by simp) (Nat.le_refl _)
 exact (((Below.refl _ _).alloc (Nat.le_refl _) _).alloc (by simp) _).alloc (by simp; omega) _
set_option maxHeartbeats 2000000 in
theorem ends_any (B : Nat) (v : Value) (l : List Snap) (last span spans : Int) (w : World) (hB : B ≤ w.heap.size) (hv : SlPair B w v l) (hl : l.length ≤ 1000) (hs : soundM l = true) (h1 : 1 ≤ span) :
 Calls Try.prog 60 #[v, .agg #[.int .i64 last, .int .i64 span, .int .i64 spans]] w (EndsPost l span spans w) := by
 have HV := Lib.hid hv
 have HS := Lib.hid hs
 obtain ⟨a, b, off, cap, rfl, hcap, hm, -, ha, hc⟩ := hv
 have H := Lib.hid hc; clear hc
 have HA := Lib.hid ha; clear ha
 have HB := Lib.hid (soundM_bounds hs); clear hs
 unfold maxLen at hm
 have h0 : (span == 0) = false := by simp; omega
 have hn0 : ¬ span = 0 := by omega
 have hmm := @run_makeMap Try.prog
 go_enter Try.func60, Try.ntmps60
 have hst := EndsAt.start Try.prog 3 29 114 w last span spans
 go_wp2_with fail
 go_loopw [24] (fun i wr => ∃ k : Nat, k ≤ l.length ∧ i = .int .i64 k ∧ EndsAt Try.prog 3 w wr w.heap.size last span spans k [] [] ((spansOf l span).take k)) (fun i _ => l.length - (intOf i).toNat)
 case atStart => exact ⟨0, Nat.zero_le _, rfl, hst⟩
 case round =>
  obtain ⟨k, hk, rfl, hE⟩ := hrel
  by_cases hlt : k < l.length
  ·have e := (HA.out (by omega)).1
   have hbB := (HA.out (by omega)).2
   subst e
   have q1 := (hE.below.cell Y21).trans (H.out k hlt).1.1
   have q2 := (hE.below.cell Y21).trans (H.out k hlt).2.1
   have HE := Lib.hid hE; clear hE
   have ht := (HB.out k hlt).2.2.1
   have ht2 := (HB.out k hlt).2.2.2
   obtain ⟨hq1, hq2⟩ := div_bounds l[k].2 span ht h1
   have hq3 : l[k].2 / span ≤ 2147483647 := by omega
   go_wp2_with fail
   obtain ⟨W2, hW2⟩ : ∃ W2, W2 = wr.alloc (.cells #[.int .i64 l[k].1, .int .i64 l[k].2] 77) := ⟨_, rfl⟩
   rw [← hW2]
   have f1 : W2.cell? ⟨wr.heap.size, 1, none⟩ = some (.int .i64 l[k].2) := by rw [hW2]; go_simp
   have hE2 := HE.out.alloc (.cells #[.int .i64 l[k].1, .int .i64 l[k].2] 77)
   rw [← hW2] at hE2
   clear hW2 q1 q2
   have p1 := hE2.c1
   have pb := hE2.box
   have HE2 := Lib.hid hE2; clear hE2
   refine wp_region_still_tail 7 kr kr ?_
   simp only [List.take_succ_cons, List.take_zero, List.drop_succ_cons, List.drop_zero]
   change wpStill _ _ (World.drew _) _ _ _
   have hwr := wrap_tdiv ht h1 (show l[k].2 ≤ 9223372036854775807 by omega)
   repeat still_step
   refine wpStill_nil ?_
   obtain ⟨D, hown, hhas⟩ := HE2.out.drew.sps
   have HH := Lib.hid hhas; clear hhas
   have hwf : (Lit.int .i64 (l[k].2 / span)).wf = true := WalkArith.wf_i64 (by omega)
   have HC := Lib.hid (fun y => hasB_take_cons (xs := spansOf l span) (m := k) (by rw [spansOf_length]; exact hlt) (spansOf_get l span k hlt) y)
   go_wp2_with (at_mapUpdate; refine wpList_mapUpdate_own _ rfl _ _ _ 114 rfl 3 116 lawInt Try.underlying114 (unitElem (H := Unit)) (w.heap.size + 1 + 1 + 1) k D rfl hown (by unfold maxLen; omega) _ _ _ rfl rfl (keyOf_int_mk Try.underlying3 hwf) _ [] unitElem_mk ?_; intro w3 hown3 hg3)
   have hE3 := HE2.out.drew.putSps hown HH.out hown3 hg3 HC.out
   clear hown3 hg3 hown
   go_wp2
   go_roundw
   case rel => exact ⟨k + 1, by omega, by go_num, hE3⟩
   case measure => simp [intOf]; omega
  obtain rfl : k = l.length := by omega
  have hE' : EndsAt Try.prog 3 w wr w.heap.size last span spans (l.length + 2 * (l.length - l.length)) (outsAt l span spans l.length) ((spansOf l span).drop l.length) (spansOf l span) := by
   have e1 : outsAt l span spans l.length = [] := by unfold outsAt; rw [Nat.sub_self]; rfl
   have e2 : (spansOf l span).drop l.length = [] := List.drop_of_length_le (by rw [spansOf_length]; omega)
   have e3 : (spansOf l span).take l.length = spansOf l span := List.take_of_length_le (by rw [spansOf_length]; omega)
   rw [e1, e2, ← e3]
   exact hE.mono (by omega)
  clear hE
  go_wp2_with fail
  go_loopw [11] (fun i wr => ∃ j : Nat, j ≤ l.length ∧ i = .int .i64 ((j : Int) - 1) ∧ EndsAt Try.prog 3 w wr w.heap.size last span spans (l.length + 2 * (l.length - j)) (outsAt l span spans j) ((spansOf l span).drop j) (spansOf l span)) (fun i _ => (intOf i + 1).toNat)
  case atStart => exact ⟨l.length, Nat.le_refl _, rfl, hE'⟩
  case round =>
   obtain ⟨j, hj, rfl, hE⟩ := hrel
   by_cases hj0 : 1 ≤ j
   ·obtain ⟨m, rfl⟩ : ∃ m, j = m + 1 := ⟨j - 1, by omega⟩
    have em : (((m + 1 : Nat) : Int) - 1) = (m : Int) := by omega
    rw [em]
    clear em
    have e := (HA.out (by omega)).1
    have hbB := (HA.out (by omega)).2
    subst e
    have q2 := (hE.below.cell Y21).trans (H.out m hj).2.1
    have p1 := hE.c1
    have HE := Lib.hid hE; clear hE
    have ht := (HB.out m hj).2.2.1
    have ht2 := (HB.out m hj).2.2.2
    obtain ⟨hq1, hq2⟩ := div_bounds l[m].2 span ht h1
    have hq3 : l[m].2 / span ≤ 2147483647 := by omega
    go_wp2_with fail
    go_quiet (fail)
    have hE2 := HE.out.drewN nq
    obtain ⟨W2, hW2⟩ : ∃ W2, W2 = wr.drewN nq := ⟨_, rfl⟩
    rw [← hW2] at hE2 ⊢
    clear hW2 q2 p1
    have HE2 := Lib.hid hE2
    obtain ⟨D, hown, hhas⟩ := hE2.seen
    have HH := Lib.hid hhas; clear hhas hE2
    have hwf : (Lit.int .i64 (l[m].2 / span)).wf = true := WalkArith.wf_i64 (by omega)
    have HX := Lib.hid (spansOf_get l span m hj)
    have hxl : m < (spansOf l span).length := by rw [spansOf_length]; exact hj
    have HK := Lib.hid (outsAt_step l span spans m hj)
    have hlo := lastIn_eq l span m hj
    cases hsee : hasB ((spansOf l span).drop (m + 1)) (l[m].2 / span)
    ·rw [hsee] at hlo
     have HLO := Lib.hid hlo; have HSEE := Lib.hid hsee; clear hlo hsee
     go_wp2_with (first
      | (at_lookup; refine wpList_lookup_own_unit _ rfl _ _ 114 rfl 3 116 lawInt Try.underlying114 (zeroUnit _) (w.heap.size + 1 + 1) _ D rfl hown _ _ rfl (keyOf_int_mk Try.underlying3 hwf) ?_; rw [HH.out, HSEE.out])
      | (at_mapUpdate; refine wpList_mapUpdate_own _ rfl _ _ _ 114 rfl 3 116 lawInt Try.underlying114 (unitElem (H := Unit)) (w.heap.size + 1 + 1) _ D rfl (hown.alloc _) (by unfold maxLen; omega) _ _ _ rfl rfl (keyOf_int_mk Try.underlying3 hwf) _ [] unitElem_mk ?_; intro w4 hown4 hg4; go_frame))
     have hE4 := (HE2.out.alloc _).putSeen (hown.alloc _) HH.out hown4 hg4 (hasB_drop_cons hxl HX.out)
     clear hown4 hg4 hown
     have p2 := hE4.c2
     have HE4 := Lib.hid hE4; clear hE4
     have HCALL := Lib.hid (later_any _ _ _ (spansOf l span) (l[m].2 / span) w4.drew HE4.out.drew.box (by rw [spansOf_length]; omega) HE4.out.drew.sps)
     have hwn : (Lit.int .i64 l[m].1).wf = true := WalkArith.wf_i64 (by have := HB.out m hj; omega)
     have hkb : keepB l span spans m = decide (((dcount (fun x => decide (l[m].2 / span < x)) (spansOf l span) : Nat) : Int) < spans) := by
      unfold keepB; rw [HLO.out, getD_snap (show m < l.length from hj)]; rfl
     have HKB := Lib.hid hkb; clear hkb
     by_cases hls : ((dcount (fun x => decide (l[m].2 / span < x)) (spansOf l span) : Nat) : Int) < spans
     ·have hK := HK.out
      rw [show keepB l span spans m = true from by rw [HKB.out]; simp [hls], if_pos rfl] at hK
      have HKK := Lib.hid hK; clear hK
      go_region_with (go_at_call 73; refine HCALL.out.mono ?_; rintro e w5 ⟨rfl, hb5⟩; have p2' := (HE4.out.drew.later hb5).c2)
      all_goals
       have hE5 := HE4.out.drew.later hb5
       have q1 := (hE5.below.cell Y21).trans (H.out m hj).1.1
       have HE5 := Lib.hid hE5
       obtain ⟨D2, hown2, hhas2⟩ := hE5.outs
       have HH2 := Lib.hid hhas2; clear hhas2 hE5 hb5
       go_wp2_with (at_mapUpdate; refine wpList_mapUpdate_own _ rfl _ _ _ 114 rfl 3 116 lawInt Try.underlying114 (unitElem (H := Unit)) (w.heap.size + 1) _ D2 rfl hown2 (by unfold maxLen; omega) _ _ _ rfl rfl (keyOf_int_mk Try.underlying3 hwn) _ [] unitElem_mk ?_; intro w6 hown6 hg6; go_frame)
       have hE6 := (HE5.out.putOuts hown2 HH2.out hown6 hg6).mono (show _ ≤ l.length + 2 * (l.length - m) by omega)
       clear hown6 hg6 hown2
       have HE6 := Lib.hid hE6; clear hE6
       go_wp2
       go_roundw
       case rel => exact ⟨m, by omega, by go_num, by rw [HKK.out]; exact HE6.out⟩
       case measure => simp [intOf]
     have hK := HK.out
     rw [show keepB l span spans m = false from by rw [HKB.out]; simp; omega, if_neg (by simp)] at hK
     have HKK := Lib.hid hK; clear hK
     go_region_with (go_at_call 73; refine HCALL.out.mono ?_; rintro e w5 ⟨rfl, hb5⟩; have p2' := (HE4.out.drew.later hb5).c2)
     all_goals
      have HE6 := Lib.hid ((HE4.out.drew.later hb5).mono (show _ ≤ l.length + 2 * (l.length - m) by omega))
      clear hb5
      go_wp2
      go_roundw
      case rel => exact ⟨m, by omega, by go_num, by rw [HKK.out]; exact HE6.out⟩
      case measure => simp [intOf]
    rw [hsee] at hlo
    have HLO := Lib.hid hlo; have HSEE := Lib.hid hsee; clear hlo hsee
    go_wp2_with (at_lookup; refine wpList_lookup_own_unit _ rfl _ _ 114 rfl 3 116 lawInt Try.underlying114 (zeroUnit _) (w.heap.size + 1 + 1) _ D rfl hown _ _ rfl (keyOf_int_mk Try.underlying3 hwf) ?_; rw [HH.out, HSEE.out])
    have hK := HK.out
    rw [show keepB l span spans m = false from by unfold keepB; rw [HLO.out]; rfl] at hK
    have HE5 := Lib.hid ((((HE2.out.alloc (.cells #[] 116)).seenAs (hasB_drop_seen hxl HX.out HSEE.out))).mono (show _ ≤ l.length + 2 * (l.length - m) by omega))
    clear hown
    go_roundw
    case rel => exact ⟨m, by omega, by go_num, by rw [hK]; exact HE5.out⟩
    case measure => simp [intOf]
   obtain rfl : j = 0 := by omega
   go_wp2
   go_ret
   have hro := hE.room
   refine ⟨w.heap.size + 1, l.length + 2 * (l.length - 0), rfl, by omega, by omega, ?_, hE.below⟩
   have h2 := hE.outs
   rw [show outsM l span spans = outsAt l span spans 0 from by unfold outsM outsAt; rw [if_neg (by omega)]; rfl]
   exact h2
end Go.Proofs.Ytakeannapfaodaa
set_option linter.unusedVariables false
set_option linter.unusedSimpArgs false
set_option maxRecDepth 100000
namespace Go.Proofs.Ytakeannapfaodaa
open Go.RowKit Go.Maps
def staysP (l : List Snap) (last : Int) (outs : List Int) (i : Nat) : Bool := hasB outs (l.getD i (0, 0)).1 || (decide ((i : Int) = (l.length : Int) - 1) || decide ((l.length : Int) - last ≤ (i : Int)))
theorem SetIs.look {w : World} {b n : Nat} {xs : List Int} (h : SetIs Try.prog 3 w b n xs) {x : Int} (hx : (Lit.int .i64 x).wf = true) :
 (Instr.lookup 114 (.map (some b)) (.int .i64 x) true).run Try.prog w = .ok (.tuple #[.agg #[], .bool (hasB xs x)]) w := by
 obtain ⟨D, h1, h2⟩ := h
 obtain ⟨v, ps, hrun, hv⟩ := h1.look_ok lawInt Try.underlying114 (zeroUnit _) unitElem_mk (keyOf_int_mk Try.underlying3 hx)
 obtain ⟨rfl, _⟩ := unitElem_inv hv
 rw [h2] at hrun
 exact hrun
set_option maxHeartbeats 1000000 in
theorem stays_any (B : Nat) (v : Value) (l : List Snap) (last : Int) (outs : List Int) (i : Nat) (w : World) (b1 b2 b3 mb n : Nat) (hB : B ≤ w.heap.size) (hv : SlPair B w v l) (hl : l.length ≤ 1000) (hi : i < l.length) (hlast : 0 ≤ last ∧ last ≤ 64)
 (c1 : w.cell? ⟨b1, 0, none⟩ = some (.map (some mb))) (c2 : w.cell? ⟨b2, 0, none⟩ = some v) (c3 : w.cell? ⟨b3, 0, none⟩ = some (.int .i64 last)) (hset : SetIs Try.prog 3 w mb n outs) :
 Calls Try.prog 61 #[.int .i64 i, .pointer (some ⟨b1, 0, none⟩), .pointer (some ⟨b2, 0, none⟩), .pointer (some ⟨b3, 0, none⟩)] w fun e w' => e = .returned (.bool (staysP l last outs i)) ∧ Below w.heap.size w w' := by
 obtain ⟨a, b, off, cap, rfl, hcap, hm, -, ha, hc⟩ := hv
 have hbB := (ha (by omega)).2
 obtain rfl := (ha (by omega)).1
 have hcell := (hc i hi).1.1
 have hwf := (hc i hi).1.2.wf
 clear hc ha
 unfold maxLen at hm
 have hrun := SetIs.look (w := w.drew) (hset.below ((Below.refl _ _).drew) hset.lt) hwf
 have hrun2 := SetIs.look (w := (w.alloc (.cells #[] 116)).drew) (hset.below (((Below.refl _ _).alloc (Nat.le_refl _) _).drew) hset.lt) hwf
 have d1 := fun o => ((Below.refl _ w).alloc (Nat.le_refl _) o).cell (p := ⟨b1, 0, none⟩) (cell_lt c1)
 have d2 := fun o => ((Below.refl _ w).alloc (Nat.le_refl _) o).cell (p := ⟨b2, 0, none⟩) (cell_lt c2)
 have d3 := fun o => ((Below.refl _ w).alloc (Nat.le_refl _) o).cell (p := ⟨b3, 0, none⟩) (cell_lt c3)
 have d4 := fun o => ((Below.refl _ w).alloc (Nat.le_refl _) o).cell (p := ⟨b, off + i * 2, none⟩) (cell_lt hcell)
 rw [c1] at d1; rw [c2] at d2; rw [c3] at d3; rw [hcell] at d4
 cases hh : hasB outs l[i].1
 all_goals
  have HH := Lib.hid hh
  rw [hh] at hrun hrun2
  clear hh hset
  go_enter Try.func61, Try.ntmps61
  go_wp2_with fail
  go_region
  all_goals
   have hG := getD_snap hi
   have HG := Lib.hid hG; clear hG
 all_goals
  by_cases e1 : (i : Int) = (l.length : Int) - 1
  ·have t1 : ((i : Int) == (l.length : Int) - 1) = true := by simpa using e1
   have E1 := Lib.hid e1; clear e1
   go_wp2
   go_ret
   refine ⟨ret_bool ?_, ?_⟩
   ·unfold staysP; rw [HG.out, HH.out]; simp [E1.out]
   exact ((Below.refl _ _).alloc (Nat.le_refl _) _).drew
  have t1 : ((i : Int) == (l.length : Int) - 1) = false := by simpa using e1
  have E1 := Lib.hid e1; clear e1
  by_cases e2 : (l.length : Int) - last ≤ (i : Int)
  all_goals
   have E2 := Lib.hid e2
   go_wp2
   go_ret
   refine ⟨ret_bool ?_, ?_⟩
   ·unfold staysP; rw [HG.out, HH.out]; simp [E1.out]; try omega
   exact ((Below.refl _ _).alloc (Nat.le_refl _) _).drew
end Go.Proofs.Ytakeannapfaodaa
set_option linter.unusedVariables false
set_option linter.unusedSimpArgs false
set_option maxRecDepth 100000
namespace Go.Proofs.Ytakeannapfaodaa
open Go.RowKit Go.Maps
theorem soundFrom_lt {l : List Snap} : ∀ {last : Int}, soundFrom last l = true → ∀ i j (hi : i < l.length) (hj : j < l.length), i < j → l[i].1 < l[j].1 := by
 induction l with
 | nil => intro last _ i j hi; simp at hi
 | cons s r ih =>
  intro last h i j hi hj hij
  simp only [soundFrom, Bool.and_eq_true] at h
  cases j with
  | zero => omega
  | succ j =>
   cases i with
   | zero =>
    have hj' : j < r.length := by rw [List.length_cons] at hj; omega
    have := soundFrom_bounds h.2 r[j] (List.getElem_mem hj')
    simp only [List.getElem_cons_zero, List.getElem_cons_succ]; omega
   | succ i =>
    have := ih h.2 i j (by simpa using hi) (by simpa using hj) (by omega)
    simpa using this
theorem soundM_inj {l : List Snap} (h : soundM l = true) (i j : Nat) (hi : i < l.length) (hj : j < l.length) (e : l[i].1 = l[j].1) : i = j := by
 rcases Nat.lt_trichotomy i j with h1 | h1 | h1
 ·have := soundFrom_lt h i j hi hj h1; omega
 ·exact h1
 have := soundFrom_lt h j i hj hi h1; omega
theorem mem_outsTo (l : List Snap) (span spans : Int) (x : Int) : ∀ c, c ≤ l.length → (x ∈ outsTo l span spans c ↔ ∃ j, ∃ hj : j < l.length, l.length - c ≤ j ∧ keepB l span spans j = true ∧ l[j].1 = x) := by
 intro c
 induction c with
 | zero => intro _; simp only [outsTo, List.not_mem_nil, false_iff]; rintro ⟨j, hj, h, _⟩; omega
 | succ c ih =>
  intro hc
  have hlt : l.length - (c + 1) < l.length := by omega
  have ih := ih (by omega)
  unfold outsTo
  rw [getD_snap hlt]
  constructor
  ·intro h
   split at h
   ·rename_i hk
    rcases List.mem_cons.1 h with h | h
    ·exact ⟨_, hlt, Nat.le_refl _, hk, h.symm⟩
    obtain ⟨j, hj, h1, h2⟩ := ih.1 h
    exact ⟨j, hj, by omega, h2⟩
   obtain ⟨j, hj, h1, h2⟩ := ih.1 h
   exact ⟨j, hj, by omega, h2⟩
  rintro ⟨j, hj, h1, hk, h2⟩
  by_cases e : j = l.length - (c + 1)
  ·subst e
   rw [if_pos hk, h2]; exact List.mem_cons_self
  have := ih.2 ⟨j, hj, by omega, hk, h2⟩
  split
  ·exact List.mem_cons_of_mem _ this
  exact this
theorem hasB_outs {l : List Snap} (hs : soundM l = true) (span spans : Int) (i : Nat) (hi : i < l.length) : hasB (outsM l span spans) l[i].1 = (!decide (span = 0) && keepB l span spans i) := by
 unfold outsM
 by_cases h0 : span = 0
 ·rw [if_pos h0]; simp [hasB, h0]
 rw [if_neg h0, Bool.eq_iff_iff]
 unfold hasB
 rw [List.contains_iff_mem, mem_outsTo _ _ _ _ _ (Nat.le_refl _)]
 simp only [h0, decide_false, Bool.not_false, Bool.true_and]
 constructor
 ·rintro ⟨j, hj, _, hk, e⟩
  rw [← soundM_inj hs j i hj hi e]; exact hk
 intro hk
 exact ⟨i, hi, by omega, hk, rfl⟩
theorem staysP_eq {l : List Snap} (hs : soundM l = true) (last span spans : Int) (i : Nat) (hi : i < l.length) : staysP l last (outsM l span spans) i = staysM l last span spans i := by
 unfold staysP staysM
 rw [getD_snap hi, hasB_outs hs span spans i hi]
 have e1 : decide ((i : Int) = (l.length : Int) - 1) = decide ((l.length : Int) - 1 - i = 0) := by rw [decide_eq_decide]; omega
 have e2 : decide ((l.length : Int) - last ≤ (i : Int)) = decide ((l.length : Int) - 1 - i < last) := by rw [decide_eq_decide]; omega
 have e3 : keepB l span spans i = (lastIn l span i && decide ((laterM l span (l[i].2 / span) : Int) < spans)) := by unfold keepB; rw [getD_snap hi]
 rw [e1, e2, e3, Bool.or_comm]
end Go.Proofs.Ytakeannapfaodaa
namespace Go.Proofs.Ytakeannapfaodaa
open Go.RowKit
set_option linter.unusedVariables false
set_option linter.unusedSimpArgs false
set_option maxRecDepth 100000
set_option maxHeartbeats 400000 in
theorem within_any (n lo hi : Int) (w : World) :
 Calls Try.prog 72 #[.int .i64 n, .int .i64 lo, .int .i64 hi] w fun e w' => e = .returned (.bool (withinB n lo hi)) ∧ w = w' := by
 have H := Lib.hid (show withinB n lo hi = (decide (lo ≤ n) && decide (n ≤ hi)) from rfl)
 go_enter Try.func72, Try.ntmps72
 by_cases h : lo ≤ n
 ·go_wp2
  go_ret
  exact ⟨by rw [H.out]; simp [h], rfl⟩
 go_wp2
 go_ret
 exact ⟨by rw [H.out]; simp; omega, rfl⟩
set_option maxHeartbeats 400000 in
theorem check_any (last span spans : Int) (w : World) :
 Calls Try.prog 58 #[.agg #[.int .i64 last, .int .i64 span, .int .i64 spans]] w fun e w' => e = .returned (.int .i64 (polM last span spans)) ∧ Below w.heap.size w w' := by
 have H := Lib.hid (show polM last span spans = if withinB last 0 64 && withinB spans 0 64 && withinB span 0 2147483647 then 0 else 5 from rfl)
 cases h1 : withinB last 0 64 <;> cases h2 : withinB spans 0 64 <;> cases h3 : withinB span 0 2147483647
 all_goals
  have H1 := Lib.hid h1; have H2 := Lib.hid h2; have H3 := Lib.hid h3
  clear h1 h2 h3
  go_enter Try.func58, Try.ntmps58
  go_wp2_with (go_at_call 72; refine (within_any _ _ _ _).mono ?_; rintro e w' ⟨rfl, rfl⟩; simp only [H1.out, H2.out, H3.out])
  go_ret
  exact ⟨ret_int (by rw [H.out, H1.out, H2.out, H3.out]; rfl), (Below.refl _ _).alloc (Nat.le_refl _) _⟩
set_option maxHeartbeats 1000000 in
theorem sound_any (B : Nat) (v : Value) (l : List Snap) (w : World) (hB : B ≤ w.heap.size) (hv : SlPair B w v l) :
 Calls Try.prog 59 #[v] w fun e w' => e = .returned (.bool (soundM l)) ∧ Below w.heap.size w w' := by
 obtain ⟨a, b, off, cap, rfl, hcap, hm, -, ha, hc⟩ := hv
 have H := Lib.hid hc; clear hc
 have HA := Lib.hid ha; clear ha
 unfold maxLen at hm
 go_enter Try.func59, Try.ntmps59
 go_wp2_with fail
 go_loopw [3, 8] (fun last i wr => ∃ k : Nat, k ≤ l.length ∧ i = .int .i64 k ∧ last = .int .i64 (nthLast 0 (l.take k)) ∧ soundFrom 0 (l.take k) = true ∧ Below w.heap.size w wr) (fun _ i _ => l.length - (intOf i).toNat)
 case atStart => exact ⟨0, Nat.zero_le _, rfl, rfl, rfl, Below.refl _ _⟩
 case round =>
  obtain ⟨k, hk, rfl, rfl, hs, hb⟩ := hrel
  have HS := Lib.hid hs; clear hs
  by_cases hlt : k < l.length
  ·have e := (HA.out (by omega)).1
   have hbB := (HA.out (by omega)).2
   subst e
   have c1 := (hb.cell Y21).trans (H.out k hlt).1.1
   have c2 := (hb.cell Y21).trans (H.out k hlt).2.1
   have hsz := hb.size
   have HN := Lib.hid (soundFrom_take_succ l k hlt)
   have HL := Lib.hid (nthLast_take_succ l k hlt)
   have HB := Lib.hid hb; clear hb
   cases h3 : withinB l[k].2 0 2147483647
   all_goals
    have H3 := Lib.hid h3
    clear h3
    go_wp2_with (go_at_call 72; refine (within_any _ _ _ _).mono ?_; rintro e w' ⟨rfl, rfl⟩; simp only [H3.out])
   case roundEnd =>
    go_roundw
    case rel =>
     refine ⟨k + 1, by omega, by go_num, by rw [HL.out], ?_, HB.out.alloc hsz _⟩
     rw [HN.out, HS.out, H3.out]; simp; omega
    case measure => simp [intOf]; omega
   all_goals
    go_ret
    refine ⟨ret_bool ?_, HB.out.alloc hsz _⟩
    rw [soundFrom_take l (k + 1)]
    rw [HN.out, HS.out, H3.out]
    simp
    try omega
  go_wp2
  go_ret
  exact ⟨ret_bool (by rw [soundM_eq l k (by omega), HS.out]), hb⟩
theorem Try.infoInt : (Try.prog.info? 3).map (fun i => (i.zero, i.size, i.bytes)) = some (some (.int .i64 0), 1, 8) := by kernel_rfl
theorem toldTo_le (l : List Snap) (last span spans : Int) (stay : Bool) (k : Nat) : (toldTo l last span spans stay k).length ≤ k := by
 unfold toldTo
 rw [List.length_map]
 exact Nat.le_trans (List.length_filter_le _ _) (by simp)
theorem toldTo_mem {l : List Snap} {last span spans : Int} {stay : Bool} {k : Nat} (hk : k ≤ l.length) (h : ∀ s ∈ l, I64 s.1) : ∀ x ∈ toldTo l last span spans stay k, I64 x := by
 intro x hx
 simp only [toldTo, List.mem_map, List.mem_filter, List.mem_range] at hx
 obtain ⟨i, ⟨hi, _⟩, rfl⟩ := hx
 have hlt : i < l.length := by omega
 simp only [List.getD_eq_getElem?_getD, List.getElem?_eq_getElem hlt, Option.getD_some]
 exact h _ (List.getElem_mem hlt)
theorem SlPair.i64 {B : Nat} {w : World} {v : Value} {l : List Snap} (h : SlPair B w v l) : ∀ s ∈ l, I64 s.1 := by
 obtain ⟨a, b, off, cap, _, _, _, _, _, hc⟩ := h
 intro s hs
 obtain ⟨i, hi, rfl⟩ := List.getElem_of_mem hs
 exact (hc i hi).1.2
end Go.Proofs.Ytakeannapfaodaa
set_option linter.unusedVariables false
set_option linter.unusedSimpArgs false
set_option maxRecDepth 100000
namespace Go.Proofs.Ytakeannapfaodaa
open Go.RowKit Go.Maps
theorem ends_all (B : Nat) (v : Value) (l : List Snap) (last span spans : Int) (w : World) (hB : B ≤ w.heap.size) (hv : SlPair B w v l) (hl : l.length ≤ 1000) (hs : soundM l = true) (h1 : 0 ≤ span) :
 Calls Try.prog 60 #[v, .agg #[.int .i64 last, .int .i64 span, .int .i64 spans]] w (EndsPost l span spans w) := by
 by_cases h0 : span = 0
 ·subst h0; exact ends_zero v l last spans w
 exact ends_any B v l last span spans w hB hv hl hs (by omega)
theorem polM_five {last span spans : Int} (h : ¬ polM last span spans = 0) : polM last span spans = 5 := by
 unfold polM at h ⊢
 split
 ·rename_i hh; rw [if_pos hh] at h; exact absurd rfl h
 rfl
structure ToldAt (w0 w : World) (B : Nat) (v : Value) (last span spans : Int) : Prop where
 below : Below B w0 w
 room : B + 2 ≤ w.heap.size
 c0 : w.cell? ⟨B, 0, none⟩ = some v
 c1 : w.cell? ⟨B + 1, 0, none⟩ = some (.int .i64 last)
 c2 : w.cell? ⟨B + 1, 1, none⟩ = some (.int .i64 span)
 c3 : w.cell? ⟨B + 1, 2, none⟩ = some (.int .i64 spans)
theorem ToldAt.later {w0 w w' : World} {B : Nat} {v : Value} {last span spans : Int} (h : ToldAt w0 w B v last span spans) (hb : Below (B + 2) w w') : ToldAt w0 w' B v last span spans :=
 ⟨h.below.trans (hb.mono (by omega)), Nat.le_trans h.room hb.size, (hb.cell (by show B < B + 2; omega)).trans h.c0, (hb.cell (by show B + 1 < B + 2; omega)).trans h.c1, (hb.cell (by show B + 1 < B + 2; omega)).trans h.c2, (hb.cell (by show B + 1 < B + 2; omega)).trans h.c3⟩
theorem ToldAt.start (w : World) (v : Value) (last span spans : Int) (t1 t2 : TypeId) : ToldAt w ((w.alloc (.cells #[v] t1)).alloc (.cells #[.int .i64 last, .int .i64 span, .int .i64 spans] t2)) w.heap.size v last span spans where
 below := ((Below.refl _ _).alloc (Nat.le_refl _) _).alloc (by simp) _
 room := by simp
 c0 := by go_simp
 c1 := by go_simp
 c2 := by go_simp
 c3 := by go_simp
end Go.Proofs.Ytakeannapfaodaa
set_option linter.unusedVariables false
set_option linter.unusedSimpArgs false
set_option maxRecDepth 100000
namespace Go.Proofs.Ytakeannapfaodaa
open Go.RowKit Go.Maps
theorem ownsRow_base_t {W : World} {base base' : Nat} {e : TypeId} {size : Nat} {v : Value} {k : Nat} {xs : List Value} (h : W.ownsRow base e size v k xs) (hb : base' ≤ base) : W.ownsRow base' e size v k xs := by
 refine ⟨h.1, ?_⟩
 rcases h.2 with hn | ⟨g, cap, cur, hv, hbg, rest⟩
 ·exact .inl hn
 exact .inr ⟨g, cap, cur, hv, Nat.le_trans hb hbg, rest⟩
def ToldQ (l : List Snap) (last span spans : Int) (stay : Bool) (w : World) (e : Ending) (w' : World) : Prop :=
 ∃ x, e = .returned (.tuple #[x, .int .i64 (toldE l last span spans)]) ∧ w'.ownsRow w.heap.size 3 1 x (toldM l last span spans stay).length ((toldM l last span spans stay).flatMap encInt) ∧ Below w.heap.size w w'
set_option maxHeartbeats 1000000 in
theorem told_own (B : Nat) (v : Value) (l : List Snap) (last span spans : Int) (stay : Bool) (w : World) (hB : B ≤ w.heap.size) (hv : SlPair B w v l) (hl : l.length ≤ 1000) :
 Calls Try.prog 43 #[v, .agg #[.int .i64 last, .int .i64 span, .int .i64 spans], .bool stay] w (ToldQ l last span spans stay w) := by
 have HV := Lib.hid hv
 have HI := Lib.hid (SlPair.i64 hv)
 obtain ⟨i0, hi, hj0, hj1, hj2⟩ := info_parts Try.infoInt
 obtain ⟨a, b, off, cap, rfl, hcap, hm, -, ha, hc⟩ := hv
 have H := Lib.hid hc; clear hc
 have HA := Lib.hid ha; clear ha
 unfold maxLen at hm
 have hT := ToldAt.start w (.slice a l.length cap) last span spans 75 29
 obtain ⟨W1, hW1⟩ : ∃ W1, W1 = (w.alloc (.cells #[.slice a l.length cap] 75)).alloc (.cells #[.int .i64 last, .int .i64 span, .int .i64 spans] 29) := ⟨_, rfl⟩
 rw [← hW1] at hT
 have g0 := hT.c0
 have g1 := hT.c1
 have g2 := hT.c2
 have g3 := hT.c3
 go_enter Try.func43, Try.ntmps43
 go_wp2_with fail
 rw [← hW1]
 clear hW1
 refine (check_any _ _ _ _).mono ?_
 rintro e w1 ⟨rfl, hb1⟩
 have hT1 := hT.later (hb1.mono hT.room)
 clear hT g0 g1 g2 g3 hb1
 have g0 := hT1.c0
 have HT1 := Lib.hid hT1; clear hT1
 by_cases hck : polM last span spans = 0
 ·have hck' : (polM last span spans != 0) = false := by simpa using hck
  have HCK := Lib.hid hck; clear hck
  go_wp2_with fail
  refine (sound_any B _ l _ (Nat.le_trans hB HT1.out.below.size) (SlPair.below HV.out (HT1.out.below.mono hB) (Nat.le_refl _))).mono ?_
  rintro e w2 ⟨rfl, hb2⟩
  have hT2 := HT1.out.later (hb2.mono HT1.out.room)
  clear hb2 g0
  have g0 := hT2.c0
  have g1 := hT2.c1
  have g2 := hT2.c2
  have g3 := hT2.c3
  have HT2 := Lib.hid hT2; clear hT2
  cases hso : soundM l
  ·have HSO := Lib.hid hso; clear hso
   go_wp2
   go_ret2
   refine ⟨.slice none 0 0, ret2 rfl (int_eq ?_), ?_, HT2.out.below⟩
   ·simp [toldE, HCK.out, HSO.out]
   have : toldM l last span spans stay = [] := by simp [toldM, HSO.out]
   rw [this]; exact World.ownsRow_nil _ _ _ _
  have HSO := Lib.hid hso; clear hso
  go_wp2_with fail
  refine (ends_all B _ l last span spans _ (Nat.le_trans hB HT2.out.below.size) (SlPair.below HV.out (HT2.out.below.mono hB) (Nat.le_refl _)) hl HSO.out (polM_bounds HCK.out).2.1.1).mono ?_
  rintro e w3 ⟨mb, n, rfl, hmb, _, hset, hb3⟩
  have hT3 := HT2.out.later (hb3.mono HT2.out.room)
  clear hb3 g0 g1 g2 g3
  have hT4 := hT3.later (((Below.refl _ w3).alloc (Nat.le_refl _) (.cells #[.map (some mb)] 114)).mono hT3.room)
  have hs4 : SetIs Try.prog 3 (w3.alloc (.cells #[.map (some mb)] 114)) mb n (outsM l span spans) := hset.grown (World.grownBy_alloc _ _ none) (by simp) (Nat.le_refl _)
  have g0 := hT3.c0
  have g4 : (w3.alloc (.cells #[.map (some mb)] 114)).cell? ⟨w3.heap.size, 0, none⟩ = some (.map (some mb)) := by go_simp
  have g0' := hT4.c0
  have HT3 := Lib.hid hT3; have HT4 := Lib.hid hT4; have HS4 := Lib.hid hs4; have HG4 := Lib.hid g4
  clear hT3 hT4 hs4 hset g4
  go_wp2_with fail
  clear g0' g0
  obtain ⟨W4, hW4⟩ : ∃ W4, W4 = w3.alloc (.cells #[.map (some mb)] 114) := ⟨_, rfl⟩
  have hz4 : w3.heap.size < W4.heap.size := by rw [hW4]; simp
  rw [← hW4] at HT4 HS4 HG4
  go_loopw [11, 28] (fun o i wr => ∃ k : Nat, k ≤ l.length ∧ i = .int .i64 k ∧ wr.ownsRow W4.heap.size 3 1 o (toldTo l last span spans stay k).length ((toldTo l last span spans stay k).flatMap encInt) ∧ Below W4.heap.size W4 wr) (fun _ i _ => l.length - (intOf i).toNat)
  case atStart => exact ⟨0, Nat.zero_le _, rfl, World.ownsRow_nil _ _ _ _, by rw [← hW4]; exact Below.refl _ _⟩
  case round =>
   clear hW4
   obtain ⟨k, hk, rfl, hown, hb⟩ := hrel
   by_cases hlt : k < l.length
   ·have e := (HA.out (by omega)).1
    have hbB := (HA.out (by omega)).2
    subst e
    have hzr := hb.size
    have hTr := HT4.out.later (hb.mono (by have := HT3.out.room; omega))
    have q1 := (hTr.below.cell Y21).trans (H.out k hlt).1.1
    have q2 := (hTr.below.cell Y21).trans (H.out k hlt).2.1
    have HB := Lib.hid hb
    have HTR := Lib.hid hTr
    have HO := Lib.hid hown
    clear hown hb hTr
    go_wp2_with fail
    obtain ⟨W5, hW5⟩ : ∃ W5, W5 = wr.alloc (.cells #[.int .i64 l[k].1, .int .i64 l[k].2] 77) := ⟨_, rfl⟩
    have p0 : W5.cell? ⟨wr.heap.size, 0, none⟩ = some (.int .i64 l[k].1) := by rw [hW5]; go_simp
    have hb5 : Below wr.heap.size wr W5 := by rw [hW5]; exact (Below.refl _ _).alloc (Nat.le_refl _) _
    have hz5 : W5.heap.size = wr.heap.size + 1 := by rw [hW5]; simp
    rw [← hW5]
    clear hW5 q1 q2
    have hT5 := HTR.out.later (hb5.mono HTR.out.room)
    have hb45 := HB.out.trans (hb5.mono hzr)
    refine (stays_any B _ l last (outsM l span spans) k W5 w3.heap.size w.heap.size (w.heap.size + 1) mb n (Nat.le_trans hB hT5.below.size) (SlPair.below HV.out (hT5.below.mono hB) (Nat.le_refl _)) hl hlt (polM_bounds HCK.out).1 ((hb45.cell (by show w3.heap.size < _; omega)).trans HG4.out) hT5.c0 hT5.c1 (HS4.out.below hb45 (by omega))).mono ?_
    rintro e w6 ⟨rfl, hb6⟩
    rw [staysP_eq HSO.out last span spans k hlt]
    have p0 := (hb6.cell (p := ⟨wr.heap.size, 0, none⟩) (by show wr.heap.size < _; omega)).trans p0
    have hb46 := hb45.trans (hb6.mono (by omega))
    have hown := owns_below (owns_below HO.out hb5) hb6
    have hz6 := hb6.size
    have HB46 := Lib.hid hb46
    clear hb5 hb45 hb46 hb6 hT5
    have HT := Lib.hid (toldTo_succ l last span spans stay k hlt)
    have hln := toldTo_le l last span spans stay k
    cases hst : (staysM l last span spans k == stay)
    ·have HST := Lib.hid hst
     go_wp2_with fail
     go_roundw
     case rel => exact ⟨k + 1, by omega, by go_num, by rw [HT.out, HST.out]; simpa using hown, HB46.out⟩
     case measure => simp [intOf]; omega
    have HST := Lib.hid hst
    go_wp2_with (at_builtin; refine wpList_append_own _ rfl (.tmp 38) (.tmp 41) 42 rfl W4.heap.size 3 i0 (.int .i64 0) 1 8 Try.underlying42 hi hj0 hj1 hj2 rfl (by decide) _ _ _ rfl (hown.alloc _) ⟨w6.heap.size, 0, none⟩ 1 1 [.int .i64 l[k].1] rfl rfl (cell_one_new _ _ _) (oneCell_int _ _) (by unfold maxLen; omega) (by omega) (by simp; omega) ?_)
    intro v' w7 hown' hgrow _
    have hb7 := below_append HB46.out hown hgrow (Nat.le_refl _) (by omega)
    clear hown hgrow
    go_wp2
    go_roundw
    case rel => exact ⟨k + 1, by omega, by go_num, by rw [HT.out, HST.out]; simpa [encInt] using hown', hb7⟩
    case measure => simp [intOf]; omega
   go_wp2
   go_ret2
   have hk' : k = l.length := by omega
   subst hk'
   refine ⟨_, ret2 rfl (int_eq ?_), ?_, HT4.out.below.trans (hb.mono (by have := HT3.out.room; omega))⟩
   ·simp [toldE, HCK.out, HSO.out]
   have : toldM l last span spans stay = toldTo l last span spans stay l.length := by simp [toldM, HCK.out, HSO.out]
   rw [this]
   exact ownsRow_base_t hown (by have h1 := HT4.out.below.size; omega)
 have hck' : (polM last span spans != 0) = true := by simpa using hck
 have HCK := Lib.hid hck; clear hck
 go_wp2
 go_ret2
 refine ⟨.slice none 0 0, ret2 rfl (int_eq ?_), ?_, HT1.out.below⟩
 ·rw [polM_five HCK.out]; unfold toldE; rw [if_neg HCK.out]
 have : toldM l last span spans stay = [] := by simp [toldM, HCK.out]
 rw [this]; exact World.ownsRow_nil _ _ _ _
set_option maxHeartbeats 1000000 in
theorem go_own (B : Nat) (v : Value) (l : List Snap) (last span spans : Int) (w : World) (hB : B ≤ w.heap.size) (hv : SlPair B w v l) (hl : l.length ≤ 1000) :
 Calls Try.prog 30 #[v, .agg #[.int .i64 last, .int .i64 span, .int .i64 spans]] w (ToldQ l last span spans false w) := by
 go_enter Try.func30, Try.ntmps30
 go_wp2_with fail
 refine (told_own B v l last span spans false _ (Nat.le_trans hB (by simp)) (SlPair.below hv (((Below.refl _ _).alloc (Nat.le_refl _) _).mono hB) (Nat.le_refl _)) hl).mono ?_
 rintro e w1 ⟨x, rfl, hx, hb⟩
 go_wp2
 go_ret2
 exact ⟨x, rfl, ownsRow_base_t hx (by simp), ((Below.refl _ _).alloc (Nat.le_refl _) _).trans (hb.mono (by simp))⟩
end Go.Proofs.Ytakeannapfaodaa
namespace Go.Proofs.Ytakeannapfaodaa
open Go.RowKit
set_option linter.unusedVariables false
set_option linter.unusedSimpArgs false
def prC (x : Int × Int) : List Value := [.int .i64 x.1, .int .i64 x.2]
theorem prC_one (x : Int × Int) : ∀ u ∈ prC x, u.oneCell' = true := fun u hu => by
 simp only [prC, List.mem_cons, List.not_mem_nil, or_false] at hu
 rcases hu with rfl | rfl <;> rfl
def snS (ss : List ST) : List (Int × Int) := ss.map fun s => (s.n, s.t)
def snM (l : List Sp) : List (Int × Int) := l.map fun s => (s.n, s.t)
theorem snM_sps (ss : List ST) : snM (sps ss) = snS ss := by simp [snM, sps, snS, ST.pl]
theorem snS_take {ss : List ST} {i : Nat} (h : i < ss.length) : snS (ss.take (i + 1)) = snS (ss.take i) ++ [(ss[i].n, ss[i].t)] := by
 unfold snS
 rw [List.take_succ_eq_append_getElem h, List.map_append]
 rfl
theorem snS_len (ss : List ST) : (snS ss).length = ss.length := List.length_map ..
theorem pr_app (e : TypeId) (v : Value) (ls : List (Int × Int)) (x : Int × Int) : own e 2 v (ls.length + 1) (ls.flatMap prC ++ prC x) = own e 2 v (ls ++ [x]).length ((ls ++ [x]).flatMap prC) := by
 rw [List.length_append, List.flatMap_append]
 congr 2
theorem Try.infoSp : (Try.prog.info? 77).map (fun i => (i.zero.map (·.cells.size), i.size, i.bytes)) = some (some 2, 2, 16) := by kernel_rfl
theorem flat_int (l : List Int) : l.flatMap encInt = l.map vInt := by
 induction l with
 | nil => rfl
 | cons a l ih => rw [List.flatMap_cons, List.map_cons, ih]; rfl
theorem go_tr (v : Value) (l : List (Int × Int)) (last span spans : Int) (hl : l.length ≤ 1000) (hx : ∀ x ∈ l, I64 x.1 ∧ I64 x.2) : Tr Try.prog 30 #[v, .agg #[.int .i64 last, .int .i64 span, .int .i64 spans]] [own 77 2 v l.length (l.flatMap prC)] []
 (TX (fun _ : Value => True) (fun x => .tuple #[x, .int .i64 (toldE l last span spans)]) (fun x => [own 3 1 x (toldM l last span spans false).length ((toldM l last span spans false).map vInt)])) := fun w hro hp => by
 have h1 : w.ownsRow 0 77 2 v l.length (l.flatMap encPair) := (ro1 hro).1
 refine (go_own w.heap.size v l last span spans w (Nat.le_refl _) (SlPair.of_owns h1 rfl hx) hl).mono ?_
 rintro e w' ⟨x, he, hrow, hb⟩
 rw [flat_int] at hrow
 exact ⟨_, _, he, ⟨x, trivial, rfl, rfl⟩, hp_new hrow hb⟩
def cutZ (g : List Int) (zs : List ST) : List ST := g.foldl (fun l n => dropN n l) zs
def cutL (g : List Int) (l : List Sp) : List Sp := g.foldl (fun l n => cutS n l) l
theorem cutZ_take {g : List Int} {zs : List ST} {i : Nat} (h : i < g.length) : cutZ (g.take (i + 1)) zs = dropN g[i] (cutZ (g.take i) zs) := by
 unfold cutZ
 rw [List.take_succ_eq_append_getElem h, List.foldl_append]
 rfl
theorem cutZ_pl (g : List Int) : ∀ zs : List ST, sps (cutZ g zs) = cutL g (sps zs) := by
 induction g with
 | nil => exact fun zs => rfl
 | cons n g ih => exact fun zs => (ih (dropN n zs)).trans (congrArg (cutL g) (cut_sps n zs))
theorem cutZ_filter (g : List Int) : ∀ zs : List ST, cutZ g zs = zs.filter fun s => ! g.contains s.n := by
 induction g with
 | nil => exact fun zs => (List.filter_eq_self.2 fun s _ => rfl).symm
 | cons n g ih =>
  intro zs
  show cutZ g (dropN n zs) = _
  rw [ih, dropN, List.filter_filter]
  refine List.filter_congr fun s _ => ?_
  unfold keepN
  rw [List.contains_cons]
  by_cases h : s.n = n
  ·simp [h]
  simp [h, beq_eq_false_iff_ne.2 h]
theorem cutL_filter (g : List Int) : ∀ l : List Sp, cutL g l = l.filter fun s => ! g.contains s.n := by
 induction g with
 | nil => exact fun l => (List.filter_eq_self.2 fun s _ => rfl).symm
 | cons n g ih =>
  intro l
  show cutL g (cutS n l) = _
  rw [ih, cutS, List.filter_filter]
  refine List.filter_congr fun s _ => ?_
  rw [List.contains_cons]
  by_cases h : s.n = n
  ·simp [h]
  simp [h, beq_eq_false_iff_ne.2 h]
theorem cutZ_mem {g : List Int} {zs : List ST} {s : ST} (h : s ∈ cutZ g zs) : s ∈ zs := by
 rw [cutZ_filter] at h
 exact (List.mem_filter.1 h).1
def plCut : PM → Int → List Int → PM
 | [], _, _ => []
 | (k, z) :: pm, c, g => if k = c then (k, (z.1, cutL g z.2)) :: pm else (k, z) :: plCut pm c g
def stCut : MS → Int → Cl → MS
 | [], _, _ => []
 | (k, y) :: st, c, z => if k = c then (c, z) :: st else (k, y) :: stCut st c z
theorem stCut_none {st : MS} {c : Int} {z : Cl} (h : stGet st c = none) : stCut st c z = st := by
 induction st with
 | nil => rfl
 | cons p st ih =>
  obtain ⟨k, y⟩ := p
  rw [stGet] at h
  by_cases h1 : k = c
  ·rw [if_pos h1] at h
   cases h
  rw [if_neg h1] at h
  rw [stCut, if_neg h1, ih h]
theorem stCut_some {st : MS} {c : Int} {z y : Cl} (h : stGet st c = some y) : stCut st c z = stSet st c z := by
 induction st with
 | nil => cases h
 | cons p st ih =>
  obtain ⟨k, x⟩ := p
  rw [stGet] at h
  by_cases h1 : k = c
  ·rw [stCut, stSet, if_pos h1, if_pos h1]
  rw [if_neg h1] at h
  rw [stCut, stSet, if_neg h1, if_neg h1, ih h]
theorem ptrs_cut {st : MS} {c : Int} {z : Cl} (h : ∀ y, stGet st c = some y → y.b = z.b) : ptrs (stCut st c z) = ptrs st := by
 cases hs : stGet st c with
 | none => rw [stCut_none hs]
 | some y =>
  rw [stCut_some hs, ptrs_set st c z h]
  exact mset_same (by rw [ptrs_get, hs]; show some _ = some _; rw [← h y hs])
theorem pl_cut {st : MS} {c : Int} {z z' : Cl} {g : List Int} (h : IsCl st c z) (hg : z'.g = z.g) (hs : z'.ss = cutZ g z.ss) : plM (stCut st c z') = plCut (plM st) c g := by
 rcases h with h | ⟨h, -⟩
 ·induction st with
  | nil => cases h
  | cons p st ih =>
   obtain ⟨k, x⟩ := p
   rw [stGet] at h
   by_cases h1 : k = c
   ·rw [if_pos h1] at h
    injection h with h
    subst h
    rw [stCut, if_pos h1]
    show (c, z'.pl) :: plM st = (if k = c then (k, (x.g, cutL g (sps x.ss))) :: plM st else _)
    rw [if_pos h1, Cl.pl, hg, hs, cutZ_pl, h1]
   rw [if_neg h1] at h
   rw [stCut, if_neg h1]
   show (k, x.pl) :: plM (stCut st c z') = (if k = c then _ else (k, x.pl) :: plCut (plM st) c g)
   rw [if_neg h1, ih h]
 rw [stCut_none h]
 induction st with
 | nil => rfl
 | cons p st ih =>
  obtain ⟨k, x⟩ := p
  rw [stGet] at h
  by_cases h1 : k = c
  ·rw [if_pos h1] at h
   cases h
  rw [if_neg h1] at h
  show (k, x.pl) :: plM st = (if k = c then _ else (k, x.pl) :: plCut (plM st) c g)
  rw [if_neg h1, ← ih h]
section
variable {n : Nat} {w0 : World} {S : Nat → Prop} {l : Fr} {m : List Ck} {K : Act → World → Prop}
theorem G.cliEnd {st : MS} {c : Int} {z z' : Cl} {r r' : List Ck} (hz : IsCl st c z) (h1 : Sel m (cliC z') r) (h2 : Sel r (clis (stDel st c)) r') (h : G n w0 S l (clis (stCut st c z') :: r') K) : G n w0 S l m K := by
 rcases hz with hz | ⟨hz, _⟩
 ·rw [stCut_some hz] at h
  exact G.cliIn (z := z') h1 h2 h
 rw [stCut_none hz] at h
 rw [del_none hz] at h2
 exact G.mem (fun w hw => (((hw.sel h1).perm (List.Perm.cons _ h2.perm)).tail)) h
end
def expM (pm : PM) (c last span spans : Int) : (List Int × Int) × PM :=
 if toldE (snM (plGet pm c).2) last span spans = 0 then ((toldM (snM (plGet pm c).2) last span spans false, 0), plCut pm c (toldM (snM (plGet pm c).2) last span spans false)) else (([], toldE (snM (plGet pm c).2) last span spans), pm)
theorem expM_bad {pm : PM} {c last span spans e : Int} {q : List (Int × Int)} (hq : snM (plGet pm c).2 = q) (he : toldE q last span spans = e) (h : ¬ e = 0) : expM pm c last span spans = (([], e), pm) := by
 subst hq he
 exact if_neg h
theorem expM_good {pm : PM} {c last span spans : Int} {q : List (Int × Int)} (hq : snM (plGet pm c).2 = q) (h : toldE q last span spans = 0) : expM pm c last span spans = ((toldM q last span spans false, 0), plCut pm c (toldM q last span spans false)) := by
 subst hq
 exact if_pos h
set_option maxRecDepth 20000 in
set_option maxHeartbeats 4000000 in
theorem mexpire_tr (Dm bm : Nat) (st : MS) (c last span spans : Int) (hok : okM (plM st)) (hc : I64 c) : Tr Try.prog 13 #[.pointer (some ⟨Dm, 0, none⟩), .int .i64 c, .agg #[.int .i64 last, .int .i64 span, .int .i64 spans]] [] [blk Dm 40 [.map (some bm)], mpc vInt I64 bm (ptrs st), clis st]
 (TX (fun z : Value × MS => plM z.2 = (expM (plM st) c last span spans).2) (fun z => .tuple #[z.1, .int .i64 (expM (plM st) c last span spans).1.2]) (fun z => [own 3 1 z.1 (expM (plM st) c last span spans).1.1.length ((expM (plM st) c last span spans).1.1.map vInt), blk Dm 40 [.map (some bm)], mpc vInt I64 bm (ptrs z.2), clis z.2])) := by
 refine Tr.of (l := [(0, .pointer (some ⟨Dm, 0, none⟩)), (1, .int .i64 c), (2, .agg #[.int .i64 last, .int .i64 span, .int .i64 spans])]) Try.func13 rfl (n := 62) rfl (.cons rfl (.cons rfl (.cons rfl .nil))) (fun w0 hro => ?_)
 refine go [9,10] ?_
 refine G.op rfl (G.box rfl rfl (cs := [_, _, _]) rfl ?_)
 intro b5
 refine go [1,1,7,8,9,9,10,0] ?_
 refine G.op rfl (G.cS rfl rfl rfl rfl Try.func26 rfl rfl subT may0 (none_tr _ _) apT ?_)
 intro x17 hJ
 try dsimp only at hJ
 try dsimp only
 refine go [7,8,60,0,13,8,9,10,0,0] ?_
 refine G.op rfl (G.cS rfl rfl rfl rfl Try.func28 rfl rfl subT may0 (of_tr _ _ _ _ (by assumption)) apT ?_)
 intro x20 hJ
 obtain ⟨zb, zv, zg, zs⟩ := x20
 try dsimp only at hJ
 try dsimp only
 have hz : IsCl st c ⟨zb, zv, zg, zs⟩ := hJ
 have hpl : plGet (plM st) c = (zg, sps zs) := hz.pl
 have hokc := hok.get c
 rw [hpl] at hokc
 obtain ⟨⟨hg1, hg2⟩, hsl, hss⟩ := hokc
 have hsl : zs.length ≤ 64 := by rw [← sps_length]; exact hsl
 refine G.cliOpen selT ?_
 refine G.treesOne selT (fun hone => ?_)
 refine G.ownNews (v := zv) selT (fun za zc zk hzv hkz hmz hadz hnilz hnewz => ?_)
 subst hzv
 have hq : snM (plGet (plM st) c).2 = snS zs := by rw [hpl, snM_sps]
 have hI : ∀ x ∈ snS zs, I64 x.1 ∧ I64 x.2 := fun x hx => by obtain ⟨s, hs, rfl⟩ := List.mem_map.1 hx; obtain ⟨a1, a2, a3, -⟩ := hss s.pl (List.mem_map_of_mem hs); exact ⟨⟨by have := a1.1; show -9223372036854775808 ≤ s.n; replace this : 1 ≤ s.n := this; omega, by have := a1.2; show s.n ≤ 9223372036854775807; replace this : s.n ≤ zg := this; omega⟩, ⟨by have := a3.1; show -9223372036854775808 ≤ s.t; replace this : 0 ≤ s.t := this; omega, by have := a3.2; show s.t ≤ 9223372036854775807; replace this : s.t ≤ 2147483647 := this; omega⟩⟩
 refine go [1,7,8,9,10,1,7,8,9,9,10,0,2,8,2,3,0,2,3,0,2,4,2,5,0,7,8,15] ?_
 refine G.ownNil 77 2 ?_
 refine G.loopK (X := Nat × Value) (ts := [5, 6, 7, 8, 25, 26]) (fun st => st.1 ≤ zs.length) (fun st => [(27, .int .i64 (st.1 : Int)), (9, st.2)]) (fun st => [own 77 2 st.2 (snS (zs.take st.1)).length ((snS (zs.take st.1)).flatMap prC)]) (fun st => zs.length - st.1) (x0 := (0, .slice none 0 0)) (.cons rfl (.cons rfl (.cons rfl (.cons rfl (.cons rfl (.cons rfl .nil)))))) subT (.cons (.cons .nil)) apT Y13 (.consE rfl veqT (.consE rfl veqT .nil)) (fun st hJ => ?_)
 obtain ⟨i, vo⟩ := st
 try dsimp only at hJ
 try dsimp only
 have hki := hJ
 have hol := snS_len (zs.take i)
 have hol2 : (zs.take i).length ≤ i := List.length_take_le _ _
 refine go [9,10,2,9,7,8,9] ?_
 refine G.condP rfl (fun h28 => ?_) (fun h28 => ?_)
 ·have hlt : i < zs.length := by omega
  have hsv := hone _ (List.getElem_mem hlt)
  refine go [13,8,9,15,9,10] ?_
  refine G.op rfl (G.val rfl rfl (pv_ixSl (sz := 4) (k := i) Try.underlying68 kr rfl rfl hadz rfl (by omega)) ?_)
  refine G.op rfl (G.val rfl rfl (pv_loadN (cs := snC zs[i]) Try.underlying70 rfl kr rfl (fun w hw => news_row snC_len (hnewz selT w hw) hlt)) ?_)
  refine go [60,4] ?_
  intro b11
  refine G.op rfl (G.storeN (vs := snC zs[i]) kr rfl rfl (List.all_eq_true.2 (snC_one hsv)) selT (by exact Nat.le_of_ble_eq_true rfl) ?_)
  rw [putN_whole _ _ (by rfl)]
  rw [show blk b11 70 (snC zs[i]) = blk b11 70 [.int .i64 zs[i].n, .int .i64 zs[i].c, .int .i64 zs[i].t, zs[i].v] from rfl]
  refine go [7,8,10,0,2,3,0,2,4,2,3,2,2,4,2,50,1] ?_
  refine G.op rfl (G.buildSlice (z := .agg #[.int .i64 0, .int .i64 0]) (sz := 2) (cs := prC (zs[i].n, zs[i].t)) rfl Try.underlying75 kr (by decide) (by decide) rfl kr ?_)
  intro b37
  refine G.op rfl (G.append (k := (snS (zs.take i)).length) (j := 1) (cs := (snS (zs.take i)).flatMap prC) (news := prC (zs[i].n, zs[i].t)) (b := b37) (off := 0) rfl Try.underlying75 Try.infoSp rfl rfl rfl selT (fun _ => rfl) (fun h => by cases h) rfl (blk_news (k := 2) selT rfl) (prC_one _) (by omega) (by omega) ?_)
  intro vn
  rw [pr_app, ← snS_take hlt]
  refine go [1,7,16,8,10,2,6,0,7] ?_
  exact G.next ((i + 1, vn)) Y7 (by (try dsimp only); omega) (.consE rfl veqT (.consE rfl veqT (.cons rfl (.cons rfl (.cons rfl (.cons rfl (.cons rfl (.cons rfl .nil)))))))) subT
 obtain rfl : i = zs.length := by omega
 rw [List.take_length]
 refine go [18,14,14,19,8,9,10,0] ?_
 refine G.op rfl (G.val rfl rfl (pv_loadN (cs := [_, _, _]) Try.underlying29 rfl kr rfl (by first | exact blk_range (k := 3) selD (by rfl) | exact ro_rng0 (by assumption) | exact rng_range (k := 3) selD (by rfl) | exact ro_range (k := 3) (by assumption) (by rfl) | exact ro_rngR (k := 3) (by assumption) (by rfl))) ?_)
 refine G.op rfl (G.cS rfl rfl rfl rfl Try.func30 rfl rfl subT (may1 Y1) (go_tr vo (snS zs) last span spans (by rw [snS_len]; omega) hI) apT ?_)
 intro x43 hJ
 try dsimp only at hJ
 try dsimp only
 obtain ⟨te, hte⟩ : ∃ te, toldE (snS zs) last span spans = te := ⟨_, rfl⟩
 obtain ⟨ge, hge⟩ : ∃ ge, toldM (snS zs) last span spans false = ge := ⟨_, rfl⟩
 rw [hte, hge]
 refine G.ownNews (v := x43) selT (fun ga gc gk hgv hkg hmg hadg hnilg hnewg => ?_)
 subst hgv
 refine go [0,2,7,2,7,1,1,7,8,9,9,10,0,2,14,7,8] ?_
 refine G.condP rfl (fun h47 => ?_) (fun h47 => ?_)
 ·have hbad := expM_bad hq hte (by assumption)
  refine go [9,10,0,1,1,7,8,11,12] ?_
  rw [hbad]
  refine G.ownNil 3 1 ?_
  refine G.cliMk (zb := zb) (zv := .slice za zs.length zc) (zg := zg) (zs := zs) subT ?_
  refine G.cliBack hz selT selT ?_
  exact G.doneX2 ((.slice none 0 0, st)) Y14 rfl rfl rfl rfl subT
 obtain rfl : te = 0 := Decidable.of_not_not (by assumption)
 have hgood := expM_good hq hte
 rw [hge] at hgood
 refine go [13,8,9,9,10,0,2,5,0,7,8,15] ?_
 refine G.loopK (X := Nat × Value) (ts := [6, 7, 8, 12, 49, 50]) (fun st => st.1 ≤ ge.length) (fun st => [(51, .int .i64 (st.1 : Int))]) (fun st => [blk zb 74 [st.2, .int .i64 zg], own 70 4 st.2 (cutZ (ge.take st.1) zs).length ((cutZ (ge.take st.1) zs).flatMap snC)]) (fun st => ge.length - st.1) (x0 := (0, (.slice za zs.length zc))) (.cons rfl (.cons rfl (.cons rfl (.cons rfl (.cons rfl (.cons rfl .nil)))))) subT (.cons .nil) apT Y13 (.consE rfl veqT .nil) (fun st hJ => ?_)
 obtain ⟨i, vz⟩ := st
 try dsimp only at hJ
 try dsimp only
 have hki := hJ
 refine go [9,10,2,9,7,8,9] ?_
 refine G.condP rfl (fun h52 => ?_) (fun h52 => ?_)
 ·have hlt : i < ge.length := by omega
  refine go [13,8,9,15,9,10] ?_
  refine G.op rfl (G.val rfl rfl (pv_ixSl (sz := 1) (k := i) Try.underlying42 kr rfl rfl hadg rfl (by omega)) ?_)
  refine G.op rfl (G.val rfl rfl (pv_load (v := .int .i64 ge[i]) Try.underlying3 rfl rfl (fun w hw => hnewg selT w hw (i * 1) _ (by rw [Nat.mul_one, List.getElem?_map, List.getElem?_eq_getElem hlt]; rfl))) ?_)
  refine go [1,7,8,10,0,2,8,2,3,0,0] ?_
  refine G.op rfl (G.cS rfl rfl rfl rfl Try.func31 rfl rfl subT may0 (sdrop_tr zb vz zg (cutZ (ge.take i) zs) ge[i] (fun s hs => hone s (cutZ_mem hs))) apT ?_)
  intro x59 hJ
  try dsimp only at hJ
  try dsimp only
  rw [← cutZ_take hlt]
  refine go [7,16,8,10,2,6,0,7] ?_
  exact G.next ((i + 1, x59)) Y7 (by (try dsimp only); omega) (.consE rfl veqT (.cons rfl (.cons rfl (.cons rfl (.cons rfl (.cons rfl (.cons rfl .nil))))))) subT
 obtain rfl : i = ge.length := by omega
 rw [List.take_length]
 refine go [18,14,14,19,8,9,10,0,1,1,7,8,11] ?_
 rw [hgood]
 refine G.treesDrop (p := fun s => ! ge.contains s.n) selT ?_
 rw [← cutZ_filter]
 refine G.cliMk (zb := zb) (zv := vz) (zg := zg) (zs := cutZ ge zs) subT ?_
 refine G.cliEnd (st := st) (c := c) (z' := ⟨zb, vz, zg, cutZ ge zs⟩) hz selT selT ?_
 rw [show ptrs st = ptrs (stCut st c ⟨zb, vz, zg, cutZ ge zs⟩) from (ptrs_cut (z := ⟨zb, vz, zg, cutZ ge zs⟩) hz.b).symm]
 exact G.doneX2 ((.slice ga ge.length gc, stCut st c ⟨zb, vz, zg, cutZ ge zs⟩)) (by first | exact trivial | ((try dsimp only) <;> exact pl_cut (z' := ⟨zb, vz, zg, cutZ ge zs⟩) (g := ge) hz rfl rfl)) rfl rfl rfl rfl subT
theorem slist_self {Ps Pu : Nat → Prop} (v u : Value) (xs : List Ls) : Tr Try.prog 12 #[v, u] [slc rLi Ps v xs, slc rLi Pu u xs] [] (T0 (.bool true)) := by
 have := slist_tr (Ps := Ps) (Pu := Pu) v u xs xs
 rwa [decide_eq_true rfl] at this
def sE30 : En := ⟨[97], 1, 0, [], []⟩
abbrev sT30 : List ET := [(sE30, .slice none 0 0)]
theorem sE30_ok : ∀ x ∈ sT30, EnOk x.1 := fun x hx => by
 obtain rfl : x = _ := by simpa using hx
 exact (show EnOk sE30 from ⟨⟨by decide, by decide⟩, ⟨by decide, by decide⟩, by decide, by decide, by decide⟩)
theorem ens30 : ens sT30 = [sE30] := rfl
theorem en30_ok : ∀ e ∈ [sE30], EnOk e := fun e he => by
 obtain rfl : e = _ := by simpa using he
 exact sE30_ok (sE30, .slice none 0 0) (by simp)
set_option maxRecDepth 20000 in
set_option maxHeartbeats 4000000 in
theorem sample30_tr : Tr Try.prog 36 #[] [] [] (TX (fun _ : Nat => True) (fun b => .slice (some ⟨b, 0, none⟩) 1 1) (fun b => [ownT 89 (.slice (some ⟨b, 0, none⟩) 1 1) sT30, datC 5 sT30])) := by
 refine Tr.of (l := []) Try.func36 rfl (n := 3) rfl Fa.nil (fun w0 hro => ?_)
 refine go [9,10,1,7,8,9,10] ?_
 refine G.op rfl (G.val rfl rfl (pv_buildSt (z := [.string ⟨#[]⟩, .int .i64 0, .int .i64 0, .slice none 0 0, .string ⟨#[]⟩]) (pl := [(0, 1), (1, 1), (2, 1), (3, 1), (4, 1)]) Try.underlying89 kr kr rfl flT) ?_)
 refine G.op rfl (G.buildSlice (z := .agg #[.string ⟨#[]⟩, .int .i64 0, .int .i64 0, .slice none 0 0, .string ⟨#[]⟩]) (sz := 5) (cs := flatT sT30) rfl Try.underlying27 kr (by decide) (by decide) rfl kr ?_)
 intro b2
 refine G.ownBlk (b := b2) (k := 1) (sz := 5) selT rfl (by omega) ?_
 refine G.ownBNil 5 ?_
 refine G.datNil 5 ?_
 refine G.datSnoc (ys := []) (x := (sE30, .slice none 0 0)) selT selT ?_
 refine go [1,7,8,11] ?_
 exact G.doneX1 (b2) trT rfl rfl rfl subT
set_option maxRecDepth 20000 in
set_option maxHeartbeats 4000000 in
theorem backs_tr (Dm bm : Nat) (st : MS) (k q : Int) (hok : okM (plM st)) : Tr Try.prog 19 #[.pointer (some ⟨Dm, 0, none⟩), .int .i64 k, .int .i64 q] [] [blk Dm 40 [.map (some bm)], mpc vInt I64 bm (ptrs st), clis st]
 (TX (fun st' : MS => plM st' = (backM (plM st) 7 k 5 [sE30]).2) (fun _ => .bool (decide ((backM (plM st) 7 k 5 [sE30]).1.1 = q ∧ (backM (plM st) 7 k 5 [sE30]).1.2 = 0))) (fun st' => [blk Dm 40 [.map (some bm)], mpc vInt I64 bm (ptrs st'), clis st'])) := by
 refine Tr.of (l := [(0, .pointer (some ⟨Dm, 0, none⟩)), (1, .int .i64 k), (2, .int .i64 q)]) Try.func19 rfl (n := 23) rfl (.cons rfl (.cons rfl (.cons rfl .nil))) (fun w0 hro => ?_)
 have h7 : I64 7 := ⟨by decide, by decide⟩
 refine go [9,10,1,7,8,9,10,0,0] ?_
 refine G.op rfl (G.cS rfl rfl rfl rfl Try.func36 rfl rfl subT may0 (sample30_tr) apT ?_)
 intro x12 hJ
 try dsimp only at hJ
 try dsimp only
 refine G.op rfl (G.cS rfl rfl rfl rfl Try.func10 rfl rfl subT (may1 (may_tree selT selT sE30_ok)) (mback_tr Dm bm st 7 k 5 _ sT30 hok h7) apT ?_)
 intro x13 hJ
 try dsimp only at hJ
 try dsimp only
 rw [ens30] at hJ ⊢
 refine go [0,2,7,2,7,1,1,7,8,9,10,0,0,2,13,0] ?_
 refine G.partP (t := 19) rfl (fun h19 => ?_) (fun h19 => ?_)
 ·refine go [3,0,3,13,2,2,1,7,8,11] ?_
  exact G.doneX1 (x13) (by first | exact trivial | ((try dsimp only) <;> exact hJ)) rfl rfl Y15 subT
 refine go [4,4,2,2,1,7,8,11] ?_
 exact G.doneX1 (x13) (by first | exact trivial | ((try dsimp only) <;> exact hJ)) rfl rfl Y15 subT
def p1M : PM := [(7, (1, [⟨1, 3, 5, [sE30]⟩]))]
def p2M : PM := [(7, (2, [⟨1, 3, 5, [sE30]⟩, ⟨2, 4, 5, [sE30]⟩]))]
theorem bk30a : backM [] 7 3 5 [sE30] = ((1, 0), p1M) := by kernel_rfl
theorem bk30b : backM p1M 7 3 5 [sE30] = ((1, 0), p1M) := by kernel_rfl
theorem bk30c : backM p1M 7 4 5 [sE30] = ((2, 0), p2M) := by kernel_rfl
theorem ok0M : okM [] := fun p hp => by cases hp
theorem ok1M : okM p1M := by have := backM_ok ok0M (c := 7) (k := 3) (t := 5) en30_ok; rwa [bk30a] at this
theorem ok2M : okM p2M := by have := backM_ok ok1M (c := 7) (k := 4) (t := 5) en30_ok; rwa [bk30c] at this
theorem ls30 : lsM (plGet p2M 7).2 = [(1, 5, 3), (2, 5, 4)] := by kernel_rfl
set_option maxRecDepth 20000 in
set_option maxHeartbeats 4000000 in
theorem awake30_tr : Tr Try.prog 7 #[] [] [] (T0 (.bool true)) := by
 refine Tr.of (l := []) Try.func7 rfl (n := 30) rfl Fa.nil (fun w0 hro => ?_)
 refine go [9,10,1,7,8,9,10] ?_
 refine G.op rfl (G.cS rfl rfl rfl rfl Try.func8 rfl rfl subT may0 (mnew_tr) apT ?_)
 intro x2 hJ
 obtain ⟨Dm, bm⟩ := x2
 try dsimp only at hJ
 try dsimp only
 have h0 : plM ([] : MS) = [] := rfl
 refine go [1,7,8,9,10,0] ?_
 refine G.op rfl (G.val rfl rfl (pv_neqP0 Try.underlying24 rfl rfl) ?_)
 refine go [0,3,0] ?_
 refine G.want rfl rfl rfl (G.cS rfl rfl rfl rfl Try.func19 rfl rfl subT may0 (backs_tr Dm bm ([] : MS) 3 1 (by rw [h0]; exact ok0M)) apT ?_)
 intro x7 hJ
 try dsimp only at hJ
 try dsimp only
 rw [h0, bk30a] at hJ ⊢
 have h1 : plM x7 = _ := hJ
 refine go [2,2,0,3,0] ?_
 refine G.want rfl rfl rfl (G.cS rfl rfl rfl rfl Try.func19 rfl rfl subT may0 (backs_tr Dm bm x7 3 1 (by rw [h1]; exact ok1M)) apT ?_)
 intro x11 hJ
 try dsimp only at hJ
 try dsimp only
 rw [h1, bk30b] at hJ ⊢
 have h2 : plM x11 = _ := hJ
 refine go [2,2,0,3,0] ?_
 refine G.want rfl rfl rfl (G.cS rfl rfl rfl rfl Try.func19 rfl rfl subT may0 (backs_tr Dm bm x11 4 2 (by rw [h2]; exact ok1M)) apT ?_)
 intro x15 hJ
 try dsimp only at hJ
 try dsimp only
 rw [h2, bk30c] at hJ ⊢
 have h3 : plM x15 = _ := hJ
 refine go [2,2,0,3,0] ?_
 refine G.want rfl rfl rfl (G.cS rfl rfl rfl rfl Try.func11 rfl rfl subT may0 (list_tr Dm bm x15 7 (by rw [h3]; exact ok2M) ⟨by decide, by decide⟩) apT ?_)
 intro x19 hJ
 try dsimp only at hJ
 try dsimp only
 rw [h3, ls30]
 refine go [3,50,2,3,50,2] ?_
 refine G.want rfl rfl rfl (G.buildSlice (z := .agg #[.int .i64 0, .int .i64 0, .int .i64 0, .bool false]) (sz := 4) (cs := ([(1, 5, 3), (2, 5, 4)] : List Ls).flatMap liC) rfl Try.underlying35 kr (by decide) (by decide) rfl kr ?_)
 intro b22
 refine G.ownBlk (b := b22) (k := 2) (sz := 4) selT rfl (by omega) ?_
 refine G.want rfl rfl rfl (G.cR rfl rfl rfl rfl Try.func12 rfl rfl (may2 (may_ls selT) (may_ls selT)) (slist_self _ _ [(1, 5, 3), (2, 5, 4)]) ?_)
 refine go [2,2,0,3,0] ?_
 refine G.want rfl rfl rfl (G.cS rfl rfl rfl rfl Try.func17 rfl rfl subT may0 (great_tr Dm bm x15 8 (by rw [h3]; exact ok2M) ⟨by decide, by decide⟩) apT ?_)
 intro x27 hJ
 try dsimp only at hJ
 try dsimp only
 rw [h3, show (plGet p2M 8).1 = 0 from rfl]
 refine G.want rfl rfl rfl (G.val rfl rfl ((pv_eql rfl rfl).cast (v' := .bool true) rfl) ?_)
 refine go [2,2,1,7,8,11] ?_
 exact G.done0G rfl (Rv.tmp rfl Rv.nil) Y4
structure Ac where
 kd : Int
 cl : Int
 n : Int
 cm : Int
 tk : Int
 pa : Int
 pb : Int
 pc : Int
abbrev AT := Ac × Value × List ET
def acC (x : AT) : List Value := [vInt x.1.kd, vInt x.1.cl, vInt x.1.n, vInt x.1.cm, vInt x.1.tk, x.2.1, vInt x.1.pa, vInt x.1.pb, vInt x.1.pc]
def AcOk (x : Ac) : Prop := I64 x.kd ∧ I64 x.cl ∧ I64 x.n ∧ I64 x.cm ∧ I64 x.tk ∧ I64 x.pa ∧ I64 x.pb ∧ I64 x.pc
def rAT : Rdr AT where
 sz := 9
 R := fun Ps w b o x => Ps b ∧ w.rangeAt b o (acC x) ∧ IsSl rEV Ps w x.2.1 x.2.2 ∧ AcOk x.1 ∧ x.2.2.length ≤ 140737488355328
 loc := fun h ⟨h1, h2, h3, h4⟩ => ⟨h1, rangeAt_loc (h _ h1) h2, h3.loc h, h4⟩
 mono := fun h ⟨h1, h2, h3, h4⟩ => ⟨h _ h1, h2, h3.mono h, h4⟩
section
variable {n : Nat} {w0 : World} {S : Nat → Prop} {l : Fr} {m : List Ck} {K : Act → World → Prop} {Ps : Nat → Prop} {b o : Nat} {x : AT}
theorem Ro.atRng (h : Ro w0 S (elc rAT Ps b o x)) : Ro w0 S (rng b o [.int .i64 x.1.kd, .int .i64 x.1.cl, .int .i64 x.1.n, .int .i64 x.1.cm, .int .i64 x.1.tk, x.2.1, .int .i64 x.1.pa, .int .i64 x.1.pb, .int .i64 x.1.pc]) := ⟨h.1.2.1, fun k hk => h.2 k (by obtain rfl : k = b := hk; exact h.1.1)⟩
theorem Ro.atTree (h : Ro w0 S (elc rAT Ps b o x)) : Ro w0 S (slc rEV Ps x.2.1 x.2.2) := ⟨h.1.2.2.1, h.2⟩
theorem Ro.atOk (h : Ro w0 S (elc rAT Ps b o x)) : AcOk x.1 := h.1.2.2.2.1
end
def longP (xs : List AT) : Prop := (∃ x ∈ xs.take 41, bigM (ens x.2.2) 20 2000) ∨ 40 < xs.length
instance (xs : List AT) : Decidable (longP xs) := by
 unfold longP
 exact inferInstance
theorem long_all {xs : List AT} (h : ¬ longP xs) : xs.length ≤ 40 ∧ ∀ x ∈ xs, ¬ bigM (ens x.2.2) 20 2000 := by
 obtain ⟨h1, h2⟩ := not_or.1 h
 refine ⟨by omega, fun x hx hb => h1 ⟨x, ?_, hb⟩⟩
 rwa [List.take_of_length_le (by omega)]
theorem plGet_set (pm : PM) (c : Int) (z : Int × List Sp) : plGet (plSet pm c z) c = z := by
 induction pm with
 | nil => simp [plSet, plGet]
 | cons p pm ih =>
  obtain ⟨k, y⟩ := p
  by_cases h : k = c
  ·simp [plSet, plGet, h]
  simp only [plSet, if_neg h, plGet]
  exact ih
theorem lastOf_c {l : List Sp} {k : Int} {s : Sp} (h : lastOf l k = some s) : s ∈ l := List.mem_reverse.1 (List.mem_of_find?_eq_some h)
set_option maxRecDepth 20000 in
set_option maxHeartbeats 4000000 in
theorem long_tr {Ps : Nat → Prop} (v : Value) (xs : List AT) : Tr Try.prog 9 #[v] [slc rAT Ps v xs] [] (T0 (.bool (decide (longP xs)))) := by
 refine Tr.of (l := [(0, v)]) Try.func9 rfl (n := 23) rfl (.cons rfl .nil) (fun w0 hro => ?_)
 have hv0 := ro1 hro
 obtain ⟨av, cv, bv, fv, rfl, hcapv, hmaxv, hnilv, hadv, helv⟩ := Ro.open hv0
 refine go [9,10,1,7,8,9,9,10,1,7,8,15] ?_
 refine G.loopK (X := Nat) (ts := [0]) (fun i => i ≤ xs.length ∧ i ≤ 41 ∧ ∀ q (hq : q < xs.length), q < i → ¬ bigM (ens xs[q].2.2) 20 2000) (fun i => [(3, .int .i64 (i : Int))]) (fun i => []) (fun i => xs.length - i) (x0 := 0) (.cons rfl .nil) subT (.cons .nil) apT (by first | exact trivial | ((try dsimp only) <;> exact ⟨Nat.zero_le _, Nat.zero_le _, fun q _ h => absurd h (by omega)⟩)) (.consE rfl veqT .nil) (fun i hJ => ?_)
 try dsimp only at hJ
 try dsimp only
 obtain ⟨hi1, hi2, hJ0⟩ := hJ
 refine go [9,9] ?_
 refine G.cutK (X := Unit) (ts := [0, 3]) (p := []) (fun _ => True) (fun _ => [(11, .bool (decide (i < xs.length ∧ i < 41)))]) (fun _ => []) (.cons rfl (.cons rfl .nil)) subT (.cons .nil) apT ?_ ?_
 ·refine go [10,0,0,2,5,2,9,0] ?_
  refine G.partP (t := 8) rfl (fun h8 => ?_) (fun h8 => ?_)
  ·refine go [3,0,3,9,2,2,7] ?_
   exact G.meet (()) trT (.consE rfl Y15 (.cons rfl (.cons rfl .nil))) subT
  refine go [4,4,2,2,7] ?_
  exact G.meet (()) trT (.consE rfl Y15 (.cons rfl (.cons rfl .nil))) subT
 intro _ hJ
 try dsimp only at hJ
 try dsimp only
 refine G.condP rfl (fun h11 => ?_) (fun h11 => ?_)
 ·obtain ⟨hlt0, h41⟩ : i < xs.length ∧ i < 41 := by assumption
  have hlt : i < xs.length := by omega
  have hE := helv i hlt
  have hR := Ro.atRng hE
  have hD := Ro.atTree hE
  have hO := Ro.atOk hE
  obtain ⟨aD, cD, bD, oD, hx2, hcD, hmD, -, -, helD⟩ := Ro.openT hD
  rw [hx2] at hR
  refine go [13,8,9,15,9,10,0,0] ?_
  refine G.op rfl (G.val rfl rfl (pv_ixSl (sz := 9) (k := i) Try.underlying22 kr rfl rfl Y20 rfl (by omega)) ?_)
  refine go [2,3,5] ?_
  refine G.op rfl (G.val rfl rfl (pv_load (v := .slice aD xs[i].2.2.length cD) Try.underlying27 rfl rfl (ro_rngC hR rfl)) ?_)
  refine G.op rfl (G.cR rfl rfl rfl rfl Try.func25 rfl rfl (may1 (.old (hx2 ▸ hD))) (big_tr _ xs[i].2.2 20 2000 (by omega)) ?_)
  refine go [7,8] ?_
  refine G.condP rfl (fun h19 => ?_) (fun h19 => ?_)
  ·have hbt : longP xs := .inl ⟨xs[i], List.mem_iff_getElem.2 ⟨i, by rw [List.length_take]; omega, by rw [List.getElem_take]⟩, by assumption⟩
   refine go [9,10,1,7,8,11,17,12,12,17,12] ?_
   exact G.done0G rfl (Rv.tmp rfl Rv.nil) (by rw [decide_eq_true hbt]; rfl)
  have hnb : ¬ bigM (ens xs[i].2.2) 20 2000 := by assumption
  refine go [13,16,8,10,0,2,6,1,7] ?_
  exact G.next (i + 1) (by first | exact trivial | ((try dsimp only) <;> exact ⟨by omega, by omega, fun q hq hqi => by rcases Nat.lt_or_ge q i with h1 | h1; exact hJ0 q hq h1; obtain rfl : q = i := (by omega); exact hnb⟩)) (by (try dsimp only); omega) (.consE rfl veqT (.cons rfl .nil)) subT
 have hend : ¬ (i < xs.length ∧ i < 41) := by assumption
 refine go [18,14,14,19,8,9,10,0,2,5,2,10,1,7,8,11] ?_
 exact G.done0G rfl (Rv.tmp rfl Rv.nil) (by exact dec_e ⟨fun h => .inr (by omega), fun h => by rcases h with ⟨x, hx, hb⟩ | h; exact absurd hb (by obtain ⟨q, hq, rfl⟩ := List.getElem_of_mem hx; rw [List.length_take] at hq; rw [List.getElem_take]; exact hJ0 q (by omega) (by omega)); omega⟩)
abbrev HP := (Int × Int) × List En
def flatM (pm : PM) : List HP := pm.flatMap fun p => p.2.2.map fun s => ((p.1, s.n), s.l)
structure InvM (pm : PM) : Prop where
 keys : (pm.map (·.1)).Nodup
 nums : ∀ p ∈ pm, (p.2.2.map (·.n)).Nodup
def goneQ (c : Int) (ns : List Int) (p : Int × Int) : Prop := p.1 = c ∧ p.2 ∈ ns
instance (c : Int) (ns : List Int) (p : Int × Int) : Decidable (goneQ c ns p) := inferInstanceAs (Decidable (_ ∧ _))
def cutP (c : Int) (ns : List Int) (l : List HP) : List HP := l.filter fun h => ! decide (goneQ c ns h.1)
theorem flat_cons (p : Int × (Int × List Sp)) (pm : PM) : flatM (p :: pm) = (p.2.2.map fun s => ((p.1, s.n), s.l)) ++ flatM pm := List.flatMap_cons ..
theorem flatM_set (pm : PM) (c n : Int) (s : Sp) : (flatM (plSet pm c (n, (plGet pm c).2 ++ [s]))).Perm (flatM pm ++ [((c, s.n), s.l)]) := by
 induction pm with
 | nil => exact List.Perm.refl _
 | cons p pm ih =>
  obtain ⟨k, z⟩ := p
  rw [plSet, plGet]
  by_cases h : k = c
  ·rw [if_pos h, if_pos h, flat_cons, flat_cons, List.map_append, List.append_assoc, List.append_assoc, h]
   exact List.Perm.append_left _ List.perm_append_comm
  rw [if_neg h, if_neg h, flat_cons, flat_cons, List.append_assoc]
  exact List.Perm.append_left _ ih
theorem flat_key {pm : PM} {h : HP} (hm : h ∈ flatM pm) : ∃ p ∈ pm, p.1 = h.1.1 ∧ ∃ s ∈ p.2.2, s.n = h.1.2 ∧ s.l = h.2 := by
 obtain ⟨p, hp, hs⟩ := List.mem_flatMap.1 hm
 obtain ⟨s, hs', rfl⟩ := List.mem_map.1 hs
 exact ⟨p, hp, rfl, s, hs', rfl, rfl⟩
theorem cut_none {c : Int} {ns : List Int} {l : List HP} (h : ∀ x ∈ l, ¬ x.1.1 = c) : cutP c ns l = l := List.filter_eq_self.2 fun x hx => by
 have : ¬ goneQ c ns x.1 := fun g => h x hx g.1
 simp [this]
theorem cut_map (c k : Int) (g : List Int) (l : List Sp) (h : k = c) : cutP c g (l.map fun s => ((k, s.n), s.l)) = (cutL g l).map fun s => ((k, s.n), s.l) := by
 rw [cutL_filter]
 unfold cutP
 rw [List.filter_map]
 congr 1
 refine List.filter_congr fun s _ => ?_
 show (! decide (goneQ c g (k, s.n))) = ! g.contains s.n
 congr 1
 rw [Bool.eq_iff_iff]
 simp [goneQ, h]
theorem flat_cut {pm : PM} (hk : (pm.map (·.1)).Nodup) (c : Int) (g : List Int) : flatM (plCut pm c g) = cutP c g (flatM pm) := by
 induction pm with
 | nil => rfl
 | cons p pm ih =>
  obtain ⟨k, z⟩ := p
  rw [List.map_cons, List.nodup_cons] at hk
  have ih := ih hk.2
  rw [plCut, flat_cons, show ∀ a b : List HP, cutP c g (a ++ b) = cutP c g a ++ cutP c g b from fun a b => List.filter_append ..]
  by_cases h : k = c
  ·rw [if_pos h, flat_cons, cut_map c k g z.2 h, cut_none (l := flatM pm) fun x hx e => hk.1 (by
    obtain ⟨p, hp, h1, -⟩ := flat_key hx
    exact List.mem_map.2 ⟨p, hp, by rw [h1, e]; exact h.symm⟩)]
  rw [if_neg h, flat_cons, ih, cut_none (l := List.map _ _) fun x hx e => h (by
   obtain ⟨s, hs, rfl⟩ := List.mem_map.1 hx
   exact e)]
theorem set_keys (pm : PM) (c : Int) (z : Int × List Sp) : (plSet pm c z).map (·.1) = if c ∈ pm.map (·.1) then pm.map (·.1) else pm.map (·.1) ++ [c] := by
 induction pm with
 | nil => simp [plSet]
 | cons p pm ih =>
  obtain ⟨k, y⟩ := p
  unfold plSet
  by_cases h : k = c
  ·subst h
   simp
  rw [if_neg h, List.map_cons, ih]
  by_cases h2 : c ∈ pm.map (·.1)
  ·simp [h2]
  simp only [List.map_cons, List.mem_cons, if_neg h2]
  rw [if_neg (fun e => e.elim (fun e => h e.symm) h2)]
  rfl
theorem set_len (pm : PM) (c : Int) (z : Int × List Sp) : (plSet pm c z).length ≤ pm.length + 1 := by
 have := congrArg List.length (set_keys pm c z)
 rw [List.length_map] at this
 rw [this]
 split <;> simp
theorem set_mem {pm : PM} {c : Int} {z : Int × List Sp} {p : Int × (Int × List Sp)} (h : p ∈ plSet pm c z) : p = (c, z) ∨ p ∈ pm := by
 induction pm with
 | nil => exact .inl (by simpa [plSet] using h)
 | cons q pm ih =>
  obtain ⟨k, y⟩ := q
  rw [plSet] at h
  split at h
  ·rcases List.mem_cons.1 h with h | h
   ·exact .inl h
   exact .inr (List.mem_cons_of_mem _ h)
  rcases List.mem_cons.1 h with h | h
  ·exact .inr (by rw [h]; exact List.mem_cons_self ..)
  exact (ih h).imp id (List.mem_cons_of_mem _)
theorem InvM.set {pm : PM} (h : InvM pm) {c : Int} {z : Int × List Sp} (hz : (z.2.map (·.n)).Nodup) : InvM (plSet pm c z) where
 keys := by
  rw [set_keys]
  split
  ·exact h.keys
  rename_i hc
  exact List.nodup_append.2 ⟨h.keys, by simp, fun a ha b hb => by
   obtain rfl : b = c := by simpa using hb
   exact fun e => hc (e ▸ ha)⟩
 nums p hp := by
  rcases set_mem hp with rfl | hp
  ·exact hz
  exact h.nums p hp
theorem cut_keys (pm : PM) (c : Int) (g : List Int) : (plCut pm c g).map (·.1) = pm.map (·.1) := by
 induction pm with
 | nil => rfl
 | cons p pm ih =>
  obtain ⟨k, y⟩ := p
  rw [plCut]
  split
  ·rfl
  rw [List.map_cons, List.map_cons, ih]
theorem cut_mem {pm : PM} {c : Int} {g : List Int} {p : Int × (Int × List Sp)} (h : p ∈ plCut pm c g) : ∃ q ∈ pm, q.1 = p.1 ∧ q.2.1 = p.2.1 ∧ (p.2.2 = q.2.2 ∨ p.2.2 = cutL g q.2.2) := by
 induction pm with
 | nil => cases h
 | cons q pm ih =>
  obtain ⟨k, y⟩ := q
  rw [plCut] at h
  split at h
  ·rcases List.mem_cons.1 h with h | h
   ·exact ⟨_, List.mem_cons_self .., by rw [h], by rw [h], .inr (by rw [h])⟩
   exact ⟨p, List.mem_cons_of_mem _ h, rfl, rfl, .inl rfl⟩
  rcases List.mem_cons.1 h with h | h
  ·exact ⟨_, List.mem_cons_self .., by rw [h], by rw [h], .inl (by rw [h])⟩
  obtain ⟨q, hq, r⟩ := ih h
  exact ⟨q, List.mem_cons_of_mem _ hq, r⟩
theorem InvM.cut {pm : PM} (h : InvM pm) (c : Int) (g : List Int) : InvM (plCut pm c g) where
 keys := by rw [cut_keys]; exact h.keys
 nums p hp := by
  obtain ⟨q, hq, -, -, e | e⟩ := cut_mem hp
  ·rw [e]
   exact h.nums q hq
  rw [e, cutL_filter]
  exact (h.nums q hq).sublist (List.filter_sublist.map _)
theorem okM.cutM {pm : PM} (h : okM pm) (c : Int) (g : List Int) : okM (plCut pm c g) := fun p hp => by
 obtain ⟨q, hq, e1, e2, e | e⟩ := cut_mem hp
 ·obtain ⟨a, b⟩ := h q hq
  refine ⟨e1 ▸ a, ?_⟩
  obtain ⟨b1, b2, b3⟩ := b
  exact ⟨e2 ▸ b1, by rw [e]; exact b2, by rw [e, ← e2]; exact b3⟩
 obtain ⟨a, b⟩ := h q hq
 refine ⟨e1 ▸ a, ?_⟩
 obtain ⟨b1, b2, b3⟩ := b
 rw [cutL_filter] at e
 exact ⟨e2 ▸ b1, by rw [e]; exact Nat.le_trans (List.length_filter_le ..) b2, by rw [e, ← e2]; exact fun s hs => b3 s (List.mem_filter.1 hs).1⟩
theorem get_set_ne {pm : PM} {c d : Int} {z : Int × List Sp} (h : ¬ d = c) : plGet (plSet pm c z) d = plGet pm d := by
 induction pm with
 | nil => simp [plSet, plGet, Ne.symm h, (show ¬ c = d from fun e => h e.symm)]
 | cons p pm ih =>
  obtain ⟨k, y⟩ := p
  rw [plSet]
  split
  ·rename_i e
   subst e
   simp [plGet, (show ¬ k = d from fun e => h e.symm)]
  rw [plGet, plGet, ih]
theorem get_cut_ne {pm : PM} {c d : Int} {g : List Int} (h : ¬ d = c) : plGet (plCut pm c g) d = plGet pm d := by
 induction pm with
 | nil => rfl
 | cons p pm ih =>
  obtain ⟨k, y⟩ := p
  rw [plCut]
  split
  ·rename_i e
   subst e
   simp [plGet, (show ¬ k = d from fun e => h e.symm)]
  rw [plGet, plGet, ih]
theorem get_at {pm : PM} (hk : (pm.map (·.1)).Nodup) {p : Int × (Int × List Sp)} (h : p ∈ pm) : plGet pm p.1 = p.2 := by
 induction pm with
 | nil => cases h
 | cons q pm ih =>
  obtain ⟨k, y⟩ := q
  rw [List.map_cons, List.nodup_cons] at hk
  rw [plGet]
  rcases List.mem_cons.1 h with h | h
  ·rw [h]
   exact if_pos rfl
  rw [if_neg (fun e => hk.1 (List.mem_map.2 ⟨p, h, e.symm⟩))]
  exact ih hk.2 h
theorem nums_one {l : List Sp} (h : (l.map (·.n)).Nodup) {a b : Sp} (ha : a ∈ l) (hb : b ∈ l) (e : a.n = b.n) : a = b := by
 induction l with
 | nil => cases ha
 | cons x l ih =>
  rw [List.map_cons, List.nodup_cons] at h
  rcases List.mem_cons.1 ha with ha | ha <;> rcases List.mem_cons.1 hb with hb | hb
  ·rw [ha, hb]
  ·exact absurd (List.mem_map.2 ⟨b, hb, by rw [← e, ha]⟩) h.1
  ·exact absurd (List.mem_map.2 ⟨a, ha, by rw [e, hb]⟩) h.1
  exact ih h.2 ha hb
theorem get_held {pm : PM} (h : InvM pm) {x : HP} (hx : x ∈ flatM pm) : getM pm x.1.1 x.1.2 = (x.2, 0) := by
 obtain ⟨p, hp, h1, s, hs, h2, h3⟩ := flat_key hx
 have hg : plGet pm x.1.1 = p.2 := by rw [← h1]; exact get_at h.keys hp
 unfold getM
 rw [hg]
 cases hf : p.2.2.find? fun s => decide (s.n = x.1.2) with
 | none => exact absurd (decide_eq_true h2) (by simpa using List.find?_eq_none.1 hf s hs)
 | some s' =>
  obtain rfl : s' = s := nums_one (h.nums p hp) (List.mem_of_find?_eq_some hf) hs ((of_decide_eq_true (p := s'.n = x.1.2) (by simpa using List.find?_some hf)).trans h2.symm)
  show (s'.l, 0) = _
  rw [h3]
def cntK (pm : PM) (ks : List Int) : Nat := (ks.map fun k => (plGet pm k).2.length).sum
theorem sum_perm {a b : List Nat} (h : a.Perm b) : a.sum = b.sum := by
 induction h with
 | nil => rfl
 | cons x _ ih => rw [List.sum_cons, List.sum_cons, ih]
 | swap x y l => rw [List.sum_cons, List.sum_cons, List.sum_cons, List.sum_cons]; omega
 | trans _ _ h1 h2 => exact h1.trans h2
theorem cnt_flat {pm : PM} (h : InvM pm) : cntK pm (cliM pm) = (flatM pm).length := by
 unfold cntK cliM
 rw [sum_perm ((keysM_perm _).map _), List.map_map]
 unfold flatM
 rw [List.length_flatMap]
 congr 1
 refine List.map_congr_left fun p hp => ?_
 show (plGet pm p.1).2.length = _
 rw [get_at h.keys hp, List.length_map]
theorem cntK_take {pm : PM} {ks : List Int} {i : Nat} (h : i < ks.length) : cntK pm (ks.take (i + 1)) = cntK pm (ks.take i) + (plGet pm ks[i]).2.length := by
 unfold cntK
 rw [List.take_succ_eq_append_getElem h, List.map_append, List.sum_append]
 simp
theorem cntK_le {pm : PM} (hok : okM pm) (ks : List Int) : cntK pm ks ≤ 64 * ks.length := by
 induction ks with
 | nil => exact Nat.le_refl _
 | cons k ks ih =>
  have h1 := (hok.get k).2.1
  have h2 : cntK pm (k :: ks) = (plGet pm k).2.length + cntK pm ks := List.sum_cons ..
  rw [h2, List.length_cons]
  omega
theorem for_cut {pm : PM} {c n : Int} (h : 0 < (plGet pm c).1) : plSet pm c ((plGet pm c).1, cutS n (plGet pm c).2) = plCut pm c [n] := by
 induction pm with
 | nil => exact absurd h (by show ¬ (0 : Int) < 0; decide)
 | cons p pm ih =>
  obtain ⟨k, z⟩ := p
  rw [plGet] at h ⊢
  rw [plSet, plCut]
  by_cases e : k = c
  ·rw [if_pos e, if_pos e, if_pos e, e]
   rfl
  rw [if_neg e] at h ⊢
  rw [if_neg e, if_neg e, ih h]
structure StepOk (pm pm2 : PM) (cl cw kd nn ee : Int) (es : List En) (hp : List HP) : Prop where
 ok : okM pm2
 inv : InvM pm2
 len : pm2.length ≤ pm.length + 1
 great : ee = 0 → (plGet pm2 cl).1 = if nn < (plGet pm cl).1 then (plGet pm cl).1 else nn
 no0 : ee = 0 → kd = 0 → ¬ nn ≤ (plGet pm cl).1
 other : plGet pm2 cw = plGet pm cw
 perm : (if ee = 0 ∧ (plGet pm cl).1 < nn then hp ++ [((cl, nn), es)] else hp).Perm (flatM pm2)
section
variable {pm : PM} {cl cw kd nn ee : Int} {es : List En} {hp : List HP}
theorem step_same (hok : okM pm) (hi : InvM pm) (hp1 : hp.Perm (flatM pm)) (h : ee = 0 → nn ≤ (plGet pm cl).1 ∧ ¬ kd = 0) : StepOk pm pm cl cw kd nn ee es hp where
 ok := hok
 inv := hi
 len := by omega
 great e := by
  have := (h e).1
  split <;> omega
 no0 e k := absurd k (h e).2
 other := rfl
 perm := by
  rw [if_neg fun e => by have := (h e.1).1; omega]
  exact hp1
theorem step_cut (hok : okM pm) (hi : InvM pm) (hp1 : hp.Perm (flatM pm)) (g : List Int) (hcw : ¬ cw = cl) : StepOk pm (plCut pm cl g) cl cw kd nn 9 es (cutP cl g hp) where
 ok := hok.cutM cl g
 inv := hi.cut cl g
 len := by
  have := congrArg List.length (cut_keys pm cl g)
  rw [List.length_map, List.length_map] at this
  omega
 great e := absurd e (by decide)
 no0 e := absurd e (by decide)
 other := get_cut_ne hcw
 perm := by
  rw [if_neg fun e => absurd e.1 (by decide), flat_cut hi.keys]
  exact hp1.filter _
theorem step_take {cm tk : Int} (hok : okM pm) (hi : InvM pm) (hp1 : hp.Perm (flatM pm)) (hcw : ¬ cw = cl) (hen : ∀ e ∈ es, EnOk e) (h : (takeM pm cl nn cm tk es).1 = ee) : StepOk pm (takeM pm cl nn cm tk es).2 cl cw kd nn ee es hp := by
 subst h
 by_cases h0 : fitE cl nn cm tk es = 0
 ·by_cases h1 : nn ≤ (plGet pm cl).1
  ·rw [takeM_there h0 h1]
   exact step_same hok hi hp1 fun e => by cases e
  by_cases h2 : 64 ≤ ((plGet pm cl).2.length : Int)
  ·rw [takeM_full h0 h1 h2]
   exact step_same hok hi hp1 fun e => by cases e
  have hk := takeM_ok hok (c := cl) (n := nn) (k := cm) (t := tk) hen
  rw [takeM_new h0 h1 h2] at hk ⊢
  have hnd : (((plGet pm cl).2 ++ [(⟨nn, cm, tk, es⟩ : Sp)]).map fun s : Sp => s.n).Nodup := by
   rw [List.map_append]
   refine List.nodup_append.2 ⟨?_, by simp, fun a ha b hb e => ?_⟩
   ·by_cases hc : 0 < (plGet pm cl).1
    ·exact hi.nums _ (plGet_in hc)
    have h3 : (plGet pm cl).2 = [] := by
     cases hq : (plGet pm cl).2 with
     | nil => rfl
     | cons s r =>
      have := ((hok.get cl).2.2 s (by rw [hq]; exact List.mem_cons_self ..)).1
      omega
    rw [h3]
    exact List.nodup_nil
   obtain ⟨s, hs, rfl⟩ := List.mem_map.1 ha
   obtain rfl : b = nn := by simpa using hb
   have := ((hok.get cl).2.2 s hs).1
   omega
  refine ⟨hk, hi.set hnd, set_len .., fun _ => ?_, fun _ _ => h1, get_set_ne hcw, ?_⟩
  ·rw [plGet_set, if_neg (by omega)]
  rw [if_pos ⟨rfl, by omega⟩]
  exact (hp1.append_right _).trans (flatM_set pm cl nn ⟨nn, cm, tk, es⟩).symm
 rw [takeM_fit h0]
 exact step_same hok hi hp1 fun e => absurd e h0
theorem step_back {cm tk : Int} (hok : okM pm) (hi : InvM pm) (hp1 : hp.Perm (flatM pm)) (hcw : ¬ cw = cl) (hkd : ¬ kd = 0) (hen : ∀ e ∈ es, EnOk e) (hn : (backM pm cl cm tk es).1.1 = nn) (h : (backM pm cl cm tk es).1.2 = ee) : StepOk pm (backM pm cl cm tk es).2 cl cw kd nn ee es hp := by
 subst hn h
 by_cases h0 : fitE cl 1 cm tk es = 0
 ·cases h1 : lastOf (plGet pm cl).2 cm with
  | some s =>
   rw [backM_old h0 h1]
   exact step_same hok hi hp1 fun _ => ⟨((hok.get cl).2.2 s (lastOf_c h1)).1.2, hkd⟩
  | none =>
   by_cases h2 : (plGet pm cl).1 = 2147483647
   ·rw [backM_max h0 h1 h2]
    exact step_same hok hi hp1 fun e => by cases e
   by_cases h3 : (takeM pm cl ((plGet pm cl).1 + 1) cm tk es).1 = 0
   ·rw [backM_new h0 h1 h2 rfl h3]
    exact step_take hok hi hp1 hcw hen h3
   rw [backM_bad h0 h1 h2 rfl h3]
   have h4 := step_take (kd := kd) (cw := cw) hok hi hp1 hcw hen (nn := (plGet pm cl).1 + 1) (cm := cm) (tk := tk) rfl
   refine ⟨h4.ok, h4.inv, h4.len, fun e => absurd e h3, fun e => absurd e h3, h4.other, ?_⟩
   have h5 := h4.perm
   rw [if_neg fun e => h3 e.1] at h5 ⊢
   exact h5
 rw [backM_fit h0]
 exact step_same hok hi hp1 fun e => absurd e h0
theorem forM_cut {n : Int} (h : (forM pm cl n).1 = 0) : (forM pm cl n).2 = plCut pm cl [n] := by
 unfold forM at h ⊢
 split at h
 ·cases h
 rename_i h1
 rw [if_neg h1]
 exact for_cut (by omega)
theorem forM_no0 {n : Int} (h : ¬ (forM pm cl n).1 = 0) : (forM pm cl n).2 = pm := by
 unfold forM at h ⊢
 split at h
 ·rename_i h1
  rw [if_pos h1]
 exact absurd rfl h
theorem expM_cut {a b c : Int} (h : (expM pm cl a b c).1.2 = 0) : (expM pm cl a b c).2 = plCut pm cl (expM pm cl a b c).1.1 := by
 unfold expM at h ⊢
 split at h
 ·rename_i h1
  rw [if_pos h1]
 rename_i h1
 exact absurd h h1
theorem expM_no0 {a b c : Int} (h : ¬ (expM pm cl a b c).1.2 = 0) : (expM pm cl a b c).2 = pm := by
 unfold expM at h ⊢
 split at h
 ·exact absurd rfl h
 rename_i h1
 rw [if_neg h1]
end
abbrev HT := (Int × Int) × Value × List ET
def HT.pl (h : HT) : HP := (h.1, ens h.2.2)
def heC (x : HT) : List Value := [.int .i64 x.1.1, .int .i64 x.1.2, x.2.1]
theorem heC_len (x : HT) : (heC x).length = 3 := rfl
theorem heC_one {x : HT} (h : x.2.1.oneCell' = true) : ∀ u ∈ heC x, u.oneCell' = true := fun u hu => by
 simp only [heC, List.mem_cons, List.not_mem_nil, or_false] at hu
 rcases hu with rfl | rfl | rfl
 ·rfl
 ·rfl
 exact h
def rHe : Rdr HT where
 sz := 3
 R := fun Ps w b o x => Ps b ∧ w.rangeAt b o (heC x)
 loc := fun h ⟨h1, h2⟩ => ⟨h1, rangeAt_loc (h _ h1) h2⟩
 mono := fun h ⟨h1, h2⟩ => ⟨h _ h1, h2⟩
section
variable {n : Nat} {w0 : World} {S : Nat → Prop} {l : Fr} {m : List Ck} {K : Act → World → Prop}
theorem Ro.heRng {Ps : Nat → Prop} {b o : Nat} {x : HT} (h : Ro w0 S (elc rHe Ps b o x)) : Ro w0 S (rng b o [.int .i64 x.1.1, .int .i64 x.1.2, x.2.1]) := ⟨h.1.2, fun k hk => h.2 k (by obtain rfl : k = b := hk; exact h.1.1)⟩
theorem may_held {e : TypeId} {v : Value} {xs : List HT} {r : List Ck} (h : Sel m (own e 3 v xs.length (xs.flatMap heC)) r) : May w0 S m (slc rHe (fun b => v.ownBlock = some b) v xs) :=
 .view h.mem (fun w hw => rows_sl9 heC_len rfl hw (fun b hb => hb) fun b o x hx hP hr => ⟨hP, hr⟩) fun b hb => hb
end
theorem Try.infoHe : (Try.prog.info? 57).map (fun i => (i.zero.map (·.cells.size), i.size, i.bytes)) = some (some 3, 3, 40) := by kernel_rfl
theorem he_app (e : TypeId) (v : Value) (ls : List HT) (x : HT) : own e 3 v (ls.length + 1) (ls.flatMap heC ++ heC x) = own e 3 v (ls ++ [x]).length ((ls ++ [x]).flatMap heC) := by
 rw [List.length_append, List.flatMap_append]
 congr 2
def cutH (c : Int) (ns : List Int) (l : List HT) : List HT := l.filter fun h => ! decide (goneQ c ns h.1)
theorem cutH_pl (c : Int) (ns : List Int) (l : List HT) : (cutH c ns l).map HT.pl = cutP c ns (l.map HT.pl) := by
 unfold cutH cutP
 rw [List.filter_map]
 rfl
theorem cutH_no {c : Int} {ns : List Int} {l : List HT} {i : Nat} (h : i < l.length) (k : goneQ c ns l[i].1) : cutH c ns (l.take (i + 1)) = cutH c ns (l.take i) := by
 unfold cutH
 rw [List.take_succ_eq_append_getElem h, List.filter_append]
 simp [k]
theorem cutH_one {c : Int} {ns : List Int} {l : List HT} {i : Nat} (h : i < l.length) (k : ¬ goneQ c ns l[i].1) : cutH c ns (l.take (i + 1)) = cutH c ns (l.take i) ++ [l[i]] := by
 unfold cutH
 rw [List.take_succ_eq_append_getElem h, List.filter_append]
 simp [k]
theorem cutH_le (c : Int) (ns : List Int) (l : List HT) : (cutH c ns l).length ≤ l.length := List.length_filter_le ..
theorem cutH_mem {c : Int} {ns : List Int} {l : List HT} {h : HT} (k : h ∈ cutH c ns l) : h ∈ l := (List.mem_filter.1 k).1
theorem gone_zero (c : Int) (ns : List Int) (p : Int × Int) : Value.bool false = .bool (decide (goneQ c (ns.take 0) p)) := by
 rw [decide_eq_false fun h : goneQ c (ns.take 0) p => by simpa using h.2]
theorem gone_succ {c : Int} {ns : List Int} {p : Int × Int} {k : Nat} (h : k < ns.length) : goneQ c (ns.take (k + 1)) p ↔ goneQ c (ns.take k) p ∨ (p.1 = c ∧ p.2 = ns[k]) := by
 unfold goneQ
 rw [List.take_succ_eq_append_getElem h, List.mem_append, List.mem_singleton]
 constructor
 ·rintro ⟨h1, h2 | h2⟩
  ·exact .inl ⟨h1, h2⟩
  exact .inr ⟨h1, h2⟩
 rintro (⟨h1, h2⟩ | ⟨h1, h2⟩)
 ·exact ⟨h1, .inl h2⟩
 exact ⟨h1, .inr h2⟩
theorem wrap_next {c : Int} (h : I64 c) : I64 (IntKind.i64.wrap (c + 1)) ∧ ¬ IntKind.i64.wrap (c + 1) = c := by
 by_cases h1 : c = 9223372036854775807
 ·subst h1
  rw [show IntKind.i64.wrap (9223372036854775807 + 1) = -9223372036854775808 from by kernel_rfl]
  exact ⟨⟨by decide, by decide⟩, by decide⟩
 have h2 := h.1
 have h3 := h.2
 have h4 : I64 (c + 1) := ⟨by omega, by omega⟩
 rw [wrap_i64 h4]
 exact ⟨h4, by omega⟩
set_option maxRecDepth 20000 in
set_option maxHeartbeats 4000000 in
theorem without_tr {Ps Pu : Nat → Prop} (v u : Value) (hs : List HT) (ns : List Int) (c : Int) (hone : ∀ h ∈ hs, h.2.1.oneCell' = true) (hl : hs.length ≤ 1000) : Tr Try.prog 21 #[v, .int .i64 c, u] [slc rHe Ps v hs, slc rInt Pu u ns] []
 (TX (fun _ : Value => True) (fun x => x) (fun x => [own 57 3 x (cutH c ns hs).length ((cutH c ns hs).flatMap heC)])) := by
 refine Tr.of (l := [(0, v), (1, .int .i64 c), (2, u)]) Try.func21 rfl (n := 55) rfl (.cons rfl (.cons rfl (.cons rfl .nil))) (fun w0 hro => ?_)
 obtain ⟨hv0, hu0⟩ := ro2 hro
 have hv := hv0
 have hv' := hv
 obtain ⟨av, cv, bv, fv, rfl, hcapv, hmaxv, hnilv, hadv, helv⟩ := Ro.open hv
 have hu := hu0
 have hu' := hu
 obtain ⟨au, cu, bu, fu, rfl, hcapu, hmaxu, hnilu, hadu, helu⟩ := Ro.open hu
 refine go [9,10,1,7,8,9,10,1,7,8,9,9,10,1,7,8,15] ?_
 refine G.ownNil 57 3 ?_
 refine G.loopK (X := Nat × Value) (ts := [0, 1, 2, 6]) (fun st => st.1 ≤ hs.length) (fun st => [(8, .int .i64 (st.1 : Int)), (7, st.2)]) (fun st => [own 57 3 st.2 (cutH c ns (hs.take st.1)).length ((cutH c ns (hs.take st.1)).flatMap heC)]) (fun st => hs.length - st.1) (x0 := (0, .slice none 0 0)) (.cons rfl (.cons rfl (.cons rfl (.cons rfl .nil)))) subT (.cons (.cons .nil)) apT Y13 (.consE rfl veqT (.consE rfl veqT .nil)) (fun st hJ => ?_)
 obtain ⟨i, vo⟩ := st
 try dsimp only at hJ
 try dsimp only
 have hki := hJ
 have hol := cutH_le c ns (hs.take i)
 have hol2 : (hs.take i).length ≤ i := List.length_take_le _ _
 refine go [9,9,10,0,0,2,5,2,9,7,8] ?_
 refine G.condP rfl (fun h14 => ?_) (fun h14 => ?_)
 ·have hlt : i < hs.length := by omega
  have hR := Ro.heRng (helv i hlt)
  have hsv := hone _ (List.getElem_mem hlt)
  refine go [13,8,9,15,9,10] ?_
  refine G.op rfl (G.val rfl rfl ((pv_assign rfl).cast (v' := .bool (decide (goneQ c (ns.take 0) hs[i].1))) (gone_zero c ns hs[i].1)) ?_)
  refine go [7,8,9,9,10,1,7,8,15] ?_
  refine G.loopK (X := Nat) (ts := [0, 1, 2, 6, 7, 8]) (fun k => k ≤ ns.length) (fun k => [(10, .int .i64 (k : Int)), (9, .bool (decide (goneQ c (ns.take k) hs[i].1)))]) (fun k => []) (fun k => ns.length - k) (x0 := 0) (.cons rfl (.cons rfl (.cons rfl (.cons rfl (.cons rfl (.cons rfl .nil)))))) subT (.cons (.cons .nil)) apT Y13 (.consE rfl veqT (.consE rfl veqT .nil)) (fun k hJ => ?_)
  try dsimp only at hJ
  try dsimp only
  have hkk := hJ
  refine go [9,9,10,0,0,2,5,2,9,7,8] ?_
  refine G.condP rfl (fun h20 => ?_) (fun h20 => ?_)
  ·have hkt : k < ns.length := by omega
   have hsu := gone_succ (c := c) (p := hs[i].1) hkt
   have hNk := helu k hkt
   refine go [13,8,9,15] ?_
   refine G.drawT (nn := 23) (p := []) (rem := 8388607) [0, 1, 2, 2, 14, 18, 34, 2, 194, 258, 512, 512, 3584, 4608, 8704, 512, 512, 98816, 131584, 279040, 524802, 1048578, 4194303] [0, 1, 2, 2, 14, 18, 34, 2, 194, 258, 512, 512, 3584, 4608, 8704, 512, 512, 98816, 131584, 279040, 524802, 1048578, 2097153] kr ⟨rfl, by kernel_rfl, by kernel_rfl⟩ subT kr (fun hT9 => ?_)
   refine go [22,0,8388606,0,22,1,8388604,0] ?_
   refine G.partP (t := 24) rfl (fun h24 => ?_) (fun h24 => ?_)
   ·refine go [23,2,8388600,23,3,8388592,23,4,8388576,23,5,8388544,23,6,8388480,23,7,8388352,23,8,8388096,23,9,8387584] ?_
    refine G.takeUT hT9 (i := 10) (rem' := 8386560) rfl rfl rfl kr (fun _ _ _ h => h) rfl rfl rfl subT ?_
    refine G.takeUT hT9 (i := 11) (rem' := 8384512) rfl rfl rfl kr (fun _ _ _ h => h) rfl rfl rfl subT ?_
    refine G.takeUT hT9 (i := 12) (rem' := 8380416) rfl rfl rfl kr (fun _ _ _ h => h) rfl rfl rfl subT ?_
    refine G.takeUT hT9 (i := 13) (rem' := 8372224) rfl rfl rfl kr (fun _ _ _ h => h) rfl rfl rfl subT ?_
    refine G.takeUT hT9 (i := 14) (rem' := 8355840) rfl rfl rfl kr (fun _ _ _ h => h) rfl rfl rfl subT ?_
    refine G.takeUT hT9 (i := 15) (rem' := 8323072) rfl rfl rfl kr (fun _ _ _ h => h) rfl rfl rfl subT ?_
    refine G.takeUT hT9 (i := 16) (rem' := 8257536) rfl rfl rfl kr (fun _ _ _ h => h) rfl rfl rfl subT ?_
    refine G.takeUT hT9 (i := 17) (rem' := 8126464) rfl rfl rfl kr (fun _ _ _ h => h) rfl rfl rfl subT ?_
    refine G.takeUT hT9 (i := 18) (rem' := 7864320) rfl rfl rfl kr (fun _ _ _ h => h) rfl rfl rfl subT ?_
    refine G.takeUT hT9 (i := 19) (rem' := 7340032) rfl rfl rfl kr (fun _ _ _ h => h) rfl rfl rfl subT ?_
    refine go [23,20,6291456] ?_
    refine G.takeT hT9 (i := 21) (rem' := 4194304) rfl rfl rfl kr (fun _ _ _ h => h) rfl ((pv_pick rfl rfl).cast (v' := .bool (decide (goneQ c (ns.take (k + 1)) hs[i].1))) Y8) subT ?_
    refine go [22,22,0,1,27,16,8,10,0,2,6,1,7] ?_
    exact G.next (k + 1) Y7 (by (try dsimp only); omega) (.consE rfl veqT (.consE rfl veqT (.cons rfl (.cons rfl (.cons rfl (.cons rfl (.cons rfl (.cons rfl .nil)))))))) subT
   refine go [22,2,8388600,0,22,3,8388592,0,22,4,8388576,20,3,22,5,8388544,3,0,22,6,8388480,4,22,7,8388352,0,22,8,8388096,13,22,9,8387584,0] ?_
   refine G.partP (t := 32) rfl (fun h32 => ?_) (fun h32 => ?_)
   ·refine go [22,10,8386560,0,22,11,8384512,0,22,12,8380416,20,3,22,13,8372224,3,1,22,14,8355840,4,22,15,8323072,0,22,16,8257536,0,22,17,8126464,20,1,24,18,7864320,25,4,26,22,19,7340032,13,22,20,6291456,2] ?_
    refine G.takeT hT9 (i := 21) (rem' := 4194304) rfl rfl rfl kr (fun _ _ _ h => h) rfl ((pv_pick rfl rfl).cast (v' := .bool (decide (goneQ c (ns.take (k + 1)) hs[i].1))) Y8) subT ?_
    refine go [22,22,0,1,27,16,8,10,0,2,6,1,7] ?_
    exact G.next (k + 1) Y7 (by (try dsimp only); omega) (.consE rfl veqT (.consE rfl veqT (.cons rfl (.cons rfl (.cons rfl (.cons rfl (.cons rfl (.cons rfl .nil)))))))) subT
   refine go [23,10,8386560,23,11,8384512,23,12,8380416,23,13,8372224,23,14,8355840,23,15,8323072,23,16,8257536,23,17,8126464,23,18,7864320,23,19,7340032,22,20,6291456,2] ?_
   refine G.takeT hT9 (i := 21) (rem' := 4194304) rfl rfl rfl kr (fun _ _ _ h => h) rfl ((pv_pick rfl rfl).cast (v' := .bool (decide (goneQ c (ns.take (k + 1)) hs[i].1))) Y8) subT ?_
   refine go [22,22,0,1,27,16,8,10,0,2,6,1,7] ?_
   exact G.next (k + 1) Y7 (by (try dsimp only); omega) (.consE rfl veqT (.consE rfl veqT (.cons rfl (.cons rfl (.cons rfl (.cons rfl (.cons rfl (.cons rfl .nil)))))))) subT
  obtain rfl : k = ns.length := by omega
  rw [List.take_length]
  refine go [18,14,14,19,8,9,10,0,2,15,7,8] ?_
  refine G.condP rfl (fun h46 => ?_) (fun h46 => ?_)
  ·have hng : ¬ goneQ c ns hs[i].1 := by assumption
   refine go [10,0,0,0] ?_
   refine G.op rfl (G.val rfl rfl (pv_ixSl (sz := 3) (k := i) Try.underlying54 kr rfl rfl Y20 rfl (by omega)) ?_)
   refine G.op rfl (G.val rfl rfl (pv_loadN (cs := heC hs[i]) Try.underlying57 rfl kr rfl (fun w hw => hR.at hw)) ?_)
   refine G.op rfl (G.buildSlice (z := .agg #[.int .i64 0, .int .i64 0, .slice none 0 0]) (sz := 3) (cs := heC hs[i]) rfl Try.underlying54 kr (by decide) (by decide) rfl kr ?_)
   intro b52
   refine G.op rfl (G.append (k := (cutH c ns (hs.take i)).length) (j := 1) (cs := (cutH c ns (hs.take i)).flatMap heC) (news := heC hs[i]) (b := b52) (off := 0) rfl Try.underlying54 Try.infoHe rfl rfl rfl selT (fun _ => rfl) (fun h => by cases h) rfl (blk_news (k := 3) selT rfl) (heC_one hsv) (by omega) (by omega) ?_)
   intro vn
   rw [he_app, ← cutH_one hlt hng]
   refine go [1,7,16,8,10,0,2,6,1,7] ?_
   exact G.next ((i + 1, vn)) Y7 (by (try dsimp only); omega) (.consE rfl veqT (.consE rfl veqT (.cons rfl (.cons rfl (.cons rfl (.cons rfl .nil)))))) subT
  have hg : goneQ c ns hs[i].1 := Decidable.of_not_not (by assumption)
  rw [← cutH_no hlt hg]
  refine go [13,16,8,10,0,2,6,1,7] ?_
  exact G.next ((i + 1, vo)) Y7 (by (try dsimp only); omega) (.consE rfl veqT (.consE rfl veqT (.cons rfl (.cons rfl (.cons rfl (.cons rfl .nil)))))) subT
 obtain rfl : i = hs.length := by omega
 rw [List.take_length]
 refine go [18,14,14,19,8,9,10,0,1,7,8,11] ?_
 exact G.doneX1 (vo) trT rfl rfl rfl subT
set_option maxRecDepth 20000 in
set_option maxHeartbeats 4000000 in
theorem listed_tr (Dm bm : Nat) (st : MS) (hok : okM (plM st)) (hl : st.length ≤ 1000000) : Tr Try.prog 24 #[.pointer (some ⟨Dm, 0, none⟩)] [] [blk Dm 40 [.map (some bm)], mpc vInt I64 bm (ptrs st), clis st]
 (TX (fun _ : Unit => True) (fun _ => .int .i64 ((cntK (plM st) (cliM (plM st)) : Nat) : Int)) (fun _ => [blk Dm 40 [.map (some bm)], mpc vInt I64 bm (ptrs st), clis st])) := by
 refine Tr.of (l := [(0, .pointer (some ⟨Dm, 0, none⟩))]) Try.func24 rfl (n := 24) rfl (.cons rfl .nil) (fun w0 hro => ?_)
 refine go [9,10,1,7,8,9,10,1,7,8,9,10,0] ?_
 refine G.op rfl (G.cS rfl rfl rfl rfl Try.func18 rfl rfl subT may0 (clients_tr Dm bm st hl) apT ?_)
 intro x7 hJ
 try dsimp only at hJ
 try dsimp only
 obtain ⟨ks, hks⟩ : ∃ ks, cliM (plM st) = ks := ⟨_, rfl⟩
 have hkI : ∀ k ∈ ks, I64 k := fun k hk => by obtain ⟨p, hp, rfl⟩ := List.mem_map.1 ((keysM_perm _).mem_iff.1 (hks ▸ hk)); have h1 := (hok p hp).1; exact ⟨by have := h1.1; omega, by have := h1.2; omega⟩
 have hkl : ks.length ≤ 1000000 := by rw [← hks, cliM, (keysM_perm _).length_eq, List.length_map, plM_len]; exact hl
 rw [hks]
 refine G.ownNews (v := x7) selT (fun ga gc gk hgv hkg hmg hadg hnilg hnewg => ?_)
 subst hgv
 refine go [1,7,8,9,9,10,1,7,8,15] ?_
 refine G.loopK (X := Nat) (ts := [0, 2, 4]) (fun i => i ≤ ks.length) (fun i => [(5, .int .i64 (i : Int)), (3, .int .i64 ((cntK (plM st) (ks.take i) : Nat) : Int))]) (fun i => [blk Dm 40 [.map (some bm)], mpc vInt I64 bm (ptrs st), clis st]) (fun i => ks.length - i) (x0 := 0) (.cons rfl (.cons rfl (.cons rfl .nil))) subT (.cons (.cons .nil)) apT Y13 (.consE rfl veqT (.consE rfl veqT .nil)) (fun i hJ => ?_)
 try dsimp only at hJ
 try dsimp only
 have hki := hJ
 refine go [9,9,10,0,0,2,5,2,9,7,8] ?_
 refine G.condP rfl (fun h11 => ?_) (fun h11 => ?_)
 ·have hlt : i < ks.length := by omega
  have hsu := cntK_take (pm := plM st) hlt
  have hle := cntK_le hok (ks.take (i + 1))
  have hle2 : (ks.take (i + 1)).length ≤ ks.length := List.length_take_le' _ _
  refine go [13,8,9,15,10,0,0,0,0] ?_
  refine G.op rfl (G.val rfl rfl (pv_ixSl (sz := 1) (k := i) Try.underlying42 kr rfl rfl hadg rfl (by omega)) ?_)
  refine G.op rfl (G.val rfl rfl (pv_load (v := .int .i64 ks[i]) Try.underlying3 rfl rfl (fun w hw => hnewg selT w hw (i * 1) _ (by rw [Nat.mul_one, List.getElem?_map, List.getElem?_eq_getElem hlt]; rfl))) ?_)
  refine G.op rfl (G.cS rfl rfl rfl rfl Try.func11 rfl rfl subT may0 (list_tr Dm bm st ks[i] hok (hkI _ (List.getElem_mem hlt))) apT ?_)
  intro x20 hJ
  try dsimp only at hJ
  try dsimp only
  refine G.ownOpen (v := x20) selT (fun ya yc hyv _ _ => ?_)
  subst hyv
  refine go [2,5] ?_
  rw [lsM_len]
  refine G.op rfl (G.val rfl rfl ((pv_add64 rfl rfl (by omega)).int (show _ = ((cntK (plM st) (ks.take (i + 1)) : Nat) : Int) by omega)) ?_)
  refine go [1,7,16,8,10,0,2,6,1,7] ?_
  exact G.next (i + 1) Y7 (by (try dsimp only); omega) (.consE rfl veqT (.consE rfl veqT (.cons rfl (.cons rfl (.cons rfl .nil))))) subT
 obtain rfl : i = ks.length := by omega
 rw [List.take_length]
 refine go [18,14,14,19,8,9,10,0,1,7,8,11] ?_
 exact G.doneX1 (()) trT rfl rfl rfl subT
end Go.Proofs.Ytakeannapfaodaa
