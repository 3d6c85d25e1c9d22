/- Merged of RG, RH, RI, RJ, RK, RL, RM, NoteOpn. Conditions: none. -/
import Derived.Test.YtcgacpmippdkeaaGreatHe
set_option maxRecDepth 20000
set_option linter.unusedVariables false
set_option linter.unusedSimpArgs false
namespace Go.Proofs.YtcgacpmippdkeaaGreat
open Go.RowKit
def idB (y : Nt) : List UInt8 := y.ids.headD []
def addB (p : BM) (y : Nt) : BM := { p with l := p.l ++ [(idB y, y.bs)], came := p.came + 1 }
def chunkB (p : BM) (x y : Nt) : BM := if y.k ≠ 23 ∨ y.ids[0]? ≠ x.ids[p.came]? then finB p [] 370 else if nameM y.bs ≠ idB y then finB p [] 11 else if p.came + 1 = x.ids.length then ansB (addB p y) else addB p y
theorem chunkB_no {p : BM} {x y : Nt} (h : y.k ≠ 23 ∨ y.ids[0]? ≠ x.ids[p.came]?) : chunkB p x y = finB p [] 370 := if_pos h
theorem chunkB_bad {p : BM} {x y : Nt} (h : ¬ (y.k ≠ 23 ∨ y.ids[0]? ≠ x.ids[p.came]?)) (h2 : nameM y.bs ≠ idB y) : chunkB p x y = finB p [] 11 := (if_neg h).trans (if_pos h2)
theorem chunkB_all {p : BM} {x y : Nt} (h : ¬ (y.k ≠ 23 ∨ y.ids[0]? ≠ x.ids[p.came]?)) (h2 : ¬ nameM y.bs ≠ idB y) (h3 : p.came + 1 = x.ids.length) : chunkB p x y = ansB (addB p y) := (if_neg h).trans ((if_neg h2).trans (if_pos h3))
theorem chunkB_on {p : BM} {x y : Nt} (h : ¬ (y.k ≠ 23 ∨ y.ids[0]? ≠ x.ids[p.came]?)) (h2 : ¬ nameM y.bs ≠ idB y) (h3 : ¬ p.came + 1 = x.ids.length) : chunkB p x y = addB p y := (if_neg h).trans ((if_neg h2).trans (if_neg h3))
def stepY (p : BM) (y : Nt) : BM := if p.ph = 3 then chunkB p (p.wait.headD ntz) y else pieceB p y
def takeY (p : BM) (y : Nt) : Int × BM := if p.over = true ∨ p.wait = [] then (9, p) else if ncheckM y.k y.ns y.ids.length y.bs.length ≠ 0 then (0, finB p [] 370) else if y.k = 20 ∧ n0 y.ns ≠ 0 then (0, finB p [] (n0 y.ns)) else (0, nextB (stepY p y))
section
variable {p : BM} {y : Nt}
theorem takeY_no (h : p.over = true ∨ p.wait = []) : takeY p y = (9, p) := if_pos h
theorem takeY_bad (h : ¬ (p.over = true ∨ p.wait = [])) (h2 : ncheckM y.k y.ns y.ids.length y.bs.length ≠ 0) : takeY p y = (0, finB p [] 370) := (if_neg h).trans (if_pos h2)
theorem takeY_fail (h : ¬ (p.over = true ∨ p.wait = [])) (h2 : ncheckM y.k y.ns y.ids.length y.bs.length = 0) (h3 : y.k = 20 ∧ n0 y.ns ≠ 0) : takeY p y = (0, finB p [] (n0 y.ns)) := (if_neg h).trans ((if_neg (not_not_intro h2)).trans (if_pos h3))
theorem takeY_go (h : ¬ (p.over = true ∨ p.wait = [])) (h2 : ncheckM y.k y.ns y.ids.length y.bs.length = 0) (h3 : ¬ (y.k = 20 ∧ n0 y.ns ≠ 0)) : takeY p y = (0, nextB (stepY p y)) := (if_neg h).trans ((if_neg (not_not_intro h2)).trans (if_neg h3))
end
theorem head_get {ids : List (List UInt8)} (h : 0 < ids.length) : ids.headD [] = ids[0] := by
 cases ids with
 | nil => exact absurd h (Nat.lt_irrefl 0)
 | cons a t => rfl
theorem check_bs {k : Int} {ns : List Int} {il bl : Nat} (h : ncheckM k ns il bl = 0) : bl ≤ 100000 := by
 obtain ⟨s, h1, h2⟩ := check_some h
 have h3 := checkS_zero h2
 have h4 := shOk (shM_in h1).2.2
 omega
set_option maxHeartbeats 4000000 in
theorem bchunk_tr {F : Nat → Prop} {W : World} {Pv1 Pv2 Pv3 : Nat → Prop} (k : Int) (v1 v2 v3 : Value) (ns : List Int) (ids : List (List UInt8)) (bs : List UInt8) (D : Nat) (z : BZ) (x : NV) (hz : BvOk F W z) (hx : NvOk F W x) (hw : 0 < z.wait.length) (hy : k = 23 → 0 < ids.length) (hcm : z.came < x.n.ids.length) (hb : bs.length ≤ 100000) (hl : z.l.length ≤ 1000000) : Tr Tryz.prog 43 #[.pointer (some ⟨D, 0, none⟩), .agg #[.int .i64 x.n.k, x.vN, x.vI, x.vB], .agg #[.int .i64 k, v1, v2, v3]] [slc rInt Pv1 v1 ns, slc rID Pv2 v2 ids, slc rByte Pv3 v3 bs] [blk D 46 [.bool true, .int .i64 z.cl, .int .i64 z.nu, .int .i64 (z.ph : Nat), z.leftv, z.waitv, .int .i64 z.size, .int .i64 (z.came : Nat), z.bv, .bool z.read, .int .i64 z.mh.c, .int .i64 z.mh.k, .int .i64 z.mh.n, .int .i64 z.mh.t, z.mv, z.lv, .bool z.over, z.treev, .int .i64 z.e], frz F W, que 33 4 z.waitv z.wait.length (z.wait.flatMap nvC), own 5 1 z.bv z.b.length (z.b.map vByte), own 106 17 z.lv z.l.length (z.l.flatMap chC)]
 (TX (fun q : BZ × (Nat → Prop) × World => Up F W q.2.1 q.2.2 ∧ BvOk q.2.1 q.2.2 q.1 ∧ q.1.bm = chunkB z.bm x.n ⟨k, ns, ids, bs⟩) (fun _ => .tuple #[]) (fun q => [blk D 46 [.bool true, .int .i64 q.1.cl, .int .i64 q.1.nu, .int .i64 (q.1.ph : Nat), q.1.leftv, q.1.waitv, .int .i64 q.1.size, .int .i64 (q.1.came : Nat), q.1.bv, .bool q.1.read, .int .i64 q.1.mh.c, .int .i64 q.1.mh.k, .int .i64 q.1.mh.n, .int .i64 q.1.mh.t, q.1.mv, q.1.lv, .bool q.1.over, q.1.treev, .int .i64 q.1.e], frz q.2.1 q.2.2, que 33 4 q.1.waitv q.1.wait.length (q.1.wait.flatMap nvC), own 5 1 q.1.bv q.1.b.length (q.1.b.map vByte), own 106 17 q.1.lv q.1.l.length (q.1.l.flatMap chC)])) := by
 refine Tr.of (l := [(0, .pointer (some ⟨D, 0, none⟩)), (1, .agg #[.int .i64 x.n.k, x.vN, x.vI, x.vB]), (2, .agg #[.int .i64 k, v1, v2, v3])]) Tryz.func43 rfl (n := 72) rfl (.cons rfl (.cons rfl (.cons rfl .nil))) (fun w0 hro => ?_)
 obtain ⟨hA, hB, hC⟩ := ro3 hro
 have oa := Ro.open hA
 have ob := Ro.open hB
 have oc := Ro.open hC
 obtain ⟨aa, ca, qa, oa', rfl, hca, hma, -, had, hel⟩ := oa
 obtain ⟨ab, cb, qb, ob', rfl, hcb, hmb, -, hbd, hbl⟩ := ob
 obtain ⟨ac, cc, qc, oc', rfl, hcc, -⟩ := oc
 refine G.ownOpen (v := z.lv) selT (fun lad lcp hlv _ _ => ?_)
 have hx0 := hx
 obtain ⟨hx1', hx2', hx3', hx4, hx5, hx6, hx7⟩ := hx0
 have hx1 := hx1'.one
 have hx2 := hx2'.one
 have hx3 := hx3'.one
 obtain ⟨cI, dI, eI, fI, hvI, _, _, _, hId, hIe⟩ := hx2'.open
 refine go [9,10,60,3] ?_
 intro b4
 refine go [60,3] ?_
 intro b5
 refine go [7,8,15,9] ?_
 refine G.drawT (nn := 19) (p := []) (rem := 524287) [0, 1, 2, 4, 8, 24, 40, 72, 8, 264, 8, 1032, 2056, 4104, 8712, 16392, 32904, 65544, 131080] [0, 1, 2, 4, 8, 24, 40, 72, 8, 264, 8, 1032, 2056, 4104, 8712, 16392, 32904, 65544, 131072] kr ⟨rfl, by kernel_rfl, by kernel_rfl⟩ subT kr (fun hT5 => ?_)
 refine go [22,0,524286,3,0,24,1,524284,25,50,0,26,22,2,524280,14,22,3,524272,0] ?_
 refine G.partP (t := 44) rfl (fun h44 => ?_) (fun h44 => ?_)
 ·refine go [23,4,524256,23,5,524224,23,6,524160,23,7,524032,23,8,523776,23,9,523264,23,10,522240,23,11,520192,23,12,516096,23,13,507904,23,14,491520,23,15,458752,23,16,393216,22,17,262144,2,22,18,0,1,27,8,60,0,10,0] ?_
  refine G.op rfl (G.cS rfl rfl rfl rfl Tryz.func26 rfl rfl subT may0 (bend_tr D z (.slice none 0 0) [] 370 rfl) apT ?_)
  intro x60 hJ
  try dsimp only at hJ
  try dsimp only
  refine go [7,16] ?_
  exact G.doneXE ((z.end (.slice none 0 0) [] 370, F, W)) (by first | exact trivial | ((try dsimp only) <;> exact ⟨Up.refl _ _, bend_ok hz (IsSl.nil _ _ _) _, by rw [chunkB_no (by show k ≠ 23 ∨ ids[0]? ≠ x.n.ids[z.came]?; first | exact Or.inl (by omega) | (rw [hy0, hxc]; simp_all))]; rfl⟩)) rfl rfl subT
 have hlt : 0 < ids.length := hy (by first | assumption | omega)
 obtain ⟨lg, rg⟩ := Ro.arr8 (hbl 0 hlt)
 have hy0 : ids[0]? = some ids[0] := List.getElem?_eq_getElem hlt
 have hE := hIe z.came hcm
 have lx := hE.1
 have hxc : x.n.ids[z.came]? = some x.n.ids[z.came] := List.getElem?_eq_getElem hcm
 refine go [22,4,524256,3,2,22,5,524224,50,0] ?_
 refine G.takeT hT5 (i := 6) (rem' := 524160) rfl rfl rfl kr (fun _ _ _ h => h) rfl (pv_ixSl (sz := 16) (k := 0) Tryz.underlying30 kr rfl rfl hbd rfl (by omega)) subT ?_
 refine G.takeT hT5 (i := 7) (rem' := 524032) rfl rfl rfl kr (fun _ _ _ h => h) rfl (pv_loadN (cs := ids[0].map vByte) Tryz.underlying59 rfl (by rw [List.length_map, lg]; kernel_rfl) rfl rg) subT ?_
 refine go [22,8,523776,3,2] ?_
 refine G.takeT hT5 (i := 9) (rem' := 523264) rfl rfl rfl kr (fun _ _ _ h => h) rfl ((pv_load (v := x.vI) Tryz.underlying30 rfl rfl (by exact blk_cell selD (by rfl))).cast hvI) subT ?_
 refine go [22,10,522240,0,22,11,520192,8,22,12,516096,3,7,24,13,507904,25,50,0,26] ?_
 refine G.takeT hT5 (i := 14) (rem' := 491520) rfl rfl rfl kr (fun _ _ _ h => h) rfl (pv_ixSl (sz := 16) (k := z.came) Tryz.underlying30 kr rfl rfl hId rfl (by omega)) subT ?_
 refine go [24,15,458752] ?_
 refine G.turnOp rfl rfl (G.val rfl rfl (pv_loadN (cs := x.n.ids[z.came].map vByte) Tryz.underlying59 rfl (by rw [List.length_map, lx]; kernel_rfl) rfl (frz_id selD hE (by omega))) ?_)
 refine go [26] ?_
 refine G.takeT hT5 (i := 16) (rem' := 393216) rfl rfl rfl kr (fun _ _ _ h => h) rfl ((pv_neqAr8 (a := ids[0]) (b := x.n.ids[z.came]) Tryz.underlying59 rfl kr Tryz.underlying5 kr rfl rfl lg lx).cast (v' := .bool (decide (¬ ids[0] = x.n.ids[z.came]))) (congrArg Value.bool (by simp))) subT ?_
 refine go [22,17,262144,2,22,18,0,1,27,8] ?_
 refine G.condP rfl (fun h40 => ?_) (fun h40 => ?_)
 ·refine go [10,0] ?_
  refine G.op rfl (G.cS rfl rfl rfl rfl Tryz.func26 rfl rfl subT may0 (bend_tr D z (.slice none 0 0) [] 370 rfl) apT ?_)
  intro x60 hJ
  try dsimp only at hJ
  try dsimp only
  refine go [7,16] ?_
  exact G.doneXE ((z.end (.slice none 0 0) [] 370, F, W)) (by first | exact trivial | ((try dsimp only) <;> exact ⟨Up.refl _ _, bend_ok hz (IsSl.nil _ _ _) _, by rw [chunkB_no (by show k ≠ 23 ∨ ids[0]? ≠ x.n.ids[z.came]?; first | exact Or.inl (by omega) | (rw [hy0, hxc]; simp_all))]; rfl⟩)) rfl rfl subT
 refine G.seq ?_
 refine G.drawT (nn := 9) (p := []) (rem := 511) [0, 1, 2, 0, 8, 16, 32, 68, 132] [0, 1, 2, 0, 8, 16, 32, 68, 128] kr ⟨rfl, by kernel_rfl, by kernel_rfl⟩ subT kr (fun hT7 => ?_)
 refine go [22,0,510,3,3,22,3,502,3,2,22,1,500,50,0,22,4,484,50,0] ?_
 refine G.takeT hT7 (i := 5) (rem' := 452) rfl rfl rfl kr (fun _ _ _ h => h) rfl (pv_ixSl (sz := 16) (k := 0) Tryz.underlying30 kr rfl rfl hbd rfl (by omega)) subT ?_
 refine G.takeT hT7 (i := 6) (rem' := 388) rfl rfl rfl kr (fun _ _ _ h => h) rfl (pv_loadN (cs := ids[0].map vByte) Tryz.underlying59 rfl (by rw [List.length_map, lg]; kernel_rfl) rfl rg) subT ?_
 refine go [24,2,384] ?_
 refine G.turnOp rfl rfl (G.cR rfl rfl rfl rfl Tryz.func22 rfl rfl (may1 (.old hC)) (name_tr (Pu := Pv3) _ bs (by omega)) ?_)
 refine go [26] ?_
 refine G.takeT hT7 (i := 7) (rem' := 256) rfl rfl rfl kr (fun _ _ _ h => h) rfl ((pv_neqAr8 (a := nameM bs) (b := ids[0]) Tryz.underlying59 rfl kr Tryz.underlying5 kr rfl rfl (nameM_len _) lg).cast (v' := .bool (decide (¬ nameM bs = ids[0]))) (congrArg Value.bool (by simp))) subT ?_
 refine go [22,8,0,1,27,8] ?_
 refine G.condP rfl (fun h61 => ?_) (fun h61 => ?_)
 ·refine go [10,0] ?_
  refine G.op rfl (G.cS rfl rfl rfl rfl Tryz.func26 rfl rfl subT may0 (bend_tr D z (.slice none 0 0) [] 11 rfl) apT ?_)
  intro x71 hJ
  try dsimp only at hJ
  try dsimp only
  refine go [7,16] ?_
  exact G.doneXE ((z.end (.slice none 0 0) [] 11, F, W)) (by first | exact trivial | ((try dsimp only) <;> exact ⟨Up.refl _ _, bend_ok hz (IsSl.nil _ _ _) _, by rw [chunkB_bad (by show ¬ (k ≠ 23 ∨ ids[0]? ≠ x.n.ids[z.came]?); rw [hy0, hxc]; simp_all) (by show nameM bs ≠ ids.headD []; rw [head_get hlt]; assumption)]; rfl⟩)) rfl rfl subT
 refine G.seq ?_
 refine G.drawE (nn := 18) (p := [own 106 17 _ _ _]) (rem := 32767) [0, 0, 2, 4, 8, 0, 32, 64, 128, 0, 512, 1024, 2304, 4096, 10256, 32767, 65535, 98303] [0, 0, 2, 4, 8, 0, 32, 64, 128, 0, 512, 1024, 2304, 4096, 8208, 1, 32768, 81920] [17, 16, 15] [131071, 65535, 32767] 15 kr ⟨rfl, by kernel_rfl, by kernel_rfl⟩ kr kr kr subT (fun hT1 => ?_)
 refine go [22,0,32766,0,22,1,32764,0,22,2,32760,8,22,3,32752,3,15,22,5,32720,3,2,22,9,32208,3,3] ?_
 refine G.takeT hT1 (i := 4) (rem' := 32192) rfl rfl rfl kr (fun _ _ _ h => h) rfl ((pv_load (v := z.lv) Tryz.underlying43 rfl rfl (by exact blk_cell selD (by rfl))).cast hlv) subT ?_
 refine go [22,6,32128,50,0] ?_
 refine G.takeT hT1 (i := 7) (rem' := 32000) rfl rfl rfl kr (fun _ _ _ h => h) rfl (pv_ixSl (sz := 16) (k := 0) Tryz.underlying30 kr rfl rfl hbd rfl (by omega)) subT ?_
 refine G.takeT hT1 (i := 8) (rem' := 31744) rfl rfl rfl kr (fun _ _ _ h => h) rfl (pv_loadN (cs := ids[0].map vByte) Tryz.underlying59 rfl (by rw [List.length_map, lg]; kernel_rfl) rfl rg) subT ?_
 refine go [24,10,30720,25,50,0,26,24,11,28672] ?_
 refine G.ownNil 5 1 ?_
 refine G.turnOp rfl rfl (G.appendS (k := 0) (cs := []) (xs := bs) (f := vByte) (p := fun _ => True) (Ps := Pv3) rfl Tryz.underlying31 Tryz.infoByte' rfl rfl selT (ro_sl hC) (vByte_one _) (by omega) (by omega) ?_)
 intro vD
 rw [Nat.zero_add bs.length, List.nil_append]
 refine G.ownFact (v := vD) selT (fun hvD _ => ?_)
 refine go [26] ?_
 refine G.takeT hT1 (i := 12) (rem' := 24576) rfl rfl rfl kr (fun _ _ _ h => h) rfl (pv_build (cells := (chC ((ids[0], bs), vD)).toArray) (fun a ha => ha.pevs rfl) (builtCk lg hvD)) subT ?_
 refine go [24,13,16384] ?_
 refine G.turnOp rfl rfl (G.buildSlice (sz := 17) (cs := chC ((ids[0], bs), vD)) rfl Tryz.underlying43 Tryz.infoCkfill (by decide) (by decide) rfl (fillCk _ (chC_len _)) ?_)
 intro b19
 refine go [26,24,14,0] ?_
 refine G.recast (c := own 106 17 z.lv z.l.length (z.l.flatMap chC)) (c' := own 106 17 (.slice lad z.l.length lcp) z.l.length (z.l.flatMap chC)) (by rw [hlv]) selT ?_
 refine G.turnOp rfl rfl (G.append (k := z.l.length) (j := 1) (cs := z.l.flatMap chC) (news := chC ((ids[0], bs), vD)) (b := b19) (off := 0) rfl Tryz.underlying43 Tryz.infoCk rfl rfl rfl selT (fun _ => rfl) (fun h => by cases h) (chC_len _) (blk_news (k := 17) selT (by rw [List.drop_zero]; exact List.take_of_length_le (Nat.le_of_eq (chC_len _)))) (chC_one hvD) (by omega) (by omega) ?_)
 intro vl
 rw [chC_snoc z.l ((ids[0], bs), vD), show z.l.length + 1 = (z.l ++ [(((ids[0], bs), vD) : CT)]).length from by rw [List.length_append]; rfl]
 refine G.ownFact (v := vl) selT (fun hvl _ => ?_)
 refine go [26,27] ?_
 refine G.tailS [17, 16] 15 rfl ?_
 refine go [25,8] ?_
 refine G.tailS [17] 16 rfl ?_
 refine go [25,3,15] ?_
 refine G.tailS [] 17 rfl ?_
 refine go [30] ?_
 refine G.tailD ?_
 refine go [8,9,10] ?_
 refine G.freeze (p := [own 5 1 vD _ _]) selT subT (fun F1 W1 hU hC1 => ?_)
 have hD1 := frz_own1 (f := vByte) (p := fun _ => True) bs (hC1 _ (List.mem_singleton.2 rfl)) rfl (fun _ _ => trivial)
 have hz1 := hz.up hU
 have hbs9 : bs.length ≤ 1000000 := by omega
 have hlk : ∀ c ∈ z.l ++ [(((ids[0], bs), vD) : CT)], CkOk F1 W1 c := fun c hc => by rcases List.mem_append.1 hc with hc | hc; exact hz1.l c hc; obtain rfl : c = _ := (by simpa using hc); exact ⟨hD1, lg, hbs9⟩
 have hidB : idB ⟨k, ns, ids, bs⟩ = ids[0] := head_get hlt
 have hn1 : ¬ (k ≠ 23 ∨ ids[0]? ≠ x.n.ids[z.came]?) := by rw [hy0, hxc]; simp_all
 have hn2 : ¬ nameM bs ≠ idB ⟨k, ns, ids, bs⟩ := by rw [hidB]; simp_all
 have hcml : z.came < x.n.ids.length := hcm
 have hadd : ({ z with lv := vl, l := z.l ++ [(((ids[0], bs), vD) : CT)], came := z.came + 1 } : BZ).bm = addB z.bm ⟨k, ns, ids, bs⟩ := by unfold addB BZ.bm; rw [hidB]; simp [cks]
 refine go [0,2,8,2,3,7,2,50,0] ?_
 refine G.op rfl (G.val rfl rfl ((pv_add64 rfl rfl (by omega)).cast (v' := .int .i64 ((z.came + 1 : Nat) : Int)) (congrArg _ (by omega))) ?_)
 refine go [2,8,2,3,7,21,7,8,9] ?_
 refine G.drawT (nn := 8) (p := []) (rem := 255) [0, 1, 2, 4, 0, 16, 32, 72] [0, 1, 2, 4, 0, 16, 32, 72] kr ⟨rfl, by kernel_rfl, by kernel_rfl⟩ subT kr (fun hT3 => ?_)
 refine go [22,0,254,0,22,1,252,8,22,2,248,3,7,22,4,232,3,2,22,3,224,50,0,24,5,192] ?_
 refine G.turnOp rfl rfl (G.val rfl rfl ((pv_load (v := x.vI) Tryz.underlying30 rfl rfl (by exact blk_cell selD (by rfl))).cast hvI) ?_)
 refine go [26,22,6,128,5,22,7,0,13,27,8] ?_
 refine G.condP rfl (fun h37 => ?_) (fun h37 => ?_)
 ·refine go [10,0] ?_
  refine G.op rfl (G.cS rfl rfl rfl rfl Tryz.func53 rfl rfl subT may0 (bans_tr (F := F1) (W := W1) D { z with lv := vl, l := z.l ++ [(((ids[0], bs), vD) : CT)], came := z.came + 1 } ⟨hz1.left, hz1.wait, hz1.items, hlk, hz1.tree, hz1.nb⟩ hw) apT ?_)
  intro x39 hJ
  obtain z3 := x39
  try dsimp only at hJ
  try dsimp only
  obtain ⟨hz3, hb3, wv, wt, hkp⟩ := hJ
  subst hkp
  try dsimp only
  refine go [7,16] ?_
  exact G.doneXE (({ z with lv := vl, l := z.l ++ [(((ids[0], bs), vD) : CT)], came := 0, waitv := wv, wait := wt }, F1, W1)) (by first | exact trivial | ((try dsimp only) <;> exact ⟨hU, hz3, by rw [chunkB_all hn1 hn2 (show z.came + 1 = x.n.ids.length from by omega), ← hadd, hb3]⟩)) rfl rfl subT
 refine go [13,16] ?_
 exact G.doneXE (({ z with lv := vl, l := z.l ++ [(((ids[0], bs), vD) : CT)], came := z.came + 1 }, F1, W1)) (by first | exact trivial | ((try dsimp only) <;> exact ⟨hU, ⟨hz1.left, hz1.wait, hz1.items, hlk, hz1.tree, hz1.nb⟩, by rw [chunkB_on hn1 hn2 (show ¬ z.came + 1 = x.n.ids.length from by omega), ← hadd]⟩)) rfl rfl subT
theorem fin_bg {p : BM} (h : BgOk p) (e : Int) : BgOk (finB p [] e) := ⟨h.nu, h.size, h.b, h.rd, h.its, h.l, .inl rfl, Nat.zero_le _, h.bd, h.bd2⟩
theorem tk_trB {F : Nat → Prop} {W : World} {Pv1 Pv2 Pv3 : Nat → Prop} (k : Int) (v1 v2 v3 : Value) (ns : List Int) (ids : List (List UInt8)) (bs : List UInt8) (D : Nat) (z : BZ) (x : NV) (t : List NV) (hz : BvOk F W z) (hx : NvOk F W x) (hXt : z.wait = x :: t) (hck : ncheckM k ns ids.length bs.length = 0) (hph : 1 ≤ z.ph ∧ z.ph ≤ 3) (hcm : z.ph = 3 → z.came < x.n.ids.length) (hb : z.b.length ≤ 1000000) (hl : z.l.length ≤ 1000000) : Tr Tryz.prog (tkF (z.ph - 1)) #[.pointer (some ⟨D, 0, none⟩), .agg #[.int .i64 x.n.k, x.vN, x.vI, x.vB], .agg #[.int .i64 k, v1, v2, v3]] [slc rInt Pv1 v1 ns, slc rID Pv2 v2 ids, slc rByte Pv3 v3 bs] [blk D 46 [.bool true, .int .i64 z.cl, .int .i64 z.nu, .int .i64 (z.ph : Nat), z.leftv, z.waitv, .int .i64 z.size, .int .i64 (z.came : Nat), z.bv, .bool z.read, .int .i64 z.mh.c, .int .i64 z.mh.k, .int .i64 z.mh.n, .int .i64 z.mh.t, z.mv, z.lv, .bool z.over, z.treev, .int .i64 z.e], frz F W, que 33 4 z.waitv z.wait.length (z.wait.flatMap nvC), own 5 1 z.bv z.b.length (z.b.map vByte), own 106 17 z.lv z.l.length (z.l.flatMap chC)]
 (TX (fun q : BZ × (Nat → Prop) × World => Up F W q.2.1 q.2.2 ∧ BvOk q.2.1 q.2.2 q.1 ∧ q.1.bm = stepY z.bm ⟨k, ns, ids, bs⟩) (fun _ => .tuple #[]) (fun q => [blk D 46 [.bool true, .int .i64 q.1.cl, .int .i64 q.1.nu, .int .i64 (q.1.ph : Nat), q.1.leftv, q.1.waitv, .int .i64 q.1.size, .int .i64 (q.1.came : Nat), q.1.bv, .bool q.1.read, .int .i64 q.1.mh.c, .int .i64 q.1.mh.k, .int .i64 q.1.mh.n, .int .i64 q.1.mh.t, q.1.mv, q.1.lv, .bool q.1.over, q.1.treev, .int .i64 q.1.e], frz q.2.1 q.2.2, que 33 4 q.1.waitv q.1.wait.length (q.1.wait.flatMap nvC), own 5 1 q.1.bv q.1.b.length (q.1.b.map vByte), own 106 17 q.1.lv q.1.l.length (q.1.l.flatMap chC)])) := by
 have hw : 0 < z.wait.length := by rw [hXt]; exact Nat.succ_pos _
 have hh : z.bm.wait.headD ntz = x.n := by show (nvs z.wait).headD ntz = _; rw [hXt]; rfl
 have h1 : z.ph ≠ 3 → stepY z.bm ⟨k, ns, ids, bs⟩ = pieceB z.bm ⟨k, ns, ids, bs⟩ := fun h => if_neg h
 rcases (show z.ph - 1 = 0 ∨ z.ph - 1 = 1 ∨ z.ph - 1 = 2 by omega) with e | e | e
 ·rw [e, h1 (by omega)]
  exact bpiece_tr k v1 v2 v3 ns ids bs D z x hz hx hw (fun e2 => by subst e2; exact check_22 hck) hb
 ·rw [e, h1 (by omega)]
  exact bpiece_tr k v1 v2 v3 ns ids bs D z x hz hx hw (fun e2 => by subst e2; exact check_22 hck) hb
 rw [e, show stepY z.bm ⟨k, ns, ids, bs⟩ = chunkB z.bm x.n ⟨k, ns, ids, bs⟩ from (if_pos (show z.ph = 3 by omega)).trans (by rw [hh])]
 exact bchunk_tr k v1 v2 v3 ns ids bs D z x hz hx hw (fun e2 => by subst e2; exact check_23 hck) (hcm (by omega)) (check_bs hck) hl
set_option maxHeartbeats 4000000 in
theorem btake_tr {F : Nat → Prop} {W : World} {Pv1 Pv2 Pv3 : Nat → Prop} (k : Int) (v1 v2 v3 : Value) (ns : List Int) (ids : List (List UInt8)) (bs : List UInt8) (D : Nat) (z : BZ) (hz : BvOk F W z) (hph : z.over = false → 1 ≤ z.ph ∧ z.ph ≤ 3) (hcm : z.ph = 3 → ∀ x t, z.wait = x :: t → z.came < x.n.ids.length) (hb : z.b.length ≤ 1000000) (hl : z.l.length ≤ 1000000) (hg : BgOk (stepY z.bm ⟨k, ns, ids, bs⟩)) : Tr Tryz.prog 8 #[.pointer (some ⟨D, 0, none⟩), .agg #[.int .i64 k, v1, v2, v3]] [slc rInt Pv1 v1 ns, slc rID Pv2 v2 ids, slc rByte Pv3 v3 bs] [blk D 46 [.bool true, .int .i64 z.cl, .int .i64 z.nu, .int .i64 (z.ph : Nat), z.leftv, z.waitv, .int .i64 z.size, .int .i64 (z.came : Nat), z.bv, .bool z.read, .int .i64 z.mh.c, .int .i64 z.mh.k, .int .i64 z.mh.n, .int .i64 z.mh.t, z.mv, z.lv, .bool z.over, z.treev, .int .i64 z.e], frz F W, que 33 4 z.waitv z.wait.length (z.wait.flatMap nvC), own 5 1 z.bv z.b.length (z.b.map vByte), own 106 17 z.lv z.l.length (z.l.flatMap chC)]
 (TX (fun q : BZ × (Nat → Prop) × World => Up F W q.2.1 q.2.2 ∧ BvOk q.2.1 q.2.2 q.1 ∧ q.1.bm = (takeY z.bm ⟨k, ns, ids, bs⟩).2) (fun _ => .int .i64 (takeY z.bm ⟨k, ns, ids, bs⟩).1) (fun q => [blk D 46 [.bool true, .int .i64 q.1.cl, .int .i64 q.1.nu, .int .i64 (q.1.ph : Nat), q.1.leftv, q.1.waitv, .int .i64 q.1.size, .int .i64 (q.1.came : Nat), q.1.bv, .bool q.1.read, .int .i64 q.1.mh.c, .int .i64 q.1.mh.k, .int .i64 q.1.mh.n, .int .i64 q.1.mh.t, q.1.mv, q.1.lv, .bool q.1.over, q.1.treev, .int .i64 q.1.e], frz q.2.1 q.2.2, que 33 4 q.1.waitv q.1.wait.length (q.1.wait.flatMap nvC), own 5 1 q.1.bv q.1.b.length (q.1.b.map vByte), own 106 17 q.1.lv q.1.l.length (q.1.l.flatMap chC)])) := by
 refine Tr.of (l := [(0, .pointer (some ⟨D, 0, none⟩)), (1, .agg #[.int .i64 k, v1, v2, v3])]) Tryz.func8 rfl (n := 71) rfl (.cons rfl (.cons rfl .nil)) (fun w0 hro => ?_)
 obtain ⟨hA, hB, hC⟩ := ro3 hro
 have oa := Ro.open hA
 have ob := Ro.open hB
 have oc := Ro.open hC
 obtain ⟨aa, ca, qa, oa', rfl, hca, hma, -, had, hel⟩ := oa
 obtain ⟨ab, cb, qb, ob', rfl, hcb, hmb, -, hbd, hbl⟩ := ob
 obtain ⟨ac, cc, qc, oc', rfl, hcc, -⟩ := oc
 refine G.queFact (v := z.waitv) selT (fun _ hql qad qcap hvw => ?_)
 refine go [9,10,60,3] ?_
 intro b3
 refine go [1,7,8,9,15,9,10,0,2,50,1,0,3,0,3,8,3,3,0,3,50,0] ?_
 refine G.want rfl rfl rfl (G.val rfl rfl ((pv_not rfl).cast (v' := .bool false) rfl) ?_)
 refine go [2,2,1,7,8,60,1,9,10,0,2,8,2,3,16,2,50,0,0] ?_
 refine G.part (t := 40) rfl (fun h40 => ?_) (fun h40 => ?_)
 ·refine go [4,4,4,4,4,4,2,2,1,7,8,60,0,9,10,1,7,8,11,17,12] ?_
  rw [takeY_no (Or.inl (show z.over = true from by simp_all))]
  exact G.doneX1 ((z, F, W)) (by first | exact trivial | ((try dsimp only) <;> exact ⟨Up.refl _ _, hz, rfl⟩)) rfl rfl rfl subT
 refine go [3,0,3,8,3,3,5] ?_
 refine G.want rfl rfl rfl (G.val rfl rfl ((pv_load (v := z.waitv) Tryz.underlying39 rfl rfl (by exact blk_cell selD (by rfl))).cast hvw) ?_)
 refine go [3,5,3,13,2,2,1,7,8] ?_
 refine G.condP rfl (fun h35 => ?_) (fun h35 => ?_)
 ·refine go [9,10,1,7,8,11,17,12] ?_
  rw [takeY_no (Or.inr (nvs_none (by omega)))]
  exact G.doneX1 ((z, F, W)) (by first | exact trivial | ((try dsimp only) <;> exact ⟨Up.refl _ _, hz, rfl⟩)) rfl rfl rfl subT
 have hov : z.over = false := by simp_all
 have hw0 : 0 < z.wait.length := by omega
 obtain ⟨X, t, hXt⟩ : ∃ X t, z.wait = X :: t := by cases e : z.wait with | nil => (exfalso; rw [e] at hw0; exact Nat.lt_irrefl 0 hw0) | cons X t => exact ⟨X, t, rfl⟩
 have hX := hz.wait X (by rw [hXt]; exact List.mem_cons_self ..)
 have hnn : ¬ (z.bm.over = true ∨ z.bm.wait = []) := by rintro (h | h); (have h : z.over = true := h; rw [hov] at h; cases h); (have h : nvs z.wait = [] := h; rw [hXt] at h; cases h)
 have hph9 := hph hov
 refine go [9,10,2,50,10] ?_
 refine G.op rfl (G.cR rfl rfl rfl rfl Tryz.func25 rfl rfl (may3 Y10 Y10 Y10) (checkF k _ _ _ ns ids bs) ?_)
 refine go [2,14,1,7,8] ?_
 refine G.condP rfl (fun h48 => ?_) (fun h48 => ?_)
 ·refine go [10,0] ?_
  refine G.op rfl (G.cS rfl rfl rfl rfl Tryz.func26 rfl rfl subT may0 (bend_tr D z (.slice none 0 0) [] 370 rfl) apT ?_)
  intro x53 hJ
  try dsimp only at hJ
  try dsimp only
  refine go [7,16,8,9,10,1,7,8,11] ?_
  rw [takeY_bad hnn (show ncheckM k ns ids.length bs.length ≠ 0 from by omega)]
  exact G.doneX1 ((z.end (.slice none 0 0) [] 370, F, W)) (by first | exact trivial | ((try dsimp only) <;> exact ⟨Up.refl _ _, bend_ok hz (IsSl.nil _ _ _) _, rfl⟩)) rfl rfl rfl subT
 have hck : ncheckM k ns ids.length bs.length = 0 := by omega
 have hyy : YOk ⟨k, ns, ids, bs⟩ := check_y hck
 refine go [9,10,2,3,0,2,50,0,2,13,0] ?_
 refine G.partP (t := 58) rfl (fun h58 => ?_) (fun h58 => ?_)
 ·have hlt : 0 < ns.length := hyy.1 (Or.inr (Or.inr (by first | assumption | omega)))
  have hE := hel 0 hlt
  have h0 : n0 ns = ns[0] := n0_eq hlt
  refine go [3,3,1,3,50,0] ?_
  refine G.want rfl rfl rfl (G.val rfl rfl (pv_ixSl (sz := 1) (k := 0) Tryz.underlying29 kr rfl rfl had rfl (by omega)) ?_)
  refine G.want rfl rfl rfl (G.val rfl rfl (pv_load (v := .int .i64 ns[0]) Tryz.underlying3 rfl rfl (ro_int hE)) ?_)
  refine go [3,14,2,2,1,7,8] ?_
  refine G.condP rfl (fun h54 => ?_) (fun h54 => ?_)
  ·refine go [10,0,2,3,1,2,50,0] ?_
   refine G.op rfl (G.val rfl rfl (pv_ixSl (sz := 1) (k := 0) Tryz.underlying29 kr rfl rfl had rfl (by omega)) ?_)
   refine G.op rfl (G.val rfl rfl (pv_load (v := .int .i64 ns[0]) Tryz.underlying3 rfl rfl (ro_int hE)) ?_)
   refine G.op rfl (G.cS rfl rfl rfl rfl Tryz.func26 rfl rfl subT may0 (bend_tr D z (.slice none 0 0) [] ns[0] rfl) apT ?_)
   intro x70 hJ
   try dsimp only at hJ
   try dsimp only
   refine go [7,16,8,9,10,1,7,8,11] ?_
   rw [takeY_fail hnn hck (show k = 20 ∧ n0 ns ≠ 0 from by omega)]
   exact G.doneX1 ((z.end (.slice none 0 0) [] ns[0], F, W)) (by first | exact trivial | ((try dsimp only) <;> exact ⟨Up.refl _ _, bend_ok hz (IsSl.nil _ _ _) _, by rw [bend_bm, ← h0]; rfl⟩)) rfl rfl rfl subT
  have hnf : ¬ (k = 20 ∧ n0 ns ≠ 0) := by simp_all
  refine G.recast (c := que 33 4 z.waitv z.wait.length (z.wait.flatMap nvC)) (c' := que 33 4 z.waitv (t.length + 1) (nvC X ++ t.flatMap nvC)) (by rw [hXt]; rfl) selT ?_
  refine G.queTo (v := z.waitv) selT (by omega) (fun qg qc qp qs hqv hq1 hq2 hq3 hq4 => ?_)
  refine G.seq ?_
  refine G.drawE (nn := 18) (p := []) (rem := 131071) [0, 1, 0, 4, 8, 16, 32, 66, 128, 256, 0, 1024, 2048, 4096, 8192, 16384, 0, 98818] [0, 1, 0, 4, 8, 16, 32, 66, 128, 256, 0, 1024, 2048, 4096, 8192, 16384, 0, 98816] [17] [131071] 17 kr ⟨rfl, by kernel_rfl, by kernel_rfl⟩ kr kr kr subT (fun hT1 => ?_)
  refine go [22,0,131070,0,22,2,131066,0,22,3,131058,8,22,4,131042,3,3,22,10,130018,0,22,11,127970,8,22,12,123874,3,5,22,5,123842,50,0] ?_
  refine G.takeT hT1 (i := 6) (rem' := 123778) rfl rfl rfl kr (fun _ _ _ h => h) rfl ((pv_sub64 rfl rfl (by omega)).cast (v' := .int .i64 ((z.ph - 1 : Nat) : Int)) (congrArg _ (by omega))) subT ?_
  refine G.takeT hT1 (i := 13) (rem' := 115586) rfl rfl rfl kr (fun _ _ _ h => h) rfl ((pv_load (v := z.waitv) Tryz.underlying39 rfl rfl (by exact blk_cell selD (by rfl))).cast hqv) subT ?_
  refine G.takeT hT1 (i := 14) (rem' := 99202) rfl rfl rfl kr (fun _ _ _ h => h) rfl (pv_ixSl (sz := 4) (k := 0) Tryz.underlying39 kr rfl rfl (fun _ => rfl) rfl (by omega)) subT ?_
  refine G.takeT hT1 (i := 15) (rem' := 66434) rfl rfl rfl kr (fun _ _ _ h => h) rfl (pv_loadN (cs := nvC X) Tryz.underlying33 rfl kr rfl (blk_range (k := 4) selD (mid_rowN _ _ _ _ rfl))) subT ?_
  refine go [22,16,898,50,10,24,1,896] ?_
  refine G.turnOp rfl rfl (G.cS rfl rfl rfl rfl Tryz.func27 rfl rfl subT may0 (phasesB_tr D) apT ?_)
  intro x6 hJ
  try dsimp only at hJ
  try dsimp only
  refine go [26] ?_
  refine G.takeT hT1 (i := 7) (rem' := 768) rfl rfl rfl kr (fun _ _ _ h => h) rfl (pv_ixSl (sz := 2) (k := z.ph - 1) Tryz.underlying67 kr rfl rfl (fun _ => rfl) rfl (by omega)) subT ?_
  refine go [22,8,512,3,1,24,9,0] ?_
  refine G.turnOp rfl rfl (G.val rfl rfl (pv_load (v := phV (tkF (z.ph - 1)) D) Tryz.underlying64 rfl rfl (blk_cell selD (phC_tk (by omega)))) ?_)
  refine go [26,27] ?_
  refine G.queOf (pre := qp) (cs := nvC X ++ t.flatMap nvC) (sp := qs) selT rfl hq4 hq1 hq2 hq3 ?_
  refine G.recast (c := que 33 4 _ (t.length + 1) _) (c' := que 33 4 z.waitv z.wait.length (z.wait.flatMap nvC)) (by rw [hqv, hXt]; rfl) selT ?_
  refine G.tailS [] 17 rfl ?_
  refine G.turnOp rfl rfl (G.cSv (J := fun q : BZ × (Nat → Prop) × World => Up F W q.2.1 q.2.2 ∧ BvOk q.2.1 q.2.2 q.1 ∧ q.1.bm = stepY z.bm ⟨k, ns, ids, bs⟩) rfl rfl rfl rfl rfl (tkFn_fn _) rfl subT (may3 (.old hA) (.old hB) (.old hC)) (tk_trB k _ _ _ ns ids bs D z X t hz hX hXt hck hph9 (fun h => hcm h X t hXt) hb hl) apT ?_)
  rintro ⟨z1, F1, W1⟩ hJ
  try dsimp only at hJ
  try dsimp only
  obtain ⟨hU1, hz1, hb1⟩ := hJ
  refine G.tailD ?_
  refine go [8,10,0] ?_
  refine G.op rfl (G.cS rfl rfl rfl rfl Tryz.func24 rfl rfl subT may0 (bnext_tr (F := F1) (W := W1) D z1 hz1 (by rw [hb1]; exact hg)) apT ?_)
  intro x24 hJ
  obtain ⟨z3, F3, W3⟩ := x24
  try dsimp only at hJ
  try dsimp only
  refine go [7,16,8,9,10,1,7,8,11] ?_
  rw [takeY_go hnn hck (show ¬ (k = 20 ∧ n0 ns ≠ 0) from by omega)]
  exact G.doneX1 ((z3, F3, W3)) (by first | exact trivial | ((try dsimp only) <;> exact ⟨hU1.trans hJ.1, hJ.2.1, by rw [hJ.2.2, hb1]⟩)) rfl rfl rfl subT
 refine go [4,4,4,4,4,2,2,1,7,8,60,1] ?_
 have hnf : ¬ (k = 20 ∧ n0 ns ≠ 0) := by simp_all
 refine G.recast (c := que 33 4 z.waitv z.wait.length (z.wait.flatMap nvC)) (c' := que 33 4 z.waitv (t.length + 1) (nvC X ++ t.flatMap nvC)) (by rw [hXt]; rfl) selT ?_
 refine G.queTo (v := z.waitv) selT (by omega) (fun qg qc qp qs hqv hq1 hq2 hq3 hq4 => ?_)
 refine G.seq ?_
 refine G.drawE (nn := 18) (p := []) (rem := 131071) [0, 1, 0, 4, 8, 16, 32, 66, 128, 256, 0, 1024, 2048, 4096, 8192, 16384, 0, 98818] [0, 1, 0, 4, 8, 16, 32, 66, 128, 256, 0, 1024, 2048, 4096, 8192, 16384, 0, 98816] [17] [131071] 17 kr ⟨rfl, by kernel_rfl, by kernel_rfl⟩ kr kr kr subT (fun hT1 => ?_)
 refine go [22,0,131070,0,22,2,131066,0,22,3,131058,8,22,4,131042,3,3,22,10,130018,0,22,11,127970,8,22,12,123874,3,5,22,5,123842,50,0] ?_
 refine G.takeT hT1 (i := 6) (rem' := 123778) rfl rfl rfl kr (fun _ _ _ h => h) rfl ((pv_sub64 rfl rfl (by omega)).cast (v' := .int .i64 ((z.ph - 1 : Nat) : Int)) (congrArg _ (by omega))) subT ?_
 refine G.takeT hT1 (i := 13) (rem' := 115586) rfl rfl rfl kr (fun _ _ _ h => h) rfl ((pv_load (v := z.waitv) Tryz.underlying39 rfl rfl (by exact blk_cell selD (by rfl))).cast hqv) subT ?_
 refine G.takeT hT1 (i := 14) (rem' := 99202) rfl rfl rfl kr (fun _ _ _ h => h) rfl (pv_ixSl (sz := 4) (k := 0) Tryz.underlying39 kr rfl rfl (fun _ => rfl) rfl (by omega)) subT ?_
 refine G.takeT hT1 (i := 15) (rem' := 66434) rfl rfl rfl kr (fun _ _ _ h => h) rfl (pv_loadN (cs := nvC X) Tryz.underlying33 rfl kr rfl (blk_range (k := 4) selD (mid_rowN _ _ _ _ rfl))) subT ?_
 refine go [22,16,898,50,10,24,1,896] ?_
 refine G.turnOp rfl rfl (G.cS rfl rfl rfl rfl Tryz.func27 rfl rfl subT may0 (phasesB_tr D) apT ?_)
 intro x6 hJ
 try dsimp only at hJ
 try dsimp only
 refine go [26] ?_
 refine G.takeT hT1 (i := 7) (rem' := 768) rfl rfl rfl kr (fun _ _ _ h => h) rfl (pv_ixSl (sz := 2) (k := z.ph - 1) Tryz.underlying67 kr rfl rfl (fun _ => rfl) rfl (by omega)) subT ?_
 refine go [22,8,512,3,1,24,9,0] ?_
 refine G.turnOp rfl rfl (G.val rfl rfl (pv_load (v := phV (tkF (z.ph - 1)) D) Tryz.underlying64 rfl rfl (blk_cell selD (phC_tk (by omega)))) ?_)
 refine go [26,27] ?_
 refine G.queOf (pre := qp) (cs := nvC X ++ t.flatMap nvC) (sp := qs) selT rfl hq4 hq1 hq2 hq3 ?_
 refine G.recast (c := que 33 4 _ (t.length + 1) _) (c' := que 33 4 z.waitv z.wait.length (z.wait.flatMap nvC)) (by rw [hqv, hXt]; rfl) selT ?_
 refine G.tailS [] 17 rfl ?_
 refine G.turnOp rfl rfl (G.cSv (J := fun q : BZ × (Nat → Prop) × World => Up F W q.2.1 q.2.2 ∧ BvOk q.2.1 q.2.2 q.1 ∧ q.1.bm = stepY z.bm ⟨k, ns, ids, bs⟩) rfl rfl rfl rfl rfl (tkFn_fn _) rfl subT (may3 (.old hA) (.old hB) (.old hC)) (tk_trB k _ _ _ ns ids bs D z X t hz hX hXt hck hph9 (fun h => hcm h X t hXt) hb hl) apT ?_)
 rintro ⟨z1, F1, W1⟩ hJ
 try dsimp only at hJ
 try dsimp only
 obtain ⟨hU1, hz1, hb1⟩ := hJ
 refine G.tailD ?_
 refine go [8,10,0] ?_
 refine G.op rfl (G.cS rfl rfl rfl rfl Tryz.func24 rfl rfl subT may0 (bnext_tr (F := F1) (W := W1) D z1 hz1 (by rw [hb1]; exact hg)) apT ?_)
 intro x24 hJ
 obtain ⟨z3, F3, W3⟩ := x24
 try dsimp only at hJ
 try dsimp only
 refine go [7,16,8,9,10,1,7,8,11] ?_
 rw [takeY_go hnn hck (show ¬ (k = 20 ∧ n0 ns ≠ 0) from by omega)]
 exact G.doneX1 ((z3, F3, W3)) (by first | exact trivial | ((try dsimp only) <;> exact ⟨hU1.trans hJ.1, hJ.2.1, by rw [hJ.2.2, hb1]⟩)) rfl rfl rfl subT
def sendY (p : BM) : Option Nt × BM := if p.left = [] ∨ 8 ≤ p.wait.length then (none, p) else (p.left.head?, { p with left := p.left.tail, wait := p.wait ++ p.left.head?.toList })
def sentY (p : BM) : Nt := (sendY p).1.getD ntz
theorem sendY_no {p : BM} (h : p.left = [] ∨ 8 ≤ p.wait.length) : sendY p = (none, p) := if_pos h
theorem sendY_yes {z : BZ} {X : NV} {t : List NV} (e : z.left = X :: t) (h : ¬ 8 ≤ z.wait.length) : sendY z.bm = (some X.n, { z.bm with left := nvs t, wait := nvs (z.wait ++ [X]) }) := by
 have hl : z.bm.left = X.n :: nvs t := by show nvs z.left = _; rw [e]; rfl
 have hw : z.bm.wait.length = z.wait.length := nvs_length _
 unfold sendY
 rw [if_neg (by rw [hl, hw]; intro hh; rcases hh with hh | hh; cases hh; exact h hh), hl]
 show (some X.n, ({ z.bm with left := nvs t, wait := nvs z.wait ++ [X.n] } : BM)) = _
 rw [show nvs (z.wait ++ [X]) = nvs z.wait ++ [X.n] from by simp [nvs]]
theorem sub_tailN {F : Nat → Prop} {W : World} {ad : Option Addr} {cap : Nat} {X : NV} {t : List NV} (h : IsSl rNV F W (.slice ad (t.length + 1) cap) (X :: t)) : IsSl rNV F W (subV 4 ad 1 (t.length + 1) cap) t := by
 have := IsSl.sub (i := 1) (j := t.length + 1) h (by omega) (by simp)
 have e : ((X :: t).take (t.length + 1)).drop 1 = t := by simp
 rwa [e] at this
set_option maxHeartbeats 4000000 in
theorem bsend_nil : Tr Tryz.prog 14 #[.pointer none] [] [] (T0 (.tuple #[.agg #[.int .i64 0, .slice none 0 0, .slice none 0 0, .slice none 0 0], .bool false])) := by
 refine Tr.of (l := [(0, .pointer none)]) Tryz.func14 rfl (n := 57) rfl (.cons rfl .nil) (fun w0 hro => ?_)
 refine go [9,10,60,9] ?_
 intro b2
 refine go [1,7,8,9,9,10,0,2,50,1,0,4,4,4,4,4,4,2,2,0,4,4,4,4,4,4,2,2,7,8,60,0,9,10,2,50,8,20,1,7,8,11,12] ?_
 exact G.done0G rfl (Rv.cellN (cs := [_, _, _, _]) rfl Tryz.underlying33 rfl kr Y34 (Rv.tmp rfl Rv.nil)) Y8
set_option maxHeartbeats 4000000 in
theorem bsend_tr {F : Nat → Prop} {W : World} (D : Nat) (z : BZ) (hz : BvOk F W z) : Tr Tryz.prog 14 #[.pointer (some ⟨D, 0, none⟩)] [] [blk D 46 [.bool true, .int .i64 z.cl, .int .i64 z.nu, .int .i64 (z.ph : Nat), z.leftv, z.waitv, .int .i64 z.size, .int .i64 (z.came : Nat), z.bv, .bool z.read, .int .i64 z.mh.c, .int .i64 z.mh.k, .int .i64 z.mh.n, .int .i64 z.mh.t, z.mv, z.lv, .bool z.over, z.treev, .int .i64 z.e], frz F W, que 33 4 z.waitv z.wait.length (z.wait.flatMap nvC), own 5 1 z.bv z.b.length (z.b.map vByte), own 106 17 z.lv z.l.length (z.l.flatMap chC)]
 (TX (fun x : BZ × Value × Value => BvOk F W x.1 ∧ x.1.bm = (sendY z.bm).2) (fun x => .tuple #[.agg #[.int .i64 (sentY z.bm).k, x.2.1, x.2.2, .slice none 0 0], .bool (sendY z.bm).1.isSome]) (fun x => [blk D 46 [.bool true, .int .i64 x.1.cl, .int .i64 x.1.nu, .int .i64 (x.1.ph : Nat), x.1.leftv, x.1.waitv, .int .i64 x.1.size, .int .i64 (x.1.came : Nat), x.1.bv, .bool x.1.read, .int .i64 x.1.mh.c, .int .i64 x.1.mh.k, .int .i64 x.1.mh.n, .int .i64 x.1.mh.t, x.1.mv, x.1.lv, .bool x.1.over, x.1.treev, .int .i64 x.1.e], frz F W, que 33 4 x.1.waitv x.1.wait.length (x.1.wait.flatMap nvC), own 5 1 x.1.bv x.1.b.length (x.1.b.map vByte), own 106 17 x.1.lv x.1.l.length (x.1.l.flatMap chC), own 3 1 x.2.1 (sentY z.bm).ns.length ((sentY z.bm).ns.map vInt), own 59 16 x.2.2 (sentY z.bm).ids.length (flatI (sentY z.bm).ids)])) := by
 refine Tr.of (l := [(0, .pointer (some ⟨D, 0, none⟩))]) Tryz.func14 rfl (n := 57) rfl (.cons rfl .nil) (fun w0 hro => ?_)
 obtain ⟨cL, dL, eL, fL, hvL, _, _, hnL, hLd, hLe⟩ := hz.left.open
 refine G.queFact (v := z.waitv) selT (fun _ hql qad qcap hvw => ?_)
 refine go [9,10,60,9] ?_
 intro b2
 refine go [1,7,8,9,9,10,0,2,50,1,0,3,0,3,8,3,3,4] ?_
 refine G.want rfl rfl rfl (G.val rfl rfl ((pv_load (v := z.leftv) Tryz.underlying39 rfl rfl (by exact blk_cell selD (by rfl))).cast hvL) ?_)
 refine go [3,5,3,13,2,2,0] ?_
 refine G.partP (t := 15) rfl (fun h15 => ?_) (fun h15 => ?_)
 ·refine go [4,4,4,4,4,4,2,2,7,8,60,0,9,10,2,50,8,20,1,7,8,11,12] ?_
  rw [show sentY z.bm = ntz from by unfold sentY; rw [sendY_no (Or.inl (nvs_none (by omega)))]; rfl, sendY_no (Or.inl (nvs_none (by omega)))]
  refine G.ownNil 3 1 ?_
  refine G.ownNil 59 16 ?_
  exact G.doneG ((z, .slice none 0 0, .slice none 0 0)) (by first | exact trivial | ((try dsimp only) <;> exact ⟨hz, rfl⟩)) rfl (Rv.cellN (cs := [_, _, _, _]) rfl Tryz.underlying33 rfl kr Y34 (Rv.tmp rfl Rv.nil)) rfl subT
 refine go [3,0,3,8,3,3,5] ?_
 refine G.want rfl rfl rfl (G.val rfl rfl ((pv_load (v := z.waitv) Tryz.underlying39 rfl rfl (by exact blk_cell selD (by rfl))).cast hvw) ?_)
 refine go [3,5,3,12,2,2,7,8] ?_
 refine G.condP rfl (fun h22 => ?_) (fun h22 => ?_)
 ·refine go [9,10,2,50,8,20,1,7,8,11,12] ?_
  rw [show sentY z.bm = ntz from by unfold sentY; rw [sendY_no (Or.inr (by rw [show z.bm.wait.length = z.wait.length from nvs_length _]; omega))]; rfl, sendY_no (Or.inr (by rw [show z.bm.wait.length = z.wait.length from nvs_length _]; omega))]
  refine G.ownNil 3 1 ?_
  refine G.ownNil 59 16 ?_
  exact G.doneG ((z, .slice none 0 0, .slice none 0 0)) (by first | exact trivial | ((try dsimp only) <;> exact ⟨hz, rfl⟩)) rfl (Rv.cellN (cs := [_, _, _, _]) rfl Tryz.underlying33 rfl kr Y34 (Rv.tmp rfl Rv.nil)) rfl subT
 have hw8 : ¬ 8 ≤ z.wait.length := by omega
 obtain ⟨X, t, hXt⟩ : ∃ X t, z.left = X :: t := by cases e : z.left with | nil => (exfalso; have h0 := congrArg List.length e; rw [List.length_nil] at h0; omega) | cons X t => exact ⟨X, t, rfl⟩
 have hXl : z.left.length = t.length + 1 := by rw [hXt]; rfl
 have hR := hLe 0 (by omega)
 rw [show z.left[0] = X from by simp [hXt]] at hR
 have hX := hR.2.2
 have hXb := hz.nb X (by rw [hXt]; exact List.mem_cons_self ..)
 refine go [13,8,9,10,0,2,8,2,3,4] ?_
 refine G.op rfl (G.val rfl rfl ((pv_load (v := z.leftv) Tryz.underlying39 rfl rfl (by exact blk_cell selD (by rfl))).cast hvL) ?_)
 refine G.op rfl (G.val rfl rfl (pv_ixSl (sz := 4) (k := 0) Tryz.underlying39 kr rfl rfl hLd rfl (by omega)) ?_)
 refine G.op rfl (G.val rfl rfl (pv_loadN (cs := nvC X) Tryz.underlying33 rfl kr rfl (frz_rng selT hR.1 hR.2.1)) ?_)
 refine go [60,9] ?_
 intro b4
 refine G.op rfl (G.storeN (vs := nvC X) kr rfl rfl (List.all_eq_true.2 (nvC_one hX)) selT (by show 0 + 4 ≤ 4; omega) ?_)
 rw [show putN [.int .i64 0, .slice none 0 0, .slice none 0 0, .slice none 0 0] 0 (nvC X) = [.int .i64 X.n.k, X.vN, X.vI, .slice none 0 0] from by show [_, _, _, X.vB] = _; rw [hXb.2]]
 obtain ⟨hx1, hx2, hx3, hx4, hx5, hx6, hx7⟩ := id hX
 refine go [7,8,9] ?_
 refine G.drawF (nn := 20) (p := [que 33 4 _ _ _]) (rem := 16381) (i := 1) [0, 0, 0, 4, 8, 16, 32, 0, 128, 256, 512, 0, 2048, 5120, 9341, 25725, 42109, 131071, 262143, 393215] [0, 0, 0, 4, 8, 16, 32, 0, 128, 256, 512, 0, 2048, 5120, 1, 16384, 32832, 2, 131072, 270336] [19, 18, 17, 16, 15, 14] [524285, 262141, 131069, 65533, 32765, 16381] 13 1048573 kr ⟨rfl, by kernel_rfl, by kernel_rfl⟩ rfl rfl rfl rfl kr (fun _ _ _ h => h) rfl kr kr kr kr subT (fun hT4 => ?_)
 refine go [22,0,16380,0,22,2,16376,0,22,3,16368,8,22,4,16352,3,4,22,7,16224,0,22,8,15968,8,22,9,15456,3,5] ?_
 refine G.takeT hT4 (i := 5) (rem' := 15424) rfl rfl rfl kr (fun _ _ _ h => h) rfl ((pv_load (v := z.leftv) Tryz.underlying39 rfl rfl (by exact blk_cell selD (by rfl))).cast hvL) subT ?_
 refine G.takeT hT4 (i := 6) (rem' := 15360) rfl rfl rfl kr (fun _ _ _ h => h) rfl (pv_subL (sz := 4) (k := 1) Tryz.underlying39 kr rfl rfl rfl (by omega)) subT ?_
 refine go [22,10,14336,50,0,24,11,12288] ?_
 refine G.turnOp rfl rfl (G.val rfl rfl (pv_loadN (cs := nvC X) Tryz.underlying33 rfl kr rfl (blk_range (k := 4) selD (by rw [show nvC X = [.int .i64 X.n.k, X.vN, X.vI, .slice none 0 0] from by unfold nvC; rw [hXb.2]]; rfl))) ?_)
 refine go [26,24,12,8192] ?_
 refine G.turnOp rfl rfl (G.buildSlice (z := .agg #[.int .i64 0, .slice none 0 0, .slice none 0 0, .slice none 0 0]) (sz := 4) (cs := nvC X) rfl Tryz.underlying39 kr (by decide) (by decide) rfl kr ?_)
 intro b42
 refine go [26,24,13,0] ?_
 refine G.turnOp rfl rfl (G.appendQ (k := z.wait.length) (j := 1) (cs := z.wait.flatMap nvC) (news := nvC X) (b := b42) (off := 0) rfl Tryz.underlying39 Tryz.infoNo rfl rfl rfl selT (by omega) rfl (blk_news (k := 4) selT rfl) (nvC_one hX) (by omega) (by omega) ?_)
 intro vq
 rw [nvC_app, show z.wait.length + 1 = (z.wait ++ [X]).length from by rw [List.length_append]; rfl]
 refine G.queFact (v := vq) selT (fun hvq _ _ _ _ => ?_)
 refine go [26,27] ?_
 refine G.tailS [19, 18, 17, 16, 15] 14 rfl ?_
 refine go [25,8] ?_
 refine G.tailS [19, 18, 17, 16] 15 rfl ?_
 refine go [25,3,4] ?_
 refine G.tailS [19, 18, 17] 16 rfl ?_
 refine G.turnOp rfl rfl (G.store kr rfl rfl (sub_one1 _ _ _ _ _) selT leT ?_)
 refine G.tailS [19, 18] 17 rfl ?_
 refine go [25,8] ?_
 refine G.tailS [19] 18 rfl ?_
 refine go [25,3,5] ?_
 refine G.tailS [] 19 rfl ?_
 refine go [30] ?_
 refine G.tailD ?_
 refine go [8,9] ?_
 refine G.drawE (nn := 10) (p := []) (rem := 127) [0, 1, 2, 0, 8, 20, 31, 127, 255, 511] [0, 1, 2, 0, 8, 16, 0, 68, 0, 288] [9, 8, 7] [511, 255, 127] 7 kr ⟨rfl, by kernel_rfl, by kernel_rfl⟩ kr kr kr subT (fun hT5 => ?_)
 refine go [22,0,126,3,1,22,3,118,3,2,22,1,116,50,0,22,4,100,50,0,24,2,96] ?_
 refine G.ownNil 3 1 ?_
 refine G.turnOp rfl rfl (G.appendS (k := 0) (cs := []) (xs := X.n.ns) (f := vInt) (p := I64) (Ps := F) rfl Tryz.underlying29 Tryz.infoInt' rfl rfl selT (frz_sl selT hx1) (vInt_one _) (by omega) (by omega) ?_)
 intro vN
 rw [Nat.zero_add X.n.ns.length, List.nil_append]
 refine G.ownFact (v := vN) selT (fun hvN _ => ?_)
 refine go [26,22,6,32,3,1,24,5,0] ?_
 refine G.ownNil 59 16 ?_
 refine G.turnOp rfl rfl (G.appendI (k := 0) (cs := []) (ids := X.n.ids) (Ps := F) rfl Tryz.underlying30 Tryz.infoID' rfl rfl selT (frz_sl selT hx2) (by omega) ?_)
 intro vI
 rw [Nat.zero_add X.n.ids.length, List.nil_append]
 refine G.ownFact (v := vI) selT (fun hvI _ => ?_)
 refine go [26,27] ?_
 refine G.tailS [9, 8] 7 rfl ?_
 refine go [30] ?_
 refine G.tailS [9] 8 rfl ?_
 refine go [25,3,2] ?_
 refine G.tailS [] 9 rfl ?_
 refine go [30] ?_
 refine G.tailD ?_
 refine go [8,9,10,2,50,10,20,1,7,8,11] ?_
 rw [show sentY z.bm = X.n from by unfold sentY; rw [sendY_yes hXt hw8]; rfl, sendY_yes hXt hw8]
 exact G.doneG (({ z with leftv := subV 4 cL 1 z.left.length dL, left := t, waitv := vq, wait := z.wait ++ [X] }, vN, vI)) (by first | exact trivial | ((try dsimp only) <;> exact ⟨⟨(by have h0 := hz.left; rw [hvL, hXt] at h0; have := sub_tailN h0; rwa [← hXl] at this), (fun y hy => by rcases List.mem_append.1 hy with hy | hy; exact hz.wait y hy; obtain rfl : y = X := (by simpa using hy); exact hX), hz.items, hz.l, hz.tree, fun y hy => hz.nb y (by rw [hXt]; exact List.mem_cons_of_mem _ hy)⟩, rfl⟩)) rfl (Rv.cellN (cs := [_, _, _, _]) rfl Tryz.underlying33 rfl kr Y34 (Rv.tmp rfl Rv.nil)) rfl subT
theorem newsF {w0 : World} {S : Nat → Prop} {m r : List Ck} {F : Nat → Prop} {W : World} {b o : Nat} {xs : List ET} (h : Sel m (frz F W) r) (hel : ∀ i (hi : i < xs.length), rEV.R F W b (o + i * rEV.sz) xs[i]) : ∀ w, Hp w0 S w m → News w b o (flatT xs) := fun w hw j u hj => by
 have hl : j < xs.length * 5 := by
  have := (List.getElem?_eq_some_iff.1 hj).1
  rwa [flatT_length] at this
 obtain ⟨q, r', rfl, hr, hq⟩ : ∃ q r, j = q * 5 + r ∧ r < 5 ∧ q < xs.length := ⟨j / 5, j % 5, by omega, by omega, by omega⟩
 rw [flatT_get hq hr] at hj
 have h1 := hel q hq
 have h2 := frz_rng h h1.1 h1.2.1 w hw r' u hj
 rwa [Nat.add_assoc] at h2
theorem oneF {F : Nat → Prop} {W : World} {b o : Nat} {xs : List ET} (hel : ∀ i (hi : i < xs.length), rEV.R F W b (o + i * rEV.sz) xs[i]) : ∀ u ∈ flatT xs, u.oneCell' = true := flatT_one' fun x hx => by
 obtain ⟨i, hi, rfl⟩ := List.getElem_of_mem hx
 exact (hel i hi).2.2.1.one
set_option maxHeartbeats 4000000 in
theorem bdone_tr {F : Nat → Prop} {W : World} (D : Nat) (z : BZ) (hz : BvOk F W z) (hn : z.tree.length ≤ 1000) : Tr Tryz.prog 15 #[.pointer (some ⟨D, 0, none⟩)] [] [blk D 46 [.bool true, .int .i64 z.cl, .int .i64 z.nu, .int .i64 (z.ph : Nat), z.leftv, z.waitv, .int .i64 z.size, .int .i64 (z.came : Nat), z.bv, .bool z.read, .int .i64 z.mh.c, .int .i64 z.mh.k, .int .i64 z.mh.n, .int .i64 z.mh.t, z.mv, z.lv, .bool z.over, z.treev, .int .i64 z.e], frz F W]
 (TX (fun x : Value × List ET => ens x.2 = ens z.tree) (fun x => .tuple #[x.1, .int .i64 z.e, .bool z.over]) (fun x => [blk D 46 [.bool true, .int .i64 z.cl, .int .i64 z.nu, .int .i64 (z.ph : Nat), z.leftv, z.waitv, .int .i64 z.size, .int .i64 (z.came : Nat), z.bv, .bool z.read, .int .i64 z.mh.c, .int .i64 z.mh.k, .int .i64 z.mh.n, .int .i64 z.mh.t, z.mv, z.lv, .bool z.over, z.treev, .int .i64 z.e], frz F W, ownT 73 x.1 x.2, datC 5 x.2])) := by
 refine Tr.of (l := [(0, .pointer (some ⟨D, 0, none⟩))]) Tryz.func15 rfl (n := 39) rfl (.cons rfl .nil) (fun w0 hro => ?_)
 obtain ⟨xs, hxs⟩ : ∃ xs, z.tree = xs := ⟨_, rfl⟩
 have ht := hz.tree
 rw [hxs] at ht hn
 rw [hxs]
 obtain ⟨av, cv, bv, fv, hvv, hcapv, hmaxv, hnilv, hadv, helv⟩ := ht.open
 refine go [9,10,1,1,1,7,8,9,9,10,0,2,50,1,7,8,60,1,13,8,9,10,0,2,8,2,3,17] ?_
 refine G.op rfl (G.val rfl rfl ((pv_load (v := z.treev) Tryz.underlying44 rfl rfl (by exact blk_cell selD (by rfl))).cast hvv) ?_)
 refine G.ownNil 73 5 ?_
 refine G.op rfl (G.append (k := 0) (j := xs.length) (cs := []) (news := flatT xs) (b := bv) (off := fv) rfl Tryz.underlying44 Tryz.infoEn' rfl rfl rfl selT hadv hnilv (flatT_length xs) (newsF selD helv) (oneF helv) (by omega) (by omega) ?_)
 intro v3
 rw [List.nil_append, Nat.zero_add xs.length]
 refine G.ownOpen (v := v3) selT (fun a3 c3 h3 hk3 hm3 => ?_)
 subst h3
 refine go [1,7,8,9,9,10,0,2,5,0,7,8,15] ?_
 refine G.datNil 5 ?_
 refine G.loopK (X := Nat × (List ET)) (ts := [0, 2, 3, 4, 5, 15]) (fun st => st.1 ≤ xs.length ∧ (ens st.2 = ens xs ∧ ∀ q (hq : q < st.2.length) (hx : q < xs.length), st.1 ≤ q → st.2[q] = xs[q])) (fun st => [(16, .int .i64 (st.1 : Int))]) (fun st => [ownT 73 (.slice a3 xs.length c3) st.2, datC 5 (st.2.take st.1)]) (fun st => xs.length - st.1) (x0 := (0, xs)) (.cons rfl (.cons rfl (.cons rfl (.cons rfl (.cons rfl (.cons rfl .nil)))))) subT (.cons .nil) apT (by first | exact trivial | ((try dsimp only) <;> exact ⟨Nat.zero_le _, ⟨rfl, fun q _ _ _ => rfl⟩⟩)) (.consE rfl veqT .nil) (fun st hJ => ?_)
 obtain ⟨i, zs⟩ := st
 try dsimp only at hJ
 try dsimp only
 obtain ⟨hki, hJ⟩ := hJ
 obtain ⟨hez, hsame⟩ := hJ
 have hlz := len_ens hez
 refine go [9,10,2,9,7,8,9] ?_
 refine G.condP rfl (fun h17 => ?_) (fun h17 => ?_)
 ·have hlt : i < xs.length := by omega
  have hlt' : i < zs.length := by omega
  have hzx : zs[i] = xs[i] := hsame i hlt' hlt (Nat.le_refl _)
  have hEv := helv i hlt
  have hDv := hEv.2.2.1
  obtain ⟨hk1v, hk2v, hlpv, hldv, hltv⟩ := hEv.2.2.2
  have hCv := hDv.one
  refine go [13,8,9,15,9,10,0,1,7,8,10] ?_
  rw [show ownT 73 (.slice a3 xs.length c3) zs = own 73 5 (.slice a3 xs.length c3) zs.length (flatT zs) from rfl]
  refine G.ownTo selT (by omega) (fun g cap sp hvv2 hkc hmx hl hlen => ?_)
  injection hvv2 with e1 e2 e3
  subst e1
  subst e3
  refine go [0,0,0,0] ?_
  refine G.op rfl (G.val rfl rfl (pv_ixSl (sz := 5) (k := i) Tryz.underlying44 kr rfl rfl (fun _ => rfl) (by omega) (by omega)) ?_)
  refine go [2,3,3] ?_
  refine G.op rfl (G.val rfl rfl (pv_load (v := xs[i].2) Tryz.underlying31 rfl rfl (blk_cell selD (by rw [← hzx]; exact flat_dat hlt'))) ?_)
  refine G.ownBNil 5 ?_
  refine G.op rfl (G.appendB (xs := []) (ys := xs[i].1.data) (Ps := F) rfl Tryz.underlying31 Tryz.infoByte rfl rfl selT (frz_sl selT hDv) (by simp only [List.length_nil]; omega) (by simp only [List.length_nil]; omega) ?_)
  intro vB
  rw [List.nil_append xs[i].1.data]
  refine G.ownBFact (v := vB) selT (fun hvB => ?_)
  refine G.op rfl (G.val rfl rfl (pv_ixSl (sz := 5) (k := i) Tryz.underlying44 kr rfl rfl (fun _ => rfl) (by omega) (by omega)) ?_)
  refine go [2,3,3] ?_
  refine G.op rfl (G.store kr rfl rfl (by assumption) selT (flat_len hlt' (by omega)) ?_)
  rw [flat_set hlt']
  refine go [7,16,8,10,2,6,0,7] ?_
  refine G.ownOf (sz := 5) (k := xs.length) (cs := flatT (zs.set i (zs[i].1, vB))) (sp := sp) selT (by rw [flatT_length, List.length_set, hlz]) (by omega) hmx (by rw [List.length_append, flatT_length, List.length_set]; rw [List.length_append, flatT_length] at hl; exact hl) ?_
  have hzt : zs.take i ++ [(zs[i].1, vB)] = (zs.set i (zs[i].1, vB)).take (i + 1) := (take_set_succ hlt' _).symm
  refine G.datSnoc (ys := zs.take i) (x := (zs[i].1, vB)) selT (by rw [show (zs[i].1, vB).1.data = xs[i].1.data from by rw [hzx]]; repeat (first | with_reducible exact Sel.here | exact Sel.here | apply Sel.there)) ?_
  rw [hzt]
  exact G.next ((i + 1, zs.set i (zs[i].1, vB))) (by first | exact trivial | ((try dsimp only) <;> exact ⟨by omega, ⟨by rw [ens_set hlt', hez], fun q hq hx hiq => by rw [List.getElem_set_ne (by omega)]; exact hsame q (by rw [List.length_set] at hq; exact hq) hx (by omega)⟩⟩)) (by (try dsimp only); omega) (.consE rfl veqT (.cons rfl (.cons rfl (.cons rfl (.cons rfl (.cons rfl (.cons rfl .nil))))))) (by show Sub _ [own 73 5 _ (zs.set i (zs[i].1, vB)).length (flatT _), _, _, _] _; rw [List.length_set, hlz]; repeat (first | exact Sub.nil | (apply Sub.cons; (repeat (first | with_reducible exact Sel.here | exact Sel.here | apply Sel.there)))))
 refine go [18,14,14,19,8,9] ?_
 refine G.drawT (nn := 12) (p := []) (rem := 4095) [0, 0, 2, 4, 8, 0, 32, 64, 128, 1, 543, 2047] [0, 0, 2, 4, 8, 0, 32, 64, 128, 1, 16, 256] kr ⟨rfl, by kernel_rfl, by kernel_rfl⟩ subT kr (fun hT9 => ?_)
 refine go [22,0,4094,0,22,1,4092,0,22,2,4088,8,22,3,4080,3,18,22,5,4048,0,22,6,3984,8,22,7,3856,3,16,22,9,3344,1,22,4,3328,50,0,22,10,2304,1,24,8,2048,25,50,0,26,22,11,0,1,27,8,11] ?_
 obtain rfl : i = xs.length := by omega
 rw [show zs.take xs.length = zs from List.take_of_length_le (by omega)]
 exact G.doneX3 ((.slice a3 xs.length c3, zs)) (by first | exact trivial | ((try dsimp only) <;> exact hez)) rfl rfl rfl rfl rfl subT
theorem may_nilZ {w0 : World} {S : Nat → Prop} {m : List Ck} {α : Type} {E : Rdr α} : May w0 S m (slc E (fun _ => False) (.slice none 0 0) []) := .old ⟨IsSl.nil _ _ _, fun b hb => hb.elim⟩
def en1 : En := ⟨[120], 2, 0, [120], []⟩
def oneT (b : Nat) : List ET := [(en1, .slice (some ⟨b, 0, none⟩) 1 1)]
def oneB (b : Nat) : Ck := slc rByte (· = b) (.slice (some ⟨b, 0, none⟩) 1 1) [120]
theorem oneT_ens (b : Nat) : ens (oneT b) = [en1] := rfl
theorem oneT_ok {b : Nat} : ∀ x ∈ oneT b, EnOk x.1 := fun x hx => by
 obtain rfl : x = (en1, .slice (some ⟨b, 0, none⟩) 1 1) := by simpa [oneT] using hx
 exact (show EnOk en1 from ⟨⟨by decide, by decide⟩, ⟨by decide, by decide⟩, by decide, by decide, by decide⟩)
theorem oneT_small (b : Nat) : ∀ x ∈ oneT b, x.1.data.length ≤ 12000 := fun x hx => by
 obtain rfl : x = (en1, .slice (some ⟨b, 0, none⟩) 1 1) := by simpa [oneT] using hx
 show 1 ≤ 12000
 decide
theorem oneT_dat {b : Nat} {w : World} (h : (oneB b).φ w) : ∀ x ∈ oneT b, IsSl rByte (oneB b).S w x.2 x.1.data := fun x hx => by
 obtain rfl : x = (en1, .slice (some ⟨b, 0, none⟩) 1 1) := by simpa [oneT] using hx
 exact h
section
variable {P : Program} {n : Nat} {w0 : World} {S : Nat → Prop} {l : Fr} {m : List Ck} {Q : Exit → Act → World → Prop} {K : Act → World → Prop}
theorem may_treeZ {e : TypeId} {c : Ck} {v : Value} {xs : List ET} {r r' : List Ck} (h : Sel m (ownT e v xs) r) (h' : Sel m c r') (hok : ∀ x ∈ xs, EnOk x.1) (hd : ∀ w, c.φ w → ∀ x ∈ xs, IsSl rByte c.S w x.2 x.1.data) : May w0 S m (slc rEV (fun b => v.ownBlock = some b ∨ c.S b) v xs) :=
 .mix (fun w hw => ownT_sl (hw.holds _ h.mem) (fun b hb => .inl hb) hok fun x hx => (hd w (hw.holds _ h'.mem) x hx).mono fun k hk => .inr hk) fun b hb => .inr (by
  rcases hb with hb | hb
  ·exact ⟨_, h.mem, hb⟩
  exact ⟨_, h'.mem, hb⟩)
end
def a28 : Mh := ⟨1, 1, 0, 0⟩
def b28 : Mh := ⟨1, 1, 2, 0⟩
def id1 : List UInt8 := nameM [120]
def it1 : It := ⟨[120], 2, 0, 1, [], [id1]⟩
theorem mk28 : mkM a28 [en1] = ((a28, [it1]), [(id1, [120])], 0) := by kernel_rfl
def B28 : List UInt8 := bytesO b28 [it1]
theorem B28_len : B28.length = 28 := by kernel_rfl
theorem en1_ok : EnOk en1 := ⟨⟨by decide, by decide⟩, ⟨by decide, by decide⟩, by decide, by decide, by decide⟩
theorem it1_ok : ItOk it1 ∧ all16 it1.ids := by
 have h3 : it1 = mkI en1 := by kernel_rfl
 rw [h3]
 exact ⟨mkI_okX en1_ok (by show 1 ≤ 1048576; decide), mkI_16 en1⟩
theorem its1_ok {ys : List IT} (h : its ys = [it1]) : ∀ x ∈ ys, ItOk x.1 ∧ all16 x.1.ids := fun x hx => by
 have h1 : x.1 ∈ its ys := List.mem_map.2 ⟨x, hx, rfl⟩
 rw [h] at h1
 have h2 : x.1 = it1 := by simpa using h1
 rw [h2]
 exact it1_ok
theorem rd28 : (rdM B28).1 = (b28, [it1]) ∧ (rdM B28).2.1 = 0 := ⟨by kernel_rfl, by kernel_rfl⟩
theorem bd28 : buildM b28 [it1] [(id1, [120])] = ([en1], 0) := by decide +kernel
theorem bd28n : (buildM b28 [it1] []).1 = [] := by kernel_rfl
theorem id1_len : id1.length = 16 := nameM_len _
def pcN (c : Nat) : Nt := ⟨22, [0, 28], [], B28.take (28 - c)⟩
def ckN (c : UInt8) : Nt := ⟨23, [], [id1], [c]⟩
def S1 (n : Int) : BM := ⟨1, n, 1, [⟨8, [n], [], []⟩], [], 0, 0, [], false, mh0, [], [], false, [], 0⟩
def S2 (n : Int) : BM := ⟨1, n, 1, [], [⟨8, [n], [], []⟩], 0, 0, [], false, mh0, [], [], false, [], 0⟩
def S3 : BM := ⟨1, 2, 3, [⟨10, [], [id1], []⟩], [], 28, 0, B28, true, b28, [it1], [], false, [], 0⟩
def S4 : BM := ⟨1, 2, 3, [], [⟨10, [], [id1], []⟩], 28, 0, B28, true, b28, [it1], [], false, [], 0⟩
theorem st_S1 (n : Int) : nextB (newBM 1 n) = S1 n := rfl
theorem st_S2 (n : Int) : sendY (S1 n) = (some ⟨8, [n], [], []⟩, S2 n) := rfl
theorem st_S2n (n : Int) : sendY (S2 n) = (none, S2 n) := rfl
theorem st_S4 : sendY S3 = (some ⟨10, [], [id1], []⟩, S4) := rfl
theorem good1 : GoodI [it1] := ⟨by decide, fun i => by
 match i with
 | 0 => exact Nat.zero_le _
 | i + 1 =>
  rw [show [it1].take (i + 1) = [it1] from by simp]
  have : (uniqM [it1]).length = 1 := by kernel_rfl
  omega, fun x hx => by
 obtain rfl : x = it1 := by simpa using hx
 show 1 ≤ 100000
 decide⟩
theorem bg_S2 {n : Int} (hn : 1 ≤ n ∧ n ≤ 2147483647) : BgOk (S2 n) :=
 have h := new_bg (c := 1) hn
 ⟨h.nu, h.size, h.b, h.rd, h.its, h.l, .inr (by show 1 ≤ 3; decide), (by show 0 + 1 ≤ 200000000; decide), h.bd, h.bd2⟩
theorem rd_ok28 : GoodI (rdM B28).1.2 ∧ ∀ x ∈ (rdM B28).1.2, ItOk x ∧ all16 x.ids := by
 rw [rd28.1]
 exact ⟨good1, fun x hx => by obtain rfl : x = it1 := (by simpa using hx); exact it1_ok⟩
theorem len28 : B28.length ≤ 1000000000 := by rw [B28_len]; decide
theorem bg_S4 : BgOk S4 :=
 ⟨⟨by decide, by decide⟩, (by show (28 : Int) ≤ 1000; decide), len28, rd_ok28, good1, (fun c hc => by cases hc), .inr (by show 3 ≤ 3; decide), (by show 0 + 1 ≤ 200000000; decide), (fun e he => by have he : e ∈ (buildM b28 [it1] []).1 := he; rw [bd28n] at he; cases he), fun e he => by
  have he : e ∈ (buildM (rdM B28).1.1 (rdM B28).1.2 []).1 := he
  rw [rd28.1] at he
  change e ∈ (buildM b28 [it1] []).1 at he
  rw [bd28n] at he
  cases he⟩
def P0 (n : Int) : BM := ⟨1, n, 1, [], [], 28, 0, B28, false, mh0, [], [], false, [], 0⟩
theorem P0_b (n : Int) : (P0 n).b = B28 := rfl
theorem step_p0 (n : Int) : stepY (S2 n) (pcN 0) = P0 n := by
 have e : stepY (S2 n) (pcN 0) = pieceB (S2 n) (pcN 0) := if_neg (by show ¬ 1 = 3; decide)
 have hb : (pcN 0).bs = B28 := by show B28.take 28 = _; exact List.take_of_length_le (by rw [B28_len]; exact Nat.le_refl _)
 rw [e, pieceB_ok (by
  rw [hb, B28_len]
  show ¬ ((22 : Int) ≠ 22 ∨ (0 : Int) ≠ ((0 : Nat) : Int) ∨ ((1 : Nat) = 2 ∧ _) ∨ (28 : Int) < 1 ∨ (262144 : Int) < 28 ∨ ((28 : Nat) : Int) ≠ min (28 - ((0 : Nat) : Int)) 1000)
  rintro (h | h | ⟨h, _⟩ | h | h | h)
  ·exact h rfl
  ·exact h rfl
  ·cases h
  ·exact absurd h (by decide)
  ·exact absurd h (by decide)
  exact h (by decide)), hb]
 rfl
theorem step_p1 (n : Int) : stepY (S2 n) (pcN 1) = finB (S2 n) [] 370 := by
 have e : stepY (S2 n) (pcN 1) = pieceB (S2 n) (pcN 1) := if_neg (by show ¬ 1 = 3; decide)
 have hb : (pcN 1).bs.length = 27 := by show (B28.take 27).length = _; rw [List.length_take, B28_len]; rfl
 rw [e, pieceB_no (by
  refine .inr (.inr (.inr (.inr (.inr ?_))))
  rw [hb]
  show ((27 : Nat) : Int) ≠ min (28 - ((0 : Nat) : Int)) 1000
  decide)]
theorem P0_bd (n : Int) : ∀ e ∈ (buildM (rdM (P0 n).b).1.1 (rdM (P0 n).b).1.2 (P0 n).l).1, EnOk e := by
 rw [P0_b]
 exact bg_S4.bd2
theorem bg_p0 {n : Int} (hn : 1 ≤ n ∧ n ≤ 2147483647) : BgOk (stepY (S2 n) (pcN 0)) := by
 rw [step_p0]
 have h := bg_S2 hn
 refine ⟨h.nu, ?_, ?_, ?_, h.its, h.l, h.ph, Nat.zero_le _, h.bd, P0_bd n⟩
 ·show (28 : Int) ≤ 1000
  decide
 ·rw [P0_b]
  exact len28
 rw [P0_b]
 exact rd_ok28
theorem bg_p1 {n : Int} (hn : 1 ≤ n ∧ n ≤ 2147483647) : BgOk (stepY (S2 n) (pcN 1)) := by
 rw [step_p1]
 exact fin_bg (bg_S2 hn) _
theorem ck22 (l : Nat) (h : 1 ≤ l ∧ l ≤ 1000) : ncheckM 22 [0, 28] 0 l = 0 := by
 have h1 : shM 22 = some (shD 22) := by kernel_rfl
 have h2 : ((shD 22).n, (shD 22).ns, (shD 22).i, (shD 22).is, (shD 22).b, (shD 22).bs) = ((2 : Int), (2 : Int), (0 : Int), (0 : Int), (0 : Int), (1000 : Int)) := by kernel_rfl
 simp only [Prod.mk.injEq] at h2
 unfold ncheckM
 rw [h1]
 show checkS (shD 22) [0, 28] 0 l = 0
 unfold checkS
 rw [if_neg (by simp only [List.length_cons, List.length_nil]; omega), if_pos (by decide)]
theorem take_p0 : takeY (S2 2) (pcN 0) = (0, S3) := by
 have hl : (pcN 0).bs.length = 28 := by show (B28.take 28).length = _; rw [List.length_take, B28_len]; rfl
 rw [takeY_go (by rintro (h | h) <;> cases h) (by rw [hl]; exact ck22 28 (by decide)) (by rintro ⟨h, _⟩; cases h), step_p0]
 show ((0 : Int), nextF 3 (P0 2)) = _
 rw [nextF_go ⟨rfl, rfl, rfl⟩]
 rw [show goB (P0 2) = { P0 2 with ph := 2 } from rfl, nextF_go ⟨rfl, rfl, rfl⟩]
 have hr : readsB { P0 2 with ph := 3 } = { P0 2 with ph := 3, mh := b28, items := [it1], read := true } := by
  rw [readsB_ok (by
   show ¬ ((rdM B28).2.1 ≠ 0 ∨ (rdM B28).1.1.c ≠ 1 ∨ (rdM B28).1.1.n ≠ 2)
   rw [rd28.1, rd28.2]
   rintro (h | h | h) <;> exact h rfl)]
  show BM.mk .. = BM.mk ..
  rw [show (rdM ({ P0 2 with ph := 3 } : BM).b).1 = (b28, [it1]) from rd28.1]
 have hg : goB { P0 2 with ph := 2 } = S3 := by
  have hm : midB { P0 2 with ph := 3 } = { P0 2 with ph := 3, mh := b28, items := [it1], read := true } := (if_pos rfl).trans hr
  have hf : fetL (uniqM [it1]) = [⟨10, [], [id1], []⟩] := by kernel_rfl
  have h0 : goB { P0 2 with ph := 2 } = if (midB { P0 2 with ph := 3 }).over = true then midB { P0 2 with ph := 3 } else { midB { P0 2 with ph := 3 } with left := notesB (midB { P0 2 with ph := 3 }) ((midB { P0 2 with ph := 3 }).ph - 1) } := rfl
  rw [h0, hm, if_neg (by simp [P0])]
  show ({ P0 2 with ph := 3, mh := b28, items := [it1], read := true, left := fetL (uniqM [it1]) } : BM) = S3
  rw [hf]
  rfl
 rw [hg]
 rfl
theorem take_p0' : takeY (S2 3) (pcN 0) = (0, finB { P0 3 with ph := 3 } [] 11) := by
 have hl : (pcN 0).bs.length = 28 := by show (B28.take 28).length = _; rw [List.length_take, B28_len]; rfl
 rw [takeY_go (by rintro (h | h) <;> cases h) (by rw [hl]; exact ck22 28 (by decide)) (by rintro ⟨h, _⟩; cases h), step_p0]
 show ((0 : Int), nextF 3 (P0 3)) = _
 rw [nextF_go ⟨rfl, rfl, rfl⟩]
 rw [show goB (P0 3) = { P0 3 with ph := 2 } from rfl, nextF_go ⟨rfl, rfl, rfl⟩]
 have hr : readsB { P0 3 with ph := 3 } = finB { P0 3 with ph := 3 } [] 11 := by
  rw [readsB_no (by
   show (rdM B28).2.1 ≠ 0 ∨ (rdM B28).1.1.c ≠ 1 ∨ (rdM B28).1.1.n ≠ 3
   rw [rd28.1, rd28.2]
   exact .inr (.inr (by decide)))]
 have hm : midB { P0 3 with ph := 3 } = finB { P0 3 with ph := 3 } [] 11 := (if_pos rfl).trans hr
 have h0 : goB { P0 3 with ph := 2 } = if (midB { P0 3 with ph := 3 }).over = true then midB { P0 3 with ph := 3 } else { midB { P0 3 with ph := 3 } with left := notesB (midB { P0 3 with ph := 3 }) ((midB { P0 3 with ph := 3 }).ph - 1) } := rfl
 rw [h0, hm]
 show ((0 : Int), nextF 2 (finB { P0 3 with ph := 3 } [] 11)) = _
 rw [nextF_no (by rintro ⟨h, _⟩; cases h)]
theorem take_p1 : takeY (S2 2) (pcN 1) = (0, finB (S2 2) [] 370) := by
 have hl : (pcN 1).bs.length = 27 := by show (B28.take 27).length = _; rw [List.length_take, B28_len]; rfl
 rw [takeY_go (by rintro (h | h) <;> cases h) (by rw [hl]; exact ck22 27 (by decide)) (by rintro ⟨h, _⟩; cases h), step_p1]
 exact congrArg (Prod.mk 0) (nextF_no (by rintro ⟨h, _⟩; cases h))
theorem head4 : S4.wait.headD ntz = ⟨10, [], [id1], []⟩ := rfl
def S5 : BM := { S4 with l := [(id1, [120])], came := 0, wait := [] }
theorem step_cx : stepY S4 (ckN 120) = S5 := by
 have e : stepY S4 (ckN 120) = chunkB S4 ⟨10, [], [id1], []⟩ (ckN 120) := (if_pos rfl).trans (by rw [head4])
 rw [e, chunkB_all (by rintro (h | h) <;> exact h rfl) (by show ¬ nameM [120] ≠ id1; unfold id1; exact fun h => h rfl) (by show 0 + 1 = 1; rfl)]
 rfl
theorem step_cy : stepY S4 (ckN 121) = finB S4 [] 11 := by
 have e : stepY S4 (ckN 121) = chunkB S4 ⟨10, [], [id1], []⟩ (ckN 121) := (if_pos rfl).trans (by rw [head4])
 rw [e, chunkB_bad (by rintro (h | h) <;> exact h rfl) (by show nameM [121] ≠ nameM [120]; decide +kernel)]
theorem bg_cx : BgOk (stepY S4 (ckN 120)) := by
 rw [step_cx]
 have h := bg_S4
 exact ⟨h.nu, h.size, h.b, h.rd, h.its, (fun c hc => by obtain rfl : c = (id1, [120]) := (by simpa [S5] using hc); show 1 ≤ 100000; decide), h.ph, Nat.zero_le _, (fun e he => by have he : e ∈ (buildM b28 [it1] [(id1, [120])]).1 := he; rw [bd28] at he; obtain rfl : e = en1 := (by simpa using he); exact en1_ok), fun e he => by
  have he : e ∈ (buildM (rdM B28).1.1 (rdM B28).1.2 [(id1, [120])]).1 := he
  rw [rd28.1] at he
  change e ∈ (buildM b28 [it1] [(id1, [120])]).1 at he
  rw [bd28] at he
  obtain rfl : e = en1 := by simpa using he
  exact en1_ok⟩
theorem bg_cy : BgOk (stepY S4 (ckN 121)) := by
 rw [step_cy]
 exact fin_bg bg_S4 _
theorem ck23 : ncheckM 23 [] 1 1 = 0 := by kernel_rfl
def S6 : BM := finB { S5 with ph := 4 } [en1] 0
theorem take_cx : takeY S4 (ckN 120) = (0, S6) := by
 rw [takeY_go (by rintro (h | h) <;> cases h) ck23 (by rintro ⟨h, _⟩; cases h), step_cx]
 show ((0 : Int), nextF 1 S5) = _
 rw [nextF_go ⟨rfl, rfl, rfl⟩]
 have hb : buildsB { S5 with ph := 4 } = S6 := by
  unfold buildsB
  rw [show buildM ({ S5 with ph := 4 } : BM).mh ({ S5 with ph := 4 } : BM).items ({ S5 with ph := 4 } : BM).l = ([en1], 0) from bd28]
  rfl
 have hm : midB { S5 with ph := 4 } = S6 := (if_neg (by show ¬ 4 = 3; decide)).trans ((if_pos rfl).trans hb)
 have h0 : goB S5 = if (midB { S5 with ph := 4 }).over = true then midB { S5 with ph := 4 } else { midB { S5 with ph := 4 } with left := notesB (midB { S5 with ph := 4 }) ((midB { S5 with ph := 4 }).ph - 1) } := rfl
 rw [h0, hm]
 rfl
theorem take_cy : takeY S4 (ckN 121) = (0, finB S4 [] 11) := by
 rw [takeY_go (by rintro (h | h) <;> cases h) ck23 (by rintro ⟨h, _⟩; cases h), step_cy]
 exact congrArg (Prod.mk 0) (nextF_no (by rintro ⟨h, _⟩; cases h))
def fl28 : Nt := ⟨20, [6, 2], [], []⟩
theorem take_fl : takeY (S2 2) fl28 = (0, finB (S2 2) [] 6) := by
 rw [takeY_fail (by rintro (h | h) <;> cases h) (by show ncheckM 20 [6, 2] 0 0 = 0; kernel_rfl) ⟨rfl, by decide⟩]
 rfl
theorem bg_no {p : BM} {y : Nt} (h : BgOk p) (hp : p.ph ≠ 3) (hk : y.k ≠ 22) : BgOk (stepY p y) := by
 have e : stepY p y = pieceB p y := if_neg hp
 rw [e, pieceB_no (.inl hk)]
 exact fin_bg h _
theorem take_ov (y : Nt) {p : BM} (h : p.over = true) : takeY p y = (9, p) := takeY_no (.inl h)
def overB (p : BM) (t : List En) (e : Int) : Bool := p.over && (decide (p.e = e) && decide (p.tree = t))
theorem i64_22 : I64 22 := ⟨by decide, by decide⟩
theorem i64_23 : I64 23 := ⟨by decide, by decide⟩
set_option maxHeartbeats 4000000 in
theorem one28_tr : Tr Tryz.prog 30 #[] [] [] (TX (fun _ : Nat × Nat => True) (fun z => .slice (some ⟨z.1, 0, none⟩) 1 1) (fun z => [ownT 73 (.slice (some ⟨z.1, 0, none⟩) 1 1) (oneT z.2), oneB z.2])) := by
 refine Tr.of (l := []) Tryz.func30 rfl (n := 5) rfl Fa.nil (fun w0 hro => ?_)
 refine go [9,10,1,7,8,9,10] ?_
 refine G.op rfl (G.lit1 (vs := [.int .u8 120]) rfl Tryz.underlying31 kr rfl (by decide) (by decide) rfl rfl ?_)
 intro b2
 refine G.op rfl (G.constB (b := b2) (xs := [120]) rfl Tryz.underlying31 Tryz.underlying5 rfl (by decide) selT ?_)
 refine G.op rfl (G.val rfl rfl (pv_buildSt (z := [.string ⟨#[]⟩, .int .i64 0, .int .i64 0, .slice none 0 0, .string ⟨#[]⟩]) (pl := [(0, 1), (1, 1), (2, 1), (3, 1), (4, 1)]) Tryz.underlying73 kr kr rfl flT) ?_)
 refine G.op rfl (G.buildSlice (z := .agg #[.string ⟨#[]⟩, .int .i64 0, .int .i64 0, .slice none 0 0, .string ⟨#[]⟩]) (sz := 5) (cs := flatT (oneT b2)) rfl Tryz.underlying44 kr (by decide) (by decide) rfl kr ?_)
 intro b5
 refine G.ownBlk (b := b5) (k := 1) (sz := 5) selT rfl (by omega) ?_
 refine go [1,7,8,11] ?_
 exact G.doneX1 ((b5, b2)) trT rfl rfl rfl subT
set_option maxHeartbeats 4000000 in
theorem told28_tr : Tr Tryz.prog 28 #[] [] [] (TX (fun _ : Value => True) (fun x => x) (fun x => [ownB 5 x B28])) := by
 refine Tr.of (l := []) Tryz.func28 rfl (n := 19) rfl Fa.nil (fun w0 hro => ?_)
 refine go [9,10,1,7,8,9,10] ?_
 refine G.op rfl (G.cS rfl rfl rfl rfl Tryz.func30 rfl rfl subT may0 (one28_tr) apT ?_)
 intro x7 hJ
 obtain ⟨bo, bd⟩ := x7
 try dsimp only at hJ
 try dsimp only
 refine G.op rfl (G.cS rfl rfl rfl rfl Tryz.func44 rfl rfl subT (may1 (may_treeZ (c := oneB bd) selT selT oneT_ok (fun w h => oneT_dat h))) (mmakeX_tr 1 1 0 _ (oneT bd) (fun x hx => Nat.le_trans (oneT_small bd x hx) (by decide))) apT ?_)
 intro x8 hJ
 obtain ⟨⟨vz, ys⟩, vk, ck⟩ := x8
 try dsimp only at hJ
 try dsimp only
 rw [oneT_ens, show ((⟨1, 1, 0, 0⟩ : Mh)) = a28 from rfl, mk28] at hJ
 rw [oneT_ens, show ((⟨1, 1, 0, 0⟩ : Mh)) = a28 from rfl, mk28]
 obtain ⟨hys, hck⟩ := hJ
 have hys : its ys = [it1] := hys
 refine G.ownFact (v := vz) selT (fun hvz _ => ?_)
 refine G.ownFact (v := vk) selT (fun hvk _ => ?_)
 have hok := its1_ok hys
 have hyl : ys.length ≤ 1000 := by rw [← its_length, hys]; decide
 have hfw : Few ys := fun x hx => by have h1 : x.1 ∈ its ys := List.mem_map.2 ⟨x, hx, rfl⟩; rw [hys] at h1; have h2 : x.1 = it1 := (by simpa using h1); rw [h2]; decide
 refine go [0] ?_
 refine G.op rfl (G.val rfl rfl (pv_extract (v := .agg #[.int .i64 1, .int .i64 1, .int .i64 0, .int .i64 0, vz]) rfl rfl) ?_)
 refine G.op rfl (G.val rfl rfl (pv_extract (v := vk) rfl rfl) ?_)
 refine G.op rfl (G.val rfl rfl (pv_extract (v := .int .i64 0) rfl rfl) ?_)
 refine go [60,6] ?_
 intro b1
 refine go [20,1,1,7,8,9,10] ?_
 refine G.op rfl (G.val rfl rfl (pv_loadN (cs := [.int .i64 1, .int .i64 1, .int .i64 0, .int .i64 0, vz]) Tryz.underlying42 rfl kr rfl (blk_range (k := 5) selD rfl)) ?_)
 refine G.op rfl (G.cS rfl rfl rfl rfl Tryz.func31 rfl rfl subT (may1 (may_items selT selT hok)) (numbered_tr a28 _ ys 2 hyl hfw) apT ?_)
 intro x14 hJ
 obtain ⟨nv, zs⟩ := x14
 try dsimp only at hJ
 try dsimp only
 have hzs : its zs = [it1] := hJ.trans hys
 refine G.ownFact (v := nv) selT (fun hnv _ => ?_)
 have hok2 := its1_ok hzs
 refine G.op rfl (G.cS rfl rfl rfl rfl Tryz.func45 rfl rfl subT (may1 (may_items selT selT hok2)) (mbytes_tr b28 _ zs) apT ?_)
 intro x15 hJ
 try dsimp only at hJ
 try dsimp only
 rw [hzs]
 obtain ⟨be, hbe⟩ : ∃ e, bytesE b28 [it1] = e := ⟨_, rfl⟩
 rw [hbe]
 refine G.ownBFact (v := x15) selT (fun hvb => ?_)
 refine go [0] ?_
 refine G.op rfl (G.val rfl rfl (pv_extract (v := x15) rfl rfl) ?_)
 refine G.op rfl (G.val rfl rfl (pv_extract (v := .int .i64 be) rfl rfl) ?_)
 refine go [1,1,7,8,9,10,0,1,7,8,11] ?_
 exact G.doneX1 (x15) trT rfl rfl Y8 subT
set_option maxHeartbeats 4000000 in
theorem piece28_tr (c : Nat) (hc : c ≤ 28) : Tr Tryz.prog 9 #[.int .i64 (c : Int)] [] [] (TX (fun x : NV × (Nat → Prop) × World => NvOk x.2.1 x.2.2 x.1 ∧ x.1.n = pcN c) (fun x => .agg #[.int .i64 x.1.n.k, x.1.vN, x.1.vI, x.1.vB]) (fun x => [frz x.2.1 x.2.2])) := by
 refine Tr.of (l := [(0, .int .i64 (c : Int))]) Tryz.func9 rfl (n := 20) rfl (.cons rfl .nil) (fun w0 hro => ?_)
 refine go [9,10,60,9] ?_
 intro b2
 refine go [7,8,9,10] ?_
 refine G.op rfl (G.cS rfl rfl rfl rfl Tryz.func28 rfl rfl subT may0 (told28_tr) apT ?_)
 intro x4 hJ
 try dsimp only at hJ
 try dsimp only
 refine G.ownBOwn (v := x4) selT ?_
 rw [B28_len]
 refine G.ownOpen (v := x4) selT (fun ab cb hxb hk28 _ => ?_)
 subst hxb
 refine go [1,7,8,9,9,10,0,2,5,0,2,9,7,8] ?_
 refine G.condP rfl (fun h8 => ?_) (fun h8 => ?_)
 ·exfalso; omega
 refine go [13,8,9,10,0,2,5] ?_
 refine G.op rfl (G.lit1 (vs := [_, _]) rfl Tryz.underlying29 kr rfl (by decide) (by decide) rfl rfl ?_)
 intro b12
 refine go [0,0,2,5,0,2,19] ?_
 refine G.op rfl (G.val rfl rfl (pv_subH (sz := 1) (k := 28 - c) Tryz.underlying31 kr rfl rfl (by omega) (by omega)) ?_)
 refine go [2,50,8,20,7,8,11] ?_
 refine G.ownBlk (b := b12) (k := 2) (sz := 1) selT rfl (by omega) ?_
 refine G.frz0 (fun W9 => ?_)
 refine G.freeze (F := fun _ => False) (W := W9) (p := [own 3 1 _ _ _, own 5 1 _ _ _]) selT subT (fun F1 W1 hU hC => ?_)
 have h1 := frz_own1 (p := I64) (f := vInt) [0, 28] (hC _ (List.mem_cons_self ..)) rfl (by intro x hx; simp only [List.mem_cons, List.not_mem_nil, or_false] at hx; rcases hx with rfl | rfl; exact ⟨by decide, by decide⟩; exact ⟨by decide, by decide⟩)
 have hB := frz_own1 (p := fun _ => True) (f := vByte) B28 (hC _ (List.mem_cons_of_mem _ (List.mem_cons_self ..))) B28_len.symm (fun _ _ => trivial)
 have hB2 := IsSl.sub (i := 0) (j := 28 - c) hB (by omega) (by rw [B28_len]; omega)
 have hB3 : IsSl rByte F1 W1 (.slice ab (28 - c) cb) (B28.take (28 - c)) := by rw [subV_zero, List.drop_zero] at hB2; exact hB2
 exact G.doneG (((⟨pcN c, .slice (some ⟨b12, 0, none⟩) 2 2, .slice none 0 0, .slice ab (28 - c) cb⟩ : NV), F1, W1)) (by first | exact trivial | ((try dsimp only) <;> exact ⟨⟨h1, IsSl.nil _ _ _, hB3, i64_22, by show 2 ≤ 1000; decide, by show 0 ≤ 1000; decide, by show (B28.take (28 - c)).length ≤ 1000000; rw [List.length_take, B28_len]; omega⟩, rfl⟩)) rfl (Rv.cellN (cs := [_, _, _, _]) rfl Tryz.underlying33 rfl kr Y34 Rv.nil) rfl subT
set_option maxHeartbeats 4000000 in
theorem chunk28_tr (c : UInt8) : Tr Tryz.prog 11 #[.int .u8 (c.toNat : Int)] [] [] (TX (fun x : NV × (Nat → Prop) × World => NvOk x.2.1 x.2.2 x.1 ∧ x.1.n = ckN c) (fun x => .agg #[.int .i64 x.1.n.k, x.1.vN, x.1.vI, x.1.vB]) (fun x => [frz x.2.1 x.2.2])) := by
 refine Tr.of (l := [(0, .int .u8 (c.toNat : Int))]) Tryz.func11 rfl (n := 10) rfl (.cons rfl .nil) (fun w0 hro => ?_)
 refine go [9,10,60,9] ?_
 intro b2
 refine go [7,8,9,10] ?_
 refine G.op rfl (G.lit1 (vs := [.int .u8 120]) rfl Tryz.underlying31 kr rfl (by decide) (by decide) rfl rfl ?_)
 intro b3
 refine G.op rfl (G.constB (b := b3) (xs := [120]) rfl Tryz.underlying31 Tryz.underlying5 rfl (by decide) selT ?_)
 refine G.op rfl (G.cR rfl rfl rfl rfl Tryz.func22 rfl rfl (may1 (Sel.may selD)) (name_tr (Pu := fun b => b = b3) _ [120] (by decide)) ?_)
 refine G.op rfl (G.buildSlice (sz := 16) (cs := (nameM [120]).map vByte) rfl Tryz.underlying30 Tryz.infoIDfill (by decide) (by decide) rfl (fillID _ (by rw [List.length_map, nameM_len _])) ?_)
 intro b6
 refine go [0] ?_
 refine G.op rfl (G.lit1 (vs := [_]) rfl Tryz.underlying31 kr rfl (by decide) (by decide) rfl rfl ?_)
 intro b8
 refine go [2,50,8,20,7,8,11] ?_
 refine G.ownBlk (b := b6) (k := 1) (sz := 16) selT (by rw [List.length_map, nameM_len]) (by omega) ?_
 refine G.ownBlk (b := b8) (k := 1) (sz := 1) selT rfl (by omega) ?_
 refine G.frz0 (fun W9 => ?_)
 refine G.freeze (F := fun _ => False) (W := W9) (p := [own 59 16 _ _ _, own 5 1 _ _ _]) selT subT (fun F1 W1 hU hC => ?_)
 have h1 := frz_ownI [id1] (by rw [show flatI [id1] = (nameM [120]).map vByte from by simp [flatI, id1]]; exact hC _ (List.mem_cons_self ..)) rfl (by intro x hx; obtain rfl : x = _ := (by simpa using hx); exact id1_len)
 have h2 := frz_own1 (p := fun _ => True) (f := vByte) [c] (hC _ (List.mem_cons_of_mem _ (List.mem_cons_self ..))) rfl (fun _ _ => trivial)
 exact G.doneG (((⟨ckN c, .slice none 0 0, .slice (some ⟨b6, 0, none⟩) 1 1, .slice (some ⟨b8, 0, none⟩) 1 1⟩ : NV), F1, W1)) (by first | exact trivial | ((try dsimp only) <;> exact ⟨⟨IsSl.nil _ _ _, h1, h2, i64_23, by show 0 ≤ 1000; decide, by show 1 ≤ 1000; decide, by show 1 ≤ 1000000; decide⟩, rfl⟩)) rfl (Rv.cellN (cs := [_, _, _, _]) rfl Tryz.underlying33 rfl kr Y34 Rv.nil) rfl subT
set_option maxHeartbeats 4000000 in
theorem begun28_tr (n : Int) (hn : 1 ≤ n ∧ n ≤ 2147483647) : Tr Tryz.prog 5 #[.int .i64 n] [] [] (TX (fun x : BZ × Nat × (Nat → Prop) × World => BvOk x.2.2.1 x.2.2.2 x.1 ∧ x.1.bm = S2 n) (fun x => .pointer (some ⟨x.2.1, 0, none⟩)) (fun x => [blk x.2.1 46 [.bool true, .int .i64 x.1.cl, .int .i64 x.1.nu, .int .i64 (x.1.ph : Nat), x.1.leftv, x.1.waitv, .int .i64 x.1.size, .int .i64 (x.1.came : Nat), x.1.bv, .bool x.1.read, .int .i64 x.1.mh.c, .int .i64 x.1.mh.k, .int .i64 x.1.mh.n, .int .i64 x.1.mh.t, x.1.mv, x.1.lv, .bool x.1.over, x.1.treev, .int .i64 x.1.e], frz x.2.2.1 x.2.2.2, que 33 4 x.1.waitv x.1.wait.length (x.1.wait.flatMap nvC), own 5 1 x.1.bv x.1.b.length (x.1.b.map vByte), own 106 17 x.1.lv x.1.l.length (x.1.l.flatMap chC)])) := by
 refine Tr.of (l := [(0, .int .i64 n)]) Tryz.func5 rfl (n := 49) rfl (.cons rfl .nil) (fun w0 hro => ?_)
 have hn64 : ∀ x ∈ [n], I64 x := fun x hx => by obtain rfl : x = n := (by simpa using hx); exact ⟨by omega, by omega⟩
 refine go [9,10,1,7,8,9,10,0] ?_
 refine G.op rfl (G.cS rfl rfl rfl rfl Tryz.func7 rfl rfl subT may0 (bnew_ok 1 n (by decide) hn) apT ?_)
 intro x11 hJ
 obtain ⟨z1, D, F1, W1⟩ := x11
 try dsimp only at hJ
 try dsimp only
 obtain ⟨hz1, hp1⟩ := hJ
 rw [st_S1] at hp1
 refine go [0] ?_
 refine G.op rfl (G.val rfl rfl (pv_extract (v := .pointer (some ⟨D, 0, none⟩)) rfl rfl) ?_)
 refine G.op rfl (G.val rfl rfl (pv_extract (v := .int .i64 0) rfl rfl) ?_)
 refine go [1,1,7,8,9,9,10,0] ?_
 refine G.op rfl (G.val rfl rfl ((pv_neq rfl rfl).cast (v' := .bool false) (congrArg Value.bool (by exact decide_eq_false (by decide)))) ?_)
 refine go [0,3,0,3,50,1,2,2,7,8,60,1,13,8,9,10,0] ?_
 refine G.op rfl (G.cS rfl rfl rfl rfl Tryz.func14 rfl rfl subT may0 (bsend_tr (F := F1) (W := W1) D z1 hz1) apT ?_)
 intro x22 hJ
 obtain ⟨z2, uN, uI⟩ := x22
 try dsimp only at hJ
 try dsimp only
 obtain ⟨hz2, pz2⟩ := hJ
 rw [hp1, st_S2 n] at pz2
 rw [hp1]
 rw [show sentY _ = _ from congrArg (fun q => (Prod.fst q).getD ntz) (st_S2 n)]
 rw [st_S2 n]
 try dsimp only [Option.getD, Option.isSome]
 refine G.ownFact (v := uN) selT (fun huN _ => ?_)
 refine G.ownFact (v := uI) selT (fun huI _ => ?_)
 refine go [0] ?_
 refine G.op rfl (G.val rfl rfl (pv_extract (v := .agg #[.int .i64 8, uN, uI, .slice none 0 0]) rfl rfl) ?_)
 refine G.op rfl (G.val rfl rfl (pv_extract (v := .bool true) rfl rfl) ?_)
 refine go [60,9] ?_
 intro b5
 refine go [20,1,7,8,9,10,0] ?_
 refine G.op rfl (G.cS rfl rfl rfl rfl Tryz.func14 rfl rfl subT may0 (bsend_tr (F := F1) (W := W1) D z2 hz2) apT ?_)
 intro x27 hJ
 obtain ⟨z3, qN, qI⟩ := x27
 try dsimp only at hJ
 try dsimp only
 obtain ⟨hz3, pz3⟩ := hJ
 rw [pz2, st_S2n n] at pz3
 rw [pz2]
 rw [show sentY _ = _ from congrArg (fun q => (Prod.fst q).getD ntz) (st_S2n n)]
 rw [st_S2n n]
 try dsimp only [Option.getD, Option.isSome]
 refine G.ownFact (v := qN) selT (fun hqN _ => ?_)
 refine G.ownFact (v := qI) selT (fun hqI _ => ?_)
 refine go [0] ?_
 refine G.op rfl (G.val rfl rfl (pv_extract (v := .agg #[.int .i64 0, qN, qI, .slice none 0 0]) rfl rfl) ?_)
 refine G.op rfl (G.val rfl rfl (pv_extract (v := .bool false) rfl rfl) ?_)
 refine go [60,9] ?_
 intro b7
 refine go [20,1,7,8,9,9,10,0,2,25,0,3,0,2,2,0,3,3,0,3,50,0] ?_
 refine G.want rfl rfl rfl (G.val rfl rfl ((pv_neq rfl rfl).cast (v' := .bool false) (congrArg Value.bool (by exact decide_eq_false (by decide)))) ?_)
 refine go [2,2,0,3,3,1,3,50,0,3,0] ?_
 refine G.want rfl rfl rfl (G.lit1 (vs := [_]) rfl Tryz.underlying29 kr rfl (by decide) (by decide) rfl rfl ?_)
 intro b44
 refine G.ownBlk (b := b44) (k := 1) (sz := 1) selT rfl (by omega) ?_
 refine G.want rfl rfl rfl (G.cR rfl rfl rfl rfl Tryz.func21 rfl rfl (may2 (may_ownN selD hn64) (may_ownN (v := .slice (some ⟨b44, 0, none⟩) 1 1) selD hn64)) (sameInts_tr _ _ [n] [n]) ?_)
 rw [decide_eq_true (rfl : [n] = [n])]
 refine go [3,25,2,2,7,8,60,1,13,8,9,10,0,1,7,8,11] ?_
 exact G.doneX1 ((z3, D, F1, W1)) (by first | exact trivial | ((try dsimp only) <;> exact ⟨hz3, pz3⟩)) rfl rfl rfl subT
theorem tree_en {F : Nat → Prop} {W : World} {v : Value} {xs : List ET} (h : IsSl rEV F W v xs) : ∀ e ∈ ens xs, EnOk e := fun e he => by
 obtain ⟨y, hy, rfl⟩ := List.mem_map.1 he
 obtain ⟨i, hi, rfl⟩ := List.getElem_of_mem hy
 obtain ⟨ad, cap, b, off, _, _, _, _, _, hr⟩ := h.open
 exact (hr i hi).2.2.2
theorem btakeN {F : Nat → Prop} {W : World} {Pv1 Pv2 Pv3 : Nat → Prop} (x : NV) (y : Nt) (hxy : x.n = y) (p : BM) (D : Nat) (z : BZ) (hz : BvOk F W z) (hzp : z.bm = p) (h1 : p.over = false → 1 ≤ p.ph ∧ p.ph ≤ 3) (h2 : p.ph = 3 → ∀ n t, p.wait = n :: t → p.came < n.ids.length) (h3 : p.b.length ≤ 1000000) (h4 : p.l.length ≤ 1000000) (hg : BgOk (stepY p y)) (r : Int) (p2 : BM) (ht : takeY p y = (r, p2)) : Tr Tryz.prog 8 #[.pointer (some ⟨D, 0, none⟩), .agg #[.int .i64 x.n.k, x.vN, x.vI, x.vB]] [slc rInt Pv1 x.vN x.n.ns, slc rID Pv2 x.vI x.n.ids, slc rByte Pv3 x.vB x.n.bs] [blk D 46 [.bool true, .int .i64 z.cl, .int .i64 z.nu, .int .i64 (z.ph : Nat), z.leftv, z.waitv, .int .i64 z.size, .int .i64 (z.came : Nat), z.bv, .bool z.read, .int .i64 z.mh.c, .int .i64 z.mh.k, .int .i64 z.mh.n, .int .i64 z.mh.t, z.mv, z.lv, .bool z.over, z.treev, .int .i64 z.e], frz F W, que 33 4 z.waitv z.wait.length (z.wait.flatMap nvC), own 5 1 z.bv z.b.length (z.b.map vByte), own 106 17 z.lv z.l.length (z.l.flatMap chC)]
 (TX (fun q : BZ × (Nat → Prop) × World => Up F W q.2.1 q.2.2 ∧ BvOk q.2.1 q.2.2 q.1 ∧ q.1.bm = p2) (fun _ => .int .i64 r) (fun q => [blk D 46 [.bool true, .int .i64 q.1.cl, .int .i64 q.1.nu, .int .i64 (q.1.ph : Nat), q.1.leftv, q.1.waitv, .int .i64 q.1.size, .int .i64 (q.1.came : Nat), q.1.bv, .bool q.1.read, .int .i64 q.1.mh.c, .int .i64 q.1.mh.k, .int .i64 q.1.mh.n, .int .i64 q.1.mh.t, q.1.mv, q.1.lv, .bool q.1.over, q.1.treev, .int .i64 q.1.e], frz q.2.1 q.2.2, que 33 4 q.1.waitv q.1.wait.length (q.1.wait.flatMap nvC), own 5 1 q.1.bv q.1.b.length (q.1.b.map vByte), own 106 17 q.1.lv q.1.l.length (q.1.l.flatMap chC)])) := by
 subst hxy hzp
 have hl : z.l.length ≤ 1000000 := by have h5 : (cks z.l).length ≤ 1000000 := h4; simpa [cks] using h5
 have h := btake_tr (F := F) (W := W) (Pv1 := Pv1) (Pv2 := Pv2) (Pv3 := Pv3) x.n.k x.vN x.vI x.vB x.n.ns x.n.ids x.n.bs D z hz h1 (fun h X t e => h2 h X.n (nvs t) (by show nvs z.wait = _; rw [e]; rfl)) h3 hl hg
 have e : takeY z.bm ⟨x.n.k, x.n.ns, x.n.ids, x.n.bs⟩ = (r, p2) := ht
 rw [e] at h
 exact h
theorem flat1 : flatI [id1] = id1.map vByte := by simp [flatI]
theorem S2_1 (n : Int) : (S2 n).over = false → 1 ≤ (S2 n).ph ∧ (S2 n).ph ≤ 3 := fun _ => ⟨by show 1 ≤ 1; decide, by show 1 ≤ 3; decide⟩
theorem S2_2 (n : Int) : (S2 n).ph = 3 → ∀ m t, (S2 n).wait = m :: t → (S2 n).came < m.ids.length := fun h => by cases h
theorem S4_1 : S4.over = false → 1 ≤ S4.ph ∧ S4.ph ≤ 3 := fun _ => ⟨by show 1 ≤ 3; decide, by show 3 ≤ 3; decide⟩
theorem S4_2 : S4.ph = 3 → ∀ m t, S4.wait = m :: t → S4.came < m.ids.length := fun _ m t h => by
 have h : [(⟨10, [], [id1], []⟩ : Nt)] = m :: t := h
 injection h with h1 h2
 rw [← h1]
 show 0 < 1
 decide
theorem len28' : B28.length ≤ 1000000 := by rw [B28_len]; decide
theorem S4_3 : S4.b.length ≤ 1000000 := len28'
theorem over_cx : overB S6 [en1] 0 = true := by
 show (true && (decide ((0 : Int) = 0) && decide ([en1] = [en1]))) = true
 rw [decide_eq_true (rfl : (0 : Int) = 0), decide_eq_true (rfl : [en1] = [en1])]
 rfl
theorem over_fin (p : BM) (e : Int) : overB (finB p [] e) (ens []) e = true := by
 show (true && (decide (e = e) && decide (([] : List En) = []))) = true
 rw [decide_eq_true (rfl : e = e), decide_eq_true (rfl : ([] : List En) = [])]
 rfl
set_option maxHeartbeats 4000000 in
theorem asked28_tr : Tr Tryz.prog 6 #[] [] [] (TX (fun x : BZ × Nat × (Nat → Prop) × World => BvOk x.2.2.1 x.2.2.2 x.1 ∧ x.1.bm = S4) (fun x => .pointer (some ⟨x.2.1, 0, none⟩)) (fun x => [blk x.2.1 46 [.bool true, .int .i64 x.1.cl, .int .i64 x.1.nu, .int .i64 (x.1.ph : Nat), x.1.leftv, x.1.waitv, .int .i64 x.1.size, .int .i64 (x.1.came : Nat), x.1.bv, .bool x.1.read, .int .i64 x.1.mh.c, .int .i64 x.1.mh.k, .int .i64 x.1.mh.n, .int .i64 x.1.mh.t, x.1.mv, x.1.lv, .bool x.1.over, x.1.treev, .int .i64 x.1.e], frz x.2.2.1 x.2.2.2, que 33 4 x.1.waitv x.1.wait.length (x.1.wait.flatMap nvC), own 5 1 x.1.bv x.1.b.length (x.1.b.map vByte), own 106 17 x.1.lv x.1.l.length (x.1.l.flatMap chC)])) := by
 refine Tr.of (l := []) Tryz.func6 rfl (n := 42) rfl Fa.nil (fun w0 hro => ?_)
 refine go [9,10,1,7,8,9,10] ?_
 refine G.op rfl (G.cS rfl rfl rfl rfl Tryz.func5 rfl rfl subT may0 (begun28_tr 2 (by decide : (1 : Int) ≤ 2 ∧ (2 : Int) ≤ 2147483647)) apT ?_)
 intro x4 hJ
 obtain ⟨z1, D, F1, W1⟩ := x4
 try dsimp only at hJ
 try dsimp only
 obtain ⟨hz1, pz1⟩ := hJ
 refine go [1,7,8,9,9,10,0,2,50,1,0,3,0] ?_
 refine G.want rfl rfl rfl (G.cS rfl rfl rfl rfl Tryz.func9 rfl rfl subT may0 (piece28_tr 0 (by decide)) apT ?_)
 intro x9 hJ
 obtain ⟨px, Fx, Wx⟩ := x9
 try dsimp only at hJ
 try dsimp only
 obtain ⟨hpx, npx⟩ := hJ
 refine G.want rfl rfl rfl (G.cS rfl rfl rfl rfl Tryz.func8 rfl rfl subT (may3 (may_frz selD hpx.1) (may_frz selD hpx.2.1) (may_frz selD hpx.2.2.1)) (btakeN (F := F1) (W := W1) px (pcN 0) npx (S2 2) D z1 hz1 pz1 (S2_1 2) (S2_2 2) (Nat.zero_le _) (Nat.zero_le _) (bg_p0 (by decide : (1 : Int) ≤ 2 ∧ (2 : Int) ≤ 2147483647)) _ _ take_p0) apT ?_)
 intro x10 hJ
 obtain ⟨z2, F2, W2⟩ := x10
 try dsimp only at hJ
 try dsimp only
 obtain ⟨uz2, hz2, pz2⟩ := hJ
 refine G.want rfl rfl rfl (G.val rfl rfl ((pv_neq rfl rfl).cast (v' := .bool false) (congrArg Value.bool (by exact decide_eq_false (by decide)))) ?_)
 refine go [2,2,7,8,60,1,13,8,9,10,0] ?_
 refine G.op rfl (G.cS rfl rfl rfl rfl Tryz.func14 rfl rfl subT may0 (bsend_tr (F := F2) (W := W2) D z2 hz2) apT ?_)
 intro x15 hJ
 obtain ⟨z3, uN, uI⟩ := x15
 try dsimp only at hJ
 try dsimp only
 obtain ⟨hz3, pz3⟩ := hJ
 rw [pz2, st_S4] at pz3
 rw [pz2]
 rw [show sentY _ = _ from congrArg (fun q => (Prod.fst q).getD ntz) (st_S4)]
 rw [st_S4]
 try dsimp only [Option.getD, Option.isSome]
 refine G.ownFact (v := uN) selT (fun huN _ => ?_)
 refine G.ownFact (v := uI) selT (fun huI _ => ?_)
 refine G.ownNews (v := uI) selT (fun ia ic ib hui hik him hiad hin hinews => ?_)
 subst hui
 refine go [0] ?_
 refine G.op rfl (G.val rfl rfl (pv_extract (v := .agg #[.int .i64 10, uN, .slice ia 1 ic, .slice none 0 0]) rfl rfl) ?_)
 refine G.op rfl (G.val rfl rfl (pv_extract (v := .bool true) rfl rfl) ?_)
 refine go [60,9] ?_
 intro b2
 refine go [20,1,7,8,9,9] ?_
 refine G.drawT (nn := 23) (p := []) (rem := 8388607) [0, 1, 2, 4, 12, 20, 36, 68, 128, 384, 640, 1152, 2176, 4224, 8192, 24576, 40960, 73728, 8192, 270336, 532480, 1187840, 2105344] [0, 1, 2, 4, 12, 20, 36, 64, 128, 384, 640, 1152, 2176, 4096, 8192, 24576, 40960, 73728, 8192, 270336, 532480, 1187840, 2105344] kr ⟨rfl, by kernel_rfl, by kernel_rfl⟩ subT kr (fun hT5 => ?_)
 refine go [22,0,8388606,0,22,1,8388604,25,22,2,8388600,0,22,3,8388592,3,0,24,4,8388576,25,50,0,26] ?_
 refine G.takeT hT5 (i := 5) (rem' := 8388544) rfl rfl rfl kr (fun _ _ _ h => h) rfl ((pv_neq rfl rfl).cast (v' := .bool false) (congrArg Value.bool (by exact decide_eq_false (by decide)))) subT ?_
 refine go [22,6,8388480,2,22,7,8388352,0,22,8,8388096,3,2,24,9,8387584] ?_
 refine G.turnOp rfl rfl (G.val rfl rfl (pv_load (v := .slice ia 1 ic) Tryz.underlying30 rfl rfl (by exact blk_cell selD (by rfl))) ?_)
 refine go [26,22,10,8386560,5] ?_
 refine G.takeT hT5 (i := 11) (rem' := 8384512) rfl rfl rfl kr (fun _ _ _ h => h) rfl ((pv_neq rfl rfl).cast (v' := .bool false) (congrArg Value.bool (by exact decide_eq_false (by show ¬ (((1 : Nat) : Int) ≠ 1); decide)))) subT ?_
 refine go [22,12,8380416,2,22,13,8372224,0,22,14,8355840,3,2] ?_
 refine G.takeT hT5 (i := 15) (rem' := 8323072) rfl rfl rfl kr (fun _ _ _ h => h) rfl (pv_load (v := .slice ia 1 ic) Tryz.underlying30 rfl rfl (by exact blk_cell selD (by rfl))) subT ?_
 refine G.takeT hT5 (i := 16) (rem' := 8257536) rfl rfl rfl kr (fun _ _ _ h => h) rfl (pv_ixSl (sz := 16) (k := 0) Tryz.underlying30 kr rfl rfl hiad rfl (by decide)) subT ?_
 refine G.takeT hT5 (i := 17) (rem' := 8126464) rfl rfl rfl kr (fun _ _ _ h => h) rfl (pv_loadN (cs := id1.map vByte) Tryz.underlying59 rfl (by rw [List.length_map, id1_len]; kernel_rfl) rfl (fun w hw j v hj => by have h := hinews selT w hw j v (by show (flatI [id1])[j]? = _; rw [flat1]; exact hj); simpa using h)) subT ?_
 refine go [24,18,7864320] ?_
 refine G.turnOp rfl rfl (G.lit1 (vs := [.int .u8 120]) rfl Tryz.underlying31 kr rfl (by decide) (by decide) rfl rfl ?_)
 intro b36
 refine go [26,24,19,7340032] ?_
 refine G.turnOp rfl rfl (G.constB (b := b36) (xs := [120]) rfl Tryz.underlying31 Tryz.underlying5 rfl (by decide) selT ?_)
 refine go [26,24,20,6291456] ?_
 refine G.turnOp rfl rfl (G.cR rfl rfl rfl rfl Tryz.func22 rfl rfl (may1 (Sel.may selD)) (name_tr (Pu := fun b => b = b36) _ [120] (by decide)) ?_)
 refine go [26] ?_
 refine G.takeT hT5 (i := 21) (rem' := 4194304) rfl rfl rfl kr (fun _ _ _ h => h) rfl ((pv_neqAr8 (a := id1) (b := nameM [120]) Tryz.underlying59 rfl kr Tryz.underlying5 kr rfl rfl id1_len (nameM_len _)).cast (v' := .bool false) (congrArg Value.bool (by simp [id1]))) subT ?_
 refine go [22,22,0,2,27,8,60,1,13,8,9,10,0,1,7,8,11] ?_
 exact G.doneX1 ((z3, D, F2, W2)) (by first | exact trivial | ((try dsimp only) <;> exact ⟨hz3, pz3⟩)) rfl rfl rfl subT
set_option maxHeartbeats 4000000 in
theorem over28_tr {F Pu : Nat → Prop} {W : World} (D : Nat) (z : BZ) (hz : BvOk F W z) (hn : z.tree.length ≤ 1000) (v : Value) (ys : List ET) (e : Int) : Tr Tryz.prog 10 #[.pointer (some ⟨D, 0, none⟩), v, .int .i64 e] [slc rEV Pu v ys] [blk D 46 [.bool true, .int .i64 z.cl, .int .i64 z.nu, .int .i64 (z.ph : Nat), z.leftv, z.waitv, .int .i64 z.size, .int .i64 (z.came : Nat), z.bv, .bool z.read, .int .i64 z.mh.c, .int .i64 z.mh.k, .int .i64 z.mh.n, .int .i64 z.mh.t, z.mv, z.lv, .bool z.over, z.treev, .int .i64 z.e], frz F W]
 (TX (fun _ : Unit => True) (fun _ => .bool (overB z.bm (ens ys) e)) (fun _ => [blk D 46 [.bool true, .int .i64 z.cl, .int .i64 z.nu, .int .i64 (z.ph : Nat), z.leftv, z.waitv, .int .i64 z.size, .int .i64 (z.came : Nat), z.bv, .bool z.read, .int .i64 z.mh.c, .int .i64 z.mh.k, .int .i64 z.mh.n, .int .i64 z.mh.t, z.mv, z.lv, .bool z.over, z.treev, .int .i64 z.e], frz F W])) := by
 refine Tr.of (l := [(0, .pointer (some ⟨D, 0, none⟩)), (1, v), (2, .int .i64 e)]) Tryz.func10 rfl (n := 27) rfl (.cons rfl (.cons rfl (.cons rfl .nil))) (fun w0 hro => ?_)
 have hv := ro1 hro
 refine go [9,10,1,7,8,9,10,0] ?_
 refine G.op rfl (G.cS rfl rfl rfl rfl Tryz.func15 rfl rfl subT may0 (bdone_tr (F := F) (W := W) D z hz hn) apT ?_)
 intro x12 hJ
 obtain ⟨tv, ts⟩ := x12
 try dsimp only at hJ
 try dsimp only
 have hts : ens ts = ens z.tree := hJ
 have hok : ∀ x ∈ ts, EnOk x.1 := fun x hx => tree_en hz.tree _ (by rw [← hts]; exact List.mem_map.2 ⟨x, hx, rfl⟩)
 refine go [0] ?_
 refine G.op rfl (G.val rfl rfl (pv_extract (v := tv) rfl rfl) ?_)
 refine G.op rfl (G.val rfl rfl (pv_extract (v := .int .i64 z.e) rfl rfl) ?_)
 refine G.op rfl (G.val rfl rfl (pv_extract (v := .bool z.over) rfl rfl) ?_)
 refine go [1,1,1,7,8,9,10,0,0] ?_
 refine G.part (t := 17) rfl (fun h17 => ?_) (fun h17 => ?_)
 ·refine go [3,0,3,0,3,13,2,2,0] ?_
  refine G.partP (t := 22) rfl (fun h22 => ?_) (fun h22 => ?_)
  ·refine go [3,0,3,0] ?_
   refine G.want rfl rfl rfl (G.cR rfl rfl rfl rfl Tryz.func29 rfl rfl (may2 (may_tree selT selT hok) (.old hv)) (sameTree_tr _ _ ts ys) ?_)
   refine go [2,2,1,7,8,11] ?_
   exact G.doneX1 (()) trT rfl rfl Y37 subT
  refine go [4,4,4,2,2,1,7,8,11] ?_
  exact G.doneX1 (()) trT rfl rfl Y37 subT
 refine go [4,4,4,2,2,0,4,4,4,2,2,1,7,8,11] ?_
 exact G.doneX1 (()) trT rfl rfl Y37 subT
set_option maxHeartbeats 4000000 in
theorem awake28_tr : Tr Tryz.prog 12 #[] [] [] (T0 (.bool true)) := by
 refine Tr.of (l := []) Tryz.func12 rfl (n := 16) rfl Fa.nil (fun w0 hro => ?_)
 refine go [9,10,1,7,8,9,10] ?_
 refine G.op rfl (G.cS rfl rfl rfl rfl Tryz.func6 rfl rfl subT may0 (asked28_tr) apT ?_)
 intro x2 hJ
 obtain ⟨z1, D, F1, W1⟩ := x2
 try dsimp only at hJ
 try dsimp only
 obtain ⟨hz1, pz1⟩ := hJ
 refine go [1,7,8,9,10,0] ?_
 refine G.op rfl (G.val rfl rfl (pv_neqP0 Tryz.underlying22 rfl rfl) ?_)
 refine go [0,3,0] ?_
 refine G.want rfl rfl rfl (G.cS rfl rfl rfl rfl Tryz.func11 rfl rfl subT may0 (chunk28_tr 120) apT ?_)
 intro x7 hJ
 obtain ⟨cx, Fx, Wx⟩ := x7
 try dsimp only at hJ
 try dsimp only
 obtain ⟨hcx, ncx⟩ := hJ
 refine G.want rfl rfl rfl (G.cS rfl rfl rfl rfl Tryz.func8 rfl rfl subT (may3 (may_frz selD hcx.1) (may_frz selD hcx.2.1) (may_frz selD hcx.2.2.1)) (btakeN (F := F1) (W := W1) cx (ckN 120) ncx S4 D z1 hz1 pz1 S4_1 S4_2 S4_3 (Nat.zero_le _) bg_cx _ _ take_cx) apT ?_)
 intro x8 hJ
 obtain ⟨z2, F2, W2⟩ := x8
 try dsimp only at hJ
 try dsimp only
 obtain ⟨uz2, hz2, pz2⟩ := hJ
 refine G.want rfl rfl rfl (G.val rfl rfl ((pv_eql rfl rfl).cast (v' := .bool true) (congrArg Value.bool Y39)) ?_)
 refine go [2,2,0,3,0] ?_
 refine G.want rfl rfl rfl (G.cS rfl rfl rfl rfl Tryz.func30 rfl rfl subT may0 (one28_tr) apT ?_)
 intro x13 hJ
 obtain ⟨bo, bd⟩ := x13
 try dsimp only at hJ
 try dsimp only
 refine G.want rfl rfl rfl (G.cS rfl rfl rfl rfl Tryz.func10 rfl rfl subT (may1 (may_treeZ (c := oneB bd) selT selT oneT_ok (fun w h => oneT_dat h))) (over28_tr (F := F2) (W := W2) D z2 hz2 (by rw [← ens_length, show ens z2.tree = [en1] from congrArg BM.tree pz2]; decide) _ (oneT bd) 0) apT ?_)
 intro x14 hJ
 try dsimp only at hJ
 try dsimp only
 rw [pz2, oneT_ens, over_cx]
 refine go [2,2,1,7,8,11] ?_
 exact G.done0G rfl (Rv.tmp rfl Rv.nil) Y8
set_option maxHeartbeats 4000000 in
theorem known28_tr : Tr Tryz.prog 3 #[] [] [] (T0 (.bool true)) := by
 refine Tr.of (l := []) Tryz.func3 rfl (n := 85) rfl Fa.nil (fun w0 hro => ?_)
 refine go [9,10,1,7,8,9,10] ?_
 refine G.op rfl (G.cS rfl rfl rfl rfl Tryz.func5 rfl rfl subT may0 (begun28_tr 2 (by decide : (1 : Int) ≤ 2 ∧ (2 : Int) ≤ 2147483647)) apT ?_)
 intro x9 hJ
 obtain ⟨zp, Dp, Fp, Wp⟩ := x9
 try dsimp only at hJ
 try dsimp only
 obtain ⟨hzp, pzp⟩ := hJ
 refine G.op rfl (G.cS rfl rfl rfl rfl Tryz.func5 rfl rfl subT may0 (begun28_tr 3 (by decide)) apT ?_)
 intro x10 hJ
 obtain ⟨zq, Dq, Fq, Wq⟩ := x10
 try dsimp only at hJ
 try dsimp only
 obtain ⟨hzq, pzq⟩ := hJ
 refine G.op rfl (G.cS rfl rfl rfl rfl Tryz.func6 rfl rfl subT may0 (asked28_tr) apT ?_)
 intro x11 hJ
 obtain ⟨zr, Dr, Fr, Wr⟩ := x11
 try dsimp only at hJ
 try dsimp only
 obtain ⟨hzr, pzr⟩ := hJ
 refine G.op rfl (G.cS rfl rfl rfl rfl Tryz.func5 rfl rfl subT may0 (begun28_tr 2 (by decide : (1 : Int) ≤ 2 ∧ (2 : Int) ≤ 2147483647)) apT ?_)
 intro x12 hJ
 obtain ⟨zs, Ds, Fs, Ws⟩ := x12
 try dsimp only at hJ
 try dsimp only
 obtain ⟨hzs, pzs⟩ := hJ
 refine go [1,1,1,1,7,8,9,9,10,0,2,50,1,0,3,0,3,50,1,2,2,0,3,0,3,50,1,2,2,0,3,0,3,50,1,2,2,7,8,60,1,13,8,9,10] ?_
 refine G.op rfl (G.cR rfl rfl rfl rfl Tryz.func7 rfl rfl may0 (bnew_bad 0 1 (by decide)) ?_)
 refine go [0] ?_
 refine G.op rfl (G.val rfl rfl (pv_extract (v := .pointer none) rfl rfl) ?_)
 refine G.op rfl (G.val rfl rfl (pv_extract (v := .int .i64 2) rfl rfl) ?_)
 refine go [1,1,7,8,9,10,0] ?_
 refine G.op rfl (G.cS rfl rfl rfl rfl Tryz.func9 rfl rfl subT may0 (piece28_tr 1 (by decide)) apT ?_)
 intro x32 hJ
 obtain ⟨pa, Fa, Wa⟩ := x32
 try dsimp only at hJ
 try dsimp only
 obtain ⟨hpa, npa⟩ := hJ
 refine G.op rfl (G.cS rfl rfl rfl rfl Tryz.func8 rfl rfl subT (may3 (may_frz selD hpa.1) (may_frz selD hpa.2.1) (may_frz selD hpa.2.2.1)) (btakeN (F := Fp) (W := Wp) pa (pcN 1) npa (S2 2) Dp zp hzp pzp (S2_1 2) (S2_2 2) (Nat.zero_le _) (Nat.zero_le _) (bg_p1 (by decide : (1 : Int) ≤ 2 ∧ (2 : Int) ≤ 2147483647)) _ _ take_p1) apT ?_)
 intro x33 hJ
 obtain ⟨yp, Gp, Vp⟩ := x33
 try dsimp only at hJ
 try dsimp only
 obtain ⟨uyp, hyp, pyp⟩ := hJ
 refine G.op rfl (G.val rfl rfl ((pv_eql rfl rfl).cast (v' := .bool true) (congrArg Value.bool Y39)) ?_)
 refine go [0,3,0] ?_
 refine G.want rfl rfl rfl (G.cS rfl rfl rfl rfl Tryz.func10 rfl rfl subT (may1 may_nilZ) (over28_tr (F := Gp) (W := Vp) Dp yp hyp (by rw [← ens_length, show ens yp.tree = [] from congrArg BM.tree pyp]; decide) _ [] 370) apT ?_)
 intro x37 hJ
 try dsimp only at hJ
 try dsimp only
 rw [pyp, over_fin]
 refine go [2,2,0,3,0] ?_
 refine G.want rfl rfl rfl (G.cS rfl rfl rfl rfl Tryz.func9 rfl rfl subT may0 (piece28_tr 0 (by decide)) apT ?_)
 intro x41 hJ
 obtain ⟨pb, Fb, Wb⟩ := x41
 try dsimp only at hJ
 try dsimp only
 obtain ⟨hpb, npb⟩ := hJ
 refine G.want rfl rfl rfl (G.cS rfl rfl rfl rfl Tryz.func8 rfl rfl subT (may3 (may_frz selD hpb.1) (may_frz selD hpb.2.1) (may_frz selD hpb.2.2.1)) (btakeN (F := Fq) (W := Wq) pb (pcN 0) npb (S2 3) Dq zq hzq pzq (S2_1 3) (S2_2 3) (Nat.zero_le _) (Nat.zero_le _) (bg_p0 (by decide)) _ _ take_p0') apT ?_)
 intro x42 hJ
 obtain ⟨yq, Gq, Vq⟩ := x42
 try dsimp only at hJ
 try dsimp only
 obtain ⟨uyq, hyq, pyq⟩ := hJ
 refine G.want rfl rfl rfl (G.val rfl rfl ((pv_eql rfl rfl).cast (v' := .bool true) (congrArg Value.bool Y39)) ?_)
 refine go [2,2,0,3,0] ?_
 refine G.want rfl rfl rfl (G.cS rfl rfl rfl rfl Tryz.func10 rfl rfl subT (may1 may_nilZ) (over28_tr (F := Gq) (W := Vq) Dq yq hyq (by rw [← ens_length, show ens yq.tree = [] from congrArg BM.tree pyq]; decide) _ [] 11) apT ?_)
 intro x47 hJ
 try dsimp only at hJ
 try dsimp only
 rw [pyq, over_fin]
 refine go [2,2,1,7,8,9,10,0] ?_
 refine G.op rfl (G.cS rfl rfl rfl rfl Tryz.func11 rfl rfl subT may0 (chunk28_tr 121) apT ?_)
 intro x50 hJ
 obtain ⟨cy, Fc, Wc⟩ := x50
 try dsimp only at hJ
 try dsimp only
 obtain ⟨hcy, ncy⟩ := hJ
 refine G.op rfl (G.cS rfl rfl rfl rfl Tryz.func8 rfl rfl subT (may3 (may_frz selD hcy.1) (may_frz selD hcy.2.1) (may_frz selD hcy.2.2.1)) (btakeN (F := Fr) (W := Wr) cy (ckN 121) ncy S4 Dr zr hzr pzr S4_1 S4_2 S4_3 (Nat.zero_le _) bg_cy _ _ take_cy) apT ?_)
 intro x51 hJ
 obtain ⟨yr, Gr, Vr⟩ := x51
 try dsimp only at hJ
 try dsimp only
 obtain ⟨uyr, hyr, pyr⟩ := hJ
 refine G.op rfl (G.val rfl rfl ((pv_eql rfl rfl).cast (v' := .bool true) (congrArg Value.bool Y39)) ?_)
 refine go [0,3,0] ?_
 refine G.want rfl rfl rfl (G.cS rfl rfl rfl rfl Tryz.func10 rfl rfl subT (may1 may_nilZ) (over28_tr (F := Gr) (W := Vr) Dr yr hyr (by rw [← ens_length, show ens yr.tree = [] from congrArg BM.tree pyr]; decide) _ [] 11) apT ?_)
 intro x55 hJ
 try dsimp only at hJ
 try dsimp only
 rw [pyr, over_fin]
 refine go [2,2,0,3,0] ?_
 refine G.want rfl rfl rfl (G.lit1 (vs := [_, _]) rfl Tryz.underlying29 kr rfl (by decide) (by decide) rfl rfl ?_)
 intro b59
 refine go [3,50,8] ?_
 refine G.ownBlk (b := b59) (k := 2) (sz := 1) selT rfl (by omega) ?_
 refine G.want rfl rfl rfl (G.cS rfl rfl rfl rfl Tryz.func8 rfl rfl subT (may3 (may_ownN (v := .slice (some ⟨b59, 0, none⟩) 2 2) (xs := [6, 2]) selD (by intro x hx; simp only [List.mem_cons, List.not_mem_nil, or_false] at hx; rcases hx with rfl | rfl; exact ⟨by decide, by decide⟩; exact ⟨by decide, by decide⟩)) may_nilZ may_nilZ) (btakeN (F := Fs) (W := Ws) (⟨fl28, .slice (some ⟨b59, 0, none⟩) 2 2, .slice none 0 0, .slice none 0 0⟩ : NV) fl28 rfl (S2 2) Ds zs hzs pzs (S2_1 2) (S2_2 2) (Nat.zero_le _) (Nat.zero_le _) (bg_no (bg_S2 (by decide : (1 : Int) ≤ 2 ∧ (2 : Int) ≤ 2147483647)) (by decide) (by decide)) _ _ take_fl) apT ?_)
 intro x61 hJ
 obtain ⟨ys, Gs, Vs⟩ := x61
 try dsimp only at hJ
 try dsimp only
 obtain ⟨uys, hys, pys⟩ := hJ
 refine G.want rfl rfl rfl (G.val rfl rfl ((pv_eql rfl rfl).cast (v' := .bool true) (congrArg Value.bool Y39)) ?_)
 refine go [2,2,0,3,0] ?_
 refine G.want rfl rfl rfl (G.cS rfl rfl rfl rfl Tryz.func10 rfl rfl subT (may1 may_nilZ) (over28_tr (F := Gs) (W := Vs) Ds ys hys (by rw [← ens_length, show ens ys.tree = [] from congrArg BM.tree pys]; decide) _ [] 6) apT ?_)
 intro x66 hJ
 try dsimp only at hJ
 try dsimp only
 rw [pys, over_fin]
 refine go [2,2,1,7,8,9,10] ?_
 refine G.op rfl (G.cR rfl rfl rfl rfl Tryz.func12 rfl rfl may0 (awake28_tr) ?_)
 refine go [0,3,0,2,2,0,3,0,2,2,0,3,0] ?_
 refine G.want rfl rfl rfl (G.val rfl rfl ((pv_eql rfl rfl).cast (v' := .bool true) (congrArg Value.bool Y39)) ?_)
 refine go [2,2,0,3,0] ?_
 refine G.want rfl rfl rfl (G.cS rfl rfl rfl rfl Tryz.func11 rfl rfl subT may0 (chunk28_tr 120) apT ?_)
 intro x81 hJ
 obtain ⟨cz, Fz, Wz⟩ := x81
 try dsimp only at hJ
 try dsimp only
 obtain ⟨hcz, ncz⟩ := hJ
 refine G.want rfl rfl rfl (G.cS rfl rfl rfl rfl Tryz.func8 rfl rfl subT (may3 (may_frz selD hcz.1) (may_frz selD hcz.2.1) (may_frz selD hcz.2.2.1)) (btakeN (F := Gs) (W := Vs) cz (ckN 120) ncz (finB (S2 2) [] 6) Ds ys hys pys (fun h => by cases h) (fun h => by cases h) (Nat.zero_le _) (Nat.zero_le _) (bg_no (fin_bg (bg_S2 (by decide : (1 : Int) ≤ 2 ∧ (2 : Int) ≤ 2147483647)) _) (by decide) (by decide)) _ _ (take_ov _ rfl)) apT ?_)
 intro x82 hJ
 obtain ⟨yz, Gz, Vz⟩ := x82
 try dsimp only at hJ
 try dsimp only
 obtain ⟨uyz, hyz, pyz⟩ := hJ
 refine G.want rfl rfl rfl (G.val rfl rfl ((pv_eql rfl rfl).cast (v' := .bool true) (congrArg Value.bool Y39)) ?_)
 refine go [2,2,1,7,8,11] ?_
 exact G.done0G rfl (Rv.tmp rfl Rv.nil) Y8
def pvN (D : Nat) : Nat → Value
 | 0 => .pointer none
 | _ + 1 => .pointer (some ⟨D, 0, none⟩)
theorem pvN_get {D i : Nat} (h : i < 2) : [Value.pointer none, .pointer (some ⟨D, 0, none⟩)][0 + i * 1]? = some (pvN D i) := by
 rcases (show i = 0 ∨ i = 1 by omega) with rfl | rfl <;> rfl
set_option maxHeartbeats 4000000 in
theorem bsendZ (D : Nat) : Tr Tryz.prog 14 #[.pointer (some ⟨D, 0, none⟩)] [blk D 46 [.bool false, .int .i64 0, .int .i64 0, .int .i64 0, .slice none 0 0, .slice none 0 0, .int .i64 0, .int .i64 0, .slice none 0 0, .bool false, .int .i64 0, .int .i64 0, .int .i64 0, .int .i64 0, .slice none 0 0, .slice none 0 0, .bool false, .slice none 0 0, .int .i64 0]] [] (T0 (.tuple #[.agg #[.int .i64 0, .slice none 0 0, .slice none 0 0, .slice none 0 0], .bool false])) := by
 refine Tr.of (l := [(0, .pointer (some ⟨D, 0, none⟩))]) Tryz.func14 rfl (n := 57) rfl (.cons rfl .nil) (fun w0 hro => ?_)
 have hP := ro1 hro
 refine go [9,10,60,9] ?_
 intro b2
 refine go [1,7,8,9,9,10,0,2,50,1,0,3,0,3,8,3,3,4] ?_
 refine G.want rfl rfl rfl (G.val rfl rfl (pv_load (v := .slice none 0 0) Tryz.underlying39 rfl rfl (ro_blk hP (by rfl))) ?_)
 refine go [3,5,3,13,2,2,0,4,4,4,4,4,4,2,2,7,8,60,0,9,10,2,50,8,20,1,7,8,11,12] ?_
 exact G.done0G rfl (Rv.cellN (cs := [_, _, _, _]) rfl Tryz.underlying33 rfl kr Y34 (Rv.tmp rfl Rv.nil)) Y8
set_option maxHeartbeats 4000000 in
theorem btakeNil (k : Int) (v1 v2 v3 : Value) (h1 : v1.oneCell' = true) (h2 : v2.oneCell' = true) (h3 : v3.oneCell' = true) : Tr Tryz.prog 8 #[.pointer none, .agg #[.int .i64 k, v1, v2, v3]] [] [] (T0 (.int .i64 1)) := by
 refine Tr.of (l := [(0, .pointer none), (1, .agg #[.int .i64 k, v1, v2, v3])]) Tryz.func8 rfl (n := 71) rfl (.cons rfl (.cons rfl .nil)) (fun w0 hro => ?_)
 refine go [9,10,60,3] ?_
 intro b3
 refine go [1,7,8,9,15,9,10,0,2,50,1,0,4,4,4,4,4,2,2,1,7,8,60,0,9,10,1,7,8,11,17,12] ?_
 exact G.done0G rfl (Rv.tmp rfl Rv.nil) Y8
set_option maxHeartbeats 4000000 in
theorem btakeZ (D : Nat) (k : Int) (v1 v2 v3 : Value) (h1 : v1.oneCell' = true) (h2 : v2.oneCell' = true) (h3 : v3.oneCell' = true) : Tr Tryz.prog 8 #[.pointer (some ⟨D, 0, none⟩), .agg #[.int .i64 k, v1, v2, v3]] [blk D 46 [.bool false, .int .i64 0, .int .i64 0, .int .i64 0, .slice none 0 0, .slice none 0 0, .int .i64 0, .int .i64 0, .slice none 0 0, .bool false, .int .i64 0, .int .i64 0, .int .i64 0, .int .i64 0, .slice none 0 0, .slice none 0 0, .bool false, .slice none 0 0, .int .i64 0]] [] (T0 (.int .i64 1)) := by
 refine Tr.of (l := [(0, .pointer (some ⟨D, 0, none⟩)), (1, .agg #[.int .i64 k, v1, v2, v3])]) Tryz.func8 rfl (n := 71) rfl (.cons rfl (.cons rfl .nil)) (fun w0 hro => ?_)
 have hP := ro1 hro
 refine go [9,10,60,3] ?_
 intro b3
 refine go [1,7,8,9,15,9,10,0,2,50,1,0,3,0,3,8,3,3,0] ?_
 refine G.want rfl rfl rfl (G.val rfl rfl (pv_load (v := .bool false) Tryz.underlying4 rfl rfl (ro_blk hP (by rfl))) ?_)
 refine go [3,25,2,2,1,7,8,60,0,9,10,1,7,8,11,17,12] ?_
 exact G.done0G rfl (Rv.tmp rfl Rv.nil) Y8
set_option maxHeartbeats 4000000 in
theorem bdoneN0 : Tr Tryz.prog 15 #[.pointer none] [] [] (TX (fun _ : Value => True) (fun v => .tuple #[v, .int .i64 0, .bool false]) (fun v => [own 73 5 v 0 []])) := by
 refine Tr.of (l := [(0, .pointer none)]) Tryz.func15 rfl (n := 39) rfl (.cons rfl .nil) (fun w0 hro => ?_)
 refine go [9,10,1,1,1,7,8,9,9,10,0,2,50,1,7,8,60,0,9,10,1,1,1,7,8,11,12] ?_
 refine G.ownNil 73 5 ?_
 exact G.doneX3 (.slice none 0 0) trT rfl rfl rfl rfl rfl subT
set_option maxHeartbeats 4000000 in
theorem bdoneZ (D : Nat) : Tr Tryz.prog 15 #[.pointer (some ⟨D, 0, none⟩)] [blk D 46 [.bool false, .int .i64 0, .int .i64 0, .int .i64 0, .slice none 0 0, .slice none 0 0, .int .i64 0, .int .i64 0, .slice none 0 0, .bool false, .int .i64 0, .int .i64 0, .int .i64 0, .int .i64 0, .slice none 0 0, .slice none 0 0, .bool false, .slice none 0 0, .int .i64 0]] [] (TX (fun _ : Value => True) (fun v => .tuple #[v, .int .i64 0, .bool false]) (fun v => [own 73 5 v 0 []])) := by
 refine Tr.of (l := [(0, .pointer (some ⟨D, 0, none⟩))]) Tryz.func15 rfl (n := 39) rfl (.cons rfl .nil) (fun w0 hro => ?_)
 have hP := ro1 hro
 refine go [9,10,1,1,1,7,8,9,9,10,0,2,50,1,7,8,60,1,13,8,9,10,0,2,8,2,3,17] ?_
 refine G.op rfl (G.val rfl rfl (pv_load (v := .slice none 0 0) Tryz.underlying44 rfl rfl (ro_blk hP (by rfl))) ?_)
 refine G.ownNil 73 5 ?_
 refine G.op rfl (G.append (k := 0) (j := 0) (cs := []) (news := []) (b := 0) (off := 0) rfl Tryz.underlying44 Tryz.infoEn' rfl rfl rfl selT (fun h => absurd h (Nat.lt_irrefl 0)) (fun _ => rfl) rfl (fun _ _ i v hv => by simp at hv) (fun u hu => by cases hu) (by omega) (by omega) ?_)
 intro v3
 rw [List.nil_append]
 refine G.ownOpen (v := v3) selT (fun a3 c3 h3 hk3 hm3 => ?_)
 subst h3
 refine go [1,7,8,9,9,10,0,2,5,0,7,8,15] ?_
 refine G.loopK (X := Nat) (ts := [0, 2, 3, 4, 5, 15]) (fun i => i ≤ 0 ∧ (True)) (fun i => [(16, .int .i64 (i : Int))]) (fun i => []) (fun i => 0 - i) (x0 := 0) (.cons rfl (.cons rfl (.cons rfl (.cons rfl (.cons rfl (.cons rfl .nil)))))) subT (.cons .nil) apT (by first | exact trivial | ((try dsimp only) <;> exact ⟨Nat.zero_le _, trivial⟩)) (.consE rfl veqT .nil) (fun i hJ => ?_)
 try dsimp only at hJ
 try dsimp only
 obtain ⟨hki, hJ⟩ := hJ
 refine go [9,10,2,9,7,8,9] ?_
 refine G.condP rfl (fun h17 => ?_) (fun h17 => ?_)
 ·exfalso; omega
 refine go [18,14,14,19,8,9] ?_
 refine G.drawT (nn := 12) (p := []) (rem := 4095) [0, 0, 2, 4, 8, 0, 32, 64, 128, 1, 543, 2047] [0, 0, 2, 4, 8, 0, 32, 64, 128, 1, 16, 256] kr ⟨rfl, by kernel_rfl, by kernel_rfl⟩ subT kr (fun hT9 => ?_)
 refine go [22,0,4094,0,22,1,4092,0,22,2,4088,8,22,3,4080,3,18,22,5,4048,0,22,6,3984,8,22,7,3856,3,16,22,9,3344,1] ?_
 refine G.takeT hT9 (i := 4) (rem' := 3328) rfl rfl rfl kr (fun _ _ _ h => h) rfl (pv_load (v := .int .i64 0) Tryz.underlying25 rfl rfl (ro_blk hP (by rfl))) subT ?_
 refine go [22,10,2304,1,24,8,2048] ?_
 refine G.turnOp rfl rfl (G.val rfl rfl (pv_load (v := .bool false) Tryz.underlying4 rfl rfl (ro_blk hP (by rfl))) ?_)
 refine go [26,22,11,0,1,27,8,11] ?_
 exact G.doneX3 ((.slice a3 0 c3)) trT rfl rfl rfl rfl rfl subT
set_option maxHeartbeats 4000000 in
theorem bmanN : Tr Tryz.prog 16 #[.pointer none] [] [] (T0 (.tuple #[.agg #[.int .i64 0, .int .i64 0, .int .i64 0, .int .i64 0, .slice none 0 0], .bool false])) := by
 refine Tr.of (l := [(0, .pointer none)]) Tryz.func16 rfl (n := 24) rfl (.cons rfl .nil) (fun w0 hro => ?_)
 refine go [9,10,60,6] ?_
 intro b2
 refine go [1,7,8,9,9,10,0,2,50,1,0,4,4,4,4,4,2,2,7,8,60,0,9,10,2,50,7,20,1,7,8,11,12] ?_
 exact G.done0G rfl (Rv.cellN (cs := [_, _, _, _, _]) rfl Tryz.underlying42 rfl kr Y22 (Rv.tmp rfl Rv.nil)) Y8
set_option maxHeartbeats 4000000 in
theorem bmanZ (D : Nat) : Tr Tryz.prog 16 #[.pointer (some ⟨D, 0, none⟩)] [blk D 46 [.bool false, .int .i64 0, .int .i64 0, .int .i64 0, .slice none 0 0, .slice none 0 0, .int .i64 0, .int .i64 0, .slice none 0 0, .bool false, .int .i64 0, .int .i64 0, .int .i64 0, .int .i64 0, .slice none 0 0, .slice none 0 0, .bool false, .slice none 0 0, .int .i64 0]] [] (T0 (.tuple #[.agg #[.int .i64 0, .int .i64 0, .int .i64 0, .int .i64 0, .slice none 0 0], .bool false])) := by
 refine Tr.of (l := [(0, .pointer (some ⟨D, 0, none⟩))]) Tryz.func16 rfl (n := 24) rfl (.cons rfl .nil) (fun w0 hro => ?_)
 have hP := ro1 hro
 refine go [9,10,60,6] ?_
 intro b2
 refine go [1,7,8,9,9,10,0,2,50,1,0,3,0,3,8,3,3,9] ?_
 refine G.want rfl rfl rfl (G.val rfl rfl (pv_load (v := .bool false) Tryz.underlying4 rfl rfl (ro_blk hP (by rfl))) ?_)
 refine go [3,25,2,2,7,8,60,0,9,10,2,50,7,20,1,7,8,11,12] ?_
 exact G.done0G rfl (Rv.cellN (cs := [_, _, _, _, _]) rfl Tryz.underlying42 rfl kr Y22 (Rv.tmp rfl Rv.nil)) Y8
set_option maxHeartbeats 4000000 in
theorem bopenN : Tr Tryz.prog 19 #[.pointer none] [] [] (T0 (.int .i64 0)) := by
 refine Tr.of (l := [(0, .pointer none)]) Tryz.func19 rfl (n := 10) rfl (.cons rfl .nil) (fun w0 hro => ?_)
 refine go [9,10,1,7,8,9,9,10,0,2,50,1,7,8,60,0,9,10,1,7,8,11,12] ?_
 exact G.done0G rfl (Rv.tmp rfl Rv.nil) Y8
set_option maxHeartbeats 4000000 in
theorem bopenZ (D : Nat) : Tr Tryz.prog 19 #[.pointer (some ⟨D, 0, none⟩)] [blk D 46 [.bool false, .int .i64 0, .int .i64 0, .int .i64 0, .slice none 0 0, .slice none 0 0, .int .i64 0, .int .i64 0, .slice none 0 0, .bool false, .int .i64 0, .int .i64 0, .int .i64 0, .int .i64 0, .slice none 0 0, .slice none 0 0, .bool false, .slice none 0 0, .int .i64 0]] [] (T0 (.int .i64 0)) := by
 refine Tr.of (l := [(0, .pointer (some ⟨D, 0, none⟩))]) Tryz.func19 rfl (n := 10) rfl (.cons rfl .nil) (fun w0 hro => ?_)
 have hP := ro1 hro
 refine go [9,10,1,7,8,9,9,10,0,2,50,1,7,8,60,1,13,8,9,10,0,2,8,2,3,5] ?_
 refine G.op rfl (G.val rfl rfl (pv_load (v := .slice none 0 0) Tryz.underlying39 rfl rfl (ro_blk hP (by rfl))) ?_)
 refine go [2,5,1,7,8,11] ?_
 exact G.done0G rfl (Rv.tmp rfl Rv.nil) Y8
set_option maxHeartbeats 4000000 in
theorem bphaseN : Tr Tryz.prog 20 #[.pointer none] [] [] (T0 (.int .i64 0)) := by
 refine Tr.of (l := [(0, .pointer none)]) Tryz.func20 rfl (n := 15) rfl (.cons rfl .nil) (fun w0 hro => ?_)
 refine go [9,10,1,7,8,9,9,10,0,2,50,1,0,4,4,4,4,2,2,7,8,60,0,9,10,1,7,8,11,12] ?_
 exact G.done0G rfl (Rv.tmp rfl Rv.nil) Y8
set_option maxHeartbeats 4000000 in
theorem bphaseZ (D : Nat) : Tr Tryz.prog 20 #[.pointer (some ⟨D, 0, none⟩)] [blk D 46 [.bool false, .int .i64 0, .int .i64 0, .int .i64 0, .slice none 0 0, .slice none 0 0, .int .i64 0, .int .i64 0, .slice none 0 0, .bool false, .int .i64 0, .int .i64 0, .int .i64 0, .int .i64 0, .slice none 0 0, .slice none 0 0, .bool false, .slice none 0 0, .int .i64 0]] [] (T0 (.int .i64 0)) := by
 refine Tr.of (l := [(0, .pointer (some ⟨D, 0, none⟩))]) Tryz.func20 rfl (n := 15) rfl (.cons rfl .nil) (fun w0 hro => ?_)
 have hP := ro1 hro
 refine go [9,10,1,7,8,9,9,10,0,2,50,1,0,3,0,3,8,3,3,16] ?_
 refine G.want rfl rfl rfl (G.val rfl rfl (pv_load (v := .bool false) Tryz.underlying4 rfl rfl (ro_blk hP (by rfl))) ?_)
 refine go [2,2,7,8,60,1,13,8,9,10,0,2,8,2,3,3] ?_
 refine G.op rfl (G.val rfl rfl (pv_load (v := .int .i64 0) Tryz.underlying3 rfl rfl (ro_blk hP (by rfl))) ?_)
 refine go [1,7,8,11] ?_
 exact G.done0G rfl (Rv.tmp rfl Rv.nil) Y8
theorem bsendV (D i : Nat) : Tr Tryz.prog 14 #[pvN D i] [blk D 46 [.bool false, .int .i64 0, .int .i64 0, .int .i64 0, .slice none 0 0, .slice none 0 0, .int .i64 0, .int .i64 0, .slice none 0 0, .bool false, .int .i64 0, .int .i64 0, .int .i64 0, .int .i64 0, .slice none 0 0, .slice none 0 0, .bool false, .slice none 0 0, .int .i64 0]] [] (T0 (.tuple #[.agg #[.int .i64 0, .slice none 0 0, .slice none 0 0, .slice none 0 0], .bool false])) := by
 cases i with
 | zero => exact Tr.ro0 bsend_nil
 | succ i => exact bsendZ D
theorem btakeV (D i : Nat) (k : Int) (v1 v2 v3 : Value) (h1 : v1.oneCell' = true) (h2 : v2.oneCell' = true) (h3 : v3.oneCell' = true) : Tr Tryz.prog 8 #[pvN D i, .agg #[.int .i64 k, v1, v2, v3]] [blk D 46 [.bool false, .int .i64 0, .int .i64 0, .int .i64 0, .slice none 0 0, .slice none 0 0, .int .i64 0, .int .i64 0, .slice none 0 0, .bool false, .int .i64 0, .int .i64 0, .int .i64 0, .int .i64 0, .slice none 0 0, .slice none 0 0, .bool false, .slice none 0 0, .int .i64 0]] [] (T0 (.int .i64 1)) := by
 cases i with
 | zero => exact Tr.ro0 (btakeNil k v1 v2 v3 h1 h2 h3)
 | succ i => exact btakeZ D k v1 v2 v3 h1 h2 h3
theorem bdoneV (D i : Nat) : Tr Tryz.prog 15 #[pvN D i] [blk D 46 [.bool false, .int .i64 0, .int .i64 0, .int .i64 0, .slice none 0 0, .slice none 0 0, .int .i64 0, .int .i64 0, .slice none 0 0, .bool false, .int .i64 0, .int .i64 0, .int .i64 0, .int .i64 0, .slice none 0 0, .slice none 0 0, .bool false, .slice none 0 0, .int .i64 0]] [] (TX (fun _ : Value => True) (fun v => .tuple #[v, .int .i64 0, .bool false]) (fun v => [own 73 5 v 0 []])) := by
 cases i with
 | zero => exact Tr.ro0 bdoneN0
 | succ i => exact bdoneZ D
theorem bmanV (D i : Nat) : Tr Tryz.prog 16 #[pvN D i] [blk D 46 [.bool false, .int .i64 0, .int .i64 0, .int .i64 0, .slice none 0 0, .slice none 0 0, .int .i64 0, .int .i64 0, .slice none 0 0, .bool false, .int .i64 0, .int .i64 0, .int .i64 0, .int .i64 0, .slice none 0 0, .slice none 0 0, .bool false, .slice none 0 0, .int .i64 0]] [] (T0 (.tuple #[.agg #[.int .i64 0, .int .i64 0, .int .i64 0, .int .i64 0, .slice none 0 0], .bool false])) := by
 cases i with
 | zero => exact Tr.ro0 bmanN
 | succ i => exact bmanZ D
theorem bopenV (D i : Nat) : Tr Tryz.prog 19 #[pvN D i] [blk D 46 [.bool false, .int .i64 0, .int .i64 0, .int .i64 0, .slice none 0 0, .slice none 0 0, .int .i64 0, .int .i64 0, .slice none 0 0, .bool false, .int .i64 0, .int .i64 0, .int .i64 0, .int .i64 0, .slice none 0 0, .slice none 0 0, .bool false, .slice none 0 0, .int .i64 0]] [] (T0 (.int .i64 0)) := by
 cases i with
 | zero => exact Tr.ro0 bopenN
 | succ i => exact bopenZ D
theorem bphaseV (D i : Nat) : Tr Tryz.prog 20 #[pvN D i] [blk D 46 [.bool false, .int .i64 0, .int .i64 0, .int .i64 0, .slice none 0 0, .slice none 0 0, .int .i64 0, .int .i64 0, .slice none 0 0, .bool false, .int .i64 0, .int .i64 0, .int .i64 0, .int .i64 0, .slice none 0 0, .slice none 0 0, .bool false, .slice none 0 0, .int .i64 0]] [] (T0 (.int .i64 0)) := by
 cases i with
 | zero => exact Tr.ro0 bphaseN
 | succ i => exact bphaseZ D
set_option maxHeartbeats 4000000 in
theorem none28_tr {Pv1 Pv2 Pv3 : Nat → Prop} (k : Int) (v1 v2 v3 : Value) (ns : List Int) (ids : List (List UInt8)) (bs : List UInt8) : Tr Tryz.prog 4 #[.agg #[.int .i64 k, v1, v2, v3]] [slc rInt Pv1 v1 ns, slc rID Pv2 v2 ids, slc rByte Pv3 v3 bs] [] (T0 (.bool true)) := by
 refine Tr.of (l := [(0, .agg #[.int .i64 k, v1, v2, v3])]) Tryz.func4 rfl (n := 103) rfl (.cons rfl .nil) (fun w0 hro => ?_)
 obtain ⟨hA, hB, hC⟩ := ro3 hro
 have oa := Ro.open hA
 have ob := Ro.open hB
 have oc := Ro.open hC
 obtain ⟨aa, ca, qa, oa', rfl, hca, hma, -, had, hel⟩ := oa
 obtain ⟨ab, cb, qb, ob', rfl, hcb, hmb, -, hbd, hbl⟩ := ob
 obtain ⟨ac, cc, qc, oc', rfl, hcc, -⟩ := oc
 refine go [9,10,60,3] ?_
 intro b1
 refine go [1,7,8,9,9,10,2,50,10] ?_
 refine G.op rfl (G.cR rfl rfl rfl rfl Tryz.func13 rfl rfl (may3 Y2 Y2 Y2) (longNote_tr k _ _ _ ns ids bs) ?_)
 refine go [7,8] ?_
 refine G.condP rfl (fun h14 => ?_) (fun h14 => ?_)
 ·refine go [9,10] ?_
  refine G.op rfl (G.cR rfl rfl rfl rfl Tryz.func12 rfl rfl may0 (awake28_tr) ?_)
  refine go [1,7,8,11,12] ?_
  exact G.done0G rfl (Rv.tmp rfl Rv.nil) Y8
 refine go [13,8,9,10,1,7,8,9,10,0] ?_
 refine G.op rfl (G.val rfl rfl (pv_buildSt (z := [.bool false, .int .i64 0, .int .i64 0, .int .i64 0, .slice none 0 0, .slice none 0 0, .int .i64 0, .int .i64 0, .slice none 0 0, .bool false, .int .i64 0, .int .i64 0, .int .i64 0, .int .i64 0, .slice none 0 0, .slice none 0 0, .bool false, .slice none 0 0, .int .i64 0]) (pl := [(0, 1), (1, 1), (2, 1), (3, 1), (4, 1), (5, 1), (6, 1), (7, 1), (8, 1), (9, 1), (10, 5), (15, 1), (16, 1), (17, 1), (18, 1)]) Tryz.underlying46 kr kr rfl flT) ?_)
 refine go [60,19] ?_
 intro b18
 refine G.op rfl (G.lit1 (vs := [_, _]) rfl Tryz.underlying47 kr rfl (by decide) (by decide) rfl rfl ?_)
 intro b19
 refine go [1,7,8,9,9,10,1,7,8,15] ?_
 refine G.loopK (X := Nat) (ts := [1, 4]) (fun i => i ≤ 2) (fun i => [(5, .int .i64 (i : Int))]) (fun i => []) (fun i => 2 - i) (x0 := 0) (.cons rfl (.cons rfl .nil)) subT (.cons .nil) apT Y27 (.consE rfl veqT .nil) (fun i hJ => ?_)
 try dsimp only at hJ
 try dsimp only
 have hki := hJ
 refine go [9,9,10,0,2,9,7,8] ?_
 refine G.condP rfl (fun h21 => ?_) (fun h21 => ?_)
 ·have hlt : i < 2 := by omega
  refine go [13,8,9,15,9,10,0,0] ?_
  refine G.op rfl (G.val rfl rfl (pv_ixSl (sz := 1) (k := i) Tryz.underlying47 kr rfl rfl (fun _ => rfl) rfl (by omega)) ?_)
  refine G.op rfl (G.val rfl rfl (pv_load (v := pvN b18 i) Tryz.underlying22 rfl rfl (blk_cell selD (pvN_get hlt))) ?_)
  refine G.op rfl (G.cR rfl rfl rfl rfl Tryz.func14 rfl rfl (may1 (Sel.may selD)) (bsendV b18 i) ?_)
  refine go [0] ?_
  refine G.op rfl (G.val rfl rfl (pv_extract (v := .agg #[.int .i64 0, .slice none 0 0, .slice none 0 0, .slice none 0 0]) rfl rfl) ?_)
  refine G.op rfl (G.val rfl rfl (pv_extract (v := .bool false) rfl rfl) ?_)
  refine go [60,9] ?_
  intro b6
  refine go [20,1,7,8,9,10,0,0] ?_
  refine G.op rfl (G.val rfl rfl (pv_ixSl (sz := 1) (k := i) Tryz.underlying47 kr rfl rfl (fun _ => rfl) rfl (by omega)) ?_)
  refine G.op rfl (G.val rfl rfl (pv_load (v := pvN b18 i) Tryz.underlying22 rfl rfl (blk_cell selD (pvN_get hlt))) ?_)
  refine G.op rfl (G.cS rfl rfl rfl rfl Tryz.func15 rfl rfl subT (may1 (Sel.may selD)) (bdoneV b18 i) apT ?_)
  intro x37 hJ
  obtain tv := x37
  try dsimp only at hJ
  try dsimp only
  refine G.ownOpen (v := x37) selT (fun ta tc htv _ _ => ?_)
  subst htv
  refine go [0] ?_
  refine G.op rfl (G.val rfl rfl (pv_extract (v := .slice ta 0 tc) rfl rfl) ?_)
  refine G.op rfl (G.val rfl rfl (pv_extract (v := .int .i64 0) rfl rfl) ?_)
  refine G.op rfl (G.val rfl rfl (pv_extract (v := .bool false) rfl rfl) ?_)
  refine go [1,1,1,7,8,9,10,0,0] ?_
  refine G.op rfl (G.val rfl rfl (pv_ixSl (sz := 1) (k := i) Tryz.underlying47 kr rfl rfl (fun _ => rfl) rfl (by omega)) ?_)
  refine G.op rfl (G.val rfl rfl (pv_load (v := pvN b18 i) Tryz.underlying22 rfl rfl (blk_cell selD (pvN_get hlt))) ?_)
  refine G.op rfl (G.cR rfl rfl rfl rfl Tryz.func16 rfl rfl (may1 (Sel.may selD)) (bmanV b18 i) ?_)
  refine go [0] ?_
  refine G.op rfl (G.val rfl rfl (pv_extract (v := .agg #[.int .i64 0, .int .i64 0, .int .i64 0, .int .i64 0, .slice none 0 0]) rfl rfl) ?_)
  refine G.op rfl (G.val rfl rfl (pv_extract (v := .bool false) rfl rfl) ?_)
  refine go [60,6] ?_
  intro b11
  refine go [20,1,7,8,9] ?_
  refine G.drawT (nn := 53) (p := []) (rem := 9007199254740991) [0, 1, 2, 2, 14, 18, 34, 80, 128, 128, 896, 1152, 128, 6272, 8320, 16512, 40960, 65536, 196608, 327680, 589824, 1114112, 2097152, 6291456, 10485760, 18874368, 33554432, 100663296, 167772160, 268435456, 805306368, 1342177280, 2147483648, 2147483648, 15032385536, 19327352832, 36507222016, 85899345920, 137438953472, 137438953472, 962072674304, 1236950581248, 2336462209024, 4535485464576, 8933531975680, 21990232555520, 35184372088832, 35184372088832, 246290604621824, 316659348799488, 598134325510144, 1161084278931456, 2286984185774080] [0, 1, 2, 2, 14, 18, 34, 64, 128, 128, 896, 1152, 128, 6272, 8320, 16512, 32768, 65536, 196608, 327680, 589824, 1048576, 2097152, 6291456, 10485760, 16777216, 33554432, 100663296, 134217728, 268435456, 805306368, 1073741824, 2147483648, 2147483648, 15032385536, 19327352832, 36507222016, 68719476736, 137438953472, 137438953472, 962072674304, 1236950581248, 2336462209024, 4535485464576, 8933531975680, 17592186044416, 35184372088832, 35184372088832, 246290604621824, 316659348799488, 598134325510144, 1161084278931456, 2286984185774080] kr ⟨rfl, by kernel_rfl, by kernel_rfl⟩ subT kr (fun hT11 => ?_)
  refine go [22,0,9007199254740990,0,22,1,9007199254740988,0,22,2,9007199254740984,50,10,22,3,9007199254740976,50,8,24,4,9007199254740960] ?_
  refine G.turnOp rfl rfl (G.cR rfl rfl rfl rfl Tryz.func17 rfl rfl (may6 may_nilZ may_nilZ may_nilZ may_nilZ may_nilZ may_nilZ) (sameNote_tr (Pv1 := fun _ => False) (Pv2 := fun _ => False) (Pv3 := fun _ => False) (Pu1 := fun _ => False) (Pu2 := fun _ => False) (Pu3 := fun _ => False) 0 0 _ _ _ _ _ _ [] [] [] [] [] []) ?_)
  rw [decide_eq_true (show (0 : Int) = 0 ∧ ([] : List Int) = [] ∧ ([] : List (List UInt8)) = [] ∧ ([] : List UInt8) = [] from ⟨rfl, rfl, rfl, rfl⟩)]
  refine go [26,22,5,9007199254740928,25,22,6,9007199254740864,2,22,7,9007199254740736,0,22,8,9007199254740480,0,22,9,9007199254739968,0] ?_
  refine G.takeT hT11 (i := 10) (rem' := 9007199254738944) rfl rfl rfl kr (fun _ _ _ h => h) rfl (pv_ixSl (sz := 1) (k := i) Tryz.underlying47 kr rfl rfl (fun _ => rfl) rfl (by omega)) subT ?_
  refine G.takeT hT11 (i := 11) (rem' := 9007199254736896) rfl rfl rfl kr (fun _ _ _ h => h) rfl (pv_load (v := pvN b18 i) Tryz.underlying22 rfl rfl (blk_cell selD (pvN_get hlt))) subT ?_
  refine go [24,12,9007199254732800,25,50,10,26,24,13,9007199254724608] ?_
  refine G.turnOp rfl rfl (G.cR rfl rfl rfl rfl Tryz.func8 rfl rfl (may1 (Sel.may selD)) (btakeV b18 i k _ _ _ rfl rfl rfl) ?_)
  refine go [26] ?_
  refine G.takeT hT11 (i := 14) (rem' := 9007199254708224) rfl rfl rfl kr (fun _ _ _ h => h) rfl ((pv_neq rfl rfl).cast (v' := .bool false) (congrArg Value.bool (by exact decide_eq_false (fun h => h rfl)))) subT ?_
  refine go [22,15,9007199254675456,2,22,16,9007199254609920,0,22,17,9007199254478848,0,22,18,9007199254216704,5] ?_
  refine G.takeT hT11 (i := 19) (rem' := 9007199253692416) rfl rfl rfl kr (fun _ _ _ h => h) rfl ((pv_neq rfl rfl).cast (v' := .bool false) (congrArg Value.bool (by exact decide_eq_false (fun h => h rfl)))) subT ?_
  refine go [22,20,9007199252643840,2,22,21,9007199250546688,0,22,22,9007199246352384,0] ?_
  refine G.takeT hT11 (i := 23) (rem' := 9007199237963776) rfl rfl rfl kr (fun _ _ _ h => h) rfl ((pv_neq rfl rfl).cast (v' := .bool false) (congrArg Value.bool (by exact decide_eq_false (fun h => h rfl)))) subT ?_
  refine go [22,24,9007199221186560,2,22,25,9007199187632128,0,22,26,9007199120523264,0,22,27,9007198986305536,2,22,28,9007198717870080,0,22,29,9007198180999168,0,22,30,9007197107257344,2,22,31,9007194959773696,0,22,32,9007190664806400,50,3,22,33,9007182074871808,50,7,24,34,9007164895002624] ?_
  refine G.turnOp rfl rfl (G.cR rfl rfl rfl rfl Tryz.func18 rfl rfl (may2 may_nilZ may_nilZ) (sameM_tr (Ps := fun _ => False) (Pu := fun _ => False) mh0 mh0 _ _ [] []) ?_)
  rw [decide_eq_true (show mh0 = mh0 ∧ its [] = its [] from ⟨rfl, rfl⟩)]
  refine go [26,22,35,9007130535264256,25,22,36,9007061815787520,2,22,37,9006924376834048,0,22,38,9006649498927104,0,22,39,9006099743113216,0] ?_
  refine G.takeT hT11 (i := 40) (rem' := 9005000231485440) rfl rfl rfl kr (fun _ _ _ h => h) rfl (pv_ixSl (sz := 1) (k := i) Tryz.underlying47 kr rfl rfl (fun _ => rfl) rfl (by omega)) subT ?_
  refine go [24,41,9002801208229888] ?_
  refine G.turnOp rfl rfl (G.val rfl rfl (pv_load (v := pvN b18 i) Tryz.underlying22 rfl rfl (blk_cell selD (pvN_get hlt))) ?_)
  refine go [26,24,42,8998403161718784] ?_
  refine G.turnOp rfl rfl (G.cR rfl rfl rfl rfl Tryz.func19 rfl rfl (may1 (Sel.may selD)) (bopenV b18 i) ?_)
  refine go [26] ?_
  refine G.takeT hT11 (i := 43) (rem' := 8989607068696576) rfl rfl rfl kr (fun _ _ _ h => h) rfl ((pv_neq rfl rfl).cast (v' := .bool false) (congrArg Value.bool (by exact decide_eq_false (fun h => h rfl)))) subT ?_
  refine go [22,44,8972014882652160,2,22,45,8936830510563328,0,22,46,8866461766385664,0,22,47,8725724278030336,0] ?_
  refine G.takeT hT11 (i := 48) (rem' := 8444249301319680) rfl rfl rfl kr (fun _ _ _ h => h) rfl (pv_ixSl (sz := 1) (k := i) Tryz.underlying47 kr rfl rfl (fun _ => rfl) rfl (by omega)) subT ?_
  refine go [24,49,7881299347898368] ?_
  refine G.turnOp rfl rfl (G.val rfl rfl (pv_load (v := pvN b18 i) Tryz.underlying22 rfl rfl (blk_cell selD (pvN_get hlt))) ?_)
  refine go [26,24,50,6755399441055744] ?_
  refine G.turnOp rfl rfl (G.cR rfl rfl rfl rfl Tryz.func20 rfl rfl (may1 (Sel.may selD)) (bphaseV b18 i) ?_)
  refine go [26] ?_
  refine G.takeT hT11 (i := 51) (rem' := 4503599627370496) rfl rfl rfl kr (fun _ _ _ h => h) rfl ((pv_neq rfl rfl).cast (v' := .bool false) (congrArg Value.bool (by exact decide_eq_false (fun h => h rfl)))) subT ?_
  refine go [22,52,0,2,27,8,60,1,13,16,8,10,0,2,6,1,7] ?_
  exact G.next (i + 1) Y23 (by (try dsimp only); omega) (.consE rfl veqT (.cons rfl (.cons rfl .nil))) subT
 refine go [18,14,14,19,8,9,10] ?_
 refine G.op rfl (G.cR rfl rfl rfl rfl Tryz.func12 rfl rfl may0 (awake28_tr) ?_)
 refine go [1,7,8,11] ?_
 exact G.done0G rfl (Rv.tmp rfl Rv.nil) Y8
end Go.Proofs.YtcgacpmippdkeaaGreat
set_option maxRecDepth 100000
namespace Go.Proofs.YtcgacpmippdkeaaGreat
open Go.ChangeShapes Go.WideShapes Go.ChangeAt Go.RowKit Go.Deep
theorem in1 {p : Ck → Prop} {a : Ck} (h : p a) : ∀ x ∈ [a], p x := fun x hx => by obtain rfl : x = a := (by simpa using hx); exact h
theorem inC {p : Ck → Prop} {a : Ck} {l : List Ck} (h : p a) (r : ∀ x ∈ l, p x) : ∀ x ∈ a :: l, p x := fun x hx => by
 rcases List.mem_cons.1 hx with rfl | hx
 ·exact h
 exact r x hx
section
variable {H : Type} {enc : TypeId × Value → H} {W : World}
theorem open_note {v : Value} {d : DataW H} {p : List MemPlace} {r : Reach} {base : Nat} (hok : Value.okWide Tryz.prog W r base 33 v) (h : DataW.Trod enc Tryz.prog W 0 (fun _ => true) true 33 v d p)
 {ts : List TypeId} {ds : List (DataW H)} {j : Nat} (hsz : (DataW.weightsEach Tryz.prog ts ds).all (· ≤ reachBytes) = true) (hts : ts[j]? = some 33) (hds : ds[j]? = some d) :
 ∃ (k : Int) (v1 v2 v3 : Value) (ns : List Int) (ids : List (List UInt8)) (bs : List UInt8), v = .agg #[.int .i64 k, v1, v2, v3] ∧ Ro W (fun _ => False) (slc rInt (· < W.heap.size) v1 ns) ∧ Ro W (fun _ => False) (slc rID (· < W.heap.size) v2 ids) ∧ Ro W (fun _ => False) (slc rByte (· < W.heap.size) v3 bs) := by
 obtain ⟨cs, rfl, hcs⟩ := okWide_struct Tryz.underlying33 hok
 rw [show Tryz.prog.cellsOf 33 = 4 by kernel_rfl] at hcs
 obtain ⟨fuel, hf⟩ := h
 obtain ⟨xs, n, rfl, hx, hl, hxl, hxx⟩ := DataW.trod_struct Tryz.underlying33 hf
 have hw : ∀ k ∈ DataW.weights Tryz.prog 33 d, k ≤ reachBytes := fun k hk => of_decide_eq_true (List.all_eq_true.1 hsz k (DataW.weights_mem_each hts hds k hk))
 have hd : d = .agg (xs.map (·.1)) := congrArg Prod.fst hx
 subst hd
 simp only [DataW.weights, Tryz.underlying33] at hw
 obtain ⟨c0, c1, c2, c3, rfl⟩ : ∃ c0 c1 c2 c3, cs = #[c0, c1, c2, c3] := by
  obtain ⟨l⟩ := cs
  match l, hcs with
  | [c0, c1, c2, c3], _ => exact ⟨c0, c1, c2, c3, rfl⟩
 obtain ⟨y0, y1, y2, y3, rfl⟩ : ∃ y0 y1 y2 y3, xs = [y0, y1, y2, y3] := by
  match xs, hxl with
  | [y0, y1, y2, y3], _ => exact ⟨y0, y1, y2, y3, rfl⟩
 have f0 : DataW.trod enc Tryz.prog W 0 (fun _ => true) true n 3 (([c0, c1, c2, c3].drop 0).take (Tryz.prog.cellsOf 3)) = some y0 := hxx 0 _ rfl
 have f1 : DataW.trod enc Tryz.prog W 0 (fun _ => true) true n 29 (([c0, c1, c2, c3].drop 1).take (Tryz.prog.cellsOf 29)) = some y1 := hxx 1 _ rfl
 have f2 : DataW.trod enc Tryz.prog W 0 (fun _ => true) true n 30 (([c0, c1, c2, c3].drop 2).take (Tryz.prog.cellsOf 30)) = some y2 := hxx 2 _ rfl
 have f3 : DataW.trod enc Tryz.prog W 0 (fun _ => true) true n 31 (([c0, c1, c2, c3].drop 3).take (Tryz.prog.cellsOf 31)) = some y3 := hxx 3 _ rfl
 rw [show Tryz.prog.cellsOf 3 = 1 by kernel_rfl] at f0
 rw [show Tryz.prog.cellsOf 29 = 1 by kernel_rfl] at f1
 rw [show Tryz.prog.cellsOf 30 = 1 by kernel_rfl] at f2
 rw [show Tryz.prog.cellsOf 31 = 1 by kernel_rfl] at f3
 obtain ⟨k, e0, _, w0⟩ := DataW.trod_int Tryz.underlying3 f0
 obtain ⟨u1, ns, e1, h1, _⟩ := opn_slice (E := rInt) Tryz.underlying29 (of_decide_eq_true kr) (opn_int Tryz.underlying3 kr) (by decide) n _ _ f1 (fun q hq => hw q (DataW.weights_mem_each (j := 1) rfl rfl q hq))
 obtain ⟨u2, ids, e2, h2, _⟩ := opn_slice (E := rID) Tryz.underlying30 (of_decide_eq_true kr) (opn_arr Tryz.underlying59 kr (opn_byte Tryz.underlying5 kr)) (by decide) n _ _ f2 (fun q hq => hw q (DataW.weights_mem_each (j := 2) rfl rfl q hq))
 obtain ⟨u3, bs, e3, h3, _⟩ := opn_slice (E := rByte) Tryz.underlying31 (of_decide_eq_true kr) (opn_byte Tryz.underlying5 kr) (by decide) n _ _ f3 (fun q hq => hw q (DataW.weights_mem_each (j := 3) rfl rfl q hq))
 have g0 : c0 = .int .i64 k := by simpa [Value.cells] using e0
 have g1 : c1 = u1 := by simpa [Value.cells] using e1
 have g2 : c2 = u2 := by simpa [Value.cells] using e2
 have g3 : c3 = u3 := by simpa [Value.cells] using e3
 subst g0 g1 g2 g3
 exact ⟨k, _, _, _, ns, ids, bs, rfl, ro_new h1 fun b hb => hb, ro_new h2 fun b hb => hb, ro_new h3 fun b hb => hb⟩
end
end Go.Proofs.YtcgacpmippdkeaaGreat
