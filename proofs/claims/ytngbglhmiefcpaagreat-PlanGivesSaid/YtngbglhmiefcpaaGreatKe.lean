/- Merged of ZI, ZJ, ZK, VS, ZL, ZM, ZN, ZO, ZP, ZQ, ZS, ZV, ZT, ZW, ZX, ZY, ZU, Z1. Conditions: none. -/
import Derived.Test.YtngbglhmiefcpaaGreatKd
namespace Go.Proofs.YtngbglhmiefcpaaGreat
open Go.RowKit
set_option linter.unusedVariables false
set_option linter.unusedSimpArgs false
def entF : Nat → PM → Nat → PM
 | 0, p, _ => p
 | f + 1, p, k => if (phsM { p with ph := k } k).2 = [] then entF f (phsM { p with ph := k } k).1 (k + 1) else { (phsM { p with ph := k } k).1 with left := (phsM { p with ph := k } k).2 }
def enterM (p : PM) (k : Nat) : PM := entF (6 - k) { p with left := [], wait := [], asked := 0 } k
def PZ.at (y : PZ) (q : Nat) : PZ := { y with leftv := .slice none 0 0, waitv := .slice none 0 0, left := [], wait := [], asked := 0, ph := q }
theorem at_ok {F : Nat → Prop} {W : World} {y : PZ} (h : PvOk F W y) (q : Nat) : PvOk F W (y.at q) :=
 ⟨h.b, h.l, h.lk, IsSl.nil _ _ _, (fun x hx => by cases hx), (fun x hx => by cases hx), h.lacks⟩
theorem st_tr {F : Nat → Prop} {W : World} (D : Nat) (z : PZ) (ph : Nat) (h : 1 ≤ ph ∧ ph ≤ 5) (hz : PvOk F W z) (hg : PgOk z) : Tr Tryz.prog (stF ph) #[.pointer (some ⟨D, 0, none⟩)] [] [blk D 85 [.bool z.made, z.bv, z.lv, .int .i64 z.cm, .int .i64 z.tk, .int .i64 (z.ph : Nat), z.leftv, z.waitv, .int .i64 (z.asked : Nat), z.lacksv, .int .i64 (z.rounds : Nat), .bool z.over, .int .i64 z.num, .int .i64 z.e], frz F W, que 92 5 z.waitv z.wait.length (z.wait.flatMap awC), own 54 17 z.lacksv z.lacks.length (z.lacks.flatMap chC)]
 (TX (fun x : StO => StJ F W z ph x) (fun x => x.v) (fun x => [blk D 85 [.bool x.z.made, x.z.bv, x.z.lv, .int .i64 x.z.cm, .int .i64 x.z.tk, .int .i64 (x.z.ph : Nat), x.z.leftv, x.z.waitv, .int .i64 (x.z.asked : Nat), x.z.lacksv, .int .i64 (x.z.rounds : Nat), .bool x.z.over, .int .i64 x.z.num, .int .i64 x.z.e], frz x.F x.W, que 92 5 x.z.waitv x.z.wait.length (x.z.wait.flatMap awC), own 54 17 x.z.lacksv x.z.lacks.length (x.z.lacks.flatMap chC), own 33 4 x.v x.xs.length (x.xs.flatMap nvC)])) := by
 rcases (show ph = 1 ∨ ph = 2 ∨ ph = 3 ∨ ph = 4 ∨ ph = 5 by omega) with rfl | rfl | rfl | rfl | rfl
 ·exact st_begin D z hz hg
 ·exact st_parts D z hz hg
 ·exact st_queries D z hz hg
 ·exact st_gives D z hz hg
 exact st_commit D z hz hg
theorem phsM_lacks (p : PM) (k : Nat) : (phsM p k).1.lacks.length ≤ p.lacks.length ∧ (phsM p k).1.rounds ≤ p.rounds + 1 := by
 unfold phsM
 split <;> simp
theorem phs5 {p : PM} {k : Nat} (h1 : 1 ≤ k ∧ k ≤ 5) (h : (phsM p k).2 = []) : k ≤ 4 := by
 rcases (show k ≤ 4 ∨ k = 5 by omega) with h2 | rfl
 ·exact h2
 cases h
theorem entF_go {f k : Nat} {p : PM} (hp : p.ph = k) (h : (phsM p k).2 = []) : entF (f + 1) p k = entF f (phsM p k).1 (k + 1) := by
 subst hp
 exact if_pos h
theorem entF_end {f k : Nat} {p : PM} (hp : p.ph = k) (h : ¬ (phsM p k).2 = []) : entF (f + 1) p k = { (phsM p k).1 with left := (phsM p k).2 } := by
 subst hp
 exact if_neg h
theorem phsM_few {z : PZ} {k : Nat} (hg : PgOk z) : (phsM z.pm k).2.length ≤ 100000000 := by
 have h1 := hg.b
 have h2 := hg.l
 have h3 := hg.lacks
 unfold phsM partsL partsT queriesL
 split <;> simp [PZ.pm, cks] <;> omega
theorem nvs_few {z : PZ} {k : Nat} {xs : List NV} (h : nvs xs = (phsM z.pm k).2) (hg : PgOk z) : xs.length ≤ 100000000 := by
 rw [← nvs_length xs, h]
 exact phsM_few hg
theorem blk_φ_cell {b o : Nat} {T : TypeId} {cs : List Value} {v : Value} {W : World} (h : (blk b T cs).φ W) (hv : cs[o]? = some v) : W.cell? ⟨b, o, none⟩ = some v := by
 rw [cell_of_row _ _ _ _ _ _ h, List.getElem?_toArray, hv]
theorem blk_φ_rng {b : Nat} {T : TypeId} {cs : List Value} {W : World} (h : (blk b T cs).φ W) : W.rangeAt b 0 cs := fun j v hj => by
 rw [Nat.zero_add]
 exact blk_φ_cell h hj
theorem aw_all {F F' : Nat → Prop} {W W' : World} {q : Nat} {xs : List Aw} {x : Aw} (hU : Up F W F' W') (h : ∀ a ∈ xs, AwOk F W a ∧ a.ph = q) (hx : AwOk F' W' x) (hq : x.ph = q := by rfl) : ∀ a ∈ xs ++ [x], AwOk F' W' a ∧ a.ph = q := fun a ha => by
 rcases List.mem_append.1 ha with ha | ha
 ·exact ⟨(h a ha).1.up hU, (h a ha).2⟩
 obtain rfl : a = x := by simpa using ha
 exact ⟨hx, hq⟩
theorem Tryz.infoAw : (Tryz.prog.info? 92).map (fun i => (i.zero.map (·.cells.size), i.size, i.bytes)) = some (some 5, 5, 88) := by kernel_rfl
theorem awC_app (xs : List Aw) (x : Aw) : xs.flatMap awC ++ awC x = (xs ++ [x]).flatMap awC := by simp [List.flatMap_append]
theorem frz_aws {e : TypeId} {F : Nat → Prop} {W : World} {v : Value} (az : List Aw) (h : (own e 5 v az.length (az.flatMap awC)).φ W ∧ ∀ b, (own e 5 v az.length (az.flatMap awC)).S b → F b) (hA : ∀ a ∈ az, AwOk F W a) : IsSl rAw F W v az :=
 rows_sl (E := rAw) awC_len rfl h.1 (fun b hb => h.2 b hb) (fun b o x hx hP hr => ⟨hP, hr, hA x hx⟩)
set_option maxRecDepth 20000 in
set_option maxHeartbeats 4000000 in
theorem enter_tr {F : Nat → Prop} {W : World} (D : Nat) (z : PZ) (k : Nat) (hk1 : 1 ≤ k ∧ k ≤ 5) (hz : PvOk F W z) (hg : PgOk z) (hr : z.rounds ≤ 3) : Tr Tryz.prog 49 #[.pointer (some ⟨D, 0, none⟩), .int .i64 (k : Int)] [] [blk D 85 [.bool z.made, z.bv, z.lv, .int .i64 z.cm, .int .i64 z.tk, .int .i64 (z.ph : Nat), z.leftv, z.waitv, .int .i64 (z.asked : Nat), z.lacksv, .int .i64 (z.rounds : Nat), .bool z.over, .int .i64 z.num, .int .i64 z.e], frz F W, que 92 5 z.waitv z.wait.length (z.wait.flatMap awC), own 54 17 z.lacksv z.lacks.length (z.lacks.flatMap chC)]
 (TX (fun x : PZ × (Nat → Prop) × World => Up F W x.2.1 x.2.2 ∧ PvOk x.2.1 x.2.2 x.1 ∧ x.1.pm = enterM z.pm k) (fun _ => .tuple #[]) (fun x => [blk D 85 [.bool x.1.made, x.1.bv, x.1.lv, .int .i64 x.1.cm, .int .i64 x.1.tk, .int .i64 (x.1.ph : Nat), x.1.leftv, x.1.waitv, .int .i64 (x.1.asked : Nat), x.1.lacksv, .int .i64 (x.1.rounds : Nat), .bool x.1.over, .int .i64 x.1.num, .int .i64 x.1.e], frz x.2.1 x.2.2, que 92 5 x.1.waitv x.1.wait.length (x.1.wait.flatMap awC), own 54 17 x.1.lacksv x.1.lacks.length (x.1.lacks.flatMap chC)])) := by
 refine Tr.of (l := [(0, .pointer (some ⟨D, 0, none⟩)), (1, .int .i64 (k : Int))]) Tryz.func49 rfl (n := 64) rfl (.cons rfl (.cons rfl .nil)) (fun w0 hro => ?_)
 refine go [9,10,0,0,0,2,8,2,3,6,21,2,8,2,3,7,21,2,8,2,3,8,21,7,8,9,10,0,0,2,8,2,3,5,21,7,8,15] ?_
 refine G.queNil 92 5 ?_
 refine G.loopK (X := Nat × PZ × (Nat → Prop) × World) (ts := [0]) (fun st => (1 ≤ st.1 ∧ st.1 ≤ 5) ∧ Up F W st.2.2.1 st.2.2.2 ∧ PvOk st.2.2.1 st.2.2.2 (st.2.1.at st.1) ∧ PgOk (st.2.1.at st.1) ∧ st.2.1.rounds ≤ 3 + st.1 ∧ enterM z.pm k = entF (6 - st.1) (st.2.1.at st.1).pm st.1) (fun st => []) (fun st => [blk D 85 [.bool (st.2.1.at st.1).made, (st.2.1.at st.1).bv, (st.2.1.at st.1).lv, .int .i64 (st.2.1.at st.1).cm, .int .i64 (st.2.1.at st.1).tk, .int .i64 ((st.2.1.at st.1).ph : Nat), (st.2.1.at st.1).leftv, (st.2.1.at st.1).waitv, .int .i64 ((st.2.1.at st.1).asked : Nat), (st.2.1.at st.1).lacksv, .int .i64 ((st.2.1.at st.1).rounds : Nat), .bool (st.2.1.at st.1).over, .int .i64 (st.2.1.at st.1).num, .int .i64 (st.2.1.at st.1).e], frz st.2.2.1 st.2.2.2, own 54 17 st.2.1.lacksv st.2.1.lacks.length (st.2.1.lacks.flatMap chC)]) (fun st => 6 - st.1) (x0 := (k, z, F, W)) (.cons rfl .nil) subT Ap.nil apT (by first | exact trivial | ((try dsimp only) <;> exact ⟨hk1, Up.refl _ _, at_ok hz k, ⟨hg.cm, hg.tk, hg.b, hg.l, hg.lacks, hg.rounds⟩, by omega, (by unfold enterM; rw [show 6 - k = (5 - k) + 1 from by omega]; rfl)⟩)) .nil (fun st hJ => ?_)
 obtain ⟨q, y, F1, W1⟩ := st
 try dsimp only at hJ
 try dsimp only
 obtain ⟨hq, hU1, hy, hgy, hyr, hE⟩ := hJ
 refine go [9,15,9,10,0,2,8,2,3,5,2,50,0] ?_
 refine G.op rfl (G.cR rfl rfl rfl rfl Tryz.func67 rfl rfl may0 (judgeF_tr q hq) ?_)
 refine G.op rfl (G.alloc (z := .nilFunc) (cs := [.nilFunc]) rfl kr rfl ?_)
 intro b4
 refine go [21] ?_
 refine G.freeze (p := [blk b4 _ _]) selT subT (fun F2 W2 hU2 hC2 => ?_)
 have hj : F2 b4 ∧ W2.cell? ⟨b4, 0, none⟩ = some (.func (.func (jdF q)) #[] #[]) := ⟨(hC2 _ (List.mem_singleton.2 rfl)).2 _ rfl, blk_φ_cell (hC2 _ (List.mem_singleton.2 rfl)).1 rfl⟩
 have hy' := hy.up hU2
 refine go [7,8,9,9] ?_
 refine G.cutK (X := PZ × (List NV) × Value × (Nat → Prop) × World) (ts := [0, 4]) (p := [blk D 85 _, frz F2 W2, own 54 17 _ _ _]) (fun st => Up F2 W2 st.2.2.2.1 st.2.2.2.2 ∧ PvOk st.2.2.2.1 st.2.2.2.2 (st.1.at q) ∧ PgOk (st.1.at q) ∧ st.1.rounds ≤ 3 + q + 1 ∧ (∀ x ∈ st.2.1, NvOk st.2.2.2.1 st.2.2.2.2 x) ∧ (st.1.at q).pm = (phsM (y.at q).pm q).1 ∧ nvs st.2.1 = (phsM (y.at q).pm q).2) (fun st => [(39, st.2.2.1), (40, .int .i64 (st.2.1.length : Int)), (41, .int .i64 0)]) (fun st => [blk D 85 [.bool (st.1.at q).made, (st.1.at q).bv, (st.1.at q).lv, .int .i64 (st.1.at q).cm, .int .i64 (st.1.at q).tk, .int .i64 ((st.1.at q).ph : Nat), (st.1.at q).leftv, (st.1.at q).waitv, .int .i64 ((st.1.at q).asked : Nat), (st.1.at q).lacksv, .int .i64 ((st.1.at q).rounds : Nat), .bool (st.1.at q).over, .int .i64 (st.1.at q).num, .int .i64 (st.1.at q).e], frz st.2.2.2.1 st.2.2.2.2, own 54 17 st.1.lacksv st.1.lacks.length (st.1.lacks.flatMap chC), own 33 4 st.2.2.1 st.2.1.length (st.2.1.flatMap nvC)]) (.cons rfl (.cons rfl .nil)) subT (.cons (.cons (.cons .nil))) apT ?_ ?_
 ·refine G.drawT (nn := 10) (p := [blk D 85 _, frz F2 W2, own 54 17 _ _ _]) (rem := 1023) [0, 0, 2, 4, 8, 17, 0, 97, 128, 0] [0, 0, 2, 4, 8, 17, 0, 96, 128, 0] kr ⟨rfl, by kernel_rfl, by kernel_rfl⟩ subT kr (fun hT4 => ?_)
  refine go [22,1,1021,0,22,2,1017,8,22,3,1009,3,5,22,6,945,0,22,9,433,0] ?_
  refine G.twoT hT4 (i := 0) (j := 4) (rem' := 432) (rem'' := 417) kr kr kr ?_ ?_
  ·refine G.turnOp rfl rfl (G.cR rfl rfl rfl rfl Tryz.func68 rfl rfl may0 (phases_tr) ?_)
   refine go [26,24,4,416,25,50,0,26] ?_
   refine G.takeT hT4 (i := 5) (rem' := 384) rfl rfl rfl kr (fun _ _ _ h => h) rfl (pv_ixAr1 (k := q) Tryz.underlying128 kr Tryz.underlying127 rfl rfl rfl rfl (by omega) (st_at hq)) subT ?_
   refine go [24,7,256] ?_
   refine G.turnOp rfl rfl (G.cSv (J := fun x : StO => StJ F2 W2 (y.at q) q x) rfl rfl rfl rfl rfl (st_fn hq) rfl subT may0 (st_tr D (y.at q) q hq hy' hgy) apT ?_)
   rintro ⟨nz, nxs, nv, nF, nW⟩ hJ
   try dsimp only at hJ
   obtain ⟨vk, lk, rk, hkp⟩ := hJ.keep
   dsimp only at hkp
   subst hkp
   have hln : lk.length ≤ 20000000 ∧ rk ≤ 3 + q + 1 := by have h1 := phsM_lacks (y.at q).pm q; rw [← hJ.pm] at h1; have h2 := h1.1; have h3 := h1.2; have h4 := hgy.lacks; simp only [PZ.pm, PZ.at, cks, List.length_map] at h2 h3 h4; exact ⟨by omega, by omega⟩
   try dsimp only
   refine G.ownOpen (v := nv) selT (fun oa oc hov _ _ => ?_)
   subst hov
   refine go [26,22,8,0,5,27] ?_
   exact G.meet ({ y with lacksv := vk, lacks := lk, rounds := rk }, nxs, .slice oa nxs.length oc, nF, nW) (by first | exact trivial | ((try dsimp only) <;> exact ⟨hJ.up, hJ.ok, ⟨hgy.cm, hgy.tk, hgy.b, hgy.l, hln.1, by have := hln.2; show rk ≤ 1000; omega⟩, hln.2, hJ.all, hJ.pm, hJ.nt⟩)) (.consE rfl veqT (.consE rfl veqT (.consE rfl veqT (.cons rfl (.cons rfl .nil))))) subT
  refine go [25,50,0,26,24,0,416] ?_
  refine G.turnOp rfl rfl (G.cR rfl rfl rfl rfl Tryz.func68 rfl rfl may0 (phases_tr) ?_)
  refine go [26] ?_
  refine G.takeT hT4 (i := 5) (rem' := 384) rfl rfl rfl kr (fun _ _ _ h => h) rfl (pv_ixAr1 (k := q) Tryz.underlying128 kr Tryz.underlying127 rfl rfl rfl rfl (by omega) (st_at hq)) subT ?_
  refine go [24,7,256] ?_
  refine G.turnOp rfl rfl (G.cSv (J := fun x : StO => StJ F2 W2 (y.at q) q x) rfl rfl rfl rfl rfl (st_fn hq) rfl subT may0 (st_tr D (y.at q) q hq hy' hgy) apT ?_)
  rintro ⟨nz, nxs, nv, nF, nW⟩ hJ
  try dsimp only at hJ
  obtain ⟨vk, lk, rk, hkp⟩ := hJ.keep
  dsimp only at hkp
  subst hkp
  have hln : lk.length ≤ 20000000 ∧ rk ≤ 3 + q + 1 := by have h1 := phsM_lacks (y.at q).pm q; rw [← hJ.pm] at h1; have h2 := h1.1; have h3 := h1.2; have h4 := hgy.lacks; simp only [PZ.pm, PZ.at, cks, List.length_map] at h2 h3 h4; exact ⟨by omega, by omega⟩
  try dsimp only
  refine G.ownOpen (v := nv) selT (fun oa oc hov _ _ => ?_)
  subst hov
  refine go [26,22,8,0,5,27] ?_
  exact G.meet ({ y with lacksv := vk, lacks := lk, rounds := rk }, nxs, .slice oa nxs.length oc, nF, nW) (by first | exact trivial | ((try dsimp only) <;> exact ⟨hJ.up, hJ.ok, ⟨hgy.cm, hgy.tk, hgy.b, hgy.l, hln.1, by have := hln.2; show rk ≤ 1000; omega⟩, hln.2, hJ.all, hJ.pm, hJ.nt⟩)) (.consE rfl veqT (.consE rfl veqT (.consE rfl veqT (.cons rfl (.cons rfl .nil))))) subT
 intro st hJ
 obtain ⟨y2, xs, vo, F3, W3⟩ := st
 try dsimp only at hJ
 try dsimp only
 obtain ⟨hU3, hy2, hg2, hr2, hxA, hpm2, hnt2⟩ := hJ
 refine G.ownNews (v := vo) selT (fun na nc nb hnv hnk hnm hnd hnn hnews => ?_)
 subst hnv
 refine G.block ?_
 refine G.ownNil 92 5 ?_
 refine G.loopK (X := Nat × Value × (List Aw) × (Nat → Prop) × World) (ts := [0, 4, 39, 40]) (fun st => st.1 ≤ xs.length ∧ (Up F3 W3 st.2.2.2.1 st.2.2.2.2 ∧ (∀ a ∈ st.2.2.1, AwOk st.2.2.2.1 st.2.2.2.2 a ∧ a.ph = q) ∧ st.2.2.1.length = st.1 ∧ st.2.2.1.map (·.nv) = xs.take st.1 ∧ (st.1 = 0 → st.2.1 = .slice none 0 0))) (fun st => [(41, .int .i64 (st.1 : Int))]) (fun st => [blk D 85 [.bool (y2.at q).made, (y2.at q).bv, (y2.at q).lv, .int .i64 (y2.at q).cm, .int .i64 (y2.at q).tk, .int .i64 ((y2.at q).ph : Nat), st.2.1, (y2.at q).waitv, .int .i64 ((y2.at q).asked : Nat), (y2.at q).lacksv, .int .i64 ((y2.at q).rounds : Nat), .bool (y2.at q).over, .int .i64 (y2.at q).num, .int .i64 (y2.at q).e], frz st.2.2.2.1 st.2.2.2.2, own 92 5 st.2.1 st.2.2.1.length (st.2.2.1.flatMap awC)]) (fun st => xs.length - st.1) (x0 := (0, .slice none 0 0, [], F3, W3)) (.cons rfl (.cons rfl (.cons rfl (.cons rfl .nil)))) subT (.cons .nil) apT (by first | exact trivial | ((try dsimp only) <;> exact ⟨Nat.zero_le _, ⟨Up.refl _ _, (fun a ha => by cases ha), rfl, rfl, fun _ => rfl⟩⟩)) (.consE rfl veqT .nil) (fun st hJ => ?_)
 obtain ⟨i, vl, az, F4, W4⟩ := st
 try dsimp only at hJ
 try dsimp only
 obtain ⟨hki, hJ⟩ := hJ
 obtain ⟨hU4, hA4, hal, ham, hvl0⟩ := hJ
 refine go [9,10,2,9,7,8,9] ?_
 refine G.condP rfl (fun h42 => ?_) (fun h42 => ?_)
 ·have hlt : i < xs.length := by omega
  have hxo := hxA _ (List.getElem_mem hlt)
  have hx1 := hxo.1.one
  have hx2 := hxo.2.1.one
  have hx3 := hxo.2.2.1.one
  have hbig := nvs_few hnt2 hgy
  refine go [13,8,9,15,9,10] ?_
  refine G.op rfl (G.val rfl rfl (pv_ixSl (sz := 4) (k := i) Tryz.underlying55 kr rfl rfl hnd rfl (by omega)) ?_)
  refine G.op rfl (G.val rfl rfl (pv_loadN (cs := nvC xs[i]) Tryz.underlying33 rfl kr rfl (fun w hw => news_row nvC_len (hnews selT w hw) hlt)) ?_)
  refine go [60,3] ?_
  intro b6
  refine G.op rfl (G.storeN (vs := nvC xs[i]) kr rfl rfl (List.all_eq_true.2 (nvC_one hxo)) selT (by show 0 + 4 ≤ 4; omega) ?_)
  rw [show putN [.int .i64 0, .slice none 0 0, .slice none 0 0, .slice none 0 0] 0 (nvC xs[i]) = nvC xs[i] from rfl]
  refine go [7,8] ?_
  refine G.drawE (nn := 13) (p := [own 92 5 vl _ _]) (rem := 1023) [0, 0, 2, 4, 8, 0, 0, 96, 128, 272, 1023, 2047, 3071] [0, 0, 2, 4, 8, 0, 0, 96, 128, 272, 1, 1024, 2560] [12, 11, 10] [4095, 2047, 1023] 10 kr ⟨rfl, by kernel_rfl, by kernel_rfl⟩ kr kr kr subT (fun hT7 => ?_)
  refine go [22,0,1022,0,22,1,1020,0,22,2,1016,8,22,3,1008,3,6,22,6,944,26,22,4,928,50,0,24,5,896] ?_
  refine G.turnOp rfl rfl (G.val rfl rfl (pv_loadN (cs := nvC xs[i]) Tryz.underlying33 rfl kr rfl (blk_range (k := 4) selD rfl)) ?_)
  refine go [26] ?_
  refine G.takeT hT7 (i := 7) (rem' := 768) rfl rfl rfl kr (fun _ _ _ h => h) rfl (pv_buildSt (z := [.int .i64 0, .slice none 0 0, .slice none 0 0, .slice none 0 0, .nilFunc]) (pl := [(0, 4), (4, 1)]) Tryz.underlying92 kr kr rfl flT) subT ?_
  refine go [24,8,512] ?_
  refine G.turnOp rfl rfl (G.buildSlice (z := .agg #[.int .i64 0, .slice none 0 0, .slice none 0 0, .slice none 0 0, .nilFunc]) (sz := 5) (cs := awC (⟨xs[i], q, b4, b6⟩ : Aw)) rfl Tryz.underlying83 kr (by decide) (by decide) rfl kr ?_)
  intro b53
  refine go [26,24,9,0] ?_
  refine G.turnOp rfl rfl (G.append (k := az.length) (j := 1) (cs := az.flatMap awC) (news := awC (⟨xs[i], q, b4, b6⟩ : Aw)) (b := b53) (off := 0) rfl Tryz.underlying83 Tryz.infoAw rfl rfl rfl selT (fun _ => rfl) (fun h => by cases h) rfl (blk_news (k := 5) selT rfl) (fun u hu => by simp only [awC, List.mem_cons, List.not_mem_nil, or_false] at hu; rcases hu with rfl | rfl | rfl | rfl | rfl <;> first | rfl | assumption) (by omega) (by omega) ?_)
  intro vn
  rw [awC_app, show az.length + 1 = (az ++ [(⟨xs[i], q, b4, b6⟩ : Aw)]).length from by rw [List.length_append]; rfl]
  refine G.ownFact (v := vn) selT (fun hvn _ => ?_)
  refine go [26,27] ?_
  refine G.tailS [12, 11] 10 rfl ?_
  refine go [25,8] ?_
  refine G.tailS [12] 11 rfl ?_
  refine go [25,3,6] ?_
  refine G.tailS [] 12 rfl ?_
  refine go [30] ?_
  refine G.tailD ?_
  refine go [16,8,10] ?_
  refine G.freeze (p := [blk b6 _ _]) selT subT (fun F5 W5 hU5 hC5 => ?_)
  have hUj := (hU3.trans hU4).trans hU5
  have hok : AwOk F5 W5 (⟨xs[i], q, b4, b6⟩ : Aw) := ⟨hxo.up (hU4.trans hU5), ⟨hUj.1 _ hj.1, hUj.cell hj.1 hj.2⟩, (hC5 _ (List.mem_singleton.2 rfl)).2 _ rfl, blk_φ_rng (hC5 _ (List.mem_singleton.2 rfl)).1⟩
  refine go [2,6,0,7] ?_
  exact G.next ((i + 1, vn, az ++ [(⟨xs[i], q, b4, b6⟩ : Aw)], F5, W5)) (by first | exact trivial | ((try dsimp only) <;> exact ⟨by omega, ⟨hU4.trans hU5, aw_all hU5 hA4 hok, by rw [List.length_append, hal]; rfl, by rw [List.map_append, ham, List.take_succ_eq_append_getElem hlt]; rfl, fun h => by omega⟩⟩)) (by (try dsimp only); omega) (.consE rfl veqT (.cons rfl (.cons rfl (.cons rfl (.cons rfl .nil))))) subT
 obtain rfl : i = xs.length := by omega
 rw [List.take_length] at ham
 refine go [18,14,14,19,8,9,10,0,2,8,2,3,6] ?_
 refine G.ownOpen (v := vl) selT (fun la lc hlv _ _ => ?_)
 subst hlv
 refine go [2,50,0,2,5,2,10,7,8] ?_
 refine G.condP rfl (fun h63 => ?_) (fun h63 => ?_)
 ·refine go [11,17,12,12,17] ?_
  have hne : ¬ (phsM (y.at q).pm q).2 = [] := fun h => by rw [← hnt2] at h; have h1 := nvs_length xs; rw [h] at h1; have h2 := congrArg List.length ham; rw [List.length_map] at h2; have h3 : 0 = xs.length := h1; omega
  refine G.freeze (p := [own 92 5 _ _ _]) selT subT (fun F6 W6 hU6 hC6 => ?_)
  have hy6 := hy2.up (hU4.trans hU6)
  have hls := frz_aws az (hC6 _ (List.mem_singleton.2 rfl)) (fun a ha => (hA4 a ha).1.up hU6)
  exact G.doneX0 (({ y2.at q with leftv := .slice la az.length lc, left := az }, F6, W6)) (by first | exact trivial | ((try dsimp only) <;> exact ⟨hU1.trans (hU2.trans (hU3.trans (hU4.trans hU6))), ⟨hy6.b, hy6.l, hy6.lk, hls, (fun a ha => ⟨(hA4 a ha).1.up hU6, (hA4 a ha).2⟩), hy6.wait, hy6.lacks⟩, by rw [hE, show 6 - q = (5 - q) + 1 from by omega, entF_end (k := q) rfl hne, ← hpm2, ← hnt2, ← ham]; show PZ.pm _ = _; unfold PZ.pm aws nvs; rw [List.map_map]; rfl⟩)) rfl rfl subT
 have ha0 : az = [] := List.eq_nil_of_length_eq_zero (by omega)
 have hx0 : xs = [] := by rw [← ham, ha0]; rfl
 have hn0 : (phsM (y.at q).pm q).2 = [] := by rw [← hnt2, hx0]; rfl
 have hq4 := phs5 hq hn0
 have hvl := hvl0 (by rw [hx0]; rfl)
 injection hvl with hv1 hv2 hv3
 subst hv1
 subst hv3
 have hE2 : enterM z.pm k = entF (6 - (q + 1)) (y2.at (q + 1)).pm (q + 1) := by rw [hE, show 6 - q = (5 - q) + 1 from by omega, entF_go (k := q) rfl hn0, ← hpm2, show 6 - (q + 1) = (4 - q) + 1 from by omega, show 5 - q = (4 - q) + 1 from by omega]; rfl
 subst ha0
 refine go [13,16,8,10,0,2,8,2,3,5,2,50,0] ?_
 have hph9 : (y2.at q).ph = q := rfl
 refine go [2,6,2,8,2,3,5,21,7] ?_
 exact G.next (q + 1, y2, F4, W4) (by first | exact trivial | ((try dsimp only) <;> exact ⟨by omega, hU1.trans (hU2.trans (hU3.trans hU4)), at_ok (y := y2.at q) (hy2.up hU4) (q + 1), ⟨hg2.cm, hg2.tk, hg2.b, hg2.l, hg2.lacks, hg2.rounds⟩, by omega, hE2⟩)) (by (try dsimp only); omega) (.cons rfl .nil) subT
def ntz : Nt := ⟨0, [], [], []⟩
def sendP (p : PM) : Option Nt × PM := if p.left = [] ∨ 8 ≤ p.wait.length then (none, p) else (p.left.head?, { p with left := p.left.tail, wait := p.wait ++ p.left.head?.toList })
def sentN (p : PM) : Nt := (sendP p).1.getD ntz
theorem sendP_no {p : PM} (h : p.left = [] ∨ 8 ≤ p.wait.length) : sendP p = (none, p) := if_pos h
theorem aws_nil {xs : List Aw} (h : xs.length = 0) : aws xs = [] := by
 rw [List.eq_nil_of_length_eq_zero h]
 rfl
theorem pm_wait (z : PZ) : z.pm.wait.length = z.wait.length := aws_length _
theorem sendP_yes {z : PZ} {X : Aw} {t : List Aw} (e : z.left = X :: t) (h : ¬ 8 ≤ z.wait.length) : sendP z.pm = (some X.nv.n, { z.pm with left := aws t, wait := aws (z.wait ++ [X]) }) := by
 unfold sendP
 rw [if_neg (by rw [pm_wait]; show ¬ (aws z.left = [] ∨ _); rw [e]; intro hh; rcases hh with hh | hh; cases hh; exact h hh)]
 show ((aws z.left).head?, _) = _
 unfold PZ.pm aws
 rw [e]
 simp
theorem sub_tail {F : Nat → Prop} {W : World} {ad : Option Addr} {cap : Nat} {X : Aw} {t : List Aw} (h : IsSl rAw F W (.slice ad (t.length + 1) cap) (X :: t)) : IsSl rAw F W (subV 5 ad 1 (t.length + 1) cap) t := by
 have := IsSl.sub (i := 1) (j := t.length + 1) h (by omega) (by simp)
 have e : ((X :: t).take (t.length + 1)).drop 1 = t := by simp
 rwa [e] at this
theorem sub_one1 (sz : Nat) (ad : Option Addr) (i j cap : Nat) : (subV sz ad i j cap).oneCell' = true := by
 unfold subV
 split <;> rfl
set_option maxRecDepth 20000 in
set_option maxHeartbeats 4000000 in
theorem send_tr {F : Nat → Prop} {W : World} (D : Nat) (z : PZ) (hz : PvOk F W z) : Tr Tryz.prog 21 #[.pointer (some ⟨D, 0, none⟩)] [] [blk D 85 [.bool z.made, z.bv, z.lv, .int .i64 z.cm, .int .i64 z.tk, .int .i64 (z.ph : Nat), z.leftv, z.waitv, .int .i64 (z.asked : Nat), z.lacksv, .int .i64 (z.rounds : Nat), .bool z.over, .int .i64 z.num, .int .i64 z.e], frz F W, que 92 5 z.waitv z.wait.length (z.wait.flatMap awC), own 54 17 z.lacksv z.lacks.length (z.lacks.flatMap chC)]
 (TX (fun x : PZ × Value × Value × Value => PvOk F W x.1 ∧ x.1.pm = (sendP z.pm).2) (fun x => .tuple #[.agg #[.int .i64 (sentN z.pm).k, x.2.1, x.2.2.1, x.2.2.2], .bool (sendP z.pm).1.isSome]) (fun x => [blk D 85 [.bool x.1.made, x.1.bv, x.1.lv, .int .i64 x.1.cm, .int .i64 x.1.tk, .int .i64 (x.1.ph : Nat), x.1.leftv, x.1.waitv, .int .i64 (x.1.asked : Nat), x.1.lacksv, .int .i64 (x.1.rounds : Nat), .bool x.1.over, .int .i64 x.1.num, .int .i64 x.1.e], frz F W, que 92 5 x.1.waitv x.1.wait.length (x.1.wait.flatMap awC), own 54 17 x.1.lacksv x.1.lacks.length (x.1.lacks.flatMap chC), own 3 1 x.2.1 (sentN z.pm).ns.length ((sentN z.pm).ns.map vInt), own 52 16 x.2.2.1 (sentN z.pm).ids.length (flatI (sentN z.pm).ids), own 5 1 x.2.2.2 (sentN z.pm).bs.length ((sentN z.pm).bs.map vByte)])) := by
 refine Tr.of (l := [(0, .pointer (some ⟨D, 0, none⟩))]) Tryz.func21 rfl (n := 64) rfl (.cons rfl .nil) (fun w0 hro => ?_)
 obtain ⟨cL, dL, eL, fL, hvL, _, _, hnL, hLd, hLe⟩ := hz.left.open
 refine G.queFact (v := z.waitv) selT (fun _ hql qad qcap hvw => ?_)
 refine go [9,10,60,3] ?_
 intro b2
 refine go [1,7,8,9,9,10,0,2,50,3,0,3,0,3,8,3,3,6] ?_
 refine G.want rfl rfl rfl (G.val rfl rfl ((pv_load (v := z.leftv) Tryz.underlying83 rfl rfl (by exact blk_cell selD (by rfl))).cast hvL) ?_)
 refine go [3,5,3,13,2,2,0] ?_
 refine G.partP (t := 16) rfl (fun h16 => ?_) (fun h16 => ?_)
 ·refine go [4,4,4,4,4,4,2,2,7,8,60,1,9,10,2,50,2,20,1,7,8,11,12] ?_
  rw [show sentN z.pm = ntz from by unfold sentN; rw [sendP_no (Or.inl (aws_nil (by omega)))]; rfl, sendP_no (Or.inl (aws_nil (by omega)))]
  refine G.ownNil 3 1 ?_
  refine go [60,5] ?_
  refine G.ownNil 5 1 ?_
  exact G.doneG ((z, .slice none 0 0, .slice none 0 0, .slice none 0 0)) Y17 rfl (Rv.cellN (cs := [_, _, _, _]) rfl Tryz.underlying33 rfl kr Y23 (Rv.tmp rfl Rv.nil)) rfl subT
 refine go [3,0,3,8,3,3,7] ?_
 refine G.want rfl rfl rfl (G.val rfl rfl ((pv_load (v := z.waitv) Tryz.underlying83 rfl rfl (by exact blk_cell selD (by rfl))).cast hvw) ?_)
 refine go [3,5,3,12,2,2,7,8] ?_
 refine G.condP rfl (fun h23 => ?_) (fun h23 => ?_)
 ·refine go [9,10,2,50,2,20,1,7,8,11,12] ?_
  rw [show sentN z.pm = ntz from by unfold sentN; rw [sendP_no (Or.inr (by rw [pm_wait]; omega))]; rfl, sendP_no (Or.inr (by rw [pm_wait]; omega))]
  refine G.ownNil 3 1 ?_
  refine go [60,5] ?_
  refine G.ownNil 5 1 ?_
  exact G.doneG ((z, .slice none 0 0, .slice none 0 0, .slice none 0 0)) Y17 rfl (Rv.cellN (cs := [_, _, _, _]) rfl Tryz.underlying33 rfl kr Y23 (Rv.tmp rfl Rv.nil)) rfl subT
 have hw8 : ¬ 8 ≤ z.wait.length := by omega
 obtain ⟨X, t, hXt⟩ : ∃ X t, z.left = X :: t := by cases e : z.left with | nil => (exfalso; have h0 := congrArg List.length e; rw [List.length_nil] at h0; omega) | cons X t => exact ⟨X, t, rfl⟩
 have hXl : z.left.length = t.length + 1 := by rw [hXt]; rfl
 have hR := hLe 0 (by omega)
 rw [show z.left[0] = X from by simp [hXt]] at hR
 have hX := hR.2.2
 refine go [13,8,9,10,0,2,8,2,3,6] ?_
 refine G.op rfl (G.val rfl rfl ((pv_load (v := z.leftv) Tryz.underlying83 rfl rfl (by exact blk_cell selD (by rfl))).cast hvL) ?_)
 refine G.op rfl (G.val rfl rfl (pv_ixSl (sz := 5) (k := 0) Tryz.underlying83 kr rfl rfl hLd rfl (by omega)) ?_)
 refine G.op rfl (G.val rfl rfl (pv_loadN (cs := awC X) Tryz.underlying92 rfl kr rfl (frz_rng selT hR.1 hR.2.1)) ?_)
 refine G.op rfl (G.alloc (z := .agg #[.int .i64 0, .slice none 0 0, .slice none 0 0, .slice none 0 0, .nilFunc]) (cs := [.int .i64 0, .slice none 0 0, .slice none 0 0, .slice none 0 0, .nilFunc]) rfl kr rfl ?_)
 intro b4
 refine G.op rfl (G.storeN (vs := awC X) kr rfl rfl (List.all_eq_true.2 (awC_one hR.2.2)) selT (by show 0 + 5 ≤ 5; omega) ?_)
 rw [show putN [.int .i64 0, .slice none 0 0, .slice none 0 0, .slice none 0 0, .nilFunc] 0 (awC X) = awC X from rfl]
 refine go [7,8,9,10,0,0,2,8,2,3,6] ?_
 refine G.op rfl (G.val rfl rfl ((pv_load (v := z.leftv) Tryz.underlying83 rfl rfl (by exact blk_cell selD (by rfl))).cast hvL) ?_)
 refine G.op rfl (G.val rfl rfl (pv_subL (sz := 5) (k := 1) Tryz.underlying83 kr rfl rfl rfl (by omega)) ?_)
 refine go [2,8,2,3,6] ?_
 refine G.op rfl (G.store kr rfl rfl (sub_one1 _ _ _ _ _) selT leT ?_)
 refine go [7,8,9] ?_
 refine G.drawE (nn := 11) (p := [que 92 5 _ _ _]) (rem := 255) [0, 0, 2, 4, 8, 0, 32, 80, 255, 511, 767] [0, 0, 2, 4, 8, 0, 32, 80, 1, 256, 640] [10, 9, 8] [1023, 511, 255] 8 kr ⟨rfl, by kernel_rfl, by kernel_rfl⟩ kr kr kr subT (fun hT5 => ?_)
 refine go [22,0,254,0,22,1,252,0,22,2,248,8,22,3,240,3,7,22,4,224,50,0,24,5,192] ?_
 refine G.turnOp rfl rfl (G.val rfl rfl (pv_loadN (cs := awC X) Tryz.underlying92 rfl kr rfl (blk_range (k := 5) selD rfl)) ?_)
 refine go [26,24,6,128] ?_
 refine G.turnOp rfl rfl (G.buildSlice (z := .agg #[.int .i64 0, .slice none 0 0, .slice none 0 0, .slice none 0 0, .nilFunc]) (sz := 5) (cs := awC X) rfl Tryz.underlying83 kr (by decide) (by decide) rfl kr ?_)
 intro b45
 refine go [26,24,7,0] ?_
 refine G.turnOp rfl rfl (G.appendQ (k := z.wait.length) (j := 1) (cs := z.wait.flatMap awC) (news := awC X) (b := b45) (off := 0) rfl Tryz.underlying83 Tryz.infoAw rfl rfl rfl selT (by omega) rfl (blk_news (k := 5) selT rfl) (awC_one hX) (by omega) (by omega) ?_)
 intro vq
 rw [awC_app, show z.wait.length + 1 = (z.wait ++ [X]).length from by rw [List.length_append]; rfl]
 refine G.queFact (v := vq) selT (fun hvq _ _ _ _ => ?_)
 refine go [26,27] ?_
 refine G.tailS [10, 9] 8 rfl ?_
 refine go [25,8] ?_
 refine G.tailS [10] 9 rfl ?_
 refine go [25,3,7] ?_
 refine G.tailS [] 10 rfl ?_
 refine go [30] ?_
 refine G.tailD ?_
 refine go [8,9,10,2,3,0] ?_
 refine G.op rfl (G.val rfl rfl (pv_loadN (cs := nvC X.nv) Tryz.underlying33 rfl kr rfl (blk_range (k := 4) selT rfl)) ?_)
 refine go [60,3] ?_
 intro b5
 refine G.op rfl (G.storeN (vs := nvC X.nv) kr rfl rfl (List.all_eq_true.2 (nvC_one hX.1)) selT (by show 0 + 4 ≤ 4; omega) ?_)
 rw [show putN [.int .i64 0, .slice none 0 0, .slice none 0 0, .slice none 0 0] 0 (nvC X.nv) = [.int .i64 X.nv.n.k, X.nv.vN, X.nv.vI, X.nv.vB] from rfl]
 obtain ⟨hx1, hx2, hx3, hx4, hx5, hx6, hx7⟩ := hX.1
 refine go [7,8,9] ?_
 refine G.drawE (nn := 15) (p := []) (rem := 1023) [0, 1, 2, 0, 8, 20, 0, 64, 160, 223, 991, 1791, 3839, 8191, 16383] [0, 1, 2, 0, 8, 16, 0, 64, 128, 0, 516, 0, 2080, 0, 8448] [14, 13, 12, 11, 10] [16383, 8191, 4095, 2047, 1023] 10 kr ⟨rfl, by kernel_rfl, by kernel_rfl⟩ kr kr kr subT (fun hT7 => ?_)
 refine go [22,0,1022,3,1,22,3,1014,3,2,22,6,950,3,3,22,1,948,50,0,22,4,932,50,0,22,7,804,50,0,24,2,800] ?_
 refine G.ownNil 3 1 ?_
 refine G.turnOp rfl rfl (G.appendS (k := 0) (cs := []) (xs := X.nv.n.ns) (f := vInt) (p := I64) (Ps := F) rfl Tryz.underlying29 Tryz.infoInt' rfl rfl selT (frz_sl selT hx1) (vInt_one _) (by omega) (by omega) ?_)
 intro vN
 rw [Nat.zero_add X.nv.n.ns.length, List.nil_append]
 refine G.ownFact (v := vN) selT (fun hvN _ => ?_)
 refine go [26,22,9,288,3,1,24,5,256,60,5] ?_
 refine G.turnOp rfl rfl (G.appendI (k := 0) (cs := []) (ids := X.nv.n.ids) (Ps := F) rfl Tryz.underlying30 Tryz.infoID' rfl rfl selT (frz_sl selT hx2) (by omega) ?_)
 intro vI
 rw [Nat.zero_add X.nv.n.ids.length, List.nil_append]
 refine G.ownFact (v := vI) selT (fun hvI _ => ?_)
 refine go [26,24,8,0] ?_
 refine G.ownNil 5 1 ?_
 refine G.turnOp rfl rfl (G.appendS (k := 0) (cs := []) (xs := X.nv.n.bs) (f := vByte) (p := fun _ => True) (Ps := F) rfl Tryz.underlying31 Tryz.infoByte' rfl rfl selT (frz_sl selT hx3) (vByte_one _) (by omega) (by omega) ?_)
 intro vB
 rw [Nat.zero_add X.nv.n.bs.length, List.nil_append]
 refine G.ownFact (v := vB) selT (fun hvB _ => ?_)
 refine go [26,27] ?_
 refine G.tailS [14, 13, 12, 11] 10 rfl ?_
 refine go [30] ?_
 refine G.tailS [14, 13, 12] 11 rfl ?_
 refine go [25,3,2] ?_
 refine G.tailS [14, 13] 12 rfl ?_
 refine go [30] ?_
 refine G.tailS [14] 13 rfl ?_
 refine go [25,3,3] ?_
 refine G.tailS [] 14 rfl ?_
 refine go [30] ?_
 refine G.tailD ?_
 refine go [8,9,10,2,50,7,20,1,7,8,11] ?_
 rw [show sentN z.pm = X.nv.n from by unfold sentN; rw [sendP_yes hXt hw8]; rfl, sendP_yes hXt hw8]
 exact G.doneG (({ z with leftv := subV 5 cL 1 z.left.length dL, left := t, waitv := vq, wait := z.wait ++ [X] }, vN, vI, vB)) (by first | exact trivial | ((try dsimp only) <;> exact ⟨⟨hz.b, hz.l, hz.lk, (by have h0 := hz.left; rw [hvL, hXt] at h0; have := sub_tail h0; rwa [← hXl] at this), (fun y hy => hz.leftO y (by rw [hXt]; exact List.mem_cons_of_mem _ hy)), (fun y hy => by rcases List.mem_append.1 hy with hy | hy; exact hz.wait y hy; obtain rfl : y = X := (by simpa using hy); exact hz.leftO _ (by rw [hXt]; exact List.mem_cons_self ..)), hz.lacks⟩, rfl⟩)) rfl (Rv.cellN (cs := [_, _, _, _]) rfl Tryz.underlying33 rfl kr Y23 (Rv.tmp rfl Rv.nil)) rfl subT
theorem checkS_zero {s : Sh} {ns : List Int} {il bl : Nat} (h : checkS s ns il bl = 0) : s.n ≤ (ns.length : Int) ∧ (ns.length : Int) ≤ s.ns ∧ s.i ≤ (il : Int) ∧ (il : Int) ≤ s.is ∧ s.b ≤ (bl : Int) ∧ (bl : Int) ≤ s.bs ∧ ns.all okN = true := by
 unfold checkS at h
 split at h
 ·cases h
 rename_i h1
 split at h
 ·rename_i h2
  exact ⟨by omega, by omega, by omega, by omega, by omega, by omega, h2⟩
 cases h
theorem check_some {k : Int} {ns : List Int} {il bl : Nat} (h : ncheckM k ns il bl = 0) : ∃ s, shM k = some s ∧ checkS s ns il bl = 0 := by
 unfold ncheckM at h
 cases e : shM k with
 | none => rw [e] at h; cases h
 | some s => rw [e] at h; exact ⟨s, rfl, h⟩
theorem sh16 : (shM 16).map (·.n) = some 1 := by kernel_rfl
theorem sh18 : (shM 18).map (·.i) = some 1 := by kernel_rfl
theorem sh19 : (shM 19).map (·.n) = some 1 := by kernel_rfl
theorem sh20 : (shM 20).map (·.n) = some 2 := by kernel_rfl
theorem check_y {k : Int} {ns : List Int} {ids : List (List UInt8)} {bs : List UInt8} (h : ncheckM k ns ids.length bs.length = 0) : YOk ⟨k, ns, ids, bs⟩ := by
 obtain ⟨s, h1, h2⟩ := check_some h
 have h3 := checkS_zero h2
 refine ⟨fun hk => ?_, fun hk => ?_⟩
 ·have hs : s.n = 1 ∨ s.n = 2 := by
   rcases hk with hk | hk | hk
   ·have := sh16
    rw [← (show k = 16 from hk), h1] at this
    exact .inl (Option.some.inj this)
   ·have := sh19
    rw [← (show k = 19 from hk), h1] at this
    exact .inl (Option.some.inj this)
   have := sh20
   rw [← (show k = 20 from hk), h1] at this
   exact .inr (Option.some.inj this)
  show 0 < ns.length
  omega
 have hs : s.i = 1 := by
  have := sh18
  rw [← (show k = 18 from hk), h1] at this
  exact Option.some.inj this
 show 0 < ids.length
 omega
def takeB (p : PM) (x y : Nt) : PM :=
 if ncheckM y.k y.ns y.ids.length y.bs.length ≠ 0 then endP p 0 370
 else if y.k = 20 ∧ againP p y = true then enterM p 3
 else if y.k = 20 ∧ n0 y.ns ≠ 0 then endP p 0 (n0 y.ns)
 else if (judP p.ph p x y).1 = false then endP (judP p.ph p x y).2 0 370
 else if (judP p.ph p x y).2.over = false ∧ (judP p.ph p x y).2.left.length + (judP p.ph p x y).2.wait.length = 0 then enterM (judP p.ph p x y).2 ((judP p.ph p x y).2.ph + 1)
 else (judP p.ph p x y).2
def takeM (p : PM) (y : Nt) : Int × PM := if p.over = true ∨ p.wait = [] then (9, p) else (0, takeB { p with wait := p.wait.tail } (p.wait.headD ntz) y)
theorem takeM_no {p : PM} {y : Nt} (h : p.over = true ∨ p.wait = []) : takeM p y = (9, p) := if_pos h
theorem takeM_go {z : PZ} {X : Aw} {t : List Aw} {y : Nt} (v : Value) (h : z.over = false) (e : z.wait = X :: t) : takeM z.pm y = (0, takeB ({ z with waitv := v, wait := t } : PZ).pm X.nv.n y) := by
 unfold takeM
 rw [if_neg (by show ¬ (z.over = true ∨ aws z.wait = []); rw [h, e]; intro hh; rcases hh with hh | hh <;> cases hh)]
 show ((0 : Int), takeB { z.pm with wait := (aws z.wait).tail } ((aws z.wait).headD ntz) y) = _
 rw [e]
 rfl
section
variable {p : PM} {x y : Nt}
theorem takeB_bad (h : ncheckM y.k y.ns y.ids.length y.bs.length ≠ 0) : takeB p x y = endP p 0 370 := if_pos h
theorem takeB_again (h : ncheckM y.k y.ns y.ids.length y.bs.length = 0) (h1 : y.k = 20 ∧ againP p y = true) : takeB p x y = enterM p 3 := (if_neg (not_not_intro h)).trans (if_pos h1)
theorem takeB_fail (h : ncheckM y.k y.ns y.ids.length y.bs.length = 0) (h1 : ¬ (y.k = 20 ∧ againP p y = true)) (h2 : y.k = 20 ∧ n0 y.ns ≠ 0) : takeB p x y = endP p 0 (n0 y.ns) := (if_neg (not_not_intro h)).trans ((if_neg h1).trans (if_pos h2))
theorem takeB_jud (h : ncheckM y.k y.ns y.ids.length y.bs.length = 0) (h1 : ¬ (y.k = 20 ∧ againP p y = true)) (h2 : ¬ (y.k = 20 ∧ n0 y.ns ≠ 0)) : takeB p x y =
 if (judP p.ph p x y).1 = false then endP (judP p.ph p x y).2 0 370
 else if (judP p.ph p x y).2.over = false ∧ (judP p.ph p x y).2.left.length + (judP p.ph p x y).2.wait.length = 0 then enterM (judP p.ph p x y).2 ((judP p.ph p x y).2.ph + 1)
 else (judP p.ph p x y).2 := (if_neg (not_not_intro h)).trans ((if_neg h1).trans (if_neg h2))
theorem judP_same (ph : Nat) (p : PM) (x y : Nt) : (judP ph p x y).2.rounds = p.rounds ∧ (judP ph p x y).2.cm = p.cm ∧ (judP ph p x y).2.tk = p.tk ∧ (judP ph p x y).2.b = p.b ∧ (judP ph p x y).2.l = p.l ∧ (judP ph p x y).2.made = p.made ∧ (judP ph p x y).2.ph = p.ph ∧ (judP ph p x y).2.lacks.length ≤ p.lacks.length + x.ids.length ∧ (judP ph p x y).2.left.length + (judP ph p x y).2.wait.length ≤ p.left.length + p.wait.length := by
 have hh : (hadP p x y).2.lacks.length ≤ p.lacks.length + x.ids.length := by
  unfold hadP
  split
  ·exact Nat.le_add_right _ _
  split
  ·exact Nat.le_add_right _ _
  rename_i h1 _
  have h2 := lackT_len p.lacks p.l p.asked y.ns y.ns.length
  show (lackT p.lacks p.l p.asked y.ns y.ns.length).length ≤ _
  omega
 unfold judP
 split
 ·unfold begunP; split <;> exact ⟨rfl, rfl, rfl, rfl, rfl, rfl, rfl, Nat.le_add_right _ _, by first | exact Nat.le_refl _ | exact Nat.zero_le _⟩
 ·exact ⟨rfl, rfl, rfl, rfl, rfl, rfl, rfl, Nat.le_add_right _ _, by first | exact Nat.le_refl _ | exact Nat.zero_le _⟩
 ·refine ⟨?_, ?_, ?_, ?_, ?_, ?_, ?_, hh, ?_⟩ <;> unfold hadP <;> split <;> first | rfl | exact Nat.le_refl _ | (split <;> first | rfl | exact Nat.le_refl _)
 ·exact ⟨rfl, rfl, rfl, rfl, rfl, rfl, rfl, Nat.le_add_right _ _, by first | exact Nat.le_refl _ | exact Nat.zero_le _⟩
 unfold committedP; dsimp only; split <;> exact ⟨rfl, rfl, rfl, rfl, rfl, rfl, rfl, Nat.le_add_right _ _, by first | exact Nat.le_refl _ | exact Nat.zero_le _⟩
theorem jud5 {ph : Nat} (h1 : 1 ≤ ph ∧ ph ≤ 5) (h : (judP ph p x y).1 = true) (ho : (judP ph p x y).2.over = false) : ph ≤ 4 := by
 rcases (show ph ≤ 4 ∨ ph = 5 by omega) with h2 | rfl
 ·exact h2
 exfalso
 change (committedP p x y).1 = true at h
 change (committedP p x y).2.over = false at ho
 by_cases hk : y.k = 19
 ·rw [committedP_done hk] at ho
  cases ho
 rw [committedP_on hk] at h
 cases h
end
theorem mid_row (pre a b sp : List Value) (h : a.length = 5) : ((pre ++ ((a ++ b) ++ sp)).drop (pre.length + 0 * 5)).take 5 = a := by
 rw [Nat.zero_mul, Nat.add_zero, List.drop_left, List.append_assoc]
 exact List.take_left' h
theorem G.recast {n : Nat} {w0 : World} {S : Nat → Prop} {l : Fr} {m : List Ck} {K : Act → World → Prop} {c c' : Ck} {r : List Ck} (e : c = c') (hs : Sel m c r) (h : G n w0 S l (c' :: r) K) : G n w0 S l m K := fun a w ha hw => h a w ha (e ▸ hw.sel hs)
theorem pm_pg {z : PZ} (h : PmOk z.pm) (hl : z.l.length ≤ 10000000) : PgOk z := ⟨h.cm, h.tk, h.b, hl, by have := h.lacks; rw [pm_l] at this; simp only [PZ.pm, cks, List.length_map] at this; omega, by have := h.rounds; show z.rounds ≤ 1000; exact Nat.le_trans this (by omega)⟩
theorem pm_zero {z : PZ} (h : z.over = false ∧ z.left.length + z.wait.length = 0) : z.pm.over = false ∧ z.pm.left.length + z.pm.wait.length = 0 := ⟨h.1, by show (aws z.left).length + (aws z.wait).length = 0; rw [aws_length, aws_length]; exact h.2⟩
theorem pm_zero' {z : PZ} (h : z.pm.over = false ∧ z.pm.left.length + z.pm.wait.length = 0) : z.over = false ∧ z.left.length + z.wait.length = 0 := ⟨h.1, by have := h.2; change (aws z.left).length + (aws z.wait).length = 0 at this; rwa [aws_length, aws_length] at this⟩
theorem pg_jud {z z2 : PZ} {x y : Nt} {ph : Nat} (hg : PgOk z) (hpm : z2.pm = (judP ph z.pm x y).2) (hlk : z.lacks.length + x.ids.length ≤ 20000000) : PgOk z2 := by
 have hs := judP_same ph z.pm x y
 rw [← hpm] at hs
 obtain ⟨h1, h2, h3, h4, h5, -, -, h6, -⟩ := hs
 have e1 : z2.rounds = z.rounds := h1
 have e2 : z2.cm = z.cm := h2
 have e3 : z2.tk = z.tk := h3
 have e4 : z2.b = z.b := h4
 have e5 : z2.l.length = z.l.length := by rw [← pm_l z2, ← pm_l z, h5]
 have e6 : z2.lacks.length ≤ z.lacks.length + x.ids.length := by
  have h7 : (cks z2.lacks).length ≤ (cks z.lacks).length + x.ids.length := h6
  simpa [cks] using h7
 exact ⟨by rw [e2]; exact hg.cm, by rw [e3]; exact hg.tk, by rw [e4]; exact hg.b, by rw [e5]; exact hg.l, by omega, by rw [e1]; exact hg.rounds⟩
theorem head_ok {z : PZ} {X : Aw} {t : List Aw} {v : Value} (h : PmOk z.pm) (ho : z.over = false) (e : z.wait = X :: t) : XOk z.ph ({ z with waitv := v, wait := t } : PZ).pm X.nv.n := by
 have hm : X.nv.n ∈ z.pm.left ++ z.pm.wait := List.mem_append_right _ (by show X.nv.n ∈ aws z.wait; rw [e]; exact List.mem_cons_self ..)
 refine ⟨fun hp => h.two hp _ hm, fun hp => ?_, fun hp => h.four hp _ hm⟩
 have h3 := (h.three ho hp).1
 have : z.pm.wait = X.nv.n :: aws t := by show aws z.wait = _; rw [e]; rfl
 rw [this, List.cons_append, List.map_cons, List.sum_cons] at h3
 show z.asked + X.nv.n.ids.length ≤ z.pm.l.length
 change z.asked + _ = _ at h3
 omega
set_option maxRecDepth 20000 in
set_option maxHeartbeats 4000000 in
theorem ptake_tr {F : Nat → Prop} {W : World} {Pv1 Pv2 Pv3 : Nat → Prop} (k : Int) (v1 v2 v3 : Value) (ns : List Int) (ids : List (List UInt8)) (bs : List UInt8) (D : Nat) (z : PZ) (hz : PvOk F W z) (hp : PmOk z.pm) (hl : z.l.length ≤ 10000000) : Tr Tryz.prog 14 #[.pointer (some ⟨D, 0, none⟩), .agg #[.int .i64 k, v1, v2, v3]] [slc rInt Pv1 v1 ns, slc rID Pv2 v2 ids, slc rByte Pv3 v3 bs] [blk D 85 [.bool z.made, z.bv, z.lv, .int .i64 z.cm, .int .i64 z.tk, .int .i64 (z.ph : Nat), z.leftv, z.waitv, .int .i64 (z.asked : Nat), z.lacksv, .int .i64 (z.rounds : Nat), .bool z.over, .int .i64 z.num, .int .i64 z.e], frz F W, que 92 5 z.waitv z.wait.length (z.wait.flatMap awC), own 54 17 z.lacksv z.lacks.length (z.lacks.flatMap chC)]
 (TX (fun x : PZ × (Nat → Prop) × World => Up F W x.2.1 x.2.2 ∧ PvOk x.2.1 x.2.2 x.1 ∧ x.1.pm = (takeM z.pm ⟨k, ns, ids, bs⟩).2) (fun _ => .int .i64 (takeM z.pm ⟨k, ns, ids, bs⟩).1) (fun x => [blk D 85 [.bool x.1.made, x.1.bv, x.1.lv, .int .i64 x.1.cm, .int .i64 x.1.tk, .int .i64 (x.1.ph : Nat), x.1.leftv, x.1.waitv, .int .i64 (x.1.asked : Nat), x.1.lacksv, .int .i64 (x.1.rounds : Nat), .bool x.1.over, .int .i64 x.1.num, .int .i64 x.1.e], frz x.2.1 x.2.2, que 92 5 x.1.waitv x.1.wait.length (x.1.wait.flatMap awC), own 54 17 x.1.lacksv x.1.lacks.length (x.1.lacks.flatMap chC)])) := by
 refine Tr.of (l := [(0, .pointer (some ⟨D, 0, none⟩)), (1, .agg #[.int .i64 k, v1, v2, v3])]) Tryz.func14 rfl (n := 113) rfl (.cons rfl (.cons rfl .nil)) (fun w0 hro => ?_)
 obtain ⟨hA, hB, hC⟩ := ro3 hro
 have oa := Ro.open hA
 have ob := Ro.open hB
 have oc := Ro.open hC
 obtain ⟨aa, ca, qa, oa', rfl, hca, hma, -, had, hel⟩ := oa
 obtain ⟨ab, cb, qb, ob', rfl, hcb, hmb, -, hbd, hbl⟩ := ob
 obtain ⟨ac, cc, qc, oc', rfl, hcc, -⟩ := oc
 refine G.queFact (v := z.waitv) selT (fun _ hql qad qcap hvw => ?_)
 have hm : z.made = true := hp.made
 have hph5 : 1 ≤ z.ph ∧ z.ph ≤ 5 := hp.ph
 have hr3 : z.rounds ≤ 3 := hp.rounds
 refine go [9,10,60,2] ?_
 intro b3
 refine go [1,7,8,9,15,9,10,0,2,50,3,0,3,0,3,8,3,3,0] ?_
 refine G.want rfl rfl rfl (G.val rfl rfl ((pv_load (v := .bool z.made) Tryz.underlying4 rfl rfl (by exact blk_cell selD (by rfl))).cast (congrArg Value.bool hm)) ?_)
 refine go [3,25,2,2,1,7,8,60,0,9,10,0,2,8,2,3,11,2,50,0,0] ?_
 refine G.part (t := 21) rfl (fun h21 => ?_) (fun h21 => ?_)
 ·refine go [4,4,4,4,4,4,2,2,1,7,8,60,1,9,10,1,7,8,11,17,12] ?_
  rw [takeM_no (Or.inl (show z.over = true from by simpa using h21))]
  exact G.doneX1 ((z, F, W)) (by first | exact trivial | ((try dsimp only) <;> exact ⟨Up.refl _ _, hz, rfl⟩)) rfl rfl rfl subT
 have hov : z.over = false := by simpa using h21
 refine go [3,0,3,8,3,3,7] ?_
 refine G.want rfl rfl rfl (G.val rfl rfl ((pv_load (v := z.waitv) Tryz.underlying83 rfl rfl (by exact blk_cell selD (by rfl))).cast hvw) ?_)
 refine go [3,5,3,13,2,2,1,7,8] ?_
 refine G.condP rfl (fun h16 => ?_) (fun h16 => ?_)
 ·refine go [9,10,1,7,8,11,17,12] ?_
  rw [takeM_no (Or.inr (aws_nil (by omega)))]
  exact G.doneX1 ((z, F, W)) (by first | exact trivial | ((try dsimp only) <;> exact ⟨Up.refl _ _, hz, rfl⟩)) rfl rfl rfl subT
 obtain ⟨X, t, hXt⟩ : ∃ X t, z.wait = X :: t := by cases e : z.wait with | nil => (exfalso; have h0 := congrArg List.length e; rw [List.length_nil] at h0; omega) | cons X t => exact ⟨X, t, rfl⟩
 obtain ⟨hX, hXp⟩ := hz.wait X (by rw [hXt]; exact List.mem_cons_self ..)
 refine G.recast (c := que 92 5 z.waitv z.wait.length (z.wait.flatMap awC)) (c' := que 92 5 z.waitv (t.length + 1) (awC X ++ t.flatMap awC)) (by rw [hXt]; rfl) selT ?_
 refine G.queTo (v := z.waitv) selT (by omega) (fun qg qc qp qs hqv hq1 hq2 hq3 hq4 => ?_)
 refine go [13,16,8,9,10,0,2,8,2,3,7] ?_
 refine G.op rfl (G.val rfl rfl ((pv_load (v := z.waitv) Tryz.underlying83 rfl rfl (by exact blk_cell selD (by rfl))).cast hqv) ?_)
 refine G.op rfl (G.val rfl rfl (pv_ixSl (sz := 5) (k := 0) Tryz.underlying83 kr rfl rfl (fun _ => rfl) rfl (by omega)) ?_)
 refine G.op rfl (G.val rfl rfl (pv_loadN (cs := awC X) Tryz.underlying92 rfl kr rfl (blk_range (k := 5) selT (mid_row _ _ _ _ rfl))) ?_)
 refine G.op rfl (G.alloc (z := .agg #[.int .i64 0, .slice none 0 0, .slice none 0 0, .slice none 0 0, .nilFunc]) (cs := [.int .i64 0, .slice none 0 0, .slice none 0 0, .slice none 0 0, .nilFunc]) rfl kr rfl ?_)
 intro b5
 refine G.op rfl (G.storeN (vs := awC X) kr rfl rfl (List.all_eq_true.2 (awC_one hX)) selT (by show 0 + 5 ≤ 5; omega) ?_)
 rw [show putN [.int .i64 0, .slice none 0 0, .slice none 0 0, .slice none 0 0, .nilFunc] 0 (awC X) = awC X from rfl]
 refine go [7,8,9,10,0,0,2,8,2,3,7] ?_
 refine G.op rfl (G.val rfl rfl ((pv_load (v := z.waitv) Tryz.underlying83 rfl rfl (by exact blk_cell selD (by rfl))).cast hqv) ?_)
 refine G.op rfl (G.val rfl rfl (pv_subL (sz := 5) (k := 1) Tryz.underlying83 kr rfl rfl rfl (by omega)) ?_)
 refine go [2,8,2,3,7] ?_
 refine G.op rfl (G.store kr rfl rfl (sub_one1 _ _ _ _ _) selT leT ?_)
 refine G.queTail (e := 92) (sz := 5) (k := t.length) (c1 := awC X) selT rfl hq4 hq1 hq2 hq3 ?_
 obtain ⟨z1, hz1⟩ : ∃ z1 : PZ, z1 = { z with waitv := subV 5 (some ⟨qg, qp.length, none⟩) 1 (t.length + 1) qc, wait := t } := ⟨_, rfl⟩
 refine G.recast (c := blk D 85 _) (c' := blk D 85 [.bool z1.made, z1.bv, z1.lv, .int .i64 z1.cm, .int .i64 z1.tk, .int .i64 (z1.ph : Nat), z1.leftv, z1.waitv, .int .i64 (z1.asked : Nat), z1.lacksv, .int .i64 (z1.rounds : Nat), .bool z1.over, .int .i64 z1.num, .int .i64 z1.e]) (by rw [hz1]) selT ?_
 refine G.recast (c := que 92 5 _ _ _) (c' := que 92 5 z1.waitv z1.wait.length (z1.wait.flatMap awC)) (by rw [hz1]) selT ?_
 refine G.recast (c := own 54 17 _ _ _) (c' := own 54 17 z1.lacksv z1.lacks.length (z1.lacks.flatMap chC)) (by rw [hz1]) selT ?_
 have hz1ok : PvOk F W z1 := by rw [hz1]; exact ⟨hz.b, hz.l, hz.lk, hz.left, hz.leftO, fun y hy => hz.wait y (by rw [hXt]; exact List.mem_cons_of_mem _ hy), hz.lacks⟩
 have hT : takeM z.pm ⟨k, ns, ids, bs⟩ = (0, takeB z1.pm X.nv.n ⟨k, ns, ids, bs⟩) := by rw [hz1]; exact takeM_go _ hov hXt
 have hph1 : z1.ph = z.ph := by rw [hz1]
 have hov1 : z1.over = false := by rw [hz1]; exact hov
 have hr1 : z1.rounds ≤ 3 := by rw [hz1]; exact hr3
 have hl1 : z1.l.length ≤ 10000000 := by rw [hz1]; exact hl
 have hg1 : PgOk z1 := by have := pm_pg hp hl; rw [hz1]; exact ⟨this.cm, this.tk, this.b, this.l, this.lacks, this.rounds⟩
 have hxo : XOk X.ph z1.pm X.nv.n := by rw [hXp, hz1]; exact head_ok hp hov hXt
 have hfew : z1.left.length + z1.wait.length ≤ 200000000 := by have := hp.few; have h1 := aws_length z.left; have h2 := aws_length z.wait; change (aws z.left).length + (aws z.wait).length ≤ _ at this; rw [hz1]; show z.left.length + t.length ≤ _; have h3 : z.wait.length = t.length + 1 := (by rw [hXt]; rfl); omega
 have hlk1 : z1.lacks.length ≤ 10000000 := by have := hp.lacks; rw [pm_l] at this; have h2 : (cks z.lacks).length ≤ z.l.length := this; rw [hz1]; show z.lacks.length ≤ _; simp only [cks, List.length_map] at h2; omega
 have hlk2 : z1.lacks.length + X.nv.n.ids.length ≤ 20000000 := by have := hX.1.2.2.2.2.2.1; omega
 have hX5 : 1 ≤ X.ph ∧ X.ph ≤ 5 := by rw [hXp]; exact hph5
 have hXp1 : X.ph = z1.ph := hXp.trans hph1.symm
 clear hz1
 refine go [7,8,9,15,9,10,2,50,7] ?_
 refine G.op rfl (G.cR rfl rfl rfl rfl Tryz.func46 rfl rfl (may3 Y8 Y8 Y8) (checkF k _ _ _ ns ids bs) ?_)
 refine go [2,14,1,7,8] ?_
 refine G.condP rfl (fun h43 => ?_) (fun h43 => ?_)
 ·refine go [10,0] ?_
  refine G.op rfl (G.cS rfl rfl rfl rfl Tryz.func47 rfl rfl subT may0 (pend_tr D z1 0 370) apT ?_)
  intro x48 hJ
  try dsimp only at hJ
  try dsimp only
  refine go [7,16,8,9,10,1,7,8,11] ?_
  rw [hT, takeB_bad (show ncheckM k ns ids.length bs.length ≠ 0 from by omega)]
  exact G.doneX1 ((z1.end 0 370, F, W)) (by first | exact trivial | ((try dsimp only) <;> exact ⟨Up.refl _ _, end_ok hz1ok _ _, rfl⟩)) rfl rfl rfl subT
 have hck : ncheckM k ns ids.length bs.length = 0 := by omega
 have hy : YOk ⟨k, ns, ids, bs⟩ := check_y hck
 refine G.seq ?_
 refine G.cutK (X := Unit) (ts := [0, 3, 4, 5]) (p := []) (fun _ => True) (fun _ => [(49, .bool (decide (k = 20 ∧ againP z1.pm ⟨k, ns, ids, bs⟩ = true)))]) (fun _ => []) (.cons rfl (.cons rfl (.cons rfl (.cons rfl .nil)))) subT (.cons .nil) apT ?_ ?_
 ·refine go [10,2,3,0,2,50,0,2,13,0] ?_
  refine G.partP (t := 53) rfl (fun h53 => ?_) (fun h53 => ?_)
  ·have hlt : 0 < ns.length := hy.1 (Or.inr (Or.inr (by assumption)))
   refine go [3,0,3,50,7] ?_
   refine G.want rfl rfl rfl (G.cR rfl rfl rfl rfl Tryz.func48 rfl rfl (may4 (Sel.may selT) (.old hA) (.old hB) (.old hC)) (again_tr (F := F) (W := W) k _ _ _ ns ids bs D z1 hz1ok hlt) ?_)
   refine go [2,2,1,7] ?_
   exact G.meet (()) trT (.consE rfl (congrArg Value.bool (by have h9 : k = 20 := (by assumption); simp [h9])) (.cons rfl (.cons rfl (.cons rfl (.cons rfl .nil))))) subT
  refine go [4,4,4,2,2,1,7] ?_
  exact G.meet (()) trT (.consE rfl (congrArg Value.bool (by have h9 : ¬ k = 20 := (by assumption); simp [h9])) (.cons rfl (.cons rfl (.cons rfl (.cons rfl .nil))))) subT
 intro _ hJ
 try dsimp only at hJ
 try dsimp only
 refine G.condP rfl (fun h49 => ?_) (fun h49 => ?_)
 ·refine go [10,0] ?_
  refine G.op rfl (G.cS rfl rfl rfl rfl Tryz.func49 rfl rfl subT may0 (enter_tr (F := F) (W := W) D z1 3 (by omega) hz1ok hg1 hr1) apT ?_)
  intro x59 hJ
  obtain ⟨z3, F3, W3⟩ := x59
  try dsimp only at hJ
  try dsimp only
  refine go [7,16,8,9,10,1,7,8,11] ?_
  rw [hT, takeB_again hck (by assumption)]
  exact G.doneX1 ((z3, F3, W3)) Y19 rfl rfl rfl subT
 have hna : ¬ (k = 20 ∧ againP z1.pm ⟨k, ns, ids, bs⟩ = true) := by assumption
 refine G.seq ?_
 refine G.cutK (X := Unit) (ts := [0, 3, 4, 5]) (p := []) (fun _ => True) (fun _ => [(60, .bool (decide (k = 20 ∧ n0 ns ≠ 0)))]) (fun _ => []) (.cons rfl (.cons rfl (.cons rfl (.cons rfl .nil)))) subT (.cons .nil) apT ?_ ?_
 ·refine go [10,2,3,0,2,50,0,2,13,0] ?_
  refine G.partP (t := 64) rfl (fun h64 => ?_) (fun h64 => ?_)
  ·have hlt : 0 < ns.length := hy.1 (Or.inr (Or.inr (by assumption)))
   have hE := hel 0 hlt
   have h0 : n0 ns = ns[0] := n0_eq hlt
   refine go [3,3,1,3,50,0] ?_
   refine G.want rfl rfl rfl (G.val rfl rfl (pv_ixSl (sz := 1) (k := 0) Tryz.underlying29 kr rfl rfl had rfl (by omega)) ?_)
   refine G.want rfl rfl rfl (G.val rfl rfl (pv_load (v := .int .i64 ns[0]) Tryz.underlying3 rfl rfl (ro_int hE)) ?_)
   refine go [3,14,2,2,1,7] ?_
   exact G.meet (()) trT (.consE rfl (congrArg Value.bool (by have h9 : k = 20 := (by assumption); simp [h9, h0])) (.cons rfl (.cons rfl (.cons rfl (.cons rfl .nil))))) subT
  refine go [4,4,4,4,4,2,2,1,7] ?_
  exact G.meet (()) trT (.consE rfl (congrArg Value.bool (by have h9 : ¬ k = 20 := (by assumption); simp [h9])) (.cons rfl (.cons rfl (.cons rfl (.cons rfl .nil))))) subT
 intro _ hJ
 try dsimp only at hJ
 try dsimp only
 refine G.condP rfl (fun h60 => ?_) (fun h60 => ?_)
 ·have hf : k = 20 ∧ n0 ns ≠ 0 := by assumption
  have hlt : 0 < ns.length := hy.1 (Or.inr (Or.inr hf.1))
  have hE := hel 0 hlt
  have h0 : n0 ns = ns[0] := n0_eq hlt
  refine go [10,0,2,3,1,2,50,0] ?_
  refine G.op rfl (G.val rfl rfl (pv_ixSl (sz := 1) (k := 0) Tryz.underlying29 kr rfl rfl had rfl (by omega)) ?_)
  refine G.op rfl (G.val rfl rfl (pv_load (v := .int .i64 ns[0]) Tryz.underlying3 rfl rfl (ro_int hE)) ?_)
  refine G.op rfl (G.cS rfl rfl rfl rfl Tryz.func47 rfl rfl subT may0 (pend_tr D z1 0 ns[0]) apT ?_)
  intro x76 hJ
  try dsimp only at hJ
  try dsimp only
  refine go [7,16,8,9,10,1,7,8,11] ?_
  rw [hT, takeB_fail hck hna hf]
  try dsimp only
  rw [h0]
  exact G.doneX1 ((z1.end 0 ns[0], F, W)) (by first | exact trivial | ((try dsimp only) <;> exact ⟨Up.refl _ _, end_ok hz1ok _ _, rfl⟩)) rfl rfl rfl subT
 have hnf : ¬ (k = 20 ∧ n0 ns ≠ 0) := by assumption
 refine go [9,10,2,3,4] ?_
 refine G.op rfl (G.val rfl rfl (pv_load (v := awF X) Tryz.underlying90 rfl rfl (blk_cell selT rfl)) ?_)
 refine go [0,2,50,7] ?_
 refine G.op rfl (G.cSv (J := fun z' : PZ => PvOk F W z' ∧ z'.pm = (judP X.ph z1.pm X.nv.n ⟨k, ns, ids, bs⟩).2) rfl rfl rfl rfl rfl ⟨_, _, Tryz.func69, rfl, by rfl⟩ rfl subT (may3 (.old hA) (.old hB) (.old hC)) (enter1_tr k _ _ _ ns ids bs D z1 X hX5 hz1ok hX hy hxo hl1 hlk1) apT ?_)
 intro z2 hJ
 try dsimp only at hJ
 try dsimp only
 rw [hXp1] at hJ
 rw [hXp1]
 obtain ⟨hz2, hpm2⟩ := hJ
 have hs2 := judP_same z1.ph z1.pm X.nv.n ⟨k, ns, ids, bs⟩
 have hj5 := jud5 (ph := z1.ph) (p := z1.pm) (x := X.nv.n) (y := ⟨k, ns, ids, bs⟩) (hXp1 ▸ hX5)
 rw [← hpm2] at hs2 hj5
 obtain ⟨jb, hjb⟩ : ∃ c, (judP z1.ph z1.pm X.nv.n ⟨k, ns, ids, bs⟩).1 = c := ⟨_, rfl⟩
 rw [hjb] at hj5
 rw [hjb]
 refine go [2,25,1,7,8] ?_
 refine G.cond rfl (fun h77 => ?_) (fun h77 => ?_)
 ·have hjf : jb = false := by simpa using h77
  refine go [10,0] ?_
  refine G.op rfl (G.cS rfl rfl rfl rfl Tryz.func47 rfl rfl subT may0 (pend_tr D z2 0 370) apT ?_)
  intro x85 hJ
  try dsimp only at hJ
  try dsimp only
  refine go [7,16,8,9,10,1,7,8,11] ?_
  rw [hT, takeB_jud hck hna hnf, if_pos (by rw [← hjf]; exact hjb)]
  exact G.doneX1 ((z2.end 0 370, F, W)) (by first | exact trivial | ((try dsimp only) <;> exact ⟨Up.refl _ _, end_ok hz2 _ _, (end_pm z2 0 370).trans (by rw [hpm2]; rfl)⟩)) rfl rfl rfl subT
 have hjt : jb = true := by simpa using h77
 obtain ⟨cL, dL, eL, fL, hvL, _⟩ := hz2.left.open
 refine G.queFact (v := z2.waitv) selT (fun _ _ qad2 qcap2 hvw2 => ?_)
 have hfew2 : z2.left.length + z2.wait.length ≤ 200000000 := by have h1 := hs2.2.2.2.2.2.2.2.2; change (aws z2.left).length + (aws z2.wait).length ≤ (aws z1.left).length + (aws z1.wait).length at h1; rw [aws_length, aws_length, aws_length, aws_length] at h1; omega
 refine G.seq ?_
 refine G.cutK (X := Unit) (ts := [0, 4]) (p := []) (fun _ => True) (fun _ => [(86, .bool (decide (z2.over = false ∧ z2.left.length + z2.wait.length = 0)))]) (fun _ => []) (.cons rfl (.cons rfl .nil)) subT (.cons .nil) apT ?_ ?_
 ·refine G.drawT (nn := 20) (p := []) (rem := 1048575) [0, 1, 2, 4, 8, 16, 32, 96, 160, 288, 544, 32, 2080, 4128, 8224, 16416, 33824, 65568, 131104, 262176] [0, 1, 2, 4, 8, 16, 32, 96, 160, 288, 544, 32, 2080, 4128, 8224, 16416, 33824, 65568, 131104, 262144] kr ⟨rfl, by kernel_rfl, by kernel_rfl⟩ subT kr (fun hT15 => ?_)
  refine go [22,0,1048574,0,22,1,1048572,8,22,2,1048568,3,11,24,3,1048560,25,50,0,26,22,4,1048544,25,22,5,1048512,0] ?_
  refine G.part (t := 92) rfl (fun h92 => ?_) (fun h92 => ?_)
  ·refine go [22,6,1048448,0,22,7,1048320,8,22,8,1048064,3,6] ?_
   refine G.takeT hT15 (i := 9) (rem' := 1047552) rfl rfl rfl kr (fun _ _ _ h => h) rfl ((pv_load (v := z2.leftv) Tryz.underlying83 rfl rfl (by exact blk_cell selD (by rfl))).cast hvL) subT ?_
   refine go [22,10,1046528,5,22,11,1044480,0,22,12,1040384,8,22,13,1032192,3,7,24,14,1015808] ?_
   refine G.turnOp rfl rfl (G.val rfl rfl ((pv_load (v := z2.waitv) Tryz.underlying83 rfl rfl (by exact blk_cell selD (by rfl))).cast hvw2) ?_)
   refine go [26,22,15,983040,5,22,16,917504,6,22,17,786432,13,22,18,524288,2,22,19,0,1,27] ?_
   exact G.meet (()) trT (.consE rfl (congrArg Value.bool (by have h9 : z2.over = false := (by simpa using h92); rw [decide_eq_decide]; simp only [h9, true_and]; omega)) (.cons rfl (.cons rfl .nil))) subT
  refine go [23,6,1048448,23,7,1048320,23,8,1048064,23,9,1047552,23,10,1046528,23,11,1044480,23,12,1040384,23,13,1032192,23,14,1015808,23,15,983040,23,16,917504,23,17,786432,22,18,524288,2,22,19,0,1,27] ?_
  exact G.meet (()) trT (.consE rfl (congrArg Value.bool (by have h9 : z2.over = true := (by simpa using h92); simp [h9])) (.cons rfl (.cons rfl .nil))) subT
 intro _ hJ
 try dsimp only at hJ
 try dsimp only
 refine G.condP rfl (fun h86 => ?_) (fun h86 => ?_)
 ·have hnx : z2.over = false ∧ z2.left.length + z2.wait.length = 0 := by assumption
  have hq4 : z2.ph ≤ 4 := by have h1 := hj5 hjt hnx.1; have h2 : z2.ph = z1.ph := hs2.2.2.2.2.2.2.1; omega
  have hq1' : 1 ≤ z2.ph := by have h2 : z2.ph = z1.ph := hs2.2.2.2.2.2.2.1; omega
  have hg2 : PgOk z2 := pg_jud hg1 hpm2 hlk2
  refine go [10,0,0,2,8,2,3,5,2,50,0] ?_
  refine G.op rfl (G.val rfl rfl ((pv_add64 rfl rfl (by omega)).cast (v' := .int .i64 ((z2.ph + 1 : Nat) : Int)) (congrArg _ (by omega))) ?_)
  refine G.op rfl (G.cS rfl rfl rfl rfl Tryz.func49 rfl rfl subT may0 (enter_tr (F := F) (W := W) D z2 (z2.ph + 1) (by omega) hz2 hg2 (by have := hs2.1; change z2.rounds = z1.rounds at this; omega)) apT ?_)
  intro x112 hJ
  obtain ⟨z3, F3, W3⟩ := x112
  try dsimp only at hJ
  try dsimp only
  refine go [7,16,8,9,10,1,7,8,11] ?_
  rw [hT, takeB_jud hck hna hnf, if_neg (by rw [show (judP z1.pm.ph z1.pm X.nv.n ⟨k, ns, ids, bs⟩).1 = jb from hjb, hjt]; exact fun h => by cases h), if_pos (by rw [show (judP z1.pm.ph z1.pm X.nv.n ⟨k, ns, ids, bs⟩).2 = z2.pm from hpm2.symm]; exact pm_zero hnx)]
  exact G.doneX1 ((z3, F3, W3)) (by first | exact trivial | ((try dsimp only) <;> exact ⟨hJ.1, hJ.2.1, hJ.2.2.trans (by show enterM z2.pm (z2.pm.ph + 1) = _; rw [hpm2]; rfl)⟩)) rfl rfl rfl subT
 have hnn : ¬ (z2.over = false ∧ z2.left.length + z2.wait.length = 0) := by assumption
 refine go [13,16,8,9,10,1,7,8,11] ?_
 rw [hT, takeB_jud hck hna hnf, if_neg (by rw [show (judP z1.pm.ph z1.pm X.nv.n ⟨k, ns, ids, bs⟩).1 = jb from hjb, hjt]; exact fun h => by cases h), if_neg (by rw [show (judP z1.pm.ph z1.pm X.nv.n ⟨k, ns, ids, bs⟩).2 = z2.pm from hpm2.symm]; exact fun h => hnn (pm_zero' h))]
 exact G.doneX1 ((z2, F, W)) (by first | exact trivial | ((try dsimp only) <;> exact ⟨Up.refl _ _, hz2, hpm2⟩)) rfl rfl rfl subT
set_option maxRecDepth 20000 in
set_option maxHeartbeats 4000000 in
theorem mmakeX_tr {Ps : Nat → Prop} (c k t : Int) (v : Value) (xs : List ET) (hd : ∀ x ∈ xs, x.1.data.length ≤ 1048576) : Tr Tryz.prog 16 #[.int .i64 c, .int .i64 k, .int .i64 t, v] [slc rEV Ps v xs] []
 (TX (fun z : (Value × List IT) × Value × List CT => its z.1.2 = (mkM (⟨c, k, 0, t⟩ : Mh) (ens xs)).1.2 ∧ cks z.2.2 = (mkM (⟨c, k, 0, t⟩ : Mh) (ens xs)).2.1) (fun z => .tuple #[.agg #[.int .i64 (mkM (⟨c, k, 0, t⟩ : Mh) (ens xs)).1.1.c, .int .i64 (mkM (⟨c, k, 0, t⟩ : Mh) (ens xs)).1.1.k, .int .i64 (mkM (⟨c, k, 0, t⟩ : Mh) (ens xs)).1.1.n, .int .i64 (mkM (⟨c, k, 0, t⟩ : Mh) (ens xs)).1.1.t, z.1.1], z.2.1, .int .i64 (mkM (⟨c, k, 0, t⟩ : Mh) (ens xs)).2.2]) (fun z => [own 104 6 z.1.1 z.1.2.length (z.1.2.flatMap itC), datI 52 z.1.2, own 54 17 z.2.1 z.2.2.length (z.2.2.flatMap chC), datD 5 z.2.2])) := by
 refine Tr.of (l := [(0, .int .i64 c), (1, .int .i64 k), (2, .int .i64 t), (3, v)]) Tryz.func16 rfl (n := 64) rfl (.cons rfl (.cons rfl (.cons rfl (.cons rfl .nil)))) (fun w0 hro => ?_)
 have hv := ro1 hro
 have hv' := hv
 obtain ⟨av, cv, bv, fv, rfl, hcapv, hmaxv, hnilv, hadv, helv⟩ := Ro.openT hv
 have hel' := ens_length xs
 have hEn : ∀ e ∈ ens xs, EnOk e ∧ e.data.length ≤ 1048576 := fun e he => by obtain ⟨x, hx, rfl⟩ := List.mem_map.1 he; obtain ⟨q, hq, rfl⟩ := List.getElem_of_mem hx; exact ⟨Ro.evOk (helv q hq), hd _ hx⟩
 refine go [9,10,60,6] ?_
 intro b8
 refine go [1,1,7,8,9,9,10,0] ?_
 refine G.op rfl (G.cR rfl rfl rfl rfl Tryz.func50 rfl rfl (may1 (.old hv)) (tcheck_tr _ xs) ?_)
 refine go [0,2,7,2,7,1,1,7,8,9,10,0,2,14,7,8] ?_
 refine G.condP rfl (fun h25 => ?_) (fun h25 => ?_)
 ·refine go [9,10,2,50,12,0,20,1,1,7,8,11,12] ?_
  rw [mkM_bad (by assumption)]
  refine G.ownNil 104 6 ?_
  refine G.datINil 52 ?_
  refine G.ownNil 54 17 ?_
  refine G.datDNil 5 ?_
  exact G.doneG (((.slice none 0 0, []), .slice none 0 0, [])) (by first | exact trivial | ((try dsimp only) <;> exact ⟨rfl, rfl⟩)) rfl (Rv.cellN (cs := [_, _, _, _, _]) rfl Tryz.underlying39 rfl kr (by first | exact blk_range (k := 5) selD (by rfl)) (Rv.tmp rfl (Rv.tmp rfl Rv.nil))) rfl subT
 obtain ⟨h200, -, -⟩ := checkT_zero (es := ens xs) (by omega)
 have hz0 : (checkT (ens xs)).1 = 0 := by omega
 refine go [13,8,9,10] ?_
 refine G.op rfl (G.mapNew vID ok16 rfl ?_)
 intro bm
 refine G.op rfl (G.val rfl rfl (pv_buildSt (z := [.map none, .slice none 0 0]) (pl := [(0, 1), (1, 1)]) Tryz.underlying100 kr kr rfl flT) ?_)
 refine G.op rfl (G.box rfl rfl (cs := [_, _]) rfl ?_)
 intro b30
 refine go [1,7,8,9,10,0,0,0,2,50,12,60,6] ?_
 intro b14
 refine go [20,7,8,9,9,10,0,2,5,0,7,8,15] ?_
 refine G.ownNil 104 6 ?_
 refine G.datINil 52 ?_
 refine G.ownNil 54 17 ?_
 refine G.datDNil 5 ?_
 refine G.loopK (X := Nat × Value × (List CT) × Value × (List IT)) (ts := [8, 9, 10, 13, 14, 35, 36]) (fun st => st.1 ≤ xs.length ∧ (cks st.2.2.1 = makeC ((ens xs).take st.1) ∧ its st.2.2.2.2 = ((ens xs).take st.1).map mkI ∧ st.2.2.1.length ≤ st.1 * 1048600 ∧ st.2.2.2.2.length = st.1)) (fun st => [(37, .int .i64 (st.1 : Int))]) (fun st => [blk b30 100 [.map (some bm), st.2.1], mpc vID ok16 bm (setL (nmsC st.2.2.1)), own 54 17 st.2.1 st.2.2.1.length (st.2.2.1.flatMap chC), datD 5 st.2.2.1, own 104 6 st.2.2.2.1 st.2.2.2.2.length (st.2.2.2.2.flatMap itC), datI 52 st.2.2.2.2, blk b14 39 [.int .i64 c, .int .i64 k, .int .i64 0, .int .i64 t, st.2.2.2.1]]) (fun st => xs.length - st.1) (x0 := (0, .slice none 0 0, [], .slice none 0 0, [])) (.cons rfl (.cons rfl (.cons rfl (.cons rfl (.cons rfl (.cons rfl (.cons rfl .nil))))))) subT (.cons .nil) apT (by first | exact trivial | ((try dsimp only) <;> exact ⟨Nat.zero_le _, ⟨rfl, rfl, Nat.zero_le _, rfl⟩⟩)) (.consE rfl veqT .nil) (fun st hJ => ?_)
 obtain ⟨i, vk, cks', vw, ys⟩ := st
 try dsimp only at hJ
 try dsimp only
 obtain ⟨hki, hJ⟩ := hJ
 obtain ⟨hck, hys, hcl, hyl⟩ := hJ
 refine go [9,10,2,9,7,8,9] ?_
 refine G.condP rfl (fun h38 => ?_) (fun h38 => ?_)
 ·have hlt : i < xs.length := by omega
  have hlt' : i < (ens xs).length := by omega
  have hdi := hd _ (List.getElem_mem hlt)
  have hmk : ((ens xs).take (i + 1)).map mkI = ((ens xs).take i).map mkI ++ [mkI xs[i].1] := by rw [List.take_succ_eq_append_getElem hlt', List.map_append, ens_get hlt]; rfl
  have hcm := makeC_take hlt'
  rw [ens_get hlt] at hcm
  have hEv := helv i hlt
  have hRv := Ro.evRng hEv
  have hDv := Ro.evDat hEv
  obtain ⟨hk1v, hk2v, hlpv, hldv, hltv⟩ := Ro.evOk hEv
  have hCv := Ro.one1 hDv
  refine go [13,8,9,15,9,10] ?_
  refine G.op rfl (G.val rfl rfl (pv_ixSl (sz := 5) (k := i) Tryz.underlying35 kr rfl rfl (by first | with_reducible assumption | assumption) (by omega) (by omega)) ?_)
  refine go [2,50,4] ?_
  refine G.op rfl (G.alloc (z := .agg #[.string ⟨#[]⟩, .int .i64 0, .int .i64 0, .slice none 0 0, .string ⟨#[]⟩]) (cs := [.string ⟨#[]⟩, .int .i64 0, .int .i64 0, .slice none 0 0, .string ⟨#[]⟩]) rfl kr rfl ?_)
  intro b16
  refine go [20,7,8] ?_
  refine G.drawT (nn := 9) (p := [blk b30 _ _, mpc vID ok16 bm _, own 54 17 _ _ _, own 104 6 _ _ _, datI 52 _, datD 5 _, blk b14 _ _]) (rem := 511) [0, 1, 0, 0, 12, 16, 50, 127, 255] [0, 1, 0, 0, 12, 16, 34, 0, 192] kr ⟨rfl, by kernel_rfl, by kernel_rfl⟩ subT kr (fun hT9 => ?_)
  refine go [22,0,510,3,4,22,2,506,0] ?_
  refine G.twoT hT9 (i := 1) (j := 3) (rem' := 504) (rem'' := 498) kr kr kr ?_ ?_
  ·refine go [25,4,26,24,3,496,25,50,4,26,24,4,480] ?_
   refine G.turnOp rfl rfl (G.cS rfl rfl rfl rfl Tryz.func51 rfl rfl subT (may1 Y2) (citem_tr b30 bm _ _ cks' xs[i].1 (by omega) hdi) apT ?_)
   intro x45 hJ
   obtain ⟨vk2, ck2, vI2⟩ := x45
   try dsimp only at hJ
   try dsimp only
   obtain ⟨hc1, hc2⟩ : cks ck2 = collC (cks cks') (chunksC xs[i].1.data) ∧ ck2.length ≤ cks'.length + xs[i].1.data.length + 1 := hJ
   obtain ⟨it, hit⟩ : ∃ c, mkI xs[i].1 = c := ⟨_, rfl⟩
   rw [hit]
   refine G.ownFact (v := vI2) selT (fun h39 _ => ?_)
   refine go [26,24,5,448] ?_
   refine G.turnOp rfl rfl (G.buildSlice (z := .agg #[.string ⟨#[]⟩, .int .i64 0, .int .i64 0, .int .i64 0, .string ⟨#[]⟩, .slice none 0 0]) (sz := 6) (cs := itC (it, vI2)) rfl Tryz.underlying37 kr (by decide) (by decide) rfl kr ?_)
   intro b46
   refine go [26,24,6,384] ?_
   refine G.turnOp rfl rfl (G.append (k := ys.length) (j := 1) (cs := ys.flatMap itC) (news := itC (it, vI2)) (b := b46) (off := 0) rfl Tryz.underlying37 Tryz.infoIt rfl rfl rfl selT (fun _ => rfl) (fun h => by cases h) rfl (blk_news (k := 6) selT rfl) (itC_one h39) (by omega) (by omega) ?_)
   intro vn
   rw [itC_snoc ys (it, vI2), show ys.length + 1 = (ys ++ [(it, vI2)]).length from by rw [List.length_append]; rfl]
   refine G.datISnoc (ys := ys) (x := (it, vI2)) selT selT ?_
   refine G.ownFact (v := vn) selT (fun hvn _ => ?_)
   refine go [26,22,7,256,3,4,24,8,0,30,26,27,16,8,10,2,6,0,7] ?_
   exact G.next ((i + 1, (vk2, ck2, vn, ys ++ [(it, vI2)]))) Y18 (by (try dsimp only); omega) (.consE rfl veqT (.cons rfl (.cons rfl (.cons rfl (.cons rfl (.cons rfl (.cons rfl (.cons rfl .nil)))))))) subT
  refine go [25,50,4,26] ?_
  refine G.twoT hT9 (i := 1) (j := 4) (rem' := 496) (rem'' := 482) kr kr kr ?_ ?_
  ·refine go [25,4,26,24,4,480] ?_
   refine G.turnOp rfl rfl (G.cS rfl rfl rfl rfl Tryz.func51 rfl rfl subT (may1 Y2) (citem_tr b30 bm _ _ cks' xs[i].1 (by omega) hdi) apT ?_)
   intro x45 hJ
   obtain ⟨vk2, ck2, vI2⟩ := x45
   try dsimp only at hJ
   try dsimp only
   obtain ⟨hc1, hc2⟩ : cks ck2 = collC (cks cks') (chunksC xs[i].1.data) ∧ ck2.length ≤ cks'.length + xs[i].1.data.length + 1 := hJ
   obtain ⟨it, hit⟩ : ∃ c, mkI xs[i].1 = c := ⟨_, rfl⟩
   rw [hit]
   refine G.ownFact (v := vI2) selT (fun h39 _ => ?_)
   refine go [26,24,5,448] ?_
   refine G.turnOp rfl rfl (G.buildSlice (z := .agg #[.string ⟨#[]⟩, .int .i64 0, .int .i64 0, .int .i64 0, .string ⟨#[]⟩, .slice none 0 0]) (sz := 6) (cs := itC (it, vI2)) rfl Tryz.underlying37 kr (by decide) (by decide) rfl kr ?_)
   intro b46
   refine go [26,24,6,384] ?_
   refine G.turnOp rfl rfl (G.append (k := ys.length) (j := 1) (cs := ys.flatMap itC) (news := itC (it, vI2)) (b := b46) (off := 0) rfl Tryz.underlying37 Tryz.infoIt rfl rfl rfl selT (fun _ => rfl) (fun h => by cases h) rfl (blk_news (k := 6) selT rfl) (itC_one h39) (by omega) (by omega) ?_)
   intro vn
   rw [itC_snoc ys (it, vI2), show ys.length + 1 = (ys ++ [(it, vI2)]).length from by rw [List.length_append]; rfl]
   refine G.datISnoc (ys := ys) (x := (it, vI2)) selT selT ?_
   refine G.ownFact (v := vn) selT (fun hvn _ => ?_)
   refine go [26,22,7,256,3,4,24,8,0,30,26,27,16,8,10,2,6,0,7] ?_
   exact G.next ((i + 1, (vk2, ck2, vn, ys ++ [(it, vI2)]))) Y18 (by (try dsimp only); omega) (.consE rfl veqT (.cons rfl (.cons rfl (.cons rfl (.cons rfl (.cons rfl (.cons rfl (.cons rfl .nil)))))))) subT
  refine G.turnOp rfl rfl (G.cS rfl rfl rfl rfl Tryz.func51 rfl rfl subT (may1 Y2) (citem_tr b30 bm _ _ cks' xs[i].1 (by omega) hdi) apT ?_)
  intro x45 hJ
  obtain ⟨vk2, ck2, vI2⟩ := x45
  try dsimp only at hJ
  try dsimp only
  obtain ⟨hc1, hc2⟩ : cks ck2 = collC (cks cks') (chunksC xs[i].1.data) ∧ ck2.length ≤ cks'.length + xs[i].1.data.length + 1 := hJ
  obtain ⟨it, hit⟩ : ∃ c, mkI xs[i].1 = c := ⟨_, rfl⟩
  rw [hit]
  refine G.ownFact (v := vI2) selT (fun h39 _ => ?_)
  refine go [26] ?_
  refine G.twoT hT9 (i := 1) (j := 5) (rem' := 480) (rem'' := 450) kr kr kr ?_ ?_
  ·refine go [25,4,26,24,5,448] ?_
   refine G.turnOp rfl rfl (G.buildSlice (z := .agg #[.string ⟨#[]⟩, .int .i64 0, .int .i64 0, .int .i64 0, .string ⟨#[]⟩, .slice none 0 0]) (sz := 6) (cs := itC (it, vI2)) rfl Tryz.underlying37 kr (by decide) (by decide) rfl kr ?_)
   intro b46
   refine go [26,24,6,384] ?_
   refine G.turnOp rfl rfl (G.append (k := ys.length) (j := 1) (cs := ys.flatMap itC) (news := itC (it, vI2)) (b := b46) (off := 0) rfl Tryz.underlying37 Tryz.infoIt rfl rfl rfl selT (fun _ => rfl) (fun h => by cases h) rfl (blk_news (k := 6) selT rfl) (itC_one h39) (by omega) (by omega) ?_)
   intro vn
   rw [itC_snoc ys (it, vI2), show ys.length + 1 = (ys ++ [(it, vI2)]).length from by rw [List.length_append]; rfl]
   refine G.datISnoc (ys := ys) (x := (it, vI2)) selT selT ?_
   refine G.ownFact (v := vn) selT (fun hvn _ => ?_)
   refine go [26,22,7,256,3,4,24,8,0,30,26,27,16,8,10,2,6,0,7] ?_
   exact G.next ((i + 1, (vk2, ck2, vn, ys ++ [(it, vI2)]))) Y18 (by (try dsimp only); omega) (.consE rfl veqT (.cons rfl (.cons rfl (.cons rfl (.cons rfl (.cons rfl (.cons rfl (.cons rfl .nil)))))))) subT
  refine G.turnOp rfl rfl (G.buildSlice (z := .agg #[.string ⟨#[]⟩, .int .i64 0, .int .i64 0, .int .i64 0, .string ⟨#[]⟩, .slice none 0 0]) (sz := 6) (cs := itC (it, vI2)) rfl Tryz.underlying37 kr (by decide) (by decide) rfl kr ?_)
  intro b46
  refine go [26,24,1,448,25,4,26,24,6,384] ?_
  refine G.turnOp rfl rfl (G.append (k := ys.length) (j := 1) (cs := ys.flatMap itC) (news := itC (it, vI2)) (b := b46) (off := 0) rfl Tryz.underlying37 Tryz.infoIt rfl rfl rfl selT (fun _ => rfl) (fun h => by cases h) rfl (blk_news (k := 6) selT rfl) (itC_one h39) (by omega) (by omega) ?_)
  intro vn
  rw [itC_snoc ys (it, vI2), show ys.length + 1 = (ys ++ [(it, vI2)]).length from by rw [List.length_append]; rfl]
  refine G.datISnoc (ys := ys) (x := (it, vI2)) selT selT ?_
  refine G.ownFact (v := vn) selT (fun hvn _ => ?_)
  refine go [26,22,7,256,3,4,24,8,0,30,26,27,16,8,10,2,6,0,7] ?_
  exact G.next ((i + 1, (vk2, ck2, vn, ys ++ [(it, vI2)]))) Y18 (by (try dsimp only); omega) (.consE rfl veqT (.cons rfl (.cons rfl (.cons rfl (.cons rfl (.cons rfl (.cons rfl (.cons rfl .nil)))))))) subT
 obtain rfl : i = xs.length := by omega
 rw [← hel', List.take_length] at hck hys
 refine G.ownFact (v := vw) selT (fun hvw _ => ?_)
 refine G.ownFact (v := vk) selT (fun hvk _ => ?_)
 have hok : ∀ x ∈ ys, ItOk x.1 ∧ all16 x.1.ids := fun x hx => by have h1 : x.1 ∈ its ys := List.mem_map.2 ⟨x, hx, rfl⟩; rw [hys] at h1; obtain ⟨e, he, h2⟩ := List.mem_map.1 h1; rw [← h2]; exact ⟨mkI_okX (hEn e he).1 (hEn e he).2, mkI_16 e⟩
 refine go [18,14,14,19,8,9,9,10,2,50,4] ?_
 refine G.op rfl (G.cS rfl rfl rfl rfl Tryz.func17 rfl rfl subT (may1 (may_items selT selT hok)) (mbytes_tr (⟨c, k, 0, t⟩ : Mh) _ ys) apT ?_)
 intro x52 hJ
 try dsimp only at hJ
 try dsimp only
 refine go [0,2,7,2,7,1,1,7,8,9,10,0,2,14,7,8] ?_
 refine G.condP rfl (fun h56 => ?_) (fun h56 => ?_)
 ·refine go [9,10,2,50,12,0,20,1,1,7,8,11,12] ?_
  rw [mkM_no hz0 (by rw [← hys]; assumption), ← hys]
  refine G.ownNil 104 6 ?_
  refine G.datINil 52 ?_
  refine G.ownNil 54 17 ?_
  refine G.datDNil 5 ?_
  exact G.doneG (((.slice none 0 0, []), .slice none 0 0, [])) (by first | exact trivial | ((try dsimp only) <;> exact ⟨rfl, rfl⟩)) rfl (Rv.cellN (cs := [_, _, _, _, _]) rfl Tryz.underlying39 rfl kr (by first | exact blk_range (k := 5) selD (by rfl)) (Rv.tmp rfl (Rv.tmp rfl Rv.nil))) rfl subT
 refine go [13,8,9] ?_
 refine G.drawT (nn := 8) (p := [blk b8 _ _]) (rem := 255) [0, 0, 2, 4, 8, 1, 63, 127] [0, 0, 2, 4, 8, 1, 16, 0] kr ⟨rfl, by kernel_rfl, by kernel_rfl⟩ subT kr (fun hT14 => ?_)
 refine go [22,1,253,0,22,2,249,8,22,3,241,3,1,22,0,240,50,4,22,4,224,4,24,5,192,29,26,22,6,128,1,22,7,0,1,27,8,11] ?_
 rw [mkM_ok hz0 (by rw [← hys]; omega)]
 exact G.doneG (((vw, ys), vk, cks')) (by first | exact trivial | ((try dsimp only) <;> exact ⟨hys, hck⟩)) rfl (Rv.cellN (cs := [_, _, _, _, _]) rfl Tryz.underlying39 rfl kr (by first | exact blk_range (k := 5) selD (by rfl)) (Rv.tmp rfl (Rv.tmp rfl Rv.nil))) rfl subT
set_option maxRecDepth 20000 in
set_option maxHeartbeats 4000000 in
theorem mmake_bad {Ps : Nat → Prop} (c k t : Int) (v : Value) (xs : List ET) (hbad : ¬ (checkT (ens xs)).1 = 0) : Tr Tryz.prog 16 #[.int .i64 c, .int .i64 k, .int .i64 t, v] [slc rEV Ps v xs] []
 (TX (fun z : (Value × List IT) × Value × List CT => its z.1.2 = (mkM (⟨c, k, 0, t⟩ : Mh) (ens xs)).1.2 ∧ cks z.2.2 = (mkM (⟨c, k, 0, t⟩ : Mh) (ens xs)).2.1) (fun z => .tuple #[.agg #[.int .i64 (mkM (⟨c, k, 0, t⟩ : Mh) (ens xs)).1.1.c, .int .i64 (mkM (⟨c, k, 0, t⟩ : Mh) (ens xs)).1.1.k, .int .i64 (mkM (⟨c, k, 0, t⟩ : Mh) (ens xs)).1.1.n, .int .i64 (mkM (⟨c, k, 0, t⟩ : Mh) (ens xs)).1.1.t, z.1.1], z.2.1, .int .i64 (mkM (⟨c, k, 0, t⟩ : Mh) (ens xs)).2.2]) (fun z => [own 104 6 z.1.1 z.1.2.length (z.1.2.flatMap itC), datI 52 z.1.2, own 54 17 z.2.1 z.2.2.length (z.2.2.flatMap chC), datD 5 z.2.2])) := by
 refine Tr.of (l := [(0, .int .i64 c), (1, .int .i64 k), (2, .int .i64 t), (3, v)]) Tryz.func16 rfl (n := 64) rfl (.cons rfl (.cons rfl (.cons rfl (.cons rfl .nil)))) (fun w0 hro => ?_)
 have hv := ro1 hro
 refine go [9,10,60,6] ?_
 intro b8
 refine go [1,1,7,8,9,9,10,0] ?_
 refine G.op rfl (G.cR rfl rfl rfl rfl Tryz.func50 rfl rfl (may1 (.old hv)) (tcheck_tr _ xs) ?_)
 refine go [0,2,7,2,7,1,1,7,8,9,10,0,2,14,7,8] ?_
 refine G.condP rfl (fun h25 => ?_) (fun h25 => ?_)
 ·refine go [9,10,2,50,12,0,20,1,1,7,8,11,12] ?_
  rw [mkM_bad (by assumption)]
  refine G.ownNil 104 6 ?_
  refine G.datINil 52 ?_
  refine G.ownNil 54 17 ?_
  refine G.datDNil 5 ?_
  exact G.doneG (((.slice none 0 0, []), .slice none 0 0, [])) (by first | exact trivial | ((try dsimp only) <;> exact ⟨rfl, rfl⟩)) rfl (Rv.cellN (cs := [_, _, _, _, _]) rfl Tryz.underlying39 rfl kr (by first | exact blk_range (k := 5) selD (by rfl)) (Rv.tmp rfl (Rv.tmp rfl Rv.nil))) rfl subT
 exfalso; omega
theorem errT_data {es : List En} {i : Nat} (h : i < es.length) (he : errT es i = 0) : es[i].data.length ≤ 1048576 := by
 rw [errT_get h] at he
 have h1 : oneM es[i] = 0 := by
  split at he
  ·cases he
  split at he
  ·cases he
  exact he
 unfold oneM at h1
 split at h1
 ·cases h1
 split at h1
 ·cases h1
 split at h1
 ·cases h1
 omega
theorem check_data {es : List En} (h : (checkT es).1 = 0) : ∀ e ∈ es, e.data.length ≤ 1048576 := fun e he => by
 obtain ⟨q, hq, rfl⟩ := List.getElem_of_mem he
 have h1 := (checkT_zero h).2.1 q hq
 exact errT_data hq h1
theorem mmakeA_tr {Ps : Nat → Prop} (c k t : Int) (v : Value) (xs : List ET) : Tr Tryz.prog 16 #[.int .i64 c, .int .i64 k, .int .i64 t, v] [slc rEV Ps v xs] []
 (TX (fun z : (Value × List IT) × Value × List CT => its z.1.2 = (mkM (⟨c, k, 0, t⟩ : Mh) (ens xs)).1.2 ∧ cks z.2.2 = (mkM (⟨c, k, 0, t⟩ : Mh) (ens xs)).2.1) (fun z => .tuple #[.agg #[.int .i64 (mkM (⟨c, k, 0, t⟩ : Mh) (ens xs)).1.1.c, .int .i64 (mkM (⟨c, k, 0, t⟩ : Mh) (ens xs)).1.1.k, .int .i64 (mkM (⟨c, k, 0, t⟩ : Mh) (ens xs)).1.1.n, .int .i64 (mkM (⟨c, k, 0, t⟩ : Mh) (ens xs)).1.1.t, z.1.1], z.2.1, .int .i64 (mkM (⟨c, k, 0, t⟩ : Mh) (ens xs)).2.2]) (fun z => [own 104 6 z.1.1 z.1.2.length (z.1.2.flatMap itC), datI 52 z.1.2, own 54 17 z.2.1 z.2.2.length (z.2.2.flatMap chC), datD 5 z.2.2])) := by
 by_cases h : (checkT (ens xs)).1 = 0
 ·exact mmakeX_tr c k t v xs fun x hx => check_data h x.1 (List.mem_map.2 ⟨x, hx, rfl⟩)
 exact mmake_bad c k t v xs h
theorem collC_all {Q : List UInt8 × List UInt8 → Prop} : ∀ (l : List (List UInt8)) (acc : List (List UInt8 × List UInt8)), (∀ p ∈ acc, Q p) → (∀ b ∈ l, Q (nameM b, b)) → ∀ p ∈ collC acc l, Q p
 | [], _, h, _ => h
 | b :: l, acc, h, hb => by
  refine collC_all l (takeC acc b) (fun p hp => ?_) fun c hc => hb c (List.mem_cons_of_mem _ hc)
  unfold takeC at hp
  split at hp
  ·exact h p hp
  rcases List.mem_append.1 hp with hp | hp
  ·exact h p hp
  obtain rfl : p = _ := by simpa using hp
  exact hb b (List.mem_cons_self ..)
theorem collC_few : ∀ (l : List (List UInt8)) (acc : List (List UInt8 × List UInt8)), (collC acc l).length ≤ acc.length + l.length
 | [], _ => Nat.le_refl _
 | b :: l, acc => by
  have h1 := collC_few l (takeC acc b)
  have h2 : (takeC acc b).length ≤ acc.length + 1 := by
   unfold takeC
   split
   ·omega
   rw [List.length_append]; exact Nat.le_refl _
  have h3 : collC acc (b :: l) = collC (takeC acc b) l := rfl
  rw [h3, List.length_cons]
  omega
theorem makeC_all {es : List En} {n : Nat} (hd : ∀ e ∈ es, e.data.length ≤ n) : ∀ p ∈ makeC es, p.1 = nameM p.2 ∧ p.2.length ≤ n := by
 refine collC_all _ _ (fun p hp => by cases hp) fun b hb => ?_
 obtain ⟨e, he, hb⟩ := List.mem_flatMap.1 hb
 exact ⟨rfl, Nat.le_trans (chunksC_le hb) (hd e he)⟩
theorem flat_few {n : Nat} : ∀ {es : List En}, (∀ e ∈ es, e.data.length ≤ n) → (es.flatMap fun e => chunksC e.data).length ≤ es.length * (n + 1)
 | [], _ => Nat.zero_le _
 | e :: es, h => by
  have h1 := flat_few (es := es) fun x hx => h x (List.mem_cons_of_mem _ hx)
  have h2 := chunksC_len e.data
  have h3 := h e (List.mem_cons_self ..)
  rw [List.flatMap_cons, List.length_append, List.length_cons, Nat.add_mul, Nat.one_mul]
  omega
theorem makeC_few {es : List En} {n : Nat} (hd : ∀ e ∈ es, e.data.length ≤ n) : (makeC es).length ≤ es.length * (n + 1) := Nat.le_trans (collC_few _ _) (by have := flat_few hd; simpa using this)
theorem mkM_zero {a : Mh} {es : List En} (h : (mkM a es).2.2 = 0) : mkM a es = ((a, es.map mkI), makeC es, 0) ∧ (checkT es).1 = 0 ∧ bytesE a (es.map mkI) = 0 := by
 by_cases h1 : (checkT es).1 = 0
 ·by_cases h2 : bytesE a (es.map mkI) = 0
  ·exact ⟨mkM_ok h1 h2, h1, h2⟩
  rw [mkM_no h1 h2] at h
  exact absurd h h2
 rw [mkM_bad h1] at h
 exact absurd h h1
theorem bytesO_len {a : Mh} {ms : List It} (ha : a.n = 0) (h : bytesE a ms = 0) : bytesO a ms = manB a ms ∧ 0 < (manB a ms).length ∧ (manB a ms).length ≤ 262144 := by
 refine ⟨if_pos h, ?_, ?_⟩
 ·have h1 : 0 < (hdM a ms.length).length := by
   rw [← hdM_app, ha]
   have h0 : (putM 0).length = 1 := (putM_length 0).trans rfl
   simp only [List.length_append, h0]
   omega
  unfold manB
  rw [List.length_append]
  omega
 unfold bytesE at h
 split at h
 ·split at h
  ·cases h
  omega
 rename_i h1
 exact absurd h h1
def newQ (c k t : Int) (es : List En) : PM := ⟨true, bytesO (mkM (⟨c, k, 0, t⟩ : Mh) es).1.1 (mkM (⟨c, k, 0, t⟩ : Mh) es).1.2, (mkM (⟨c, k, 0, t⟩ : Mh) es).2.1, k, t, 0, [], [], 0, [], 0, false, 0, 0⟩
def newP (c k t : Int) (es : List En) : PM := enterM (newQ c k t es) 1
theorem frz_cks {e e2 : TypeId} {F : Nat → Prop} {W : World} {v : Value} (ck : List CT) (h1 : (own e 17 v ck.length (ck.flatMap chC)).φ W ∧ ∀ b, (own e 17 v ck.length (ck.flatMap chC)).S b → F b) (h2 : (datD e2 ck).φ W ∧ ∀ b, (datD e2 ck).S b → F b) (hok : ∀ x ∈ ck, x.1.1.length = 16 ∧ x.1.2.length ≤ 140737488355328) : IsSl rCT F W v ck :=
 rows_sl (E := rCT) chC_len rfl h1.1 (fun b hb => h1.2 b hb) (fun b o x hx hP hr => ⟨hP, hr, (datD_sl h2.1 x hx).mono h2.2, hok x hx⟩)
theorem frz_ownB {e : TypeId} {F : Nat → Prop} {W : World} {v : Value} (xs : List UInt8) (h : (ownB e v xs).φ W ∧ ∀ b, (ownB e v xs).S b → F b) : IsSl rByte F W v xs := (own_isSl' (OwnB.own h.1) rfl fun _ _ => trivial).mono h.2
set_option maxRecDepth 20000 in
set_option maxHeartbeats 4000000 in
theorem pnew_ok {Ps : Nat → Prop} (c k t : Int) (v : Value) (xs : List ET) (hd : ∀ x ∈ xs, x.1.data.length ≤ 12000) (hn : xs.length ≤ 500) (hk : I64 k) (ht : I64 t) (h : (mkM (⟨c, k, 0, t⟩ : Mh) (ens xs)).2.2 = 0) : Tr Tryz.prog 19 #[.int .i64 c, .int .i64 k, .int .i64 t, v] [slc rEV Ps v xs] []
 (TX (fun x : PZ × Nat × (Nat → Prop) × World => PvOk x.2.2.1 x.2.2.2 x.1 ∧ x.1.pm = newP c k t (ens xs)) (fun x => .tuple #[.pointer (some ⟨x.2.1, 0, none⟩), .int .i64 0]) (fun x => [blk x.2.1 85 [.bool x.1.made, x.1.bv, x.1.lv, .int .i64 x.1.cm, .int .i64 x.1.tk, .int .i64 (x.1.ph : Nat), x.1.leftv, x.1.waitv, .int .i64 (x.1.asked : Nat), x.1.lacksv, .int .i64 (x.1.rounds : Nat), .bool x.1.over, .int .i64 x.1.num, .int .i64 x.1.e], frz x.2.2.1 x.2.2.2, que 92 5 x.1.waitv x.1.wait.length (x.1.wait.flatMap awC), own 54 17 x.1.lacksv x.1.lacks.length (x.1.lacks.flatMap chC)])) := by
 refine Tr.of (l := [(0, .int .i64 c), (1, .int .i64 k), (2, .int .i64 t), (3, v)]) Tryz.func19 rfl (n := 42) rfl (.cons rfl (.cons rfl (.cons rfl (.cons rfl .nil)))) (fun w0 hro => ?_)
 have hv := ro1 hro
 have hel' := ens_length xs
 obtain ⟨hmk, hz0, hb0⟩ := mkM_zero h
 obtain ⟨hbo, hb1, hb2⟩ := bytesO_len (by rfl) hb0
 obtain ⟨av, cv, bv, fv, rfl, _, _, _, _, hel⟩ := Ro.openT hv
 have hEn : ∀ e ∈ ens xs, EnOk e ∧ e.data.length ≤ 12000 := fun e he => by obtain ⟨x, hx, rfl⟩ := List.mem_map.1 he; obtain ⟨q, hq, rfl⟩ := List.getElem_of_mem hx; exact ⟨Ro.evOk (hel q hq), hd _ hx⟩
 refine go [9,10,1,1,7,8,9,10,0,0,0,0] ?_
 refine G.op rfl (G.cS rfl rfl rfl rfl Tryz.func16 rfl rfl subT (may1 (.old hv)) (mmakeX_tr c k t _ xs (fun x hx => Nat.le_trans (hd x hx) (by omega))) apT ?_)
 intro x19 hJ
 obtain ⟨⟨vz, ys⟩, vk, ck⟩ := x19
 try dsimp only at hJ
 try dsimp only
 rw [hmk] at hJ
 rw [hmk]
 obtain ⟨hys, hck⟩ := hJ
 refine G.ownFact (v := vz) selT (fun hvz _ => ?_)
 refine G.ownFact (v := vk) selT (fun hvk _ => ?_)
 have hok : ∀ x ∈ ys, ItOk x.1 ∧ all16 x.1.ids := fun x hx => by have h1 : x.1 ∈ its ys := List.mem_map.2 ⟨x, hx, rfl⟩; rw [hys] at h1; obtain ⟨e, he, h2⟩ := List.mem_map.1 h1; rw [← h2]; exact ⟨mkI_okX (hEn e he).1 (by have := (hEn e he).2; omega), mkI_16 e⟩
 have hcA : ∀ x ∈ ck, x.1.1 = nameM x.1.2 ∧ x.1.2.length ≤ 12000 := fun x hx => makeC_all (fun e he => (hEn e he).2) x.1 (by have hcc : cks ck = makeC (ens xs) := hck; rw [← hcc]; exact List.mem_map.2 ⟨x, hx, rfl⟩)
 have hcl : ck.length ≤ 10000000 := by have h1 := makeC_few (n := 12000) (fun e he => (hEn e he).2); have hcc : cks ck = makeC (ens xs) := hck; rw [← hcc, hel'] at h1; simp only [cks, List.length_map] at h1; omega
 refine go [0] ?_
 refine G.op rfl (G.val rfl rfl (pv_extract (v := .agg #[.int .i64 (⟨c, k, 0, t⟩ : Mh).c, .int .i64 (⟨c, k, 0, t⟩ : Mh).k, .int .i64 (⟨c, k, 0, t⟩ : Mh).n, .int .i64 (⟨c, k, 0, t⟩ : Mh).t, vz]) rfl rfl) ?_)
 refine G.op rfl (G.val rfl rfl (pv_extract (v := vk) rfl rfl) ?_)
 refine go [2,50,9,60,6] ?_
 intro b10
 refine go [20,1,1,7,8,9,9,10,0,2,14,7,8,60,0,13,8,9,10,0,0,0] ?_
 refine G.op rfl (G.val rfl rfl (pv_buildSt (z := [.bool false, .slice none 0 0, .slice none 0 0, .int .i64 0, .int .i64 0, .int .i64 0, .slice none 0 0, .slice none 0 0, .int .i64 0, .slice none 0 0, .int .i64 0, .bool false, .int .i64 0, .int .i64 0]) (pl := [(0, 1), (1, 1), (2, 1), (3, 1), (4, 1), (5, 1), (6, 1), (7, 1), (8, 1), (9, 1), (10, 1), (11, 1), (12, 1), (13, 1)]) Tryz.underlying85 kr kr rfl flT) ?_)
 refine G.op rfl (G.box rfl rfl (cs := [_, _, _, _, _, _, _, _, _, _, _, _, _, _]) rfl ?_)
 intro b30
 refine go [1,7,8,9,10,0,2,50,4] ?_
 refine G.op rfl (G.cS rfl rfl rfl rfl Tryz.func17 rfl rfl subT (may1 (may_items selT selT hok)) (mbytes_tr (⟨c, k, 0, t⟩ : Mh) _ ys) apT ?_)
 intro x34 hJ
 try dsimp only at hJ
 try dsimp only
 rw [show its ys = (ens xs).map mkI from hys, hbo]
 refine G.ownBFact (v := x34) selT (fun hvb => ?_)
 refine go [0] ?_
 refine G.op rfl (G.val rfl rfl (pv_extract (v := x34) rfl rfl) ?_)
 refine go [2,7,2,8,2,3,1,21,7,8,9,10] ?_
 refine G.frz0 (fun W9 => ?_)
 refine G.freeze (F := fun _ => False) (W := W9) (p := [own 54 17 vk ck.length (ck.flatMap chC), datD 5 ck, ownB 5 x34 _]) selT subT (fun F1 W1 hU hC => ?_)
 have q1 := hC _ (List.mem_cons_self ..)
 have q2 := hC _ (List.mem_cons_of_mem _ (List.mem_cons_self ..))
 have q3 := hC _ (List.mem_cons_of_mem _ (List.mem_cons_of_mem _ (List.mem_cons_self ..)))
 have h16 : ∀ x ∈ ck, x.1.1.length = 16 := fun x hx => by rw [(hcA x hx).1]; exact nameM_len _
 have hzz : PvOk F1 W1 (⟨true, x34, vk, k, t, 0, .slice none 0 0, .slice none 0 0, 0, .slice none 0 0, 0, false, 0, 0, manB (⟨c, k, 0, t⟩ : Mh) ((ens xs).map mkI), ck, [], [], []⟩ : PZ) := ⟨frz_ownB _ q3, frz_cks ck q1 q2 (fun x hx => ⟨h16 x hx, by have := (hcA x hx).2; omega⟩), (fun x hx => ⟨(datD_sl q2.1 x hx).mono q2.2, h16 x hx, by have := (hcA x hx).2; omega⟩), IsSl.nil _ _ _, (fun x hx => by cases hx), (fun x hx => by cases hx), (fun x hx => by cases hx)⟩
 have hgg : PgOk (⟨true, x34, vk, k, t, 0, .slice none 0 0, .slice none 0 0, 0, .slice none 0 0, 0, false, 0, 0, manB (⟨c, k, 0, t⟩ : Mh) ((ens xs).map mkI), ck, [], [], []⟩ : PZ) := ⟨hk, ht, by show (manB _ _).length ≤ _; omega, hcl, Nat.zero_le _, Nat.zero_le _⟩
 refine G.queNil 92 5 ?_
 refine G.ownNil 54 17 ?_
 refine go [0] ?_
 refine G.op rfl (G.cS rfl rfl rfl rfl Tryz.func49 rfl rfl subT may0 (enter_tr (F := F1) (W := W1) b30 (⟨true, x34, vk, k, t, 0, .slice none 0 0, .slice none 0 0, 0, .slice none 0 0, 0, false, 0, 0, manB (⟨c, k, 0, t⟩ : Mh) ((ens xs).map mkI), ck, [], [], []⟩ : PZ) 1 (by omega) hzz hgg (Nat.zero_le _)) apT ?_)
 intro x40 hJ
 obtain ⟨z3, F3, W3⟩ := x40
 try dsimp only at hJ
 try dsimp only
 refine go [7,8,9,10,0,1,1,7,8,11] ?_
 exact G.doneX2 ((z3, b30, F3, W3)) (by first | exact trivial | ((try dsimp only) <;> exact ⟨hJ.2.1, hJ.2.2.trans (by unfold newP newQ; rw [hmk]; show enterM (PZ.pm _) 1 = _; unfold PZ.pm; dsimp only; rw [hbo, show cks ck = makeC (ens xs) from hck]; rfl)⟩)) rfl rfl rfl rfl subT
theorem core_end {p : PM} (h : PcOk p) (n e : Int) : PmOk (endP p n e) :=
 ⟨⟨h.made, h.cm, h.tk, h.b0, h.b, h.l, h.ph, h.rounds, h.r0, h.asked, h.lacks⟩, (fun _ n hn => by simp [endP] at hn), (fun _ n hn => by simp [endP] at hn), (fun ho => by cases ho), (fun _ => ⟨rfl, rfl⟩), Nat.zero_le _⟩
theorem core_pop {p : PM} (h : PcOk p) (w : List Nt) : PcOk { p with wait := w } := ⟨h.made, h.cm, h.tk, h.b0, h.b, h.l, h.ph, h.rounds, h.r0, h.asked, h.lacks⟩
theorem core_jud {ph : Nat} {p : PM} {x y : Nt} (h : PcOk p) (hx : ph = 3 → p.asked + x.ids.length ≤ p.l.length ∧ p.lacks.length ≤ p.asked) : PcOk (judP ph p x y).2 := by
 obtain ⟨h1, h2, h3, h4, h5, h6, h7, h8, h9⟩ := judP_same ph p x y
 have ha : (judP ph p x y).2.asked ≤ p.l.length ∧ (judP ph p x y).2.lacks.length ≤ p.l.length := by
  unfold judP
  split
  ·unfold begunP; split <;> exact ⟨h.asked, h.lacks⟩
  ·exact ⟨h.asked, h.lacks⟩
  ·have h3 := hx rfl
   unfold hadP
   split
   ·exact ⟨h.asked, h.lacks⟩
   split
   ·exact ⟨h.asked, h.lacks⟩
   rename_i h1 _
   have h2 := lackT_len p.lacks p.l p.asked y.ns y.ns.length
   exact ⟨h3.1, by show (lackT p.lacks p.l p.asked y.ns y.ns.length).length ≤ _; omega⟩
  ·exact ⟨h.asked, h.lacks⟩
  unfold committedP; dsimp only; split <;> exact ⟨h.asked, h.lacks⟩
 exact ⟨h6.trans h.made, by rw [h2]; exact h.cm, by rw [h3]; exact h.tk, by rw [h4]; exact h.b0, by rw [h4]; exact h.b, by rw [h5]; exact h.l, by rw [h7]; exact h.ph, by rw [h1]; exact h.rounds, by rw [h7, h1]; exact h.r0, by rw [h5]; exact ha.1, by rw [h5]; exact ha.2⟩
theorem sum_batch (ids : List (List UInt8)) : ∀ c, 16 * c ≤ ids.length + 15 → (((List.range c).map (batch ids)).map fun n => n.ids.length).sum = min (16 * c) ids.length
 | 0, _ => by simp
 | c + 1, h => by
  rw [batch_app, List.map_append, List.sum_append, sum_batch ids c (by omega)]
  show _ + (((ids.drop (16 * c)).take 16).length + 0) = _
  rw [List.length_take, List.length_drop]
  omega
theorem sum_queries (ids : List (List UInt8)) : ((queriesL ids).map fun n => n.ids.length).sum = ids.length := by
 unfold queriesL
 rw [sum_batch ids _ (by omega)]
 omega
theorem phs_few {p : PM} (h : PcOk p) (k : Nat) : (phsM p k).2.length ≤ 100000000 := by
 have h1 := h.b
 have h2 := h.l
 have h3 := h.lacks
 unfold phsM partsL partsT queriesL
 split <;> simp <;> omega
theorem ent_ok : ∀ (f : Nat) (p : PM) (k : Nat), PcOk { p with ph := k } → p.left = [] → p.wait = [] → p.asked = 0 → p.over = false → k + f = 6 → 1 ≤ k → k ≤ 5 → (k = 3 → p.rounds ≤ 2) → PmOk (entF f p k)
 | 0, _, k, _, _, _, _, _, h, _, h2, _ => by omega
 | f + 1, p, k, hc, hl, hw, ha, ho, hk, h1, h2, hr => by
  have hfew := phs_few hc k
  have hw0 : p.wait.length = 0 := by rw [hw]; rfl
  by_cases hn : (phsM { p with ph := k } k).2 = []
  ·have e : entF (f + 1) p k = entF f (phsM { p with ph := k } k).1 (k + 1) := if_pos hn
   rw [e]
   rcases (show k = 1 ∨ k = 2 ∨ k = 3 ∨ k = 4 ∨ k = 5 by omega) with rfl | rfl | rfl | rfl | rfl
   ·cases hn
   ·exfalso
    have h3 := congrArg List.length hn
    have h4 := hc.b0
    simp [phsM, partsL, partsT] at h3
    change 0 < p.b.length at h4
    omega
   ·exact ent_ok f _ 4 ⟨hc.made, hc.cm, hc.tk, hc.b0, hc.b, hc.l, ⟨by show 1 ≤ 4; omega, by show 4 ≤ 5; omega⟩, by have := hr rfl; show p.rounds + 1 ≤ 3; omega, fun h => by change 4 ≤ 2 at h; omega, hc.asked, Nat.zero_le _⟩ hl hw ha ho (by omega) (by omega) (by omega) (fun h => by omega)
   ·exact ent_ok f _ 5 ⟨hc.made, hc.cm, hc.tk, hc.b0, hc.b, hc.l, ⟨by show 1 ≤ 5; omega, by show 5 ≤ 5; omega⟩, hc.rounds, fun h => by change 5 ≤ 2 at h; omega, hc.asked, hc.lacks⟩ hl hw ha ho (by omega) (by omega) (by omega) (fun h => by omega)
   cases hn
  have e : entF (f + 1) p k = { (phsM { p with ph := k } k).1 with left := (phsM { p with ph := k } k).2 } := if_neg hn
  rw [e]
  rcases (show k = 1 ∨ k = 2 ∨ k = 3 ∨ k = 4 ∨ k = 5 by omega) with rfl | rfl | rfl | rfl | rfl
  ·exact ⟨⟨hc.made, hc.cm, hc.tk, hc.b0, hc.b, hc.l, hc.ph, hc.rounds, hc.r0, hc.asked, hc.lacks⟩, (fun h => by cases h), (fun h => by cases h), (fun _ h => by cases h), (fun h => absurd (ho.symm.trans h) (by simp)), Nat.le_trans (Nat.add_le_add hfew (Nat.le_of_eq hw0)) (by omega)⟩
  ·refine ⟨⟨hc.made, hc.cm, hc.tk, hc.b0, hc.b, hc.l, hc.ph, hc.rounds, hc.r0, hc.asked, hc.lacks⟩, (fun _ n hn => ?_), (fun h => by cases h), (fun _ h => by cases h), (fun h => absurd (ho.symm.trans h) (by simp)), Nat.le_trans (Nat.add_le_add hfew (Nat.le_of_eq hw0)) (by omega)⟩
   change n ∈ partsL p.b ++ p.wait at hn
   rw [hw, List.append_nil] at hn
   obtain ⟨i, hi, rfl⟩ := List.mem_map.1 hn
   have h3 := List.mem_range.1 hi
   have h4 : p.b.length ≤ 100000000 := hc.b
   exact ⟨1000 * i, rfl, by omega⟩
  ·refine ⟨⟨hc.made, hc.cm, hc.tk, hc.b0, hc.b, hc.l, hc.ph, by have := hr rfl; show p.rounds + 1 ≤ 3; omega, fun h => by change 3 ≤ 2 at h; omega, hc.asked, Nat.zero_le _⟩, (fun h => by cases h), (fun h => by cases h), (fun _ _ => ⟨?_, Nat.zero_le _⟩), (fun h => absurd (ho.symm.trans h) (by simp)), Nat.le_trans (Nat.add_le_add hfew (Nat.le_of_eq hw0)) (by omega)⟩
   show p.asked + ((p.wait ++ queriesL (p.l.map (·.1))).map fun n => n.ids.length).sum = p.l.length
   rw [hw, ha, List.nil_append, sum_queries, List.length_map, Nat.zero_add]
  ·refine ⟨⟨hc.made, hc.cm, hc.tk, hc.b0, hc.b, hc.l, hc.ph, hc.rounds, hc.r0, hc.asked, hc.lacks⟩, (fun h => by cases h), (fun _ n hn => ?_), (fun _ h => by cases h), (fun h => absurd (ho.symm.trans h) (by simp)), Nat.le_trans (Nat.add_le_add hfew (Nat.le_of_eq hw0)) (by omega)⟩
   change n ∈ p.lacks.map give ++ p.wait at hn
   rw [hw, List.append_nil] at hn
   obtain ⟨c, hc, rfl⟩ := List.mem_map.1 hn
   rfl
  exact ⟨⟨hc.made, hc.cm, hc.tk, hc.b0, hc.b, hc.l, hc.ph, hc.rounds, hc.r0, hc.asked, hc.lacks⟩, (fun h => by cases h), (fun h => by cases h), (fun _ h => by cases h), (fun h => absurd (ho.symm.trans h) (by simp)), Nat.le_trans (Nat.add_le_add hfew (Nat.le_of_eq hw0)) (by omega)⟩
theorem enter_ok {p : PM} {k : Nat} (h : PcOk p) (ho : p.over = false) (h1 : 1 ≤ k) (h2 : k ≤ 5) (hr : k = 3 → p.rounds ≤ 2) (hr0 : k ≤ 2 → p.rounds = 0) : PmOk (enterM p k) :=
 ent_ok (6 - k) _ k ⟨h.made, h.cm, h.tk, h.b0, h.b, h.l, ⟨h1, h2⟩, h.rounds, hr0, Nat.zero_le _, h.lacks⟩ rfl rfl rfl ho (by omega) h1 h2 hr
theorem send_ok {p : PM} (h : PmOk p) : PmOk (sendP p).2 := by
 unfold sendP
 split
 ·exact h
 rename_i hn
 cases e : p.left with
 | nil => exact absurd (.inl e) hn
 | cons x t =>
  have hm : ∀ n, n ∈ t ++ (p.wait ++ [x]) → n ∈ p.left ++ p.wait := fun n hn => by
   rw [e]
   simp only [List.mem_append, List.mem_cons, List.not_mem_nil, or_false] at hn ⊢
   rcases hn with h | h | h
   ·exact .inl (.inr h)
   ·exact .inr h
   exact .inl (.inl h)
  refine ⟨⟨h.made, h.cm, h.tk, h.b0, h.b, h.l, h.ph, h.rounds, h.r0, h.asked, h.lacks⟩, (fun hp n hn => h.two hp n (hm n hn)), (fun hp n hn => h.four hp n (hm n hn)), (fun ho hp => ?_), (fun ho => ?_), ?_⟩
  ·have h3 := h.three ho hp
   rw [e] at h3
   refine ⟨?_, h3.2⟩
   show p.asked + (((p.wait ++ [x]) ++ t).map fun n => n.ids.length).sum = p.l.length
   rw [List.append_assoc]
   exact h3.1
  ·have := (h.over ho).1
   rw [e] at this
   cases this
  have := h.few
  rw [e] at this
  show t.length + (p.wait ++ [x]).length ≤ _
  rw [List.length_cons] at this
  rw [List.length_append, List.length_singleton]
  omega
theorem judP_over {ph : Nat} {p : PM} {x y : Nt} (ho : p.over = false) (h : (judP ph p x y).2.over = true) : (judP ph p x y).2.left = [] ∧ (judP ph p x y).2.wait = [] := by
 unfold judP at h ⊢
 split at h
 ·unfold begunP at h ⊢
  split at h
  ·rename_i hk; rw [if_pos hk]; exact ⟨rfl, rfl⟩
  rw [ho] at h; cases h
 ·change p.over = true at h; rw [ho] at h; cases h
 ·unfold hadP at h
  split at h
  ·rw [ho] at h; cases h
  split at h
  ·rw [ho] at h; cases h
  change p.over = true at h; rw [ho] at h; cases h
 ·change p.over = true at h; rw [ho] at h; cases h
 unfold committedP at h ⊢
 dsimp only at h ⊢
 split at h
 ·rename_i hk; rw [if_pos hk]; exact ⟨rfl, rfl⟩
 rw [ho] at h; cases h
theorem judP_lists {ph : Nat} {p : PM} {x y : Nt} (h : (judP ph p x y).2.over = false) : (judP ph p x y).2.left = p.left ∧ (judP ph p x y).2.wait = p.wait ∧ p.over = false := by
 unfold judP at h ⊢
 split at h
 ·unfold begunP at h ⊢
  split at h
  ·cases h
  rename_i hk; rw [if_neg hk]; exact ⟨rfl, rfl, h⟩
 ·exact ⟨rfl, rfl, h⟩
 ·unfold hadP at h ⊢
  split at h
  ·rename_i hk; rw [if_pos hk]; exact ⟨rfl, rfl, h⟩
  rename_i hk
  rw [if_neg hk]
  split at h
  ·rename_i hk2; rw [if_pos hk2]; exact ⟨rfl, rfl, h⟩
  rename_i hk2; rw [if_neg hk2]; exact ⟨rfl, rfl, h⟩
 ·exact ⟨rfl, rfl, h⟩
 unfold committedP at h ⊢
 dsimp only at h ⊢
 split at h
 ·cases h
 rename_i hk; rw [if_neg hk]; exact ⟨rfl, rfl, h⟩
theorem judP_had {ph : Nat} {p : PM} {x y : Nt} (h : ph = 3) : judP ph p x y = hadP p x y := by
 subst h
 rfl
theorem had_true {p : PM} {x y : Nt} (h : (hadP p x y).1 = true) : (hadP p x y).2.asked = p.asked + x.ids.length ∧ (hadP p x y).2.lacks.length ≤ p.lacks.length + x.ids.length := by
 unfold hadP at h ⊢
 split at h
 ·cases h
 rename_i hk
 rw [if_neg hk]
 split at h
 ·cases h
 rename_i hk2
 rw [if_neg hk2]
 have h2 := lackT_len p.lacks p.l p.asked y.ns y.ns.length
 exact ⟨rfl, by show (lackT p.lacks p.l p.asked y.ns y.ns.length).length ≤ _; omega⟩
theorem take_ok {p : PM} (y : Nt) (h : PmOk p) : PmOk (takeM p y).2 := by
 unfold takeM
 split
 ·exact h
 rename_i hn
 have ho : p.over = false := by
  cases e : p.over with
  | false => rfl
  | true => exact absurd (.inl e) hn
 cases e : p.wait with
 | nil => exact absurd (.inr e) hn
 | cons x t =>
  show PmOk (takeB { p with wait := t } x y)
  have hc := core_pop h.toPcOk t
  have hx : p.ph = 3 → p.asked + x.ids.length ≤ p.l.length ∧ p.lacks.length ≤ p.asked := fun hp => by
   have h3 := h.three ho hp
   rw [e, List.cons_append, List.map_cons, List.sum_cons] at h3
   exact ⟨by omega, h3.2⟩
  unfold takeB
  split
  ·exact core_end hc _ _
  split
  ·rename_i h1
   have h2 := of_decide_eq_true h1.2
   exact enter_ok hc ho (by omega) (by omega) (fun _ => by have := h2.2.2.1; change p.rounds ≤ 2; change p.rounds < 3 at this; omega) (fun h => by omega)
  split
  ·exact core_end hc _ _
  have hj : PcOk (judP p.ph { p with wait := t } x y).2 := core_jud hc hx
  obtain ⟨s1, -, -, -, s5, -, s7, -, s9⟩ := judP_same p.ph { p with wait := t } x y
  split
  ·exact core_end hj _ _
  rename_i hjt
  have hjt : (judP p.ph { p with wait := t } x y).1 = true := by simpa using hjt
  split
  ·rename_i h1
   have h2 := jud5 h.ph hjt h1.1
   exact enter_ok hj h1.1 (by omega) (by rw [s7]; show p.ph + 1 ≤ 5; omega) (fun hk => by
    rw [s7] at hk
    change p.ph + 1 = 3 at hk
    rw [s1]
    have := h.r0 (by omega)
    show p.rounds ≤ 2
    omega) (fun hk => by
    rw [s7] at hk
    change p.ph + 1 ≤ 2 at hk
    rw [s1]
    exact h.r0 (by omega))
  have hjo := judP_over (ph := p.ph) (p := { p with wait := t }) (x := x) (y := y) ho
  have hjl := judP_lists (ph := p.ph) (p := { p with wait := t }) (x := x) (y := y)
  have hfew := h.few
  rw [e, List.length_cons] at hfew
  have hm : ∀ n, n ∈ p.left ++ t → n ∈ p.left ++ p.wait := fun n hn => by
   rw [e]
   rcases List.mem_append.1 hn with h | h
   ·exact List.mem_append_left _ h
   exact List.mem_append_right _ (List.mem_cons_of_mem _ h)
  generalize hq : (judP p.ph { p with wait := t } x y).2 = q at *
  have hin : ∀ n, n ∈ q.left ++ q.wait → n ∈ p.left ++ p.wait := fun n hn => by
   cases hov : q.over with
   | true =>
    have := hjo hov
    rw [this.1, this.2] at hn
    cases hn
   | false =>
    have := hjl hov
    rw [this.1, this.2.1] at hn
    exact hm n hn
  refine ⟨hj, (fun hp n hn => h.two (by rw [← hp, s7]) n (hin n hn)), (fun hp n hn => h.four (by rw [← hp, s7]) n (hin n hn)), (fun hov hp => ?_), hjo, ?_⟩
  ·have h3 : p.ph = 3 := by rw [← hp, s7]
   have h4 := h.three ho h3
   have h5 := hjl hov
   rw [e, List.cons_append, List.map_cons, List.sum_cons] at h4
   rw [judP_had h3] at hjt hq
   have h6 := had_true (p := { p with wait := t }) (x := x) (y := y) hjt
   rw [hq] at h6
   rw [h5.1, h5.2.1, h6.1, s5]
   refine ⟨?_, ?_⟩
   ·show p.asked + x.ids.length + ((t ++ p.left).map fun n => n.ids.length).sum = p.l.length
    omega
   have := h6.2
   change q.lacks.length ≤ p.lacks.length + x.ids.length at this
   show _ ≤ p.asked + x.ids.length
   omega
  change q.left.length + q.wait.length ≤ p.left.length + t.length at s9
  omega
theorem new_ok {c k t : Int} {es : List En} (hk : I64 k) (ht : I64 t) (hd : ∀ e ∈ es, e.data.length ≤ 12000) (hn : es.length ≤ 500) (h : (mkM ⟨c, k, 0, t⟩ es).2.2 = 0) : PmOk (newP c k t es) := by
 obtain ⟨hmk, hz0, hb0⟩ := mkM_zero h
 obtain ⟨hbo, hb1, hb2⟩ := bytesO_len (by rfl) hb0
 have hl := makeC_few hd
 refine ent_ok 5 _ 1 ⟨rfl, hk, ht, ?_, ?_, ?_, ⟨by show 1 ≤ 1; omega, by show 1 ≤ 5; omega⟩, Nat.zero_le _, fun _ => rfl, Nat.zero_le _, Nat.zero_le _⟩ rfl rfl rfl rfl (by omega) (by omega) (by omega) (fun h => by omega)
 all_goals simp only [newQ, hmk]
 ·show 0 < (bytesO _ _).length
  rw [hbo]
  exact hb1
 ·show (bytesO _ _).length ≤ _
  rw [hbo]
  omega
 show (makeC es).length ≤ _
 omega
theorem may_nilZ {w0 : World} {S : Nat → Prop} {m : List Ck} {α : Type} {E : Rdr α} : May w0 S m (slc E (fun _ => False) (.slice none 0 0) []) := .old ⟨IsSl.nil _ _ _, fun b hb => hb.elim⟩
def en1 : En := ⟨[120], 2, 0, [120], []⟩
def a1 : Mh := ⟨1, 2, 0, 3⟩
def oneT (b : Nat) : List ET := [(en1, .slice (some ⟨b, 0, none⟩) 1 1)]
def oneB (b : Nat) : Ck := slc rByte (· = b) (.slice (some ⟨b, 0, none⟩) 1 1) [120]
theorem oneT_ens (b : Nat) : ens (oneT b) = [en1] := rfl
theorem oneT_ok {b : Nat} : ∀ x ∈ oneT b, EnOk x.1 := fun x hx => by
 obtain rfl : x = (en1, .slice (some ⟨b, 0, none⟩) 1 1) := by simpa [oneT] using hx
 exact (show EnOk en1 from ⟨⟨by decide, by decide⟩, ⟨by decide, by decide⟩, by decide, by decide, by decide⟩)
theorem oneT_small (b : Nat) : ∀ x ∈ oneT b, x.1.data.length ≤ 12000 := fun x hx => by
 obtain rfl : x = (en1, .slice (some ⟨b, 0, none⟩) 1 1) := by simpa [oneT] using hx
 show 1 ≤ 12000
 decide
theorem oneT_dat {b : Nat} {w : World} (h : (oneB b).φ w) : ∀ x ∈ oneT b, IsSl rByte (oneB b).S w x.2 x.1.data := fun x hx => by
 obtain rfl : x = (en1, .slice (some ⟨b, 0, none⟩) 1 1) := by simpa [oneT] using hx
 exact h
section
variable {P : Program} {n : Nat} {w0 : World} {S : Nat → Prop} {l : Fr} {m : List Ck} {Q : Exit → Act → World → Prop} {K : Act → World → Prop}
theorem may_treeZ {e : TypeId} {c : Ck} {v : Value} {xs : List ET} {r r' : List Ck} (h : Sel m (ownT e v xs) r) (h' : Sel m c r') (hok : ∀ x ∈ xs, EnOk x.1) (hd : ∀ w, c.φ w → ∀ x ∈ xs, IsSl rByte c.S w x.2 x.1.data) : May w0 S m (slc rEV (fun b => v.ownBlock = some b ∨ c.S b) v xs) :=
 .mix (fun w hw => ownT_sl (hw.holds _ h.mem) (fun b hb => .inl hb) hok fun x hx => (hd w (hw.holds _ h'.mem) x hx).mono fun k hk => .inr hk) fun b hb => .inr (by
  rcases hb with hb | hb
  ·exact ⟨_, h.mem, hb⟩
  exact ⟨_, h'.mem, hb⟩)
end
def sendsP (p : PM) (kd : Int) (ns : List Int) : Bool := (sendP p).1.isSome && (decide ((sentN p).k = kd) && decide ((sentN p).ns = ns))
def takesP (p : PM) (kd : Int) (ns : List Int) : Bool := decide ((takeM p ⟨kd, ns, [], []⟩).1 = 0)
def overP (p : PM) (n e : Int) : Bool := p.over && (decide (p.num = n) && decide (p.e = e))
set_option maxRecDepth 20000 in
set_option maxHeartbeats 4000000 in
theorem one27_tr : Tr Tryz.prog 43 #[] [] [] (TX (fun _ : Nat × Nat => True) (fun z => .slice (some ⟨z.1, 0, none⟩) 1 1) (fun z => [ownT 102 (.slice (some ⟨z.1, 0, none⟩) 1 1) (oneT z.2), oneB z.2])) := by
 refine Tr.of (l := []) Tryz.func43 rfl (n := 5) rfl Fa.nil (fun w0 hro => ?_)
 refine go [9,10,1,7,8,9,10] ?_
 refine G.op rfl (G.lit1 (vs := [.int .u8 120]) rfl Tryz.underlying31 kr rfl (by decide) (by decide) rfl rfl ?_)
 intro b2
 refine G.op rfl (G.constB (b := b2) (xs := [120]) rfl Tryz.underlying31 Tryz.underlying5 rfl (by decide) selT ?_)
 refine G.op rfl (G.val rfl rfl (pv_buildSt (z := [.string ⟨#[]⟩, .int .i64 0, .int .i64 0, .slice none 0 0, .string ⟨#[]⟩]) (pl := [(0, 1), (1, 1), (2, 1), (3, 1), (4, 1)]) Tryz.underlying102 kr kr rfl flT) ?_)
 refine G.op rfl (G.buildSlice (z := .agg #[.string ⟨#[]⟩, .int .i64 0, .int .i64 0, .slice none 0 0, .string ⟨#[]⟩]) (sz := 5) (cs := flatT (oneT b2)) rfl Tryz.underlying35 kr (by decide) (by decide) rfl kr ?_)
 intro b5
 refine G.ownBlk (b := b5) (k := 1) (sz := 5) selT rfl (by omega) ?_
 refine go [1,7,8,11] ?_
 exact G.doneX1 ((b5, b2)) trT rfl rfl rfl subT
def id1 : List UInt8 := nameM [120]
def it1 : It := ⟨[120], 2, 0, 1, [], [id1]⟩
theorem mk1 : mkM a1 [en1] = ((a1, [it1]), [(id1, [120])], 0) := by kernel_rfl
theorem mk1_0 : (mkM ⟨1, 2, 0, 3⟩ [en1]).2.2 = 0 := by
 show (mkM a1 [en1]).2.2 = 0
 rw [mk1]
def B1 : List UInt8 := bytesO a1 [it1]
theorem its1_ok {ys : List IT} (h : its ys = [it1]) : ∀ x ∈ ys, ItOk x.1 ∧ all16 x.1.ids := fun x hx => by
 have h1 : x.1 ∈ its ys := List.mem_map.2 ⟨x, hx, rfl⟩
 rw [h] at h1
 have h2 : x.1 = it1 := by simpa using h1
 have h3 : it1 = mkI en1 := by kernel_rfl
 rw [h2, h3]
 exact ⟨mkI_okX (show EnOk en1 from ⟨⟨by decide, by decide⟩, ⟨by decide, by decide⟩, by decide, by decide, by decide⟩) (by show 1 ≤ 1048576; decide), mkI_16 en1⟩
theorem B1_len : B1.length = 28 := by kernel_rfl
def pA : PM := newP 1 2 3 [en1]
theorem pA_ok : PmOk pA := new_ok ⟨by decide, by decide⟩ ⟨by decide, by decide⟩ (fun e he => by obtain rfl : e = en1 := (by simpa using he); show 1 ≤ 12000; decide) (by show 1 ≤ 500; decide) (by show (mkM a1 [en1]).2.2 = 0; rw [mk1])
set_option maxRecDepth 20000 in
set_option maxHeartbeats 4000000 in
theorem begun27_tr : Tr Tryz.prog 9 #[] [] [] (TX (fun x : PZ × Nat × (Nat → Prop) × World => PvOk x.2.2.1 x.2.2.2 x.1 ∧ x.1.pm = pA) (fun x => .pointer (some ⟨x.2.1, 0, none⟩)) (fun x => [blk x.2.1 85 [.bool x.1.made, x.1.bv, x.1.lv, .int .i64 x.1.cm, .int .i64 x.1.tk, .int .i64 (x.1.ph : Nat), x.1.leftv, x.1.waitv, .int .i64 (x.1.asked : Nat), x.1.lacksv, .int .i64 (x.1.rounds : Nat), .bool x.1.over, .int .i64 x.1.num, .int .i64 x.1.e], frz x.2.2.1 x.2.2.2, que 92 5 x.1.waitv x.1.wait.length (x.1.wait.flatMap awC), own 54 17 x.1.lacksv x.1.lacks.length (x.1.lacks.flatMap chC)])) := by
 refine Tr.of (l := []) Tryz.func9 rfl (n := 11) rfl Fa.nil (fun w0 hro => ?_)
 refine go [9,10,1,7,8,9,10] ?_
 refine G.op rfl (G.cS rfl rfl rfl rfl Tryz.func43 rfl rfl subT may0 (one27_tr) apT ?_)
 intro x4 hJ
 obtain ⟨bo, bd⟩ := x4
 try dsimp only at hJ
 try dsimp only
 refine G.op rfl (G.cS rfl rfl rfl rfl Tryz.func19 rfl rfl subT (may1 (may_treeZ (c := oneB bd) selT selT oneT_ok (fun w h => oneT_dat h))) (pnew_ok 1 2 3 _ (oneT bd) (oneT_small bd) (by show 1 ≤ 500; decide) ⟨by decide, by decide⟩ ⟨by decide, by decide⟩ (by rw [oneT_ens]; exact mk1_0)) apT ?_)
 intro x5 hJ
 obtain ⟨z1, D1, F1, W1⟩ := x5
 try dsimp only at hJ
 try dsimp only
 refine go [0] ?_
 refine G.op rfl (G.val rfl rfl (pv_extract (v := .pointer (some ⟨D1, 0, none⟩)) rfl rfl) ?_)
 refine go [2,50,9,1,1,7,8,9,9,10,0,2,14,7,8,60,0,13,8,9,10,0,1,7,8,11] ?_
 exact G.doneX1 ((z1, D1, F1, W1)) Y19 rfl rfl rfl subT
theorem sent_i64 {F : Nat → Prop} {W : World} {z : PZ} (hz : PvOk F W z) : ∀ x ∈ (sentN z.pm).ns, I64 x := fun x hx => by
 unfold sentN sendP at hx
 split at hx
 ·cases hx
 change x ∈ ((aws z.left).head?.getD ntz).ns at hx
 cases e : z.left with
 | nil => rw [e] at hx; cases hx
 | cons X t =>
  rw [e] at hx
  obtain ⟨h1, -⟩ := (hz.leftO X (by rw [e]; exact List.mem_cons_self ..)).1
  obtain ⟨ad, cap, b, off, h2, -, -, -, -, h3⟩ := h1.1.open
  obtain ⟨i, hi, rfl⟩ := List.getElem_of_mem (show x ∈ X.nv.n.ns from hx)
  exact (h3 i hi).2.2
theorem sent_16 {F : Nat → Prop} {W : World} {z : PZ} (hz : PvOk F W z) : all16 (sentN z.pm).ids := fun x hx => by
 unfold sentN sendP at hx
 split at hx
 ·cases hx
 change x ∈ ((aws z.left).head?.getD ntz).ids at hx
 cases e : z.left with
 | nil => rw [e] at hx; cases hx
 | cons X t =>
  rw [e] at hx
  obtain ⟨h1, -⟩ := (hz.leftO X (by rw [e]; exact List.mem_cons_self ..)).1
  obtain ⟨ad, cap, b, off, h2, -, -, -, -, h3⟩ := h1.2.1.open
  obtain ⟨i, hi, rfl⟩ := List.getElem_of_mem (show x ∈ X.nv.n.ids from hx)
  exact (h3 i hi).1
set_option maxRecDepth 20000 in
set_option maxHeartbeats 4000000 in
theorem sends_tr {F Pv : Nat → Prop} {W : World} (D : Nat) (z : PZ) (kd : Int) (v : Value) (ns : List Int) (hz : PvOk F W z) : Tr Tryz.prog 11 #[.pointer (some ⟨D, 0, none⟩), .int .i64 kd, v] [slc rInt Pv v ns] [blk D 85 [.bool z.made, z.bv, z.lv, .int .i64 z.cm, .int .i64 z.tk, .int .i64 (z.ph : Nat), z.leftv, z.waitv, .int .i64 (z.asked : Nat), z.lacksv, .int .i64 (z.rounds : Nat), .bool z.over, .int .i64 z.num, .int .i64 z.e], frz F W, que 92 5 z.waitv z.wait.length (z.wait.flatMap awC), own 54 17 z.lacksv z.lacks.length (z.lacks.flatMap chC)]
 (TX (fun x : PZ => PvOk F W x ∧ x.pm = (sendP z.pm).2) (fun _ => .bool (sendsP z.pm kd ns)) (fun x => [blk D 85 [.bool x.made, x.bv, x.lv, .int .i64 x.cm, .int .i64 x.tk, .int .i64 (x.ph : Nat), x.leftv, x.waitv, .int .i64 (x.asked : Nat), x.lacksv, .int .i64 (x.rounds : Nat), .bool x.over, .int .i64 x.num, .int .i64 x.e], frz F W, que 92 5 x.waitv x.wait.length (x.wait.flatMap awC), own 54 17 x.lacksv x.lacks.length (x.lacks.flatMap chC)])) := by
 refine Tr.of (l := [(0, .pointer (some ⟨D, 0, none⟩)), (1, .int .i64 kd), (2, v)]) Tryz.func11 rfl (n := 27) rfl (.cons rfl (.cons rfl (.cons rfl .nil))) (fun w0 hro => ?_)
 have hv := ro1 hro
 have h64 := sent_i64 hz
 refine go [9,10,1,7,8,9,10,0] ?_
 refine G.op rfl (G.cS rfl rfl rfl rfl Tryz.func21 rfl rfl subT may0 (send_tr (F := F) (W := W) D z hz) apT ?_)
 intro x11 hJ
 obtain ⟨z1, uN, uI, uB⟩ := x11
 try dsimp only at hJ
 try dsimp only
 refine G.ownFact (v := uN) selT (fun huN _ => ?_)
 refine G.ownFact (v := uI) selT (fun huI _ => ?_)
 refine G.ownFact (v := uB) selT (fun huB _ => ?_)
 obtain ⟨sb, hsb⟩ : ∃ c, (sendP z.pm).1.isSome = c := ⟨_, rfl⟩
 rw [hsb]
 refine go [0] ?_
 refine G.op rfl (G.val rfl rfl (pv_extract (v := .agg #[.int .i64 (sentN z.pm).k, uN, uI, uB]) rfl rfl) ?_)
 refine G.op rfl (G.val rfl rfl (pv_extract (v := .bool sb) rfl rfl) ?_)
 refine go [60,3] ?_
 intro b7
 refine go [20,1,7,8,9,10,0,0] ?_
 refine G.part (t := 15) rfl (fun h15 => ?_) (fun h15 => ?_)
 ·refine go [3,3,0,3,4,3,0,3,13,2,2,0] ?_
  refine G.partP (t := 21) rfl (fun h21 => ?_) (fun h21 => ?_)
  ·refine go [3,3,1,3,4,3,0] ?_
   refine G.want rfl rfl rfl (G.cR rfl rfl rfl rfl Tryz.func45 rfl rfl (may2 (may_ownN selT h64) (.old hv)) (sameInts_tr _ _ (sentN z.pm).ns ns) ?_)
   refine go [2,2,1,7,8,11] ?_
   exact G.doneX1 (z1) Y19 rfl rfl (by show Value.bool _ = Value.bool (sendsP z.pm kd ns); unfold sendsP; rw [hsb]; simp [*]) subT
  refine go [4,4,4,4,2,2,1,7,8,11] ?_
  exact G.doneX1 (z1) Y19 rfl rfl (by show Value.bool _ = Value.bool (sendsP z.pm kd ns); unfold sendsP; rw [hsb]; simp [*]) subT
 refine go [4,4,4,4,2,2,0,4,4,4,4,2,2,1,7,8,11] ?_
 exact G.doneX1 (z1) Y19 rfl rfl (by show Value.bool _ = Value.bool (sendsP z.pm kd ns); unfold sendsP; rw [hsb]; simp [*]) subT
set_option maxRecDepth 20000 in
set_option maxHeartbeats 4000000 in
theorem takes_tr {F Pv : Nat → Prop} {W : World} (D : Nat) (z : PZ) (kd : Int) (v : Value) (ns : List Int) (hz : PvOk F W z) (hp : PmOk z.pm) : Tr Tryz.prog 10 #[.pointer (some ⟨D, 0, none⟩), .int .i64 kd, v] [slc rInt Pv v ns] [blk D 85 [.bool z.made, z.bv, z.lv, .int .i64 z.cm, .int .i64 z.tk, .int .i64 (z.ph : Nat), z.leftv, z.waitv, .int .i64 (z.asked : Nat), z.lacksv, .int .i64 (z.rounds : Nat), .bool z.over, .int .i64 z.num, .int .i64 z.e], frz F W, que 92 5 z.waitv z.wait.length (z.wait.flatMap awC), own 54 17 z.lacksv z.lacks.length (z.lacks.flatMap chC)]
 (TX (fun x : PZ × (Nat → Prop) × World => Up F W x.2.1 x.2.2 ∧ PvOk x.2.1 x.2.2 x.1 ∧ x.1.pm = (takeM z.pm ⟨kd, ns, [], []⟩).2) (fun _ => .bool (takesP z.pm kd ns)) (fun x => [blk D 85 [.bool x.1.made, x.1.bv, x.1.lv, .int .i64 x.1.cm, .int .i64 x.1.tk, .int .i64 (x.1.ph : Nat), x.1.leftv, x.1.waitv, .int .i64 (x.1.asked : Nat), x.1.lacksv, .int .i64 (x.1.rounds : Nat), .bool x.1.over, .int .i64 x.1.num, .int .i64 x.1.e], frz x.2.1 x.2.2, que 92 5 x.1.waitv x.1.wait.length (x.1.wait.flatMap awC), own 54 17 x.1.lacksv x.1.lacks.length (x.1.lacks.flatMap chC)])) := by
 refine Tr.of (l := [(0, .pointer (some ⟨D, 0, none⟩)), (1, .int .i64 kd), (2, v)]) Tryz.func10 rfl (n := 13) rfl (.cons rfl (.cons rfl (.cons rfl .nil))) (fun w0 hro => ?_)
 have hv := ro1 hro
 have hvv := hv
 obtain ⟨av, cv, bv, fv, rfl, _⟩ := Ro.open hvv
 refine go [9,10,1,7,8,9,10,0,0,0,2,50,2] ?_
 refine G.op rfl (G.cS rfl rfl rfl rfl Tryz.func14 rfl rfl subT (may3 (.old hv) may_nilZ may_nilZ) (ptake_tr (F := F) (W := W) kd _ _ _ ns [] [] D z hz hp (by have := hp.l; rwa [pm_l] at this)) apT ?_)
 intro x11 hJ
 obtain ⟨z1, F1, W1⟩ := x11
 try dsimp only at hJ
 try dsimp only
 refine go [2,13,1,7,8,11] ?_
 exact G.doneX1 ((z1, F1, W1)) Y19 rfl rfl rfl subT
set_option maxRecDepth 20000 in
set_option maxHeartbeats 4000000 in
theorem over27_tr (D : Nat) (z : PZ) (n e : Int) : Tr Tryz.prog 13 #[.pointer (some ⟨D, 0, none⟩), .int .i64 n, .int .i64 e] [blk D 85 [.bool z.made, z.bv, z.lv, .int .i64 z.cm, .int .i64 z.tk, .int .i64 (z.ph : Nat), z.leftv, z.waitv, .int .i64 (z.asked : Nat), z.lacksv, .int .i64 (z.rounds : Nat), .bool z.over, .int .i64 z.num, .int .i64 z.e]] [] (T0 (.bool (overP z.pm n e))) := by
 refine Tr.of (l := [(0, .pointer (some ⟨D, 0, none⟩)), (1, .int .i64 n), (2, .int .i64 e)]) Tryz.func13 rfl (n := 27) rfl (.cons rfl (.cons rfl (.cons rfl .nil))) (fun w0 hro => ?_)
 have hP := ro1 hro
 refine go [9,10,1,7,8,9,10,0] ?_
 refine G.op rfl (G.cR rfl rfl rfl rfl Tryz.func28 rfl rfl (may1 (.old hP)) (done_tr D z) ?_)
 refine go [0] ?_
 refine G.op rfl (G.val rfl rfl (pv_extract (v := .int .i64 z.num) rfl rfl) ?_)
 refine G.op rfl (G.val rfl rfl (pv_extract (v := .int .i64 z.e) rfl rfl) ?_)
 refine G.op rfl (G.val rfl rfl (pv_extract (v := .bool z.over) rfl rfl) ?_)
 refine go [1,1,1,7,8,9,10,0,0] ?_
 refine G.part (t := 17) rfl (fun h17 => ?_) (fun h17 => ?_)
 ·refine go [3,0,3,0,3,13,2,2,0] ?_
  refine G.partP (t := 22) rfl (fun h22 => ?_) (fun h22 => ?_)
  ·refine go [3,0,3,0,3,13,2,2,1,7,8,11] ?_
   exact G.done0G rfl (Rv.tmp rfl Rv.nil) Y34
  refine go [4,4,4,2,2,1,7,8,11] ?_
  exact G.done0G rfl (Rv.tmp rfl Rv.nil) Y34
 refine go [4,4,4,2,2,0,4,4,4,2,2,1,7,8,11] ?_
 exact G.done0G rfl (Rv.tmp rfl Rv.nil) Y34
set_option maxRecDepth 20000 in
set_option maxHeartbeats 4000000 in
theorem size27_tr : Tr Tryz.prog 12 #[] [] [] (T0 (.int .i64 28)) := by
 refine Tr.of (l := []) Tryz.func12 rfl (n := 19) rfl Fa.nil (fun w0 hro => ?_)
 refine go [9,10,1,7,8,9,10] ?_
 refine G.op rfl (G.cS rfl rfl rfl rfl Tryz.func43 rfl rfl subT may0 (one27_tr) apT ?_)
 intro x7 hJ
 obtain ⟨bo, bd⟩ := x7
 try dsimp only at hJ
 try dsimp only
 refine G.op rfl (G.cS rfl rfl rfl rfl Tryz.func16 rfl rfl subT (may1 (may_treeZ (c := oneB bd) selT selT oneT_ok (fun w h => oneT_dat h))) (mmakeA_tr 1 2 3 _ (oneT bd)) apT ?_)
 intro x8 hJ
 obtain ⟨⟨vz, ys⟩, vk, ck⟩ := x8
 try dsimp only at hJ
 try dsimp only
 rw [oneT_ens, show ((⟨1, 2, 0, 3⟩ : Mh)) = a1 from rfl, mk1] at hJ
 rw [oneT_ens, show ((⟨1, 2, 0, 3⟩ : Mh)) = a1 from rfl, mk1]
 obtain ⟨hys, hck⟩ := hJ
 refine G.ownFact (v := vz) selT (fun hvz _ => ?_)
 refine G.ownFact (v := vk) selT (fun hvk _ => ?_)
 have hok := its1_ok hys
 refine go [0] ?_
 refine G.op rfl (G.val rfl rfl (pv_extract (v := .agg #[.int .i64 1, .int .i64 2, .int .i64 0, .int .i64 3, vz]) rfl rfl) ?_)
 refine G.op rfl (G.val rfl rfl (pv_extract (v := vk) rfl rfl) ?_)
 refine go [2,50,9,60,6] ?_
 intro b1
 refine go [20,1,1,7,8,9,10,2,50,4] ?_
 refine G.op rfl (G.cS rfl rfl rfl rfl Tryz.func17 rfl rfl subT (may1 (may_items selT selT hok)) (mbytes_tr a1 _ ys) apT ?_)
 intro x14 hJ
 try dsimp only at hJ
 try dsimp only
 rw [show its ys = [it1] from hys]
 refine G.ownBSl (v := x14) selT (fun ad14 cap14 hx14 => ?_)
 rw [show (bytesO a1 [it1]).length = 28 from B1_len] at hx14
 subst hx14
 refine go [0] ?_
 refine G.op rfl (G.val rfl rfl (pv_extract (v := .slice ad14 28 cap14) rfl rfl) ?_)
 refine go [2,7,1,1,7,8,9,10,0,2,5,1,7,8,11] ?_
 exact G.done0G rfl (Rv.tmp rfl Rv.nil) Y7
def ans (k : Int) (ns : List Int) : Nt := ⟨k, ns, [], []⟩
def pB : PM := (sendP pA).2
def pC : PM := (takeM pB (ans 16 [0])).2
def pD : PM := (sendP pC).2
def pE : PM := (takeM pD (ans 16 [28])).2
def pF : PM := (sendP pE).2
def pG : PM := (takeM pF (ans 17 [0])).2
def pH : PM := (sendP pG).2
def pI : PM := (takeM pH ⟨18, [], [id1], []⟩).2
def pJ : PM := (sendP pI).2
def pK : PM := (takeM pJ (ans 19 [9])).2
def pL : PM := (takeM pF (ans 17 [1])).2
def pM : PM := (sendP pL).2
def pN : PM := (takeM pM (ans 20 [6, 1])).2
def pO : PM := (takeM pB (ans 19 [4])).2
def pP : PM := (takeM pB (ans 16 [1])).2
theorem pB_ok : PmOk pB := send_ok pA_ok
theorem pC_ok : PmOk pC := take_ok _ pB_ok
theorem pD_ok : PmOk pD := send_ok pC_ok
theorem pE_ok : PmOk pE := take_ok _ pD_ok
theorem pF_ok : PmOk pF := send_ok pE_ok
theorem pG_ok : PmOk pG := take_ok _ pF_ok
theorem pH_ok : PmOk pH := send_ok pG_ok
theorem pI_ok : PmOk pI := take_ok _ pH_ok
theorem pJ_ok : PmOk pJ := send_ok pI_ok
theorem pL_ok : PmOk pL := take_ok _ pF_ok
theorem pM_ok : PmOk pM := send_ok pL_ok
theorem pO_ok : PmOk pO := take_ok _ pB_ok
theorem id1_len : id1.length = 16 := nameM_len _
theorem news_id {w : World} {b : Nat} {x : List UInt8} (h : News w b 0 (flatI [x])) : w.rangeAt b (0 + 0 * 16) (x.map vByte) := fun j v hj => by
 have := h j v (by simpa [flatI] using hj)
 simpa using this
theorem all_i64 (l : List Int) (h : (l.all fun x => decide (-9223372036854775808 ≤ x) && decide (x ≤ 9223372036854775807)) = true) : ∀ x ∈ l, I64 x := fun x hx => by
 have := List.all_eq_true.1 h x hx
 rw [Bool.and_eq_true] at this
 exact ⟨of_decide_eq_true this.1, of_decide_eq_true this.2⟩
theorem kA1 : sendsP pA 1 [2, 3, 28] = true := by kernel_rfl
theorem kB0 : (sendP pB).1.isSome = false := by kernel_rfl
theorem kB1 : (sendP pB).2 = pB := by kernel_rfl
theorem kB2 : takesP pB 16 [0] = true := by kernel_rfl
theorem kC1 : sendsP pC 2 [0] = true := by kernel_rfl
theorem kD1 : takesP pD 16 [28] = true := by kernel_rfl
theorem kE0 : (sendP pE).1.isSome = true := by kernel_rfl
theorem kE1 : (sentN pE).k = 3 := by kernel_rfl
theorem kE2 : (sentN pE).ids = [id1] := by kernel_rfl
theorem kF1 : takesP pF 17 [0] = true := by kernel_rfl
theorem kG0 : (sendP pG).1.isSome = true := by kernel_rfl
theorem kG1 : (sentN pG).k = 4 := by kernel_rfl
theorem kG2 : (sentN pG).ids = [id1] := by kernel_rfl
theorem kG3 : (sentN pG).bs = [120] := by kernel_rfl
theorem kH1 : (takeM pH ⟨18, [], [id1], []⟩).1 = 0 := by kernel_rfl
theorem kI1 : sendsP pI 5 [] = true := by kernel_rfl
theorem kJ1 : takesP pJ 19 [9] = true := by kernel_rfl
theorem kK1 : overP pK 9 0 = true := by kernel_rfl
theorem kF2 : takesP pF 17 [1] = true := by kernel_rfl
theorem kL1 : sendsP pL 5 [] = true := by kernel_rfl
theorem kM1 : takesP pM 20 [6, 1] = true := by kernel_rfl
theorem kN1 : sendsP pN 3 [] = true := by kernel_rfl
theorem kB3 : takesP pB 19 [4] = true := by kernel_rfl
theorem kO1 : overP pO 4 0 = true := by kernel_rfl
theorem kO2 : (takeM pO ⟨0, [], [], []⟩).1 = 9 := by kernel_rfl
theorem kB4 : takesP pB 16 [1] = true := by kernel_rfl
theorem kP1 : overP pP 0 370 = true := by kernel_rfl
set_option maxRecDepth 20000 in
set_option maxHeartbeats 4000000 in
theorem asked27_tr : Tr Tryz.prog 8 #[] [] [] (TX (fun x : PZ × Nat × (Nat → Prop) × World => PvOk x.2.2.1 x.2.2.2 x.1 ∧ x.1.pm = pF) (fun x => .pointer (some ⟨x.2.1, 0, none⟩)) (fun x => [blk x.2.1 85 [.bool x.1.made, x.1.bv, x.1.lv, .int .i64 x.1.cm, .int .i64 x.1.tk, .int .i64 (x.1.ph : Nat), x.1.leftv, x.1.waitv, .int .i64 (x.1.asked : Nat), x.1.lacksv, .int .i64 (x.1.rounds : Nat), .bool x.1.over, .int .i64 x.1.num, .int .i64 x.1.e], frz x.2.2.1 x.2.2.2, que 92 5 x.1.waitv x.1.wait.length (x.1.wait.flatMap awC), own 54 17 x.1.lacksv x.1.lacks.length (x.1.lacks.flatMap chC)])) := by
 refine Tr.of (l := []) Tryz.func8 rfl (n := 96) rfl Fa.nil (fun w0 hro => ?_)
 refine go [9,10,1,7,8,9,10] ?_
 refine G.op rfl (G.cS rfl rfl rfl rfl Tryz.func43 rfl rfl subT may0 (one27_tr) apT ?_)
 intro x12 hJ
 obtain ⟨bo, bd⟩ := x12
 try dsimp only at hJ
 try dsimp only
 refine G.op rfl (G.cS rfl rfl rfl rfl Tryz.func16 rfl rfl subT (may1 (may_treeZ (c := oneB bd) selT selT oneT_ok (fun w h => oneT_dat h))) (mmakeA_tr 1 2 3 _ (oneT bd)) apT ?_)
 intro x13 hJ
 obtain ⟨⟨vz, ys⟩, vk, ck⟩ := x13
 try dsimp only at hJ
 try dsimp only
 rw [oneT_ens, show ((⟨1, 2, 0, 3⟩ : Mh)) = a1 from rfl, mk1] at hJ
 rw [oneT_ens, show ((⟨1, 2, 0, 3⟩ : Mh)) = a1 from rfl, mk1]
 obtain ⟨hys, hck⟩ := hJ
 refine G.ownFact (v := vz) selT (fun hvz _ => ?_)
 refine G.ownFact (v := vk) selT (fun hvk _ => ?_)
 have hok := its1_ok hys
 refine go [0] ?_
 refine G.op rfl (G.val rfl rfl (pv_extract (v := .agg #[.int .i64 1, .int .i64 2, .int .i64 0, .int .i64 3, vz]) rfl rfl) ?_)
 refine G.op rfl (G.val rfl rfl (pv_extract (v := vk) rfl rfl) ?_)
 refine go [2,50,9,60,6] ?_
 intro b1
 refine go [20,1,1,7,8,9,10,2,50,4] ?_
 refine G.op rfl (G.cS rfl rfl rfl rfl Tryz.func17 rfl rfl subT (may1 (may_items selT selT hok)) (mbytes_tr a1 _ ys) apT ?_)
 intro x19 hJ
 try dsimp only at hJ
 try dsimp only
 rw [show its ys = [it1] from hys, show bytesE a1 [it1] = 0 from by kernel_rfl]
 refine G.ownBSl (v := x19) selT (fun ad19 cap19 hx19 => ?_)
 rw [show (bytesO a1 [it1]).length = 28 from B1_len] at hx19
 subst hx19
 refine go [0] ?_
 refine G.op rfl (G.val rfl rfl (pv_extract (v := .slice ad19 28 cap19) rfl rfl) ?_)
 refine go [2,50,9,1,1,7,8,9,10] ?_
 refine G.op rfl (G.cS rfl rfl rfl rfl Tryz.func9 rfl rfl subT may0 (begun27_tr) apT ?_)
 intro x22 hJ
 obtain ⟨zA, DA, FA, WA⟩ := x22
 try dsimp only at hJ
 try dsimp only
 obtain ⟨hzA, hpzA⟩ := hJ
 refine go [1,7,8,9,9,10,0,2,14,0,3,0,3,14,2,2,0,3,0,3,50,3,2,2,0,3,0,3,0,3,5] ?_
 refine G.want rfl rfl rfl (G.lit1 (vs := [_, _, _]) rfl Tryz.underlying29 kr rfl (by decide) (by decide) rfl rfl ?_)
 intro b37
 refine G.ownBlk (b := b37) (k := 3) (sz := 1) selT rfl (by omega) ?_
 refine G.want rfl rfl rfl (G.cS rfl rfl rfl rfl Tryz.func11 rfl rfl subT (may1 (may_ownN selT (all_i64 _ (by decide)))) (sends_tr (F := FA) (W := WA) DA zA 1 _ [2, 3, 28] hzA) apT ?_)
 intro x38 hJ
 try dsimp only at hJ
 try dsimp only
 rw [hpzA, kA1]
 obtain ⟨hx38, hpx38⟩ := hJ
 replace hpx38 : x38.pm = pB := hpx38.trans (by rw [hpzA]; try rfl)
 refine go [3,25,2,2,7,8,60,0,13,8,9,10,0] ?_
 refine G.op rfl (G.cS rfl rfl rfl rfl Tryz.func21 rfl rfl subT may0 (send_tr (F := FA) (W := WA) DA x38 hx38) apT ?_)
 intro x43 hJ
 obtain ⟨z2, uNz2, uIz2, uBz2⟩ := x43
 try dsimp only at hJ
 try dsimp only
 have h16z2 := sent_16 hx38
 have h64z2 := sent_i64 hx38
 rw [hpx38] at h16z2 h64z2
 rw [hpx38, kB0]
 obtain ⟨hz2, hpz2⟩ := hJ
 replace hpz2 : z2.pm = pB := hpz2.trans (by rw [hpx38]; first | rfl | exact kB1)
 refine G.ownFact (v := uNz2) selT (fun huNz2 _ => ?_)
 refine G.ownFact (v := uBz2) selT (fun huBz2 _ => ?_)
 refine G.ownFact (v := uIz2) selT (fun huIz2 _ => ?_)
 refine go [0] ?_
 refine G.op rfl (G.val rfl rfl (pv_extract (v := .agg #[.int .i64 (sentN pB).k, uNz2, uIz2, uBz2]) rfl rfl) ?_)
 refine G.op rfl (G.val rfl rfl (pv_extract (v := .bool false) rfl rfl) ?_)
 refine go [60,3] ?_
 intro b7
 refine go [20,1,7,8,9,9,10,0,0,3,0,60,7] ?_
 intro b49
 refine G.ownBlk (b := b49) (k := 1) (sz := 1) selT rfl (by omega) ?_
 refine G.want rfl rfl rfl (G.cS rfl rfl rfl rfl Tryz.func10 rfl rfl subT (may1 (may_ownN selT (all_i64 _ (by decide)))) (takes_tr (F := FA) (W := WA) DA z2 16 _ [0] hz2 (by rw [hpz2]; exact pB_ok)) apT ?_)
 intro x50 hJ
 obtain ⟨z3, Fz3, Wz3⟩ := x50
 try dsimp only at hJ
 try dsimp only
 rw [hpz2, kB2]
 obtain ⟨hUz3, hz3, hpz3⟩ := hJ
 replace hpz3 : z3.pm = pC := hpz3.trans (by rw [hpz2]; try rfl)
 refine go [3,25,2,2,0,3,0,60,7] ?_
 intro b55
 refine G.ownBlk (b := b55) (k := 1) (sz := 1) selT rfl (by omega) ?_
 refine G.want rfl rfl rfl (G.cS rfl rfl rfl rfl Tryz.func11 rfl rfl subT (may1 (may_ownN selT (all_i64 _ (by decide)))) (sends_tr (F := Fz3) (W := Wz3) DA z3 2 _ [0] hz3) apT ?_)
 intro x56 hJ
 try dsimp only at hJ
 try dsimp only
 rw [hpz3, kC1]
 obtain ⟨hx56, hpx56⟩ := hJ
 replace hpx56 : x56.pm = pD := hpx56.trans (by rw [hpz3]; try rfl)
 refine go [3,25,2,2,0,3,0,3,0,3,5,60,7] ?_
 intro b63
 refine G.ownBlk (b := b63) (k := 1) (sz := 1) selT rfl (by omega) ?_
 refine G.want rfl rfl rfl (G.cS rfl rfl rfl rfl Tryz.func10 rfl rfl subT (may1 (may_ownN selT (all_i64 _ (by decide)))) (takes_tr (F := Fz3) (W := Wz3) DA x56 16 _ [28] hx56 (by rw [hpx56]; exact pD_ok)) apT ?_)
 intro x64 hJ
 obtain ⟨z5, Fz5, Wz5⟩ := x64
 try dsimp only at hJ
 try dsimp only
 rw [hpx56, kD1]
 obtain ⟨hUz5, hz5, hpz5⟩ := hJ
 replace hpz5 : z5.pm = pE := hpz5.trans (by rw [hpx56]; try rfl)
 refine go [3,25,2,2,7,8,60,0,13,8,9,10,0] ?_
 refine G.op rfl (G.cS rfl rfl rfl rfl Tryz.func21 rfl rfl subT may0 (send_tr (F := Fz5) (W := Wz5) DA z5 hz5) apT ?_)
 intro x69 hJ
 obtain ⟨z6, uNz6, uIz6, uBz6⟩ := x69
 try dsimp only at hJ
 try dsimp only
 have h16z6 := sent_16 hz5
 have h64z6 := sent_i64 hz5
 rw [hpz5] at h16z6 h64z6
 rw [hpz5, kE0]
 obtain ⟨hz6, hpz6⟩ := hJ
 replace hpz6 : z6.pm = pF := hpz6.trans (by rw [hpz5]; first | rfl | exact kB1)
 refine G.ownFact (v := uNz6) selT (fun huNz6 _ => ?_)
 refine G.ownFact (v := uBz6) selT (fun huBz6 _ => ?_)
 refine G.ownFact (v := uIz6) selT (fun huIz6 _ => ?_)
 rw [kE1, kE2]
 refine G.ownNews (v := uIz6) selT (fun na nc nb hnv hnk hnm hnd hnn hnews => ?_)
 subst hnv
 refine go [0] ?_
 refine G.op rfl (G.val rfl rfl (pv_extract (v := .agg #[.int .i64 3, uNz6, .slice na [id1].length nc, uBz6]) rfl rfl) ?_)
 refine G.op rfl (G.val rfl rfl (pv_extract (v := .bool true) rfl rfl) ?_)
 refine go [60,3] ?_
 intro b9
 refine go [20,1,7,8,9,9] ?_
 refine G.drawT (nn := 23) (p := []) (rem := 8388607) [0, 1, 2, 4, 12, 20, 36, 68, 128, 384, 640, 1152, 2176, 4224, 8192, 24576, 40960, 73728, 8192, 270336, 532480, 1187840, 2105344] [0, 1, 2, 4, 12, 20, 36, 64, 128, 384, 640, 1152, 2176, 4096, 8192, 24576, 40960, 73728, 8192, 270336, 532480, 1187840, 2105344] kr ⟨rfl, by kernel_rfl, by kernel_rfl⟩ subT kr (fun hT10 => ?_)
 refine go [22,0,8388606,0,22,1,8388604,25,22,2,8388600,0,22,3,8388592,3,0,24,4,8388576,25,4,26,22,5,8388544,14,22,6,8388480,2,22,7,8388352,0,22,8,8388096,3,2,24,9,8387584,25,4,26,22,10,8386560,5,22,11,8384512,14,22,12,8380416,2,22,13,8372224,0,22,14,8355840,3,2,22,15,8323072,4] ?_
 refine G.takeT hT10 (i := 16) (rem' := 8257536) rfl rfl rfl kr (fun _ _ _ h => h) rfl (pv_ixSl (sz := 16) (k := 0) Tryz.underlying30 kr rfl rfl hnd rfl (by show 0 < 1; omega)) subT ?_
 refine G.takeT hT10 (i := 17) (rem' := 8126464) rfl rfl rfl kr (fun _ _ _ h => h) rfl (pv_loadN (cs := id1.map vByte) Tryz.underlying52 rfl (by rw [List.length_map, id1_len]; kernel_rfl) rfl (fun w hw => news_id (hnews selD w hw))) subT ?_
 refine go [24,18,7864320] ?_
 refine G.turnOp rfl rfl (G.lit1 (vs := [.int .u8 120]) rfl Tryz.underlying31 kr rfl (by decide) (by decide) rfl rfl ?_)
 intro b90
 refine go [26,24,19,7340032] ?_
 refine G.turnOp rfl rfl (G.constB (b := b90) (xs := [120]) rfl Tryz.underlying31 Tryz.underlying5 rfl (by decide) selT ?_)
 refine go [26,24,20,6291456] ?_
 refine G.turnOp rfl rfl (G.cR rfl rfl rfl rfl Tryz.func44 rfl rfl (may1 (Sel.may selT)) (name_tr (Pu := (· = b90)) _ [120] (by decide)) ?_)
 refine go [26] ?_
 refine G.takeT hT10 (i := 21) (rem' := 4194304) rfl rfl rfl kr (fun _ _ _ h => h) rfl ((pv_neqAr8 (a := id1) (b := id1) Tryz.underlying52 rfl kr Tryz.underlying5 kr rfl rfl id1_len id1_len).cast (v' := .bool false) (congrArg Value.bool (by simp))) subT ?_
 refine go [22,22,0,2,27,8,60,0,13,8,9,10,0,1,7,8,11] ?_
 exact G.doneX1 ((z6, DA, Fz5, Wz5)) (by first | exact trivial | ((try dsimp only) <;> exact ⟨hz6, hpz6⟩)) rfl rfl rfl subT
set_option maxRecDepth 20000 in
set_option maxHeartbeats 4000000 in
theorem awake27_tr : Tr Tryz.prog 15 #[] [] [] (T0 (.bool true)) := by
 refine Tr.of (l := []) Tryz.func15 rfl (n := 52) rfl Fa.nil (fun w0 hro => ?_)
 refine go [9,10,1,7,8,9,10] ?_
 refine G.op rfl (G.cS rfl rfl rfl rfl Tryz.func8 rfl rfl subT may0 (asked27_tr) apT ?_)
 intro x4 hJ
 obtain ⟨zF, DF, FF, WF⟩ := x4
 try dsimp only at hJ
 try dsimp only
 obtain ⟨hzF, hpzF⟩ := hJ
 refine go [1,7,8,9,9,10,0,2,50,3,0,3,0,60,7] ?_
 intro b9
 refine G.ownBlk (b := b9) (k := 1) (sz := 1) selT rfl (by omega) ?_
 refine G.want rfl rfl rfl (G.cS rfl rfl rfl rfl Tryz.func10 rfl rfl subT (may1 (may_ownN selT (all_i64 _ (by decide)))) (takes_tr (F := FF) (W := WF) DF zF 17 _ [0] hzF (by rw [hpzF]; exact pF_ok)) apT ?_)
 intro x10 hJ
 obtain ⟨z1, Fz1, Wz1⟩ := x10
 try dsimp only at hJ
 try dsimp only
 rw [hpzF, kF1]
 obtain ⟨hUz1, hz1, hpz1⟩ := hJ
 replace hpz1 : z1.pm = pG := hpz1.trans (by rw [hpzF]; try rfl)
 refine go [3,25,2,2,7,8,60,0,13,8,9,10,0] ?_
 refine G.op rfl (G.cS rfl rfl rfl rfl Tryz.func21 rfl rfl subT may0 (send_tr (F := Fz1) (W := Wz1) DF z1 hz1) apT ?_)
 intro x15 hJ
 obtain ⟨z2, uNz2, uIz2, uBz2⟩ := x15
 try dsimp only at hJ
 try dsimp only
 have h16z2 := sent_16 hz1
 have h64z2 := sent_i64 hz1
 rw [hpz1] at h16z2 h64z2
 rw [hpz1, kG0]
 obtain ⟨hz2, hpz2⟩ := hJ
 replace hpz2 : z2.pm = pH := hpz2.trans (by rw [hpz1]; first | rfl | exact kB1)
 refine G.ownFact (v := uNz2) selT (fun huNz2 _ => ?_)
 refine G.ownFact (v := uBz2) selT (fun huBz2 _ => ?_)
 refine G.ownFact (v := uIz2) selT (fun huIz2 _ => ?_)
 rw [kG2] at h16z2
 rw [kG1, kG2, kG3]
 refine go [0] ?_
 refine G.op rfl (G.val rfl rfl (pv_extract (v := .agg #[.int .i64 4, uNz2, uIz2, uBz2]) rfl rfl) ?_)
 refine G.op rfl (G.val rfl rfl (pv_extract (v := .bool true) rfl rfl) ?_)
 refine go [60,3] ?_
 intro b2
 refine go [20,1,7,8,9,10,0,0,3,3,0,3,4] ?_
 refine G.want rfl rfl rfl (G.val rfl rfl ((pv_eql rfl rfl).cast (v' := .bool true) (congrArg Value.bool (by exact decide_eq_true rfl))) ?_)
 refine go [2,2,0,3,3,3,3,4] ?_
 refine G.want rfl rfl rfl (G.lit1 (vs := [.int .u8 120]) rfl Tryz.underlying31 kr rfl (by decide) (by decide) rfl rfl ?_)
 intro b27
 refine G.want rfl rfl rfl (G.constB (b := b27) (xs := [120]) rfl Tryz.underlying31 Tryz.underlying5 rfl (by decide) selT ?_)
 refine G.want rfl rfl rfl (G.cR rfl rfl rfl rfl Tryz.func24 rfl rfl (may2 (may_own selT rfl (fun _ _ => trivial)) (Sel.may selT)) (same_tr _ _ [120] [120]) ?_)
 rw [show decide (([120] : List UInt8) = [120]) = true from decide_eq_true rfl]
 refine go [2,2,0,3,0,3,3,2,3,4,3,50,2] ?_
 refine G.want rfl rfl rfl (G.cS rfl rfl rfl rfl Tryz.func14 rfl rfl subT (may3 may_nilZ (may_ownI selT h16z2) may_nilZ) (ptake_tr (F := Fz1) (W := Wz1) 18 _ _ _ [] [id1] [] DF z2 hz2 (by rw [hpz2]; exact pH_ok) (by have := pH_ok.l; rw [← hpz2, pm_l] at this; exact this)) apT ?_)
 intro x36 hJ
 obtain ⟨z3, Fz3, Wz3⟩ := x36
 try dsimp only at hJ
 try dsimp only
 rw [hpz2, kH1]
 obtain ⟨hUz3, hz3, hpz3⟩ := hJ
 replace hpz3 : z3.pm = pI := hpz3.trans (by rw [hpz2]; try rfl)
 refine G.want rfl rfl rfl (G.val rfl rfl ((pv_eql rfl rfl).cast (v' := .bool true) (congrArg Value.bool (by exact decide_eq_true rfl))) ?_)
 refine go [2,2,0,3,0] ?_
 refine G.want rfl rfl rfl (G.cS rfl rfl rfl rfl Tryz.func11 rfl rfl subT (may1 may_nilZ) (sends_tr (F := Fz3) (W := Wz3) DF z3 5 _ [] hz3) apT ?_)
 intro x41 hJ
 try dsimp only at hJ
 try dsimp only
 rw [hpz3, kI1]
 obtain ⟨hx41, hpx41⟩ := hJ
 replace hpx41 : x41.pm = pJ := hpx41.trans (by rw [hpz3]; try rfl)
 refine go [2,2,0,3,0,60,7] ?_
 intro b45
 refine G.ownBlk (b := b45) (k := 1) (sz := 1) selT rfl (by omega) ?_
 refine G.want rfl rfl rfl (G.cS rfl rfl rfl rfl Tryz.func10 rfl rfl subT (may1 (may_ownN selT (all_i64 _ (by decide)))) (takes_tr (F := Fz3) (W := Wz3) DF x41 19 _ [9] hx41 (by rw [hpx41]; exact pJ_ok)) apT ?_)
 intro x46 hJ
 obtain ⟨z5, Fz5, Wz5⟩ := x46
 try dsimp only at hJ
 try dsimp only
 rw [hpx41, kJ1]
 obtain ⟨hUz5, hz5, hpz5⟩ := hJ
 replace hpz5 : z5.pm = pK := hpz5.trans (by rw [hpx41]; try rfl)
 refine go [2,2,0,3,0] ?_
 refine G.want rfl rfl rfl (G.cR rfl rfl rfl rfl Tryz.func13 rfl rfl (may1 (Sel.may selT)) (over27_tr DF z5 9 0) ?_)
 rw [hpz5, kK1]
 refine go [2,2,1,7,8,11] ?_
 exact G.done0G rfl (Rv.tmp rfl Rv.nil) Y7
set_option maxRecDepth 20000 in
set_option maxHeartbeats 4000000 in
theorem known27_tr : Tr Tryz.prog 3 #[] [] [] (T0 (.bool true)) := by
 refine Tr.of (l := []) Tryz.func3 rfl (n := 78) rfl Fa.nil (fun w0 hro => ?_)
 refine go [9,10,1,7,8,9,10] ?_
 refine G.op rfl (G.cS rfl rfl rfl rfl Tryz.func8 rfl rfl subT may0 (asked27_tr) apT ?_)
 intro x7 hJ
 obtain ⟨zP, DP, FP, WP⟩ := x7
 try dsimp only at hJ
 try dsimp only
 obtain ⟨hzP, hpzP⟩ := hJ
 refine G.op rfl (G.cS rfl rfl rfl rfl Tryz.func9 rfl rfl subT may0 (begun27_tr) apT ?_)
 intro x8 hJ
 obtain ⟨zQ, DQ, FQ, WQ⟩ := x8
 try dsimp only at hJ
 try dsimp only
 obtain ⟨hzQ, hpzQ⟩ := hJ
 refine G.op rfl (G.cS rfl rfl rfl rfl Tryz.func9 rfl rfl subT may0 (begun27_tr) apT ?_)
 intro x9 hJ
 obtain ⟨zR, DR, FR, WR⟩ := x9
 try dsimp only at hJ
 try dsimp only
 obtain ⟨hzR, hpzR⟩ := hJ
 refine go [1,1,1,7,8,9,9,10,0,2,50,3,0,3,0,3,50,3,2,2,0,3,0,3,50,3,2,2,7,8,60,0,13,8,9,10,0,60,15] ?_
 intro b21
 refine G.ownBlk (b := b21) (k := 1) (sz := 1) selT rfl (by omega) ?_
 refine G.op rfl (G.cS rfl rfl rfl rfl Tryz.func10 rfl rfl subT (may1 (may_ownN selT (all_i64 _ (by decide)))) (takes_tr (F := FP) (W := WP) DP zP 17 _ [1] hzP (by rw [hpzP]; exact pF_ok)) apT ?_)
 intro x22 hJ
 obtain ⟨a1, Fa1, Wa1⟩ := x22
 try dsimp only at hJ
 try dsimp only
 rw [hpzP, kF2]
 obtain ⟨hUa1, ha1, hpa1⟩ := hJ
 replace hpa1 : a1.pm = pL := hpa1.trans (by rw [hpzP]; try rfl)
 refine go [0,3,0] ?_
 refine G.want rfl rfl rfl (G.cS rfl rfl rfl rfl Tryz.func11 rfl rfl subT (may1 may_nilZ) (sends_tr (F := Fa1) (W := Wa1) DP a1 5 _ [] ha1) apT ?_)
 intro x25 hJ
 try dsimp only at hJ
 try dsimp only
 rw [hpa1, kL1]
 obtain ⟨hx25, hpx25⟩ := hJ
 replace hpx25 : x25.pm = pM := hpx25.trans (by rw [hpa1]; try rfl)
 refine go [2,2,0,3,0] ?_
 refine G.want rfl rfl rfl (G.lit1 (vs := [_, _]) rfl Tryz.underlying29 kr rfl (by decide) (by decide) rfl rfl ?_)
 intro b29
 refine G.ownBlk (b := b29) (k := 2) (sz := 1) selT rfl (by omega) ?_
 refine G.want rfl rfl rfl (G.cS rfl rfl rfl rfl Tryz.func10 rfl rfl subT (may1 (may_ownN selT (all_i64 _ (by decide)))) (takes_tr (F := Fa1) (W := Wa1) DP x25 20 _ [6, 1] hx25 (by rw [hpx25]; exact pM_ok)) apT ?_)
 intro x30 hJ
 obtain ⟨a3, Fa3, Wa3⟩ := x30
 try dsimp only at hJ
 try dsimp only
 rw [hpx25, kM1]
 obtain ⟨hUa3, ha3, hpa3⟩ := hJ
 replace hpa3 : a3.pm = pN := hpa3.trans (by rw [hpx25]; try rfl)
 refine go [2,2,0,3,0] ?_
 refine G.want rfl rfl rfl (G.cS rfl rfl rfl rfl Tryz.func11 rfl rfl subT (may1 may_nilZ) (sends_tr (F := Fa3) (W := Wa3) DP a3 3 _ [] ha3) apT ?_)
 intro x34 hJ
 try dsimp only at hJ
 try dsimp only
 rw [hpa3, kN1]
 obtain ⟨hx34, hpx34⟩ := hJ
 replace hpx34 : x34.pm = (sendP pN).2 := hpx34.trans (by rw [hpa3]; try rfl)
 refine go [2,2,1,7,8,9,10,0] ?_
 refine G.op rfl (G.cR rfl rfl rfl rfl Tryz.func12 rfl rfl may0 (size27_tr) ?_)
 refine G.op rfl (G.lit1 (vs := [_, _, _]) rfl Tryz.underlying29 kr rfl (by decide) (by decide) rfl rfl ?_)
 intro b38
 refine G.ownBlk (b := b38) (k := 3) (sz := 1) selT rfl (by omega) ?_
 refine G.op rfl (G.cS rfl rfl rfl rfl Tryz.func11 rfl rfl subT (may1 (may_ownN selT (all_i64 _ (by decide)))) (sends_tr (F := FQ) (W := WQ) DQ zQ 1 _ [2, 3, 28] hzQ) apT ?_)
 intro x39 hJ
 try dsimp only at hJ
 try dsimp only
 rw [hpzQ, kA1]
 obtain ⟨hx39, hpx39⟩ := hJ
 replace hpx39 : x39.pm = pB := hpx39.trans (by rw [hpzQ]; try rfl)
 refine go [0,3,0,60,7] ?_
 intro b42
 refine G.ownBlk (b := b42) (k := 1) (sz := 1) selT rfl (by omega) ?_
 refine G.want rfl rfl rfl (G.cS rfl rfl rfl rfl Tryz.func10 rfl rfl subT (may1 (may_ownN selT (all_i64 _ (by decide)))) (takes_tr (F := FQ) (W := WQ) DQ x39 19 _ [4] hx39 (by rw [hpx39]; exact pB_ok)) apT ?_)
 intro x43 hJ
 obtain ⟨a5, Fa5, Wa5⟩ := x43
 try dsimp only at hJ
 try dsimp only
 rw [hpx39, kB3]
 obtain ⟨hUa5, ha5, hpa5⟩ := hJ
 replace hpa5 : a5.pm = pO := hpa5.trans (by rw [hpx39]; try rfl)
 refine go [2,2,0,3,0] ?_
 refine G.want rfl rfl rfl (G.cR rfl rfl rfl rfl Tryz.func13 rfl rfl (may1 (Sel.may selT)) (over27_tr DQ a5 4 0) ?_)
 rw [hpa5, kO1]
 refine go [2,2,0,3,0,3,50,2] ?_
 refine G.want rfl rfl rfl (G.cS rfl rfl rfl rfl Tryz.func14 rfl rfl subT (may3 may_nilZ may_nilZ may_nilZ) (ptake_tr (F := Fa5) (W := Wa5) 0 _ _ _ [] [] [] DQ a5 ha5 (by rw [hpa5]; exact pO_ok) (by have := pO_ok.l; rw [← hpa5, pm_l] at this; exact this)) apT ?_)
 intro x52 hJ
 obtain ⟨a6, Fa6, Wa6⟩ := x52
 try dsimp only at hJ
 try dsimp only
 rw [hpa5, kO2]
 refine G.want rfl rfl rfl (G.val rfl rfl ((pv_eql rfl rfl).cast (v' := .bool true) (congrArg Value.bool (by exact decide_eq_true rfl))) ?_)
 refine go [2,2,1,7,8,9,10,0] ?_
 refine G.op rfl (G.cR rfl rfl rfl rfl Tryz.func12 rfl rfl may0 (size27_tr) ?_)
 refine G.op rfl (G.lit1 (vs := [_, _, _]) rfl Tryz.underlying29 kr rfl (by decide) (by decide) rfl rfl ?_)
 intro b57
 refine G.ownBlk (b := b57) (k := 3) (sz := 1) selT rfl (by omega) ?_
 refine G.op rfl (G.cS rfl rfl rfl rfl Tryz.func11 rfl rfl subT (may1 (may_ownN selT (all_i64 _ (by decide)))) (sends_tr (F := FR) (W := WR) DR zR 1 _ [2, 3, 28] hzR) apT ?_)
 intro x58 hJ
 try dsimp only at hJ
 try dsimp only
 rw [hpzR, kA1]
 obtain ⟨hx58, hpx58⟩ := hJ
 replace hpx58 : x58.pm = pB := hpx58.trans (by rw [hpzR]; try rfl)
 refine go [0,3,0,60,7] ?_
 intro b61
 refine G.ownBlk (b := b61) (k := 1) (sz := 1) selT rfl (by omega) ?_
 refine G.want rfl rfl rfl (G.cS rfl rfl rfl rfl Tryz.func10 rfl rfl subT (may1 (may_ownN selT (all_i64 _ (by decide)))) (takes_tr (F := FR) (W := WR) DR x58 16 _ [1] hx58 (by rw [hpx58]; exact pB_ok)) apT ?_)
 intro x62 hJ
 obtain ⟨a8, Fa8, Wa8⟩ := x62
 try dsimp only at hJ
 try dsimp only
 rw [hpx58, kB4]
 obtain ⟨hUa8, ha8, hpa8⟩ := hJ
 replace hpa8 : a8.pm = pP := hpa8.trans (by rw [hpx58]; try rfl)
 refine go [2,2,0,3,0] ?_
 refine G.want rfl rfl rfl (G.cR rfl rfl rfl rfl Tryz.func13 rfl rfl (may1 (Sel.may selT)) (over27_tr DR a8 0 370) ?_)
 rw [hpa8, kP1]
 refine go [2,2,1,7,8,9,10] ?_
 refine G.op rfl (G.cR rfl rfl rfl rfl Tryz.func15 rfl rfl may0 (awake27_tr) ?_)
 refine go [0,3,0,2,2,0,3,0,2,2,0,3,0,2,2,1,7,8,11] ?_
 exact G.done0G rfl (Rv.tmp rfl Rv.nil) Y7
section
variable {w0 : World} {S : Nat → Prop}
end
theorem take_none {α : Type} {p : α → Prop} {l : List α} {i : Nat} (h : ∀ x ∈ l.take i, ¬ p x) (hi : i < l.length) (hx : ¬ p l[i]) : ∀ x ∈ l.take (i + 1), ¬ p x := fun x hm => by
 rw [List.take_succ_eq_append_getElem hi] at hm
 rcases List.mem_append.1 hm with hm | hm
 ·exact h x hm
 obtain rfl : x = l[i] := by simpa using hm
 exact hx
structure SK where
 had : List (List UInt8)
 came : List UInt8
 given : List (List UInt8)
 notes : Nat
def hasN (had : List (List UInt8)) (id : List UInt8) : Int := if id ∈ had then 1 else 0
def ansP (s : SK) (x : Nt) : (Nt × Bool) × SK :=
 if x.k = 1 then ((⟨16, [0], [], []⟩, decide (x.ns.length = 3)), { s with notes := s.notes + 1 })
 else if x.k = 2 then ((⟨16, [((s.came ++ x.bs).length : Int)], [], []⟩, decide (x.ns = [(s.came.length : Int)]) && decide (0 < x.bs.length)), { s with notes := s.notes + 1, came := s.came ++ x.bs })
 else if x.k = 3 then ((⟨17, x.ids.map (hasN s.had), [], []⟩, decide (0 < x.ids.length)), { s with notes := s.notes + 1 })
 else if x.k = 4 then (if x.ids = [nameM x.bs] ∧ nameM x.bs ∉ s.had then ((⟨18, [], x.ids, []⟩, true), { s with notes := s.notes + 1, had := s.had ++ x.ids, given := s.given ++ x.ids }) else ((⟨0, [], [], []⟩, false), { s with notes := s.notes + 1 }))
 else ((⟨19, [5], [], []⟩, decide (x.k = 5)), { s with notes := s.notes + 1 })
theorem ro_idr {w0 : World} {S : Nat → Prop} {Ps : Nat → Prop} {b o : Nat} {x : List UInt8} (h : Ro w0 S (elc rID Ps b o x)) : x.length = 16 ∧ ∀ {m : List Ck} w, Hp w0 S w m → w.rangeAt b o (x.map vByte) := Ro.arr8 h
theorem vt2 {v : Value} {b c : Bool} (h : b = c) : Value.tuple #[v, .bool b] = Value.tuple #[v, .bool c] := by rw [h]
theorem one_eq {ns : List Int} {a : Int} (h : ns.length = 1) (h0 : ∀ hh : 0 < ns.length, ns[0] = a) : ns = [a] := by
 match ns, h, h0 with
 | [x], _, h0 => rw [← h0 Nat.one_pos]; rfl
theorem one_ids {ids : List (List UInt8)} (h : ids.length = 1) (hh : 0 < ids.length) : ids = [ids[0]] := by
 match ids, h with
 | [x], _ => rfl
set_option maxRecDepth 20000 in
set_option maxHeartbeats 4000000 in
theorem has27_tr {Ph : Nat → Prop} (Sk : Nat) (hv cv gv : Value) (nn : Nat) (had : List (List UInt8)) (id : List UInt8) (hid : id.length = 16) : Tr Tryz.prog 57 #[.pointer (some ⟨Sk, 0, none⟩), .agg (id.map vByte).toArray] [blk Sk 50 [hv, cv, gv, .int .i64 (nn : Int)], slc rID Ph hv had] [] (T0 (.bool (decide (id ∈ had)))) := by
 refine Tr.of (l := [(0, .pointer (some ⟨Sk, 0, none⟩)), (1, .agg (id.map vByte).toArray)]) Tryz.func57 rfl (n := 24) rfl (.cons rfl (.cons rfl .nil)) (fun w0 hro => ?_)
 obtain ⟨hP, hH⟩ := ro2 hro
 obtain ⟨ah, ch, bh, oh, rfl, hch, hmh, -, hhd, hhl⟩ := Ro.open hH
 refine go [9,10] ?_
 refine G.op rfl (G.box rfl rfl (cs := id.map vByte) rfl ?_)
 intro b3
 refine go [1,7,8,9,9,10,1,7,8,15] ?_
 refine G.loopK (X := Nat) (ts := [0, 3]) (fun i => i ≤ had.length ∧ (∀ x ∈ had.take i, ¬ x = id)) (fun i => [(5, .int .i64 (i : Int))]) (fun i => []) (fun i => had.length - i) (x0 := 0) (.cons rfl (.cons rfl .nil)) subT (.cons .nil) apT (by first | exact trivial | ((try dsimp only) <;> exact ⟨Nat.zero_le _, (by simp)⟩)) (.consE rfl veqT .nil) (fun i hJ => ?_)
 try dsimp only at hJ
 try dsimp only
 obtain ⟨hki, hJ⟩ := hJ
 refine go [9,9,10,0,0,2,8,2,3,0] ?_
 refine G.op rfl (G.val rfl rfl (pv_load (v := .slice ah had.length ch) Tryz.underlying30 rfl rfl (ro_blk hP (by rfl))) ?_)
 refine go [2,5,2,9,7,8] ?_
 refine G.condP rfl (fun h12 => ?_) (fun h12 => ?_)
 ·have hlt : i < had.length := by omega
  obtain ⟨lq, rq⟩ := ro_idr (hhl i hlt)
  refine go [13,8,9,15,9] ?_
  refine G.drawT (nn := 9) (p := []) (rem := 511) [0, 1, 2, 4, 0, 24, 32, 0, 192] [0, 1, 2, 4, 0, 24, 32, 0, 192] kr ⟨rfl, by kernel_rfl, by kernel_rfl⟩ subT kr (fun hT4 => ?_)
  refine go [22,0,510,0,22,1,508,8,22,2,504,3,0,22,4,488,0] ?_
  refine G.takeT hT4 (i := 3) (rem' := 480) rfl rfl rfl kr (fun _ _ _ h => h) rfl (pv_load (v := .slice ah had.length ch) Tryz.underlying30 rfl rfl (ro_blk hP (by rfl))) subT ?_
  refine G.takeT hT4 (i := 5) (rem' := 448) rfl rfl rfl kr (fun _ _ _ h => h) rfl (pv_ixSl (sz := 16) (k := i) Tryz.underlying30 kr rfl rfl hhd rfl (by omega)) subT ?_
  refine G.takeT hT4 (i := 6) (rem' := 384) rfl rfl rfl kr (fun _ _ _ h => h) rfl (pv_loadN (cs := had[i].map vByte) Tryz.underlying52 rfl Y12 rfl rq) subT ?_
  refine go [24,7,256] ?_
  refine G.turnOp rfl rfl (G.val rfl rfl (pv_loadN (cs := id.map vByte) Tryz.underlying52 rfl (by rw [List.length_map, hid]; kernel_rfl) rfl (blk_range (k := 16) selD (by rw [List.drop_zero]; exact List.take_of_length_le (by rw [List.length_map, hid]; exact Nat.le_refl _)))) ?_)
  refine go [26] ?_
  refine G.takeT hT4 (i := 8) (rem' := 0) rfl rfl rfl kr (fun _ _ _ h => h) rfl (pv_eqlAr8 (a := had[i]) (b := id) Tryz.underlying52 rfl kr Tryz.underlying5 kr rfl rfl lq hid) subT ?_
  refine go [27,8] ?_
  refine G.condP rfl (fun h23 => ?_) (fun h23 => ?_)
  ·refine go [9,10,1,7,8,11,17,12,12,17,12] ?_
   exact G.done0G rfl (Rv.tmp rfl Rv.nil) (congrArg Value.bool (decide_eq_true (by have h9 : had[i] = id := (by assumption); rw [← h9]; exact List.getElem_mem hlt)).symm)
  refine go [13,16,8,10,0,2,6,1,7] ?_
  exact G.next (i + 1) (by first | exact trivial | ((try dsimp only) <;> exact ⟨by omega, take_none hJ hlt (fun h => by simp_all)⟩)) (by (try dsimp only); omega) (.consE rfl veqT (.cons rfl (.cons rfl .nil))) subT
 obtain rfl : i = had.length := by omega
 rw [List.take_length] at hJ
 refine go [18,14,14,19,8,9,10,1,7,8,11] ?_
 exact G.done0G rfl (Rv.tmp rfl Rv.nil) (congrArg Value.bool (decide_eq_false (fun h => hJ _ h rfl)).symm)
set_option maxRecDepth 20000 in
set_option maxHeartbeats 4000000 in
theorem answer27_tr {Pv1 Pv2 Pv3 : Nat → Prop} (Sk : Nat) (hv cv gv v1 v2 v3 : Value) (s : SK) (x : Nt) (h16 : all16 s.had) (h16g : all16 s.given) (hn : s.notes ≤ 100000000) (hl1 : s.had.length ≤ 10000000) (hl2 : s.came.length ≤ 100000000) (hl3 : s.given.length ≤ 10000000) (hx1 : x.ids.length ≤ 1000) (hx2 : x.bs.length ≤ 1000000) (hlen : x.k = 4 → x.ids.length = 1) : Tr Tryz.prog 23 #[.pointer (some ⟨Sk, 0, none⟩), .agg #[.int .i64 x.k, v1, v2, v3]] [slc rInt Pv1 v1 x.ns, slc rID Pv2 v2 x.ids, slc rByte Pv3 v3 x.bs] [blk Sk 50 [hv, cv, gv, .int .i64 (s.notes : Int)], own 52 16 hv s.had.length (flatI s.had), own 5 1 cv s.came.length (s.came.map vByte), own 52 16 gv s.given.length (flatI s.given)]
 (TX (fun z : (Value × Value × Value) × Value × Value => ((ansP s x).1.1.ids = [] ∧ z.2.2 = .slice none 0 0) ∨ ((ansP s x).1.1.ids = x.ids ∧ z.2.2 = v2)) (fun z => .tuple #[.agg #[.int .i64 (ansP s x).1.1.k, z.2.1, z.2.2, .slice none 0 0], .bool (ansP s x).1.2]) (fun z => [blk Sk 50 [z.1.1, z.1.2.1, z.1.2.2, .int .i64 ((ansP s x).2.notes : Int)], own 52 16 z.1.1 (ansP s x).2.had.length (flatI (ansP s x).2.had), own 5 1 z.1.2.1 (ansP s x).2.came.length ((ansP s x).2.came.map vByte), own 52 16 z.1.2.2 (ansP s x).2.given.length (flatI (ansP s x).2.given), own 3 1 z.2.1 (ansP s x).1.1.ns.length ((ansP s x).1.1.ns.map vInt)])) := by
 refine Tr.of (l := [(0, .pointer (some ⟨Sk, 0, none⟩)), (1, .agg #[.int .i64 x.k, v1, v2, v3])]) Tryz.func23 rfl (n := 156) rfl (.cons rfl (.cons rfl .nil)) (fun w0 hro => ?_)
 obtain ⟨hA, hB, hC⟩ := ro3 hro
 have oa := Ro.open hA
 have ob := Ro.open hB
 have oc := Ro.open hC
 obtain ⟨aa, ca, qa, oa', rfl, hca, hma, -, had, hel⟩ := oa
 obtain ⟨ab, cb, qb, ob', rfl, hcb, hmb, -, hbd, hbl⟩ := ob
 obtain ⟨ac, cc, qc, oc', rfl, hcc, -⟩ := oc
 refine go [9,10,60,2] ?_
 intro b3
 refine go [60,3] ?_
 intro b4
 refine go [1,7,8,9,10,0,2,8,2,3,3,2,4,2,6,2,8,2,3,3,21,7,8,9,9,10,2,3,0,2,4,7,8,15,9,10,2,13,1,7,8] ?_
 refine G.condP rfl (fun h19 => ?_) (fun h19 => ?_)
 ·have e1 : ansP s x = ((⟨16, [0], [], []⟩, decide (x.ns.length = 3)), { s with notes := s.notes + 1 }) := if_pos (by assumption)
  rw [e1]
  refine G.seq ?_
  refine G.drawT (nn := 8) (p := [blk b4 _ _]) (rem := 255) [0, 1, 0, 4, 8, 16, 3, 127] [0, 1, 0, 4, 8, 16, 2, 32] kr ⟨rfl, by kernel_rfl, by kernel_rfl⟩ subT kr (fun hT4 => ?_)
  refine go [22,2,251,3,1,22,3,243,4,22,4,227,5,22,5,195,13,24,0,194,60,14] ?_
  intro b21
  refine go [26,22,1,192,50,2,24,6,128,29,26,22,7,0,1,27,8,11,17,12] ?_
  refine G.ownBlk (b := b21) (k := 1) (sz := 1) selT rfl (by omega) ?_
  exact G.doneG (((hv, cv, gv), .slice (some ⟨b21, 0, none⟩) 1 1, .slice none 0 0)) Y29 rfl (Rv.cellN (cs := [_, _, _, _]) rfl Tryz.underlying33 rfl kr Y23 (Rv.tmp rfl Rv.nil)) (vt2 (by first | rfl | (show decide _ = decide _; rw [decide_eq_decide]; omega))) subT
 refine go [9,10,2,13,1,7,8] ?_
 refine G.condP rfl (fun h27 => ?_) (fun h27 => ?_)
 ·have e2 : ansP s x = ((⟨16, [((s.came ++ x.bs).length : Int)], [], []⟩, decide (x.ns = [(s.came.length : Int)]) && decide (0 < x.bs.length)), { s with notes := s.notes + 1, came := s.came ++ x.bs }) := (if_neg (by assumption)).trans (if_pos (by assumption))
  rw [e2]
  refine G.ownOpen (v := cv) selT (fun ac2 cc2 hcv _ _ => ?_)
  subst hcv
  refine G.seq ?_
  refine G.cutK (X := Unit) (ts := [0, 3, 4, 5]) (p := []) (fun _ => True) (fun _ => [(6, .bool (decide (x.ns = [(s.came.length : Int)]) && decide (0 < x.bs.length)))]) (fun _ => []) (.cons rfl (.cons rfl (.cons rfl (.cons rfl .nil)))) subT (.cons .nil) apT ?_ ?_
  ·refine G.drawT (nn := 23) (p := []) (rem := 8388607) [0, 1, 2, 4, 8, 16, 48, 80, 144, 16, 528, 1040, 2064, 4112, 8464, 16400, 32784, 65536, 196608, 327680, 589824, 1114112, 4194303] [0, 1, 2, 4, 8, 16, 48, 80, 144, 16, 528, 1040, 2064, 4112, 8464, 16400, 32768, 65536, 196608, 327680, 589824, 1114112, 2097152] kr ⟨rfl, by kernel_rfl, by kernel_rfl⟩ subT kr (fun hT6 => ?_)
   refine go [22,0,8388606,3,1,24,1,8388604,25,4,26,22,2,8388600,5,22,3,8388592,13,22,4,8388576,0] ?_
   refine G.partP (t := 33) rfl (fun h33 => ?_) (fun h33 => ?_)
   ·have hlt : 0 < x.ns.length := by omega
    have hE := hel 0 hlt
    refine go [22,5,8388544,3,1,22,6,8388480,4] ?_
    refine G.takeT hT6 (i := 7) (rem' := 8388352) rfl rfl rfl kr (fun _ _ _ h => h) rfl (pv_ixSl (sz := 1) (k := 0) Tryz.underlying29 kr rfl rfl had rfl (by omega)) subT ?_
    refine G.takeT hT6 (i := 8) (rem' := 8388096) rfl rfl rfl kr (fun _ _ _ h => h) rfl (pv_load (v := .int .i64 x.ns[0]) Tryz.underlying3 rfl rfl (ro_int hE)) subT ?_
    refine go [22,9,8387584,0,22,10,8386560,8,22,11,8384512,3,1,24,12,8380416,25,4,26,22,13,8372224,5,22,14,8355840,13,22,15,8323072,2,22,16,8257536,0] ?_
    refine G.partP (t := 45) rfl (fun h45 => ?_) (fun h45 => ?_)
    ·refine go [22,17,8126464,3,3,24,18,7864320,25,4,26,22,19,7340032,5,22,20,6291456,10,22,21,4194304,2,22,22,0,1,27] ?_
     exact G.meet (()) trT (.consE rfl (congrArg Value.bool (by have h8 : x.ns[0] = (s.came.length : Int) := (by assumption); have h9 : x.ns = [(s.came.length : Int)] := one_eq (by omega) (fun _ => h8); rw [decide_eq_true h9, Bool.true_and, decide_eq_decide]; omega)) (.cons rfl (.cons rfl (.cons rfl (.cons rfl .nil))))) subT
    refine go [23,17,8126464,23,18,7864320,23,19,7340032,23,20,6291456,22,21,4194304,2,22,22,0,1,27] ?_
    exact G.meet (()) trT (.consE rfl (congrArg Value.bool (by have h8 : ¬ x.ns[0] = (s.came.length : Int) := (by assumption); have h9 : ¬ x.ns = [(s.came.length : Int)] := (fun h => h8 (by simp [h])); rw [decide_eq_false h9]; rfl)) (.cons rfl (.cons rfl (.cons rfl (.cons rfl .nil))))) subT
   refine go [23,5,8388544,23,6,8388480,23,7,8388352,23,8,8388096,23,9,8387584,23,10,8386560,23,11,8384512,23,12,8380416,23,13,8372224,23,14,8355840,22,15,8323072,2,22,16,8257536,0,23,17,8126464,23,18,7864320,23,19,7340032,23,20,6291456,22,21,4194304,2,22,22,0,1,27] ?_
   exact G.meet (()) trT (.consE rfl (congrArg Value.bool (by have h9 : ¬ x.ns = [(s.came.length : Int)] := (fun h => by have h7 := congrArg List.length h; rw [List.length_singleton] at h7; omega); rw [decide_eq_false h9]; rfl)) (.cons rfl (.cons rfl (.cons rfl (.cons rfl .nil))))) subT
  intro _ hJ
  try dsimp only at hJ
  try dsimp only
  refine G.seq ?_
  refine G.drawE (nn := 11) (p := [own 5 1 _ _ _]) (rem := 255) [0, 0, 2, 4, 8, 0, 32, 80, 255, 511, 767] [0, 0, 2, 4, 8, 0, 32, 80, 1, 256, 640] [10, 9, 8] [1023, 511, 255] 8 kr ⟨rfl, by kernel_rfl, by kernel_rfl⟩ kr kr kr subT (fun hT7 => ?_)
  refine go [22,0,254,0,22,1,252,0,22,2,248,8,22,3,240,3,1,22,5,208,3,3,22,4,192,4,24,6,128,25,4,26,24,7,0] ?_
  refine G.turnOp rfl rfl (G.appendS (k := s.came.length) (cs := s.came.map vByte) (xs := x.bs) (f := vByte) (p := fun _ => True) (Ps := Pv3) rfl Tryz.underlying31 Tryz.infoByte' rfl rfl selT (ro_sl hC) (vByte_one _) (by omega) (by omega) ?_)
  intro vc
  rw [← List.map_append, ← List.length_append]
  refine G.ownOpen (v := vc) selT (fun ac3 cc3 hvc _ _ => ?_)
  subst hvc
  refine go [26,27] ?_
  refine G.tailS [10, 9] 8 rfl ?_
  refine go [25,8] ?_
  refine G.tailS [10] 9 rfl ?_
  refine go [25,3,1] ?_
  refine G.tailS [] 10 rfl ?_
  refine go [30] ?_
  refine G.tailD ?_
  refine go [8,9,10,0,2,8,2,3,1,2,4,2,5,60,15] ?_
  intro b66
  refine go [2,50,2,0,20,1,7,8,11,17,12] ?_
  refine G.ownBlk (b := b66) (k := 1) (sz := 1) selT rfl (by omega) ?_
  exact G.doneG (((hv, .slice ac3 (s.came ++ x.bs).length cc3, gv), .slice (some ⟨b66, 0, none⟩) 1 1, .slice none 0 0)) Y29 rfl (Rv.cellN (cs := [_, _, _, _]) rfl Tryz.underlying33 rfl kr Y23 (Rv.tmp rfl Rv.nil)) rfl subT
 refine go [9,10,2,13,1,7,8] ?_
 refine G.condP rfl (fun h69 => ?_) (fun h69 => ?_)
 ·have e3 : ansP s x = ((⟨17, x.ids.map (hasN s.had), [], []⟩, decide (0 < x.ids.length)), { s with notes := s.notes + 1 }) := (if_neg (by assumption)).trans ((if_neg (by assumption)).trans (if_pos (by assumption)))
  rw [e3]
  refine go [9,10,2,50,2,60,3] ?_
  intro b7
  refine go [20,7,8,9,9,10,1,7,8,15] ?_
  refine G.ownNil 3 1 ?_
  refine G.loopK (X := Nat × Value) (ts := [0, 3, 4, 5, 7]) (fun st => st.1 ≤ x.ids.length) (fun st => [(8, .int .i64 (st.1 : Int))]) (fun st => [blk b7 33 [.int .i64 17, st.2, .slice none 0 0, .slice none 0 0], own 3 1 st.2 ((x.ids.take st.1).map (hasN s.had)).length (((x.ids.take st.1).map (hasN s.had)).map vInt)]) (fun st => x.ids.length - st.1) (x0 := (0, .slice none 0 0)) (.cons rfl (.cons rfl (.cons rfl (.cons rfl (.cons rfl .nil))))) subT (.cons .nil) apT Y30 (.consE rfl veqT .nil) (fun st hJ => ?_)
  obtain ⟨i, vn⟩ := st
  try dsimp only at hJ
  try dsimp only
  have hki := hJ
  have hll : ((x.ids.take i).map (hasN s.had)).length ≤ 1000 := by rw [List.length_map]; exact Nat.le_trans (List.length_take_le _ _) (by omega)
  refine go [9,9,10,0,2,3,2,2,4,2,5,2,9,7,8] ?_
  refine G.condP rfl (fun h76 => ?_) (fun h76 => ?_)
  ·have hlt : i < x.ids.length := by omega
   obtain ⟨lq, rq⟩ := ro_idr (hbl i hlt)
   refine go [13,8,9,15,9,10,1,7,8,9] ?_
   refine G.cutK (X := Unit) (ts := [0, 3, 4, 5, 7, 8]) (p := []) (fun _ => True) (fun _ => [(9, .int .i64 (hasN s.had x.ids[i]))]) (fun _ => []) (.cons rfl (.cons rfl (.cons rfl (.cons rfl (.cons rfl (.cons rfl .nil)))))) subT (.cons .nil) apT ?_ ?_
   ·refine go [9,10,0,2,3,2,2,4,0] ?_
    refine G.op rfl (G.val rfl rfl (pv_ixSl (sz := 16) (k := i) Tryz.underlying30 kr rfl rfl hbd rfl (by omega)) ?_)
    refine G.op rfl (G.val rfl rfl (pv_loadN (cs := x.ids[i].map vByte) Tryz.underlying52 rfl Y12 rfl rq) ?_)
    refine G.op rfl (G.cR rfl rfl rfl rfl Tryz.func57 rfl rfl (may2 (Sel.may selT) (may_ownI selT h16)) (has27_tr (Ph := fun b => hv.ownBlock = some b) Sk hv cv gv (s.notes + 1) s.had x.ids[i] lq) ?_)
    refine go [7,8] ?_
    refine G.condP rfl (fun h85 => ?_) (fun h85 => ?_)
    ·refine go [10,1,7] ?_
     exact G.meet (()) trT (.consE rfl (congrArg (Value.int .i64) (if_pos (by assumption)).symm) (.cons rfl (.cons rfl (.cons rfl (.cons rfl (.cons rfl (.cons rfl .nil))))))) subT
    refine G.skip ?_
    exact G.meet (()) trT (.consE rfl (congrArg (Value.int .i64) (if_neg (by assumption)).symm) (.cons rfl (.cons rfl (.cons rfl (.cons rfl (.cons rfl (.cons rfl .nil))))))) subT
   intro _ hJ
   try dsimp only at hJ
   try dsimp only
   refine go [10,2,3,1,2,4,0,60,15] ?_
   intro b89
   refine G.op rfl (G.append (k := ((x.ids.take i).map (hasN s.had)).length) (j := 1) (cs := ((x.ids.take i).map (hasN s.had)).map vInt) (news := [vInt (hasN s.had x.ids[i])]) (b := b89) (off := 0) rfl Tryz.underlying29 Tryz.infoInt' rfl rfl rfl selT (fun _ => rfl) (fun h => by cases h) rfl (blk_news (k := 1) selT rfl) (by intro u hu; obtain rfl : u = _ := (by simpa using hu); rfl) (by omega) (by omega) ?_)
   intro vm
   rw [show ((x.ids.take i).map (hasN s.had)).map vInt ++ [vInt (hasN s.had x.ids[i])] = ((x.ids.take (i + 1)).map (hasN s.had)).map vInt from by rw [List.take_succ_eq_append_getElem hlt, List.map_append, List.map_append]; rfl, show ((x.ids.take i).map (hasN s.had)).length + 1 = ((x.ids.take (i + 1)).map (hasN s.had)).length from by rw [List.take_succ_eq_append_getElem hlt, List.map_append, List.length_append]; rfl]
   refine G.ownFact (v := vm) selT (fun hvm _ => ?_)
   refine go [2,3,1,21,7,16,8,10,0,2,6,1,7] ?_
   exact G.next ((i + 1, vm)) Y22 (by (try dsimp only); omega) (.consE rfl veqT (.cons rfl (.cons rfl (.cons rfl (.cons rfl (.cons rfl .nil)))))) subT
  obtain rfl : i = x.ids.length := by omega
  rw [List.take_length]
  refine G.ownFact (v := vn) selT (fun hvn9 _ => ?_)
  refine go [18,14,14,19,8,9] ?_
  refine G.drawT (nn := 7) (p := [blk b4 _ _]) (rem := 127) [0, 0, 2, 4, 8, 1, 63] [0, 0, 2, 4, 8, 1, 16] kr ⟨rfl, by kernel_rfl, by kernel_rfl⟩ subT kr (fun hT18 => ?_)
  refine go [22,1,125,3,2] ?_
  refine G.takeT hT18 (i := 0) (rem' := 124) rfl rfl rfl kr (fun _ _ _ h => h) rfl (pv_loadN (cs := [_, _, _, _]) Tryz.underlying33 rfl kr rfl Y21) subT ?_
  refine go [22,2,120,4,22,3,112,5,22,4,96,10,24,5,64,29,26,22,6,0,1,27,8,11,17,12] ?_
  exact G.doneG (((hv, cv, gv), vn, .slice none 0 0)) Y29 rfl (Rv.cellN (cs := [_, _, _, _]) rfl Tryz.underlying33 rfl kr Y23 (Rv.tmp rfl Rv.nil)) (vt2 (by first | rfl | (show decide _ = decide _; rw [decide_eq_decide]; omega))) subT
 refine go [9,10,2,13,1,7,8] ?_
 refine G.condP rfl (fun h97 => ?_) (fun h97 => ?_)
 ·have hk4 : x.k = 4 := by assumption
  have hl1 := hlen hk4
  have hlt : 0 < x.ids.length := by omega
  obtain ⟨lq, rq⟩ := ro_idr (hbl 0 hlt)
  have hids := one_ids hl1 hlt
  have e4 : ansP s x = if x.ids = [nameM x.bs] ∧ nameM x.bs ∉ s.had then ((⟨18, [], x.ids, []⟩, true), { s with notes := s.notes + 1, had := s.had ++ x.ids, given := s.given ++ x.ids }) else ((⟨0, [], [], []⟩, false), { s with notes := s.notes + 1 }) := (if_neg (by assumption)).trans ((if_neg (by assumption)).trans ((if_neg (by assumption)).trans (if_pos (by assumption))))
  refine go [9,9] ?_
  refine G.drawT (nn := 22) (p := []) (rem := 4194303) [0, 1, 2, 4, 8, 16, 48, 80, 16, 272, 528, 1040, 2192, 4112, 8320, 16384, 16384, 81920, 147456, 278528, 573440, 1064960] [0, 1, 2, 4, 8, 16, 48, 80, 16, 272, 528, 1040, 2192, 4112, 8192, 16384, 16384, 81920, 147456, 278528, 573440, 1064960] kr ⟨rfl, by kernel_rfl, by kernel_rfl⟩ subT kr (fun hT20 => ?_)
  refine go [22,0,4194302,3,2,24,1,4194300,25,4,26,22,2,4194296,5] ?_
  refine G.takeT hT20 (i := 3) (rem' := 4194288) rfl rfl rfl kr (fun _ _ _ h => h) rfl ((pv_neq rfl rfl).cast (v' := .bool false) (congrArg Value.bool (by exact decide_eq_false (by omega)))) subT ?_
  refine go [22,4,4194272,0,22,5,4194240,3,3,22,6,4194176,4,22,8,4193920,3,2,22,9,4193408,4] ?_
  refine G.takeT hT20 (i := 10) (rem' := 4192384) rfl rfl rfl kr (fun _ _ _ h => h) rfl (pv_ixSl (sz := 16) (k := 0) Tryz.underlying30 kr rfl rfl hbd rfl (by omega)) subT ?_
  refine G.takeT hT20 (i := 11) (rem' := 4190336) rfl rfl rfl kr (fun _ _ _ h => h) rfl (pv_loadN (cs := x.ids[0].map vByte) Tryz.underlying52 rfl Y12 rfl rq) subT ?_
  refine go [24,7,4190208] ?_
  refine G.turnOp rfl rfl (G.cR rfl rfl rfl rfl Tryz.func44 rfl rfl (may1 (.old hC)) (name_tr (Pu := Pv3) _ x.bs (by omega)) ?_)
  refine go [26] ?_
  refine G.takeT hT20 (i := 12) (rem' := 4186112) rfl rfl rfl kr (fun _ _ _ h => h) rfl ((pv_neqAr8 (a := nameM x.bs) (b := x.ids[0]) Tryz.underlying52 rfl kr Tryz.underlying5 kr rfl rfl (nameM_len _) lq).cast (v' := .bool (decide (¬ nameM x.bs = x.ids[0]))) (congrArg Value.bool (by simp))) subT ?_
  refine go [22,13,4177920,2,22,14,4161536,0] ?_
  refine G.partP (t := 113) rfl (fun h113 => ?_) (fun h113 => ?_)
  ·refine go [23,15,4128768,23,16,4063232,23,17,3932160,23,18,3670016,23,19,3145728,23,20,2097152,22,21,0,2,27,8,60,1,9,10,2,50,2,20,1,7,8,11,12,17,12] ?_
   rw [e4, if_neg (fun h => by have h9 : ¬ nameM x.bs = x.ids[0] := (by assumption); exact h9 (by have h8 := h.1; simp [h8]))]
   refine G.ownNil 3 1 ?_
   exact G.doneG (((hv, cv, gv), .slice none 0 0, .slice none 0 0)) Y29 rfl (Rv.cellN (cs := [_, _, _, _]) rfl Tryz.underlying33 rfl kr Y23 (Rv.tmp rfl Rv.nil)) rfl subT
  refine go [22,15,4128768,0,22,16,4063232,3,2,24,17,3932160,25,4,26] ?_
  refine G.takeT hT20 (i := 18) (rem' := 3670016) rfl rfl rfl kr (fun _ _ _ h => h) rfl (pv_ixSl (sz := 16) (k := 0) Tryz.underlying30 kr rfl rfl hbd rfl (by omega)) subT ?_
  refine go [24,19,3145728] ?_
  refine G.turnOp rfl rfl (G.val rfl rfl (pv_loadN (cs := x.ids[0].map vByte) Tryz.underlying52 rfl Y12 rfl rq) ?_)
  refine go [26,24,20,2097152] ?_
  refine G.turnOp rfl rfl (G.cR rfl rfl rfl rfl Tryz.func57 rfl rfl (may2 (Sel.may selT) (may_ownI selT h16)) (has27_tr (Ph := fun b => hv.ownBlock = some b) Sk hv cv gv (s.notes + 1) s.had x.ids[0] lq) ?_)
  refine go [26,22,21,0,2,27,8] ?_
  refine G.condP rfl (fun h120 => ?_) (fun h120 => ?_)
  ·refine go [9,10,2,50,2,20,1,7,8,11,12,17,12] ?_
   rw [e4, if_neg (fun h => by have h9 : x.ids[0] ∈ s.had := (by assumption); have h7 : x.ids[0] = nameM x.bs := (by have h8 := h.1; simp [h8]); exact h.2 (h7 ▸ h9))]
   refine G.ownNil 3 1 ?_
   exact G.doneG (((hv, cv, gv), .slice none 0 0, .slice none 0 0)) Y29 rfl (Rv.cellN (cs := [_, _, _, _]) rfl Tryz.underlying33 rfl kr Y23 (Rv.tmp rfl Rv.nil)) rfl subT
  have hnm : nameM x.bs = x.ids[0] := Decidable.of_not_not (by assumption)
  have hnh : x.ids[0] ∉ s.had := by assumption
  rw [e4, if_pos ⟨hids.trans (by rw [hnm]), by rw [hnm]; exact hnh⟩]
  refine go [13,8,9] ?_
  refine G.drawE (nn := 14) (p := [own 52 16 hv _ _]) (rem := 2047) [0, 0, 2, 4, 8, 0, 32, 64, 128, 256, 528, 2047, 4095, 6143] [0, 0, 2, 4, 8, 0, 32, 64, 128, 256, 528, 1, 2048, 5120] [13, 12, 11] [8191, 4095, 2047] 11 kr ⟨rfl, by kernel_rfl, by kernel_rfl⟩ kr kr kr subT (fun hT22 => ?_)
  refine go [22,0,2046,0,22,1,2044,0,22,2,2040,8,22,3,2032,3,0,22,5,2000,3,2,22,4,1984,4,24,6,1920,25,4,26] ?_
  refine G.takeT hT22 (i := 7) (rem' := 1792) rfl rfl rfl kr (fun _ _ _ h => h) rfl (pv_ixSl (sz := 16) (k := 0) Tryz.underlying30 kr rfl rfl hbd rfl (by omega)) subT ?_
  refine go [24,8,1536] ?_
  refine G.turnOp rfl rfl (G.val rfl rfl (pv_loadN (cs := x.ids[0].map vByte) Tryz.underlying52 rfl Y12 rfl rq) ?_)
  refine go [26,24,9,1024] ?_
  refine G.turnOp rfl rfl (G.buildSlice (sz := 16) (cs := x.ids[0].map vByte) rfl Tryz.underlying30 Tryz.infoIDfill (by decide) (by decide) rfl (fillID _ (by rw [List.length_map, lq])) ?_)
  intro b131
  refine go [26,24,10,0] ?_
  refine G.turnOp rfl rfl (G.append (k := s.had.length) (j := 1) (cs := flatI s.had) (news := x.ids[0].map vByte) (b := b131) (off := 0) rfl Tryz.underlying30 Tryz.infoID' rfl rfl rfl selT (fun _ => rfl) (fun h => by cases h) (by rw [List.length_map, lq]) (blk_news (k := 16) selT (List.take_of_length_le Y11)) (vByte_one _) (by omega) (by omega) ?_)
  intro vh
  rw [own_oneI, show [x.ids[0]] = x.ids from hids.symm]
  refine G.ownFact (v := vh) selT (fun hvh1 _ => ?_)
  refine go [26,27] ?_
  refine G.tailS [13, 12] 11 rfl ?_
  refine go [25,8] ?_
  refine G.tailS [13] 12 rfl ?_
  refine go [25,3,0] ?_
  refine G.tailS [] 13 rfl ?_
  refine go [30] ?_
  refine G.tailD ?_
  refine go [8,9] ?_
  refine G.drawE (nn := 14) (p := [own 52 16 gv _ _]) (rem := 2047) [0, 0, 2, 4, 8, 0, 32, 64, 128, 256, 528, 2047, 4095, 6143] [0, 0, 2, 4, 8, 0, 32, 64, 128, 256, 528, 1, 2048, 5120] [13, 12, 11] [8191, 4095, 2047] 11 kr ⟨rfl, by kernel_rfl, by kernel_rfl⟩ kr kr kr subT (fun hT23 => ?_)
  refine go [22,0,2046,0,22,1,2044,0,22,2,2040,8,22,3,2032,3,2,22,5,2000,3,2,22,4,1984,4,24,6,1920,25,4,26] ?_
  refine G.takeT hT23 (i := 7) (rem' := 1792) rfl rfl rfl kr (fun _ _ _ h => h) rfl (pv_ixSl (sz := 16) (k := 0) Tryz.underlying30 kr rfl rfl hbd rfl (by omega)) subT ?_
  refine go [24,8,1536] ?_
  refine G.turnOp rfl rfl (G.val rfl rfl (pv_loadN (cs := x.ids[0].map vByte) Tryz.underlying52 rfl Y12 rfl rq) ?_)
  refine go [26,24,9,1024] ?_
  refine G.turnOp rfl rfl (G.buildSlice (sz := 16) (cs := x.ids[0].map vByte) rfl Tryz.underlying30 Tryz.infoIDfill (by decide) (by decide) rfl (fillID _ (by rw [List.length_map, lq])) ?_)
  intro b144
  refine go [26,24,10,0] ?_
  refine G.turnOp rfl rfl (G.append (k := s.given.length) (j := 1) (cs := flatI s.given) (news := x.ids[0].map vByte) (b := b144) (off := 0) rfl Tryz.underlying30 Tryz.infoID' rfl rfl rfl selT (fun _ => rfl) (fun h => by cases h) (by rw [List.length_map, lq]) (blk_news (k := 16) selT (List.take_of_length_le Y11)) (vByte_one _) (by omega) (by omega) ?_)
  intro vg
  rw [own_oneI, show [x.ids[0]] = x.ids from hids.symm]
  refine G.ownFact (v := vg) selT (fun hvg1 _ => ?_)
  refine go [26,27] ?_
  refine G.tailS [13, 12] 11 rfl ?_
  refine go [25,8] ?_
  refine G.tailS [13] 12 rfl ?_
  refine go [25,3,2] ?_
  refine G.tailS [] 13 rfl ?_
  refine go [30] ?_
  refine G.tailD ?_
  refine go [8,9,10,2,3,2,2,4,2,50,2,20,1,7,8,11,17,12] ?_
  refine G.ownNil 3 1 ?_
  exact G.doneG (((vh, cv, vg), .slice none 0 0, .slice ab x.ids.length cb)) (by first | exact trivial | ((try dsimp only) <;> exact Or.inr ⟨rfl, rfl⟩)) rfl (Rv.cellN (cs := [_, _, _, _]) rfl Tryz.underlying33 rfl kr Y23 (Rv.tmp rfl Rv.nil)) rfl subT
 have e5 : ansP s x = ((⟨19, [5], [], []⟩, decide (x.k = 5)), { s with notes := s.notes + 1 }) := (if_neg (by assumption)).trans ((if_neg (by assumption)).trans ((if_neg (by assumption)).trans (if_neg (by assumption))))
 rw [e5]
 refine go [13,16,8,9] ?_
 refine G.drawT (nn := 7) (p := [blk b4 _ _]) (rem := 127) [0, 1, 0, 4, 8, 3, 63] [0, 1, 0, 4, 8, 2, 16] kr ⟨rfl, by kernel_rfl, by kernel_rfl⟩ subT kr (fun hT25 => ?_)
 refine go [22,2,123,3,0,22,3,115,4,22,4,99,13,24,0,98,60,14] ?_
 intro b151
 refine go [26,22,1,96,50,2,24,5,64,29,26,22,6,0,1,27,8,11] ?_
 refine G.ownBlk (b := b151) (k := 1) (sz := 1) selT rfl (by omega) ?_
 exact G.doneG (((hv, cv, gv), .slice (some ⟨b151, 0, none⟩) 1 1, .slice none 0 0)) Y29 rfl (Rv.cellN (cs := [_, _, _, _]) rfl Tryz.underlying33 rfl kr Y23 (Rv.tmp rfl Rv.nil)) (vt2 (by first | rfl | (show decide _ = decide _; rw [decide_eq_decide]; omega))) subT
def NtOk (n : Nt) : Prop := (n.k = 2 → ∃ a : Nat, n.ns = [(a : Int)] ∧ a ≤ 100000000) ∧ n.ids.length ≤ 64
structure PnOk (p : PM) : Prop where
 all : ∀ n ∈ p.left ++ p.wait, NtOk n
 five : p.ph = 5 → p.left.length + p.wait.length ≤ 1
 eight : p.wait.length ≤ 8
theorem phs_notes {p : PM} {k : Nat} (h : PcOk p) (hk : 1 ≤ k ∧ k ≤ 5) : (∀ n ∈ (phsM p k).2, NtOk n) ∧ (k = 5 → (phsM p k).2.length = 1) := by
 rcases (show k = 1 ∨ k = 2 ∨ k = 3 ∨ k = 4 ∨ k = 5 by omega) with rfl | rfl | rfl | rfl | rfl
 ·refine ⟨fun n hn => ?_, (fun h => by cases h)⟩
  obtain rfl : n = _ := by simpa [phsM] using hn
  exact ⟨(fun h => by cases h), Nat.zero_le _⟩
 ·refine ⟨fun n hn => ?_, (fun h => by cases h)⟩
  obtain ⟨i, hi, rfl⟩ := List.mem_map.1 hn
  have h3 := List.mem_range.1 hi
  have h4 := h.b
  exact ⟨fun _ => ⟨1000 * i, rfl, by omega⟩, Nat.zero_le _⟩
 ·refine ⟨fun n hn => ?_, (fun h => by cases h)⟩
  obtain ⟨i, hi, rfl⟩ := List.mem_map.1 hn
  refine ⟨(fun h => by cases h), ?_⟩
  show (((p.l.map (·.1)).drop (16 * i)).take 16).length ≤ 64
  rw [List.length_take]
  omega
 ·refine ⟨fun n hn => ?_, (fun h => by cases h)⟩
  obtain ⟨c, hc, rfl⟩ := List.mem_map.1 hn
  exact ⟨fun h => (by cases h), by show 1 ≤ 64; omega⟩
 refine ⟨fun n hn => ?_, fun _ => rfl⟩
 obtain rfl : n = _ := by simpa [phsM] using hn
 exact ⟨(fun h => by cases h), Nat.zero_le _⟩
def rP (n : Nat) : Nat := (n + 15) / 16 + n + 1
def futP (p : PM) (ph : Nat) : Nat :=
 match ph with
 | 1 => (p.b.length + 999) / 1000 + 3 * rP p.l.length
 | 2 => 3 * rP p.l.length
 | 3 => p.l.length + 1 + (3 - p.rounds) * rP p.l.length
 | 4 => 1 + (3 - p.rounds) * rP p.l.length
 | _ => (3 - p.rounds) * rP p.l.length
def potP (p : PM) : Nat := if p.over = true then 0 else p.left.length + futP p p.ph
def entP (p : PM) (k : Nat) : Nat :=
 match k with
 | 1 => 1 + (p.b.length + 999) / 1000 + 3 * rP p.l.length
 | 2 => (p.b.length + 999) / 1000 + 3 * rP p.l.length
 | 3 => (3 - p.rounds) * rP p.l.length
 | 4 => p.l.length + 1 + (3 - p.rounds) * rP p.l.length
 | _ => 1 + (3 - p.rounds) * rP p.l.length
theorem mul3 {r R a : Nat} (hr : r ≤ 2) (h : a ≤ R) : a + (3 - (r + 1)) * R ≤ (3 - r) * R := by
 rcases (show r = 0 ∨ r = 1 ∨ r = 2 by omega) with rfl | rfl | rfl <;> omega
theorem ent_pot : ∀ (f : Nat) (p : PM) (k : Nat), PcOk { p with ph := k } → p.left = [] → p.wait = [] → p.over = false → k + f = 6 → 1 ≤ k → k ≤ 5 → (k = 3 → p.rounds ≤ 2) → potP (entF f p k) ≤ entP p k ∧ PnOk (entF f p k)
 | 0, p, k, _, _, _, _, h, _, h2, _ => by omega
 | f + 1, p, k, hc, hl, hw, ho, hk, h1, h2, hr => by
  have hnt := phs_notes hc ⟨h1, h2⟩
  by_cases hn : (phsM { p with ph := k } k).2 = []
  ·have e : entF (f + 1) p k = entF f (phsM { p with ph := k } k).1 (k + 1) := if_pos hn
   rw [e]
   rcases (show k = 1 ∨ k = 2 ∨ k = 3 ∨ k = 4 ∨ k = 5 by omega) with rfl | rfl | rfl | rfl | rfl
   ·cases hn
   ·exfalso
    have h3 := congrArg List.length hn
    have h4 := hc.b0
    simp [phsM, partsL, partsT] at h3
    change 0 < p.b.length at h4
    omega
   ·have hr2 := hr rfl
    have ih := ent_pot f { { p with ph := 3 } with lacks := [], rounds := p.rounds + 1 } 4 ⟨hc.made, hc.cm, hc.tk, hc.b0, hc.b, hc.l, ⟨by show 1 ≤ 4; omega, by show 4 ≤ 5; omega⟩, by show p.rounds + 1 ≤ 3; omega, fun h => by change 4 ≤ 2 at h; omega, hc.asked, Nat.zero_le _⟩ hl hw ho (by omega) (by omega) (by omega) (fun h => by omega)
    refine ⟨Nat.le_trans ih.1 ?_, ih.2⟩
    show p.l.length + 1 + (3 - (p.rounds + 1)) * rP p.l.length ≤ (3 - p.rounds) * rP p.l.length
    exact mul3 hr2 (by unfold rP; omega)
   ·have ih := ent_pot f { p with ph := 4 } 5 ⟨hc.made, hc.cm, hc.tk, hc.b0, hc.b, hc.l, ⟨by show 1 ≤ 5; omega, by show 5 ≤ 5; omega⟩, hc.rounds, fun h => by change 5 ≤ 2 at h; omega, hc.asked, hc.lacks⟩ hl hw ho (by omega) (by omega) (by omega) (fun h => by omega)
    refine ⟨Nat.le_trans ih.1 ?_, ih.2⟩
    show 1 + (3 - p.rounds) * rP p.l.length ≤ p.l.length + 1 + (3 - p.rounds) * rP p.l.length
    omega
   cases hn
  have e : entF (f + 1) p k = { (phsM { p with ph := k } k).1 with left := (phsM { p with ph := k } k).2 } := if_neg hn
  rw [e]
  refine ⟨?_, ?_⟩
  ·rcases (show k = 1 ∨ k = 2 ∨ k = 3 ∨ k = 4 ∨ k = 5 by omega) with rfl | rfl | rfl | rfl | rfl
   ·unfold potP
    rw [if_neg Y41]
    show 1 + ((p.b.length + 999) / 1000 + 3 * rP p.l.length) ≤ 1 + (p.b.length + 999) / 1000 + 3 * rP p.l.length
    omega
   ·unfold potP
    rw [if_neg Y41]
    show (partsL p.b).length + 3 * rP p.l.length ≤ (p.b.length + 999) / 1000 + 3 * rP p.l.length
    unfold partsL partsT
    rw [List.length_map, List.length_range]
    exact Nat.le_refl _
   ·unfold potP
    rw [if_neg Y41]
    show (queriesL (p.l.map (·.1))).length + (p.l.length + 1 + (3 - (p.rounds + 1)) * rP p.l.length) ≤ (3 - p.rounds) * rP p.l.length
    unfold queriesL
    rw [List.length_map, List.length_range, List.length_map, ← Nat.add_assoc]
    exact mul3 (hr rfl) (by unfold rP; omega)
   ·unfold potP
    rw [if_neg Y41]
    show (p.lacks.map give).length + (1 + (3 - p.rounds) * rP p.l.length) ≤ p.l.length + 1 + (3 - p.rounds) * rP p.l.length
    rw [List.length_map]
    have : p.lacks.length ≤ p.l.length := hc.lacks
    omega
   unfold potP
   rw [if_neg Y41]
   exact Nat.le_refl _
  have hph : (phsM { p with ph := k } k).1.ph = k ∧ (phsM { p with ph := k } k).1.wait = [] := by
   rcases (show k = 1 ∨ k = 2 ∨ k = 3 ∨ k = 4 ∨ k = 5 by omega) with rfl | rfl | rfl | rfl | rfl <;> exact ⟨rfl, hw⟩
  refine ⟨fun n hn => ?_, fun h5 => ?_, ?_⟩
  ·change n ∈ (phsM { p with ph := k } k).2 ++ (phsM { p with ph := k } k).1.wait at hn
   rw [hph.2, List.append_nil] at hn
   exact hnt.1 n hn
  ·change (phsM { p with ph := k } k).1.ph = 5 at h5
   show (phsM { p with ph := k } k).2.length + (phsM { p with ph := k } k).1.wait.length ≤ 1
   rw [hph.2, hnt.2 (hph.1.symm.trans h5)]
   exact Nat.le_refl _
  show (phsM { p with ph := k } k).1.wait.length ≤ 8
  rw [hph.2]
  exact Nat.zero_le _
theorem enter_pot {p : PM} {k : Nat} (h : PcOk p) (ho : p.over = false) (h1 : 1 ≤ k) (h2 : k ≤ 5) (hr : k = 3 → p.rounds ≤ 2) (hr0 : k ≤ 2 → p.rounds = 0) : potP (enterM p k) ≤ entP p k ∧ PnOk (enterM p k) :=
 ent_pot (6 - k) { p with left := [], wait := [], asked := 0 } k ⟨h.made, h.cm, h.tk, h.b0, h.b, h.l, ⟨h1, h2⟩, h.rounds, hr0, Nat.zero_le _, h.lacks⟩ rfl rfl ho (by omega) h1 h2 hr
theorem entF_wait : ∀ (f : Nat) (p : PM) (k : Nat), p.wait = [] → (entF f p k).wait = []
 | 0, _, _, h => h
 | f + 1, p, k, h => by
  have hw : (phsM { p with ph := k } k).1.wait = [] := by
   unfold phsM
   split <;> exact h
  show (if _ then _ else _ : PM).wait = []
  split
  ·exact entF_wait f _ _ hw
  exact hw
theorem ent_wait (p : PM) (k : Nat) : (enterM p k).wait = [] := entF_wait _ _ _ rfl
theorem end_pn (p : PM) (n e : Int) : potP (endP p n e) = 0 ∧ PnOk (endP p n e) := ⟨if_pos rfl, ⟨fun n hn => (by simp [endP] at hn), fun _ => Nat.zero_le _, Nat.zero_le _⟩⟩
theorem send_pn {p : PM} (hm : PmOk p) (h : PnOk p) : PnOk (sendP p).2 ∧ potP (sendP p).2 + (if (sendP p).1.isSome = true then 1 else 0) ≤ potP p ∧ ((sendP p).1.isSome = true → p.over = false ∧ NtOk (sentN p)) ∧ (sendP p).2.over = p.over := by
 unfold sentN sendP
 by_cases hn : p.left = [] ∨ 8 ≤ p.wait.length
 ·rw [if_pos hn]
  exact ⟨h, Nat.le_refl _, (fun hh => by cases hh), rfl⟩
 rw [if_neg hn]
 cases e : p.left with
 | nil => exact absurd (.inl e) hn
 | cons x t =>
  have ho : p.over = false := by
   cases ho : p.over with
   | false => rfl
   | true => have := (hm.over ho).1; rw [e] at this; cases this
  have hall := h.all
  have h5 := h.five
  rw [e] at hall h5
  refine ⟨⟨fun n hn => ?_, fun hp => ?_, ?_⟩, ?_, fun _ => ⟨ho, hall x (by simp)⟩, rfl⟩
  ·change n ∈ t ++ (p.wait ++ [x]) at hn
   refine hall n ?_
   simp only [List.mem_append, List.mem_cons, List.not_mem_nil, or_false] at hn ⊢
   rcases hn with h | h | h
   ·exact .inl (.inr h)
   ·exact .inr h
   exact .inl (.inl h)
  ·have := h5 hp
   show t.length + (p.wait ++ [x]).length ≤ 1
   rw [List.length_append, List.length_singleton]
   rw [List.length_cons] at this
   omega
  ·show (p.wait ++ [x]).length ≤ 8
   rw [List.length_append, List.length_singleton]
   omega
  show potP { p with left := t, wait := p.wait ++ [x] } + 1 ≤ potP p
  unfold potP
  rw [if_neg Y41, if_neg (by rw [ho]; simp), e]
  show t.length + futP p p.ph + 1 ≤ (x :: t).length + futP p p.ph
  rw [List.length_cons]
  omega
theorem fut_eq {p q : PM} (ph : Nat) (h1 : q.l = p.l) (h2 : q.b = p.b) (h3 : q.rounds = p.rounds) : futP q ph = futP p ph := by
 unfold futP
 rw [h1, h2, h3]
theorem take_pn {p : PM} (y : Nt) (hm : PmOk p) (h : PnOk p) : PnOk (takeM p y).2 ∧ potP (takeM p y).2 ≤ potP p ∧ ((takeM p y).1 = if p.wait = [] then 9 else 0) ∧ (p.over = true → (takeM p y).2 = p) ∧ ((takeM p y).2.over = false → (takeM p y).2.wait.length = p.wait.length - 1) := by
 unfold takeM
 by_cases hn : p.over = true ∨ p.wait = []
 ·rw [if_pos hn]
  have hw : p.wait = [] := by
   rcases hn with hn | hn
   ·exact (hm.over hn).2
   exact hn
  rw [if_pos hw]
  exact ⟨h, Nat.le_refl _, rfl, fun _ => rfl, fun _ => by show p.wait.length = _; rw [hw]; rfl⟩
 rw [if_neg hn]
 have ho : p.over = false := by
  cases e : p.over with
  | false => rfl
  | true => exact absurd (.inl e) hn
 cases e : p.wait with
 | nil => exact absurd (.inr e) hn
 | cons x t =>
  rw [if_neg (by simp)]
  have hpot : potP p = p.left.length + futP p p.ph := if_neg (by rw [ho]; simp)
  have hc := core_pop hm.toPcOk t
  have hx : p.ph = 3 → p.asked + x.ids.length ≤ p.l.length ∧ p.lacks.length ≤ p.asked := fun hp => by
   have h3 := hm.three ho hp
   rw [e, List.cons_append, List.map_cons, List.sum_cons] at h3
   exact ⟨by omega, h3.2⟩
  have hfive := h.five
  rw [e, List.length_cons] at hfive
  suffices hs : PnOk (takeB { p with wait := t } x y) ∧ potP (takeB { p with wait := t } x y) ≤ potP p ∧ ((takeB { p with wait := t } x y).over = false → (takeB { p with wait := t } x y).wait.length = t.length) from
   ⟨hs.1, hs.2.1, rfl, (fun h => by rw [ho] at h; cases h), fun hh => by rw [List.length_cons]; exact (hs.2.2 hh).trans (by omega)⟩
  have E : ∀ q n m, PnOk (endP q n m) ∧ potP (endP q n m) ≤ potP p ∧ ((endP q n m).over = false → (endP q n m).wait.length = t.length) := fun q n m =>
   ⟨(end_pn q n m).2, by rw [(end_pn q n m).1]; exact Nat.zero_le _, fun hh => by cases hh⟩
  unfold takeB
  split
  ·exact E _ _ _
  split
  ·rename_i h1
   have h2 := of_decide_eq_true h1.2
   have hr : p.rounds ≤ 2 := by have := h2.2.2.1; change p.rounds < 3 at this; omega
   have hp5 : p.ph = 5 := h2.1
   have h3 := enter_pot (k := 3) hc ho (by omega) (by omega) (fun _ => hr) (fun h => by omega)
   have h4 := hfive hp5
   refine ⟨h3.2, Nat.le_trans h3.1 ?_, fun _ => ?_⟩
   ·rw [hpot, hp5]
    exact Nat.le_add_left _ _
   have ht : t = [] := List.eq_nil_of_length_eq_zero (by omega)
   rw [ht, ent_wait]
  split
  ·exact E _ _ _
  have hj : PcOk (judP p.ph { p with wait := t } x y).2 := core_jud hc hx
  obtain ⟨s1, -, -, s4, s5, -, s7, -, s9⟩ := judP_same p.ph { p with wait := t } x y
  split
  ·exact E _ _ _
  rename_i hjt
  have hjt : (judP p.ph { p with wait := t } x y).1 = true := by simpa using hjt
  have hjo := judP_over (ph := p.ph) (p := { p with wait := t }) (x := x) (y := y) ho
  have hjl := judP_lists (ph := p.ph) (p := { p with wait := t }) (x := x) (y := y)
  split
  ·rename_i h1
   have h2 := jud5 hm.ph hjt h1.1
   have hl := hjl h1.1
   have h3 := enter_pot (k := p.ph + 1) hj h1.1 (by omega) (by omega) (fun hk => by
    rw [s1]
    have := hm.r0 (by omega)
    show p.rounds ≤ 2
    omega) (fun hk => by
    rw [s1]
    exact hm.r0 (by omega))
   rw [s7]
   refine ⟨h3.2, Nat.le_trans h3.1 ?_, fun _ => ?_⟩
   ·rw [hpot]
    refine Nat.le_trans ?_ (Nat.le_add_left _ _)
    have h1 := hm.ph
    unfold entP futP
    rw [s1, s4, s5]
    rcases (show p.ph = 1 ∨ p.ph = 2 ∨ p.ph = 3 ∨ p.ph = 4 by omega) with hp | hp | hp | hp
    ·rw [hp]; exact Nat.le_refl _
    ·rw [hp]
     have := hm.r0 (by omega)
     show (3 - p.rounds) * rP p.l.length ≤ 3 * rP p.l.length
     rw [this]
     exact Nat.le_refl _
    ·rw [hp]; exact Nat.le_refl _
    rw [hp]; exact Nat.le_refl _
   rw [ent_wait]
   have h4 := h1.2
   rw [hl.2.1] at h4
   change _ + t.length = 0 at h4
   show 0 = _
   omega
  have hm' : ∀ n, n ∈ p.left ++ t → n ∈ p.left ++ p.wait := fun n hn => by
   rw [e]
   rcases List.mem_append.1 hn with h | h
   ·exact List.mem_append_left _ h
   exact List.mem_append_right _ (List.mem_cons_of_mem _ h)
  have h8 := h.eight
  rw [e, List.length_cons] at h8
  generalize hq : (judP p.ph { p with wait := t } x y).2 = q at *
  cases hov : q.over with
  | true =>
   have := hjo hov
   refine ⟨⟨fun n hn => ?_, fun _ => ?_, ?_⟩, ?_, fun hh => by cases hh⟩
   ·rw [this.1, this.2] at hn; cases hn
   ·rw [this.1, this.2]; exact Nat.zero_le _
   ·rw [this.2]; exact Nat.zero_le _
   unfold potP
   rw [if_pos hov]
   exact Nat.zero_le _
  | false =>
   have := hjl hov
   refine ⟨⟨fun n hn => ?_, fun hp => ?_, ?_⟩, ?_, fun _ => ?_⟩
   ·rw [this.1, this.2.1] at hn
    exact h.all n (hm' n hn)
   ·have := hfive (by rw [← hp, s7])
    change q.left.length + q.wait.length ≤ p.left.length + t.length at s9
    omega
   ·rw [this.2.1]
    show t.length ≤ 8
    omega
   ·rw [hpot]
    unfold potP
    rw [if_neg (by rw [hov]; simp), this.1, s7, fut_eq p.ph s5 s4 s1]
    exact Nat.le_refl _
   rw [this.2.1]
theorem enter5 (p : PM) : enterM p 5 = { p with ph := 5, left := [⟨5, [], [], []⟩], wait := [], asked := 0 } := rfl
theorem entF4 (f : Nat) (p : PM) : entF (f + 2) p 4 = if p.lacks = [] then { p with ph := 5, left := [⟨5, [], [], []⟩] } else { p with ph := 4, left := p.lacks.map give } := by
 by_cases h : p.lacks = []
 ·rw [if_pos h]
  have e : entF (f + 2) p 4 = entF (f + 1) { p with ph := 4 } 5 := if_pos (by show p.lacks.map give = []; rw [h]; rfl)
  rw [e]
  rfl
 rw [if_neg h]
 exact if_neg (fun hh => h (List.map_eq_nil_iff.1 hh))
theorem enter4 (p : PM) : enterM p 4 = if p.lacks = [] then { p with ph := 5, left := [⟨5, [], [], []⟩], wait := [], asked := 0 } else { p with ph := 4, left := p.lacks.map give, wait := [], asked := 0 } := by
 unfold enterM
 exact entF4 0 _
theorem enter3 (p : PM) : enterM p 3 = if queriesL (p.l.map (·.1)) = [] then { p with ph := 5, left := [⟨5, [], [], []⟩], wait := [], asked := 0, lacks := [], rounds := p.rounds + 1 } else { p with ph := 3, left := queriesL (p.l.map (·.1)), wait := [], asked := 0, lacks := [], rounds := p.rounds + 1 } := by
 unfold enterM
 by_cases h : queriesL (p.l.map (·.1)) = []
 ·rw [if_pos h]
  have e : entF 3 { p with left := [], wait := [], asked := 0 } 3 = entF 2 { p with left := [], wait := [], asked := 0, ph := 3, lacks := [], rounds := p.rounds + 1 } 4 := if_pos h
  exact e.trans ((entF4 0 _).trans (if_pos rfl))
 rw [if_neg h]
 exact if_neg h
theorem enter2 (p : PM) (h : 0 < p.b.length) : enterM p 2 = { p with ph := 2, left := partsL p.b, wait := [], asked := 0 } := by
 unfold enterM
 refine if_neg (fun hh => ?_)
 have h3 := congrArg List.length hh
 simp [phsM, partsL, partsT] at h3
 omega
def noP (h0 : List (List UInt8)) (c : List UInt8 × List UInt8) : Bool := decide (c.1 ∉ h0)
structure Hyp (b : List UInt8) (l : List (List UInt8 × List UInt8)) : Prop where
 b0 : 0 < b.length
 bl : b.length ≤ 262144
 nm : ∀ c ∈ l, c.1 = nameM c.2
 nd : (l.map (·.1)).Nodup
inductive Inv (b : List UInt8) (l : List (List UInt8 × List UInt8)) (h0 : List (List UInt8)) : PM → SK → Prop
 | c1 {p : PM} (ho : p.over = false) (hph : p.ph = 1) (hb : p.b = b) (hl : p.l = l) (hr : p.rounds = 0) (c k : Int) (hw : p.wait ++ p.left = [⟨1, [c, k, (b.length : Int)], [], []⟩]) : Inv b l h0 p ⟨h0, [], [], 0⟩
 | c2 {p : PM} (ho : p.over = false) (hph : p.ph = 2) (hb : p.b = b) (hl : p.l = l) (hr : p.rounds = 0) (j : Nat) (hj : j < (b.length + 999) / 1000) (hw : p.wait ++ p.left = (partsL b).drop j) : Inv b l h0 p ⟨h0, b.take (1000 * j), [], 1 + j⟩
 | c3 {p : PM} (ho : p.over = false) (hph : p.ph = 3) (hb : p.b = b) (hl : p.l = l) (j : Nat) (hj : j < (l.length + 15) / 16) (ha : p.asked = 16 * j) (hk : p.lacks = (l.take (16 * j)).filter (noP h0)) (hw : p.wait ++ p.left = (queriesL (l.map (·.1))).drop j) : Inv b l h0 p ⟨h0, b, [], 1 + (b.length + 999) / 1000 + j⟩
 | c4 {p : PM} (ho : p.over = false) (hph : p.ph = 4) (hb : p.b = b) (hl : p.l = l) (j : Nat) (hj : j < (l.filter (noP h0)).length) (hw : p.wait ++ p.left = ((l.filter (noP h0)).map give).drop j) : Inv b l h0 p ⟨h0 ++ ((l.filter (noP h0)).take j).map (·.1), b, ((l.filter (noP h0)).take j).map (·.1), 1 + (b.length + 999) / 1000 + (l.length + 15) / 16 + j⟩
 | c5 {p : PM} (ho : p.over = false) (hph : p.ph = 5) (hw : p.wait ++ p.left = [⟨5, [], [], []⟩]) : Inv b l h0 p ⟨h0 ++ (l.filter (noP h0)).map (·.1), b, (l.filter (noP h0)).map (·.1), 1 + (b.length + 999) / 1000 + (l.length + 15) / 16 + (l.filter (noP h0)).length⟩
 | c6 {p : PM} (ho : p.over = true) (hn : p.num = 5) (he : p.e = 0) (hw : p.wait = [] ∧ p.left = []) : Inv b l h0 p ⟨h0 ++ (l.filter (noP h0)).map (·.1), b, (l.filter (noP h0)).map (·.1), 1 + (b.length + 999) / 1000 + (l.length + 15) / 16 + (l.filter (noP h0)).length + 1⟩
theorem inv_send {b : List UInt8} {l : List (List UInt8 × List UInt8)} {h0 : List (List UInt8)} {p : PM} {s : SK} (h : Inv b l h0 p s) : Inv b l h0 (sendP p).2 s := by
 unfold sendP
 by_cases hn : p.left = [] ∨ 8 ≤ p.wait.length
 ·rw [if_pos hn]
  exact h
 rw [if_neg hn]
 cases e : p.left with
 | nil => exact absurd (.inl e) hn
 | cons x t =>
  have hq : (p.wait ++ (x :: t).head?.toList) ++ (x :: t).tail = p.wait ++ p.left := by
   rw [e]
   show (p.wait ++ [x]) ++ t = p.wait ++ x :: t
   rw [List.append_assoc]
   rfl
  obtain ⟨q, hqq⟩ : ∃ q : PM, q = { p with left := (x :: t).tail, wait := p.wait ++ (x :: t).head?.toList } := ⟨_, rfl⟩
  have hq2 : q.wait ++ q.left = p.wait ++ p.left := by rw [hqq]; exact hq
  have f1 : q.over = p.over := by rw [hqq]
  have f2 : q.ph = p.ph := by rw [hqq]
  have f3 : q.b = p.b := by rw [hqq]
  have f4 : q.l = p.l := by rw [hqq]
  have f5 : q.rounds = p.rounds := by rw [hqq]
  have f6 : q.asked = p.asked := by rw [hqq]
  have f7 : q.lacks = p.lacks := by rw [hqq]
  show Inv b l h0 { p with left := (x :: t).tail, wait := p.wait ++ (x :: t).head?.toList } s
  rw [← hqq]
  cases h with
  | c1 ho hph hb hl hr c k hw => exact .c1 (f1.trans ho) (f2.trans hph) (f3.trans hb) (f4.trans hl) (f5.trans hr) c k (hq2.trans hw)
  | c2 ho hph hb hl hr j hj hw => exact .c2 (f1.trans ho) (f2.trans hph) (f3.trans hb) (f4.trans hl) (f5.trans hr) j hj (hq2.trans hw)
  | c3 ho hph hb hl j hj ha hk hw => exact .c3 (f1.trans ho) (f2.trans hph) (f3.trans hb) (f4.trans hl) j hj (f6.trans ha) (f7.trans hk) (hq2.trans hw)
  | c4 ho hph hb hl j hj hw => exact .c4 (f1.trans ho) (f2.trans hph) (f3.trans hb) (f4.trans hl) j hj (hq2.trans hw)
  | c5 ho hph hw => exact .c5 (f1.trans ho) (f2.trans hph) (hq2.trans hw)
  | c6 ho hn he hw => rw [e] at hw; exact absurd hw.2 (by simp)
theorem sh16v : ((shD 16).n, (shD 16).ns, (shD 16).i, (shD 16).is, (shD 16).b, (shD 16).bs) = ((1 : Int), (1 : Int), (0 : Int), (0 : Int), (0 : Int), (0 : Int)) := by kernel_rfl
theorem sh17v : ((shD 17).n, (shD 17).ns, (shD 17).i, (shD 17).is, (shD 17).b, (shD 17).bs) = ((1 : Int), (16 : Int), (0 : Int), (0 : Int), (0 : Int), (0 : Int)) := by kernel_rfl
theorem ck16 {n : Int} (h : 0 ≤ n ∧ n ≤ 2147483647) : ncheckM 16 [n] 0 0 = 0 := by
 have h1 : shM 16 = some (shD 16) := by kernel_rfl
 have h2 := sh16v
 simp only [Prod.mk.injEq] at h2
 unfold ncheckM
 rw [h1]
 show checkS (shD 16) [n] 0 0 = 0
 unfold checkS
 rw [if_neg (by rw [List.length_singleton]; omega), if_pos (by simp [okN, h])]
theorem ck17 {ns : List Int} (h : 1 ≤ ns.length ∧ ns.length ≤ 16) (hn : ∀ n ∈ ns, n = 0 ∨ n = 1) : ncheckM 17 ns 0 0 = 0 := by
 have h1 : shM 17 = some (shD 17) := by kernel_rfl
 have h2 := sh17v
 simp only [Prod.mk.injEq] at h2
 unfold ncheckM
 rw [h1]
 show checkS (shD 17) ns 0 0 = 0
 unfold checkS
 rw [if_neg (by omega), if_pos (List.all_eq_true.2 fun x hx => by rcases hn x hx with rfl | rfl <;> decide)]
theorem ck18 : ncheckM 18 [] 1 0 = 0 := by kernel_rfl
theorem ck19 : ncheckM 19 [5] 0 0 = 0 := by kernel_rfl
theorem pop (p : PM) (t : List Nt) : ∃ q : PM, q = { p with wait := t } ∧ q.over = p.over ∧ q.ph = p.ph ∧ q.b = p.b ∧ q.l = p.l ∧ q.rounds = p.rounds ∧ q.wait = t ∧ q.left = p.left ∧ q.asked = p.asked ∧ q.lacks = p.lacks := ⟨_, rfl, rfl, rfl, rfl, rfl, rfl, rfl, rfl, rfl, rfl⟩
theorem takeM_true {p q1 q : PM} {x y : Nt} {t : List Nt} (ho : p.over = false) (hw : p.wait = x :: t) (hq : q1 = { p with wait := t }) (hc : ncheckM y.k y.ns y.ids.length y.bs.length = 0) (hk : y.k ≠ 20) (hj : judP p.ph q1 x y = (true, q)) : takeM p y = (0, if q.over = false ∧ q.left.length + q.wait.length = 0 then enterM q (q.ph + 1) else q) := by
 subst hq
 unfold takeM
 rw [if_neg (by rw [ho, hw]; intro h; rcases h with h | h <;> cases h), hw]
 show ((0 : Int), takeB { p with wait := t } x y) = _
 rw [takeB_jud hc (fun h => hk h.1) (fun h => hk h.1)]
 show ((0 : Int), if (judP p.ph { p with wait := t } x y).1 = false then _ else _) = _
 rw [hj]
 rfl
theorem drop_head {α : Type} {L : List α} {j : Nat} {x : α} {t u : List α} (h : (x :: t) ++ u = L.drop j) : ∃ hj : j < L.length, x = L[j] ∧ t ++ u = L.drop (j + 1) := by
 have hj : j < L.length := by
  rcases Nat.lt_or_ge j L.length with h1 | h1
  ·exact h1
  rw [List.drop_eq_nil_of_le h1] at h
  cases h
 rw [List.drop_eq_getElem_cons hj, List.cons_append] at h
 injection h with h1 h2
 exact ⟨hj, h1, h2⟩
theorem left_zero {α : Type} {t u L : List α} {j : Nat} (h : t ++ u = L.drop (j + 1)) : (u.length + t.length = 0 ↔ L.length ≤ j + 1) := by
 have := congrArg List.length h
 rw [List.length_append, List.length_drop] at this
 omega
def StepOk (b : List UInt8) (l : List (List UInt8 × List UInt8)) (h0 : List (List UInt8)) (p : PM) (s : SK) (x : Nt) (t : List Nt) : Prop :=
 ∃ y s' p', ansP s x = ((y, true), s') ∧ takeM p y = (0, p') ∧ (Inv b l h0 p' s' ∧ p'.wait = t) ∧ s'.notes = s.notes + 1
theorem inv_four {b : List UInt8} {l : List (List UInt8 × List UInt8)} {h0 : List (List UInt8)} {q : PM} (ho : q.over = false) (hb : q.b = b) (hl : q.l = l) (hk : q.lacks = l.filter (noP h0)) : Inv b l h0 (enterM q 4) ⟨h0, b, [], 1 + (b.length + 999) / 1000 + (l.length + 15) / 16⟩ := by
 rw [enter4]
 by_cases h : q.lacks = []
 ·rw [if_pos h]
  have h1 : l.filter (noP h0) = [] := hk.symm.trans h
  have := Inv.c5 (b := b) (l := l) (h0 := h0) (p := { q with ph := 5, left := [⟨5, [], [], []⟩], wait := [], asked := 0 }) ho rfl rfl
  rw [h1] at this
  simpa using this
 rw [if_neg h]
 have h1 : 0 < (l.filter (noP h0)).length := by rw [← hk]; exact List.length_pos_iff.2 h
 have := Inv.c4 (b := b) (l := l) (h0 := h0) (p := { q with ph := 4, left := q.lacks.map give, wait := [], asked := 0 }) ho rfl hb hl 0 h1 (by show [] ++ q.lacks.map give = _; rw [hk]; rfl)
 simpa using this
theorem step1 {b : List UInt8} {l : List (List UInt8 × List UInt8)} {h0 : List (List UInt8)} {p : PM} {x : Nt} {t : List Nt} (H : Hyp b l) (ho : p.over = false) (hph : p.ph = 1) (hb : p.b = b) (hl : p.l = l) (hr : p.rounds = 0) (c k : Int) (hw : p.wait ++ p.left = [⟨1, [c, k, (b.length : Int)], [], []⟩]) (hx : p.wait = x :: t) : StepOk b l h0 p ⟨h0, [], [], 0⟩ x t := by
 rw [hx] at hw
 have hx1 : x = ⟨1, [c, k, (b.length : Int)], [], []⟩ ∧ t ++ p.left = [] := by
  rw [List.cons_append] at hw
  injection hw with h1 h2
  exact ⟨h1, h2⟩
 obtain ⟨rfl, hte⟩ := hx1
 have ht := List.append_eq_nil_iff.1 hte
 obtain ⟨q, hq, qo, qp, qb, ql, qr, qw, qe, -, -⟩ := pop p t
 refine ⟨⟨16, [0], [], []⟩, ⟨h0, [], [], 1⟩, _, rfl, takeM_true (q := q) ho hx hq (ck16 ⟨by decide, by decide⟩) (by decide) (by rw [hph]; rfl), ?_, rfl⟩
 rw [if_pos ⟨qo.trans ho, by rw [qe, qw, ht.1, ht.2]; rfl⟩, qp, hph]
 refine ⟨?_, (ent_wait _ _).trans ht.1.symm⟩
 show Inv b l h0 (enterM q 2) _
 rw [enter2 q (by rw [qb, hb]; exact H.b0)]
 exact Inv.c2 (p := { q with ph := 2, left := partsL q.b, wait := [], asked := 0 }) (qo.trans ho) rfl (qb.trans hb) (ql.trans hl) (qr.trans hr) 0 (by have := H.b0; omega) (by show [] ++ partsL q.b = _; rw [qb, hb]; rfl)
theorem parts_get {b : List UInt8} {j : Nat} (h : j < (partsL b).length) : (partsL b)[j] = piece b j := by simp [partsL, partsT]
theorem parts_len (b : List UInt8) : (partsL b).length = (b.length + 999) / 1000 := by simp [partsL, partsT]
theorem came_next {b : List UInt8} {j : Nat} (h : 1000 * j < b.length) : b.take (1000 * j) ++ (b.take (min (1000 * j + 1000) b.length)).drop (1000 * j) = b.take (1000 * (j + 1)) := by
 have e : b.take (min (1000 * j + 1000) b.length) = b.take (1000 * (j + 1)) := by
  rcases Nat.le_total (1000 * j + 1000) b.length with h1 | h1
  ·rw [Nat.min_eq_left h1]; rfl
  rw [Nat.min_eq_right h1, List.take_of_length_le (Nat.le_refl _), List.take_of_length_le (by omega)]
 rw [e]
 have h2 : b.take (1000 * j) = (b.take (1000 * (j + 1))).take (1000 * j) := by rw [List.take_take, Nat.min_eq_left (by omega)]
 rw [h2, List.take_append_drop]
theorem step2 {b : List UInt8} {l : List (List UInt8 × List UInt8)} {h0 : List (List UInt8)} {p : PM} {x : Nt} {t : List Nt} (H : Hyp b l) (ho : p.over = false) (hph : p.ph = 2) (hb : p.b = b) (hl : p.l = l) (hr : p.rounds = 0) (j : Nat) (hj : j < (b.length + 999) / 1000) (hw : p.wait ++ p.left = (partsL b).drop j) (hx : p.wait = x :: t) : StepOk b l h0 p ⟨h0, b.take (1000 * j), [], 1 + j⟩ x t := by
 rw [hx] at hw
 obtain ⟨hjl, rfl, hte⟩ := drop_head hw
 have hz := left_zero hte
 rw [parts_len] at hz
 have hlt : 1000 * j < b.length := by omega
 have hbl := H.bl
 have hxe := parts_get hjl
 have hcl : (b.take (1000 * j)).length = 1000 * j := by rw [List.length_take]; omega
 have hpl : (piece b j).bs.length = min (1000 * j + 1000) b.length - 1000 * j := by
  show ((b.take _).drop _).length = _
  rw [List.length_drop, List.length_take]
  omega
 have hcn : b.take (1000 * j) ++ (piece b j).bs = b.take (1000 * (j + 1)) := came_next hlt
 have hans : ansP ⟨h0, b.take (1000 * j), [], 1 + j⟩ (partsL b)[j] = ((⟨16, [((b.take (1000 * (j + 1))).length : Int)], [], []⟩, true), ⟨h0, b.take (1000 * (j + 1)), [], 1 + (j + 1)⟩) := by
  rw [hxe]
  show ((_, decide ((piece b j).ns = [((b.take (1000 * j)).length : Int)]) && decide (0 < (piece b j).bs.length)), (⟨h0, b.take (1000 * j) ++ (piece b j).bs, [], 1 + j + 1⟩ : SK)) = _
  rw [decide_eq_true (show (piece b j).ns = [((b.take (1000 * j)).length : Int)] by rw [hcl]; rfl), decide_eq_true (show 0 < (piece b j).bs.length by omega), hcn]
  rfl
 have hnl : (b.take (1000 * (j + 1))).length = 1000 * j + (piece b j).bs.length := by rw [← hcn, List.length_append, hcl]
 obtain ⟨q, hq, qo, qp, qb, ql, qr, qw, qe, -, -⟩ := pop p t
 have hju : judP p.ph q (partsL b)[j] ⟨16, [((b.take (1000 * (j + 1))).length : Int)], [], []⟩ = (true, q) := by
  rw [hph, hxe]
  show (justP _ 16 (((1000 * j : Nat) : Int) + ((piece b j).bs.length : Int)), q) = _
  unfold justP
  rw [decide_eq_true ⟨rfl, by rw [show (⟨16, [((b.take (1000 * (j + 1))).length : Int)], [], []⟩ : Nt).ns = [((b.take (1000 * (j + 1))).length : Int)] from rfl, hnl]; exact congrArg some (Int.natCast_add _ _)⟩]
 refine ⟨_, _, _, hans, takeM_true ho hx hq (ck16 ⟨by omega, by omega⟩) (by show (16 : Int) ≠ 20; decide) hju, ?_, rfl⟩
 by_cases h1 : (b.length + 999) / 1000 ≤ j + 1
 ·rw [if_pos ⟨qo.trans ho, by rw [qe, qw]; exact hz.2 h1⟩, qp, hph]
  have hfull : b.take (1000 * (j + 1)) = b := List.take_of_length_le (by omega)
  have hn : 1 + (j + 1) = 1 + (b.length + 999) / 1000 := by omega
  refine ⟨?_, (ent_wait _ _).trans (List.eq_nil_of_length_eq_zero (by have := hz.2 h1; omega)).symm⟩
  rw [hfull, hn]
  show Inv b l h0 (enterM q 3) _
  rw [enter3]
  have hql : (queriesL (q.l.map (·.1))).length = (l.length + 15) / 16 := by
   unfold queriesL
   rw [List.length_map, List.length_range, List.length_map, ql, hl]
  by_cases hq0 : queriesL (q.l.map (·.1)) = []
  ·rw [if_pos hq0]
   have hl0 : l = [] := List.eq_nil_of_length_eq_zero (by rw [hq0] at hql; have : 0 = (l.length + 15) / 16 := hql; omega)
   have := Inv.c5 (b := b) (l := l) (h0 := h0) (p := { q with ph := 5, left := [⟨5, [], [], []⟩], wait := [], asked := 0, lacks := [], rounds := q.rounds + 1 }) (qo.trans ho) rfl rfl
   rw [hl0] at this ⊢
   simpa using this
  rw [if_neg hq0]
  exact Inv.c3 (p := { q with ph := 3, left := queriesL (q.l.map (·.1)), wait := [], asked := 0, lacks := [], rounds := q.rounds + 1 }) (qo.trans ho) rfl (qb.trans hb) (ql.trans hl) 0 (by rw [← hql]; exact List.length_pos_iff.2 hq0) rfl rfl (by show [] ++ queriesL (q.l.map (·.1)) = _; rw [ql, hl]; rfl)
 rw [if_neg (fun h => h1 (hz.1 (by have := h.2; rwa [qe, qw] at this)))]
 refine ⟨?_, qw⟩
 exact Inv.c2 (qo.trans ho) (qp.trans hph) (qb.trans hb) (ql.trans hl) (qr.trans hr) (j + 1) (by omega) (by rw [qw, qe]; exact hte)
theorem lackT_filter {h0 : List (List UInt8)} (k l : List (List UInt8 × List UInt8)) (a c : Nat) : ∀ i, i ≤ ((l.drop a).take c).length → lackT k l a ((((l.map (·.1)).drop a).take c).map (hasN h0)) i = k ++ ((l.drop a).take i).filter (noP h0)
 | 0, _ => by simp [lackT]
 | i + 1, hi => by
  rw [List.length_take, List.length_drop] at hi
  have hl : a + i < l.length := by omega
  rw [lackT, lackT_filter k l a c i (by rw [List.length_take, List.length_drop]; omega)]
  have hn : ((((l.map (·.1)).drop a).take c).map (hasN h0))[i]? = some (hasN h0 l[a + i].1) := by
   rw [List.getElem?_map, List.getElem?_take_of_lt (by omega), List.getElem?_drop, List.getElem?_map, List.getElem?_eq_getElem hl]
   rfl
  have hd : (l.drop a).take (i + 1) = (l.drop a).take i ++ [l[a + i]] := by
   rw [List.take_succ_eq_append_getElem (by rw [List.length_drop]; omega), List.getElem_drop]
  rw [hn, hd, List.filter_append, ← List.append_assoc, List.getElem?_eq_getElem hl]
  congr 1
  unfold hasN
  by_cases hm : l[a + i].1 ∈ h0
  ·rw [if_pos hm, if_neg (by simp), List.filter_cons_of_neg (by simp [noP, hm])]
   rfl
  rw [if_neg hm, if_pos rfl, List.filter_cons_of_pos (by simp [noP, hm])]
  rfl
theorem hasN_in (h0 : List (List UInt8)) (id : List UInt8) : hasN h0 id = 0 ∨ hasN h0 id = 1 := by
 unfold hasN
 split
 ·exact .inr rfl
 exact .inl rfl
theorem queries_get {ids : List (List UInt8)} {j : Nat} (h : j < (queriesL ids).length) : (queriesL ids)[j] = batch ids j := by simp [queriesL]
theorem queries_len (ids : List (List UInt8)) : (queriesL ids).length = (ids.length + 15) / 16 := by simp [queriesL]
theorem step3 {b : List UInt8} {l : List (List UInt8 × List UInt8)} {h0 : List (List UInt8)} {p : PM} {x : Nt} {t : List Nt} (ho : p.over = false) (hph : p.ph = 3) (hb : p.b = b) (hl : p.l = l) (j : Nat) (hj : j < (l.length + 15) / 16) (ha : p.asked = 16 * j) (hk : p.lacks = (l.take (16 * j)).filter (noP h0)) (hw : p.wait ++ p.left = (queriesL (l.map (·.1))).drop j) (hx : p.wait = x :: t) : StepOk b l h0 p ⟨h0, b, [], 1 + (b.length + 999) / 1000 + j⟩ x t := by
 rw [hx] at hw
 obtain ⟨hjl, rfl, hte⟩ := drop_head hw
 have hz := left_zero hte
 rw [queries_len, List.length_map] at hz
 have hxe := queries_get hjl
 obtain ⟨X, hX⟩ : ∃ X, ((l.map (·.1)).drop (16 * j)).take 16 = X := ⟨_, rfl⟩
 have hXl : X.length = min 16 (l.length - 16 * j) := by rw [← hX, List.length_take, List.length_drop, List.length_map]
 have hxX : batch (l.map (·.1)) j = ⟨3, [], X, []⟩ := by unfold batch; rw [hX]
 rw [hxX] at hxe
 have hans : ansP ⟨h0, b, [], 1 + (b.length + 999) / 1000 + j⟩ (queriesL (l.map (·.1)))[j] = ((⟨17, X.map (hasN h0), [], []⟩, true), ⟨h0, b, [], 1 + (b.length + 999) / 1000 + (j + 1)⟩) := by
  rw [hxe]
  show ((_, decide (0 < X.length)), _) = _
  rw [decide_eq_true (show 0 < X.length by omega)]
  rfl
 obtain ⟨q, hq, qo, qp, qb, ql, qr, qw, qe, qa, qk⟩ := pop p t
 obtain ⟨q', hq'⟩ : ∃ q' : PM, q' = { q with lacks := lackT q.lacks q.l q.asked (X.map (hasN h0)) (X.map (hasN h0)).length, asked := q.asked + X.length } := ⟨_, rfl⟩
 have g1 : q'.over = q.over := by rw [hq']
 have g2 : q'.ph = q.ph := by rw [hq']
 have g3 : q'.b = q.b := by rw [hq']
 have g4 : q'.l = q.l := by rw [hq']
 have g5 : q'.wait = q.wait := by rw [hq']
 have g6 : q'.left = q.left := by rw [hq']
 have g7 : q'.asked = 16 * j + X.length := by rw [hq']; show q.asked + _ = _; rw [qa, ha]
 have g8 : q'.lacks = (l.take (16 * j + X.length)).filter (noP h0) := by
  rw [hq']
  show lackT q.lacks q.l q.asked _ _ = _
  rw [qk, hk, ql, hl, qa, ha, List.length_map, ← hX, lackT_filter _ _ _ _ _ (by rw [List.length_take, List.length_drop, List.length_map, List.length_take, List.length_drop]; exact Nat.le_refl _), List.take_add, List.filter_append]
 have hju : judP p.ph q (queriesL (l.map (·.1)))[j] ⟨17, X.map (hasN h0), [], []⟩ = (true, q') := by
  rw [hph, hxe, hq']
  exact hadP_yes (by
   rintro (h | h)
   ·exact h rfl
   ·exact h (List.length_map ..)) (fun n hn => by
   obtain ⟨id, -, rfl⟩ := List.mem_map.1 hn
   rcases hasN_in h0 id with h | h <;> rw [h] <;> decide)
 refine ⟨_, _, _, hans, takeM_true ho hx hq (ck17 ⟨by rw [List.length_map]; omega, by rw [List.length_map]; omega⟩ (fun n hn => by obtain ⟨id, -, rfl⟩ := List.mem_map.1 hn; exact hasN_in h0 id)) (by show (17 : Int) ≠ 20; decide) hju, ?_, rfl⟩
 by_cases h1 : (l.length + 15) / 16 ≤ j + 1
 ·rw [if_pos ⟨g1.trans (qo.trans ho), by rw [g5, g6, qe, qw]; exact hz.2 h1⟩, g2, qp, hph]
  refine ⟨?_, (ent_wait _ _).trans (List.eq_nil_of_length_eq_zero (by have := hz.2 h1; omega)).symm⟩
  have := inv_four (h0 := h0) (g1.trans (qo.trans ho)) (g3.trans (qb.trans hb)) (g4.trans (ql.trans hl)) (by rw [g8, List.take_of_length_le (by omega)])
  rw [show 1 + (b.length + 999) / 1000 + (l.length + 15) / 16 = 1 + (b.length + 999) / 1000 + (j + 1) from by omega] at this
  exact this
 rw [if_neg (fun h => h1 (hz.1 (by have := h.2; rwa [g5, g6, qe, qw] at this)))]
 refine ⟨?_, g5.trans qw⟩
 exact Inv.c3 (g1.trans (qo.trans ho)) (g2.trans (qp.trans hph)) (g3.trans (qb.trans hb)) (g4.trans (ql.trans hl)) (j + 1) (by omega) (by rw [g7]; omega) (by rw [g8, show 16 * j + X.length = 16 * (j + 1) from by omega]) (by rw [g5, g6, qw, qe]; exact hte)
theorem step4 {b : List UInt8} {l : List (List UInt8 × List UInt8)} {h0 : List (List UInt8)} {p : PM} {x : Nt} {t : List Nt} (H : Hyp b l) (ho : p.over = false) (hph : p.ph = 4) (hb : p.b = b) (hl : p.l = l) (j : Nat) (hj : j < (l.filter (noP h0)).length) (hw : p.wait ++ p.left = ((l.filter (noP h0)).map give).drop j) (hx : p.wait = x :: t) : StepOk b l h0 p ⟨h0 ++ ((l.filter (noP h0)).take j).map (·.1), b, ((l.filter (noP h0)).take j).map (·.1), 1 + (b.length + 999) / 1000 + (l.length + 15) / 16 + j⟩ x t := by
 rw [hx] at hw
 obtain ⟨hjl, rfl, hte⟩ := drop_head hw
 have hz := left_zero hte
 rw [List.length_map] at hz
 have hnd : ((l.filter (noP h0)).map (·.1)).Nodup := List.Nodup.sublist (List.Sublist.map _ (List.filter_sublist)) H.nd
 have hall : ∀ c ∈ l.filter (noP h0), c.1 = nameM c.2 ∧ c.1 ∉ h0 := fun c hc => by
  obtain ⟨h1, h2⟩ := List.mem_filter.1 hc
  exact ⟨H.nm c h1, by simpa [noP] using h2⟩
 obtain ⟨G, hG⟩ : ∃ G, l.filter (noP h0) = G := ⟨_, rfl⟩
 simp only [hG] at hj hjl hte hz hnd hall hx ⊢
 have hg := hall G[j] (List.getElem_mem hj)
 have hxe : (G.map give)[j] = ⟨4, [], [G[j].1], G[j].2⟩ := by rw [List.getElem_map]; rfl
 have hnot : G[j].1 ∉ h0 ++ (G.take j).map (·.1) := fun hm => by
  rcases List.mem_append.1 hm with hm | hm
  ·exact hg.2 hm
  rw [List.map_take] at hm
  obtain ⟨i, hi, he⟩ := List.mem_take_iff_getElem.1 hm
  have hij : i < j := by omega
  have h1 := (List.pairwise_iff_getElem.1 hnd) i j (by rw [List.length_map]; omega) (by rw [List.length_map]; exact hj) hij
  exact h1 (he.trans (by rw [List.getElem_map]))
 have htk : (G.take (j + 1)).map (·.1) = (G.take j).map (·.1) ++ [G[j].1] := by rw [List.take_succ_eq_append_getElem hj, List.map_append]; rfl
 have hans : ansP ⟨h0 ++ (G.take j).map (·.1), b, (G.take j).map (·.1), 1 + (b.length + 999) / 1000 + (l.length + 15) / 16 + j⟩ (G.map give)[j] = ((⟨18, [], [G[j].1], []⟩, true), ⟨h0 ++ (G.take (j + 1)).map (·.1), b, (G.take (j + 1)).map (·.1), 1 + (b.length + 999) / 1000 + (l.length + 15) / 16 + (j + 1)⟩) := by
  rw [hxe, htk, ← List.append_assoc]
  show (if [G[j].1] = [nameM G[j].2] ∧ nameM G[j].2 ∉ (h0 ++ (G.take j).map (·.1)) then _ else _) = _
  rw [if_pos ⟨by rw [← hg.1], by rw [← hg.1]; exact hnot⟩]
  rfl
 obtain ⟨q, hq, qo, qp, qb, ql, qr, qw, qe, qa, qk⟩ := pop p t
 have hju : judP p.ph q (G.map give)[j] ⟨18, [], [G[j].1], []⟩ = (true, q) := by
  rw [hph, hxe]
  show (decide _, q) = _
  rw [decide_eq_true ⟨rfl, rfl⟩]
 refine ⟨_, _, _, hans, takeM_true ho hx hq ck18 (by show (18 : Int) ≠ 20; decide) hju, ?_, rfl⟩
 by_cases h1 : G.length ≤ j + 1
 ·rw [if_pos ⟨qo.trans ho, by rw [qe, qw]; exact hz.2 h1⟩, qp, hph]
  refine ⟨?_, (ent_wait _ _).trans (List.eq_nil_of_length_eq_zero (by have := hz.2 h1; omega)).symm⟩
  show Inv b l h0 (enterM q 5) _
  rw [enter5, show G.take (j + 1) = G from List.take_of_length_le h1, show 1 + (b.length + 999) / 1000 + (l.length + 15) / 16 + (j + 1) = 1 + (b.length + 999) / 1000 + (l.length + 15) / 16 + G.length from by omega]
  subst hG
  exact Inv.c5 (p := { q with ph := 5, left := [⟨5, [], [], []⟩], wait := [], asked := 0 }) (qo.trans ho) rfl rfl
 rw [if_neg (fun h => h1 (hz.1 (by have := h.2; rwa [qe, qw] at this)))]
 refine ⟨?_, qw⟩
 subst hG
 exact Inv.c4 (qo.trans ho) (qp.trans hph) (qb.trans hb) (ql.trans hl) (j + 1) (by omega) (by rw [qw, qe]; exact hte)
theorem step5 {b : List UInt8} {l : List (List UInt8 × List UInt8)} {h0 : List (List UInt8)} {p : PM} {x : Nt} {t : List Nt} (ho : p.over = false) (hph : p.ph = 5) (hw : p.wait ++ p.left = [⟨5, [], [], []⟩]) (hx : p.wait = x :: t) : StepOk b l h0 p ⟨h0 ++ (l.filter (noP h0)).map (·.1), b, (l.filter (noP h0)).map (·.1), 1 + (b.length + 999) / 1000 + (l.length + 15) / 16 + (l.filter (noP h0)).length⟩ x t := by
 rw [hx] at hw
 have hx1 : x = ⟨5, [], [], []⟩ ∧ t ++ p.left = [] := by
  rw [List.cons_append] at hw
  injection hw with h1 h2
  exact ⟨h1, h2⟩
 obtain ⟨rfl, hte⟩ := hx1
 obtain ⟨q, hq, qo, qp, qb, ql, qr, qw, qe, -, -⟩ := pop p t
 refine ⟨⟨19, [5], [], []⟩, _, _, rfl, takeM_true (q := endP q 5 0) ho hx hq ck19 (by decide) (by rw [hph]; rfl), ?_, rfl⟩
 rw [if_neg (fun h => by cases h.1)]
 exact ⟨Inv.c6 rfl rfl rfl ⟨rfl, rfl⟩, (List.append_eq_nil_iff.1 hte).1.symm⟩
theorem inv_step {b : List UInt8} {l : List (List UInt8 × List UInt8)} {h0 : List (List UInt8)} {p : PM} {s : SK} {x : Nt} {t : List Nt} (H : Hyp b l) (h : Inv b l h0 p s) (hx : p.wait = x :: t) : StepOk b l h0 p s x t := by
 cases h with
 | c1 ho hph hb hl hr c k hw => exact step1 H ho hph hb hl hr c k hw hx
 | c2 ho hph hb hl hr j hj hw => exact step2 H ho hph hb hl hr j hj hw hx
 | c3 ho hph hb hl j hj ha hk hw => exact step3 ho hph hb hl j hj ha hk hw hx
 | c4 ho hph hb hl j hj hw => exact step4 H ho hph hb hl j hj hw hx
 | c5 ho hph hw => exact step5 ho hph hw hx
 | c6 ho hn he hw => rw [hw.1] at hx; cases hx
theorem inv_len {b : List UInt8} {l : List (List UInt8 × List UInt8)} {h0 : List (List UInt8)} {p : PM} {s : SK} {x : Nt} {t : List Nt} (h : Inv b l h0 p s) (hx : p.wait = x :: t) : x.k = 4 → x.ids.length = 1 := by
 cases h with
 | c1 ho hph hb hl hr c k hw =>
  rw [hx, List.cons_append] at hw
  injection hw with h1 h2
  rw [h1]
  exact fun h => by cases h
 | c2 ho hph hb hl hr j hj hw =>
  rw [hx] at hw
  obtain ⟨hjl, rfl, -⟩ := drop_head hw
  rw [parts_get hjl]
  exact fun h => by cases h
 | c3 ho hph hb hl j hj ha hk hw =>
  rw [hx] at hw
  obtain ⟨hjl, rfl, -⟩ := drop_head hw
  rw [queries_get hjl]
  exact fun h => by cases h
 | c4 ho hph hb hl j hj hw =>
  rw [hx] at hw
  obtain ⟨hjl, rfl, -⟩ := drop_head hw
  rw [List.getElem_map]
  exact fun _ => rfl
 | c5 ho hph hw =>
  rw [hx, List.cons_append] at hw
  injection hw with h1 h2
  rw [h1]
  exact fun h => by cases h
 | c6 ho hn he hw => rw [hw.1] at hx; cases hx
theorem ans_bs (s : SK) (x : Nt) : (ansP s x).1.1.bs = [] := by
 unfold ansP
 split
 ·rfl
 split
 ·rfl
 split
 ·rfl
 split
 ·split <;> rfl
 rfl
theorem ans_i64 {s : SK} {x : Nt} (h : s.came.length ≤ 100000000) (hb : x.bs.length ≤ 1000000) : ∀ n ∈ (ansP s x).1.1.ns, I64 n := fun n hn => by
 unfold ansP at hn
 split at hn
 ·obtain rfl : n = 0 := by simpa using hn
  exact ⟨by decide, by decide⟩
 split at hn
 ·have h1 : n = ((s.came ++ x.bs).length : Int) := by simpa using hn
  rw [List.length_append] at h1
  exact ⟨by omega, by omega⟩
 split at hn
 ·obtain ⟨id, -, rfl⟩ := List.mem_map.1 hn
  rcases hasN_in s.had id with h | h <;> rw [h] <;> exact ⟨by decide, by decide⟩
 split at hn
 ·split at hn <;> cases hn
 obtain rfl : n = 5 := by simpa using hn
 exact ⟨by decide, by decide⟩
theorem mkM_okX {a : Mh} {es : List En} (hok : ∀ e ∈ es, EnOk e) : ∀ x ∈ (mkM a es).1.2, ItOk x ∧ all16 x.ids := by
 by_cases h : (checkT es).1 = 0
 ·by_cases h2 : bytesE a (es.map mkI) = 0
  ·rw [mkM_ok h h2]
   intro x hx
   obtain ⟨e, he, rfl⟩ := List.mem_map.1 hx
   exact ⟨mkI_okX (hok e he) (check_data h e he), mkI_16 e⟩
  rw [mkM_no h h2]
  exact fun x hx => by cases hx
 rw [mkM_bad h]
 exact fun x hx => by cases hx
theorem tot_geZ {es : List En} {e : En} (h : e ∈ es) : e.data.length ≤ totM es := by
 induction es with
 | nil => cases h
 | cons x es ih =>
  have e1 : totM (x :: es) = (x.path.length + x.data.length + x.to.length) + totM es := by simp [totM]
  rcases List.mem_cons.1 h with rfl | h
  ·omega
  have := ih h
  omega
theorem data_smallZ {xs : List ET} {k r : Int} (h : ¬ bigM (ens xs) k r) : ∀ x ∈ xs, (x.1.data.length : Int) ≤ r := fun x hx => by
 have h1 := tot_geZ (es := ens xs) (List.mem_map.2 ⟨x, hx, rfl⟩)
 unfold bigM at h
 omega
theorem sent_nv {F : Nat → Prop} {W : World} {z : PZ} (hz : PvOk F W z) (h : (sendP z.pm).1.isSome = true) : ∃ X : Aw, X ∈ z.left ∧ sentN z.pm = X.nv.n ∧ NvOk F W X.nv := by
 unfold sentN
 unfold sendP at h ⊢
 by_cases hn : z.pm.left = [] ∨ 8 ≤ z.pm.wait.length
 ·rw [if_pos hn] at h
  cases h
 rw [if_neg hn]
 cases e : z.left with
 | nil => exact absurd (.inl (show aws z.left = [] by rw [e]; rfl)) hn
 | cons X t =>
  refine ⟨X, List.mem_cons_self .., ?_, (hz.leftO X (by rw [e]; exact List.mem_cons_self ..)).1.1⟩
  show ((aws z.left).head?.getD ntz) = _
  rw [e]
  rfl
theorem new_size {a : Mh} {es : List En} (ha : a.n = 0) (hd : ∀ e ∈ es, e.data.length ≤ 12000) (h : (mkM a es).2.2 = 0) : (bytesO (mkM a es).1.1 (mkM a es).1.2).length ≤ 262144 ∧ (mkM a es).2.1.length ≤ es.length * 12001 := by
 obtain ⟨hmk, hz0, hb0⟩ := mkM_zero h
 obtain ⟨hbo, hb1, hb2⟩ := bytesO_len ha hb0
 rw [hmk]
 refine ⟨?_, makeC_few hd⟩
 show (bytesO a (es.map mkI)).length ≤ 262144
 rw [hbo]
 exact hb2
theorem mid_row4 {ws wt : List NV} {y : NV} (e : ws = y :: wt) (pre sp : List Value) : ((pre ++ (ws.flatMap nvC ++ sp)).drop (pre.length + 0 * 4)).take 4 = nvC y := by
 subst e
 rw [Nat.zero_mul, Nat.add_zero, List.drop_left, List.flatMap_cons, List.append_assoc]
 exact List.take_left' rfl
theorem new_pn {c k t : Int} {es : List En} (hk : I64 k) (ht : I64 t) (hd : ∀ e ∈ es, e.data.length ≤ 12000) (hn : es.length ≤ 500) (h : (mkM (⟨c, k, 0, t⟩ : Mh) es).2.2 = 0) : potP (newP c k t es) ≤ 1 + ((bytesO (mkM (⟨c, k, 0, t⟩ : Mh) es).1.1 (mkM (⟨c, k, 0, t⟩ : Mh) es).1.2).length + 999) / 1000 + 3 * rP (mkM (⟨c, k, 0, t⟩ : Mh) es).2.1.length ∧ PnOk (newP c k t es) := by
 obtain ⟨hmk, hz0, hb0⟩ := mkM_zero h
 obtain ⟨hbo, hb1, hb2⟩ := bytesO_len (by rfl) hb0
 have hl := makeC_few hd
 refine ent_pot 5 { newQ c k t es with left := [], wait := [], asked := 0 } 1 ⟨rfl, hk, ht, ?_, ?_, ?_, ⟨by show 1 ≤ 1; omega, by show 1 ≤ 5; omega⟩, Nat.zero_le _, fun _ => rfl, Nat.zero_le _, Nat.zero_le _⟩ rfl rfl rfl (by omega) (by omega) (by omega) (fun h => by omega)
 all_goals simp only [newQ, hmk]
 ·show 0 < (bytesO _ _).length
  rw [hbo]
  exact hb1
 ·show (bytesO _ _).length ≤ _
  rw [hbo]
  omega
 show (makeC es).length ≤ _
 omega
def selF (w : Bool) (fl : List Bool) (L : List (List UInt8 × List UInt8)) : Nat → List (List UInt8)
 | 0 => []
 | i + 1 => selF w fl L i ++ if decide (fl[i]? = some true) = w then ((L[i]?).map (·.1)).toList else []
theorem selF_yes {w : Bool} {fl : List Bool} {L : List (List UInt8 × List UInt8)} {i : Nat} (hi : i < L.length) (h : decide (fl[i]? = some true) = w) : selF w fl L (i + 1) = selF w fl L i ++ [L[i].1] := by
 rw [selF, if_pos h, List.getElem?_eq_getElem hi]
 rfl
theorem selF_no {w : Bool} {fl : List Bool} {L : List (List UInt8 × List UInt8)} {i : Nat} (h : ¬ decide (fl[i]? = some true) = w) : selF w fl L (i + 1) = selF w fl L i := by
 rw [selF, if_neg h, List.append_nil]
theorem selF_len (w : Bool) (fl : List Bool) (L : List (List UInt8 × List UInt8)) : ∀ i, (selF w fl L i).length ≤ i
 | 0 => Nat.le_refl _
 | i + 1 => by
  have := selF_len w fl L i
  rw [selF, List.length_append]
  split
  ·cases L[i]? <;> simp <;> omega
  simp; omega
theorem selF_mem {w : Bool} {fl : List Bool} {L : List (List UInt8 × List UInt8)} {x : List UInt8} : ∀ {n}, x ∈ selF w fl L n ↔ ∃ i, i < n ∧ decide (fl[i]? = some true) = w ∧ (L[i]?).map (·.1) = some x
 | 0 => by simp [selF]
 | n + 1 => by
  rw [selF, List.mem_append, selF_mem (n := n)]
  constructor
  ·rintro (⟨i, h1, h2⟩ | h)
   ·exact ⟨i, by omega, h2⟩
   split at h
   ·rename_i hw
    refine ⟨n, by omega, hw, ?_⟩
    cases e : (L[n]?).map (·.1) with
    | none => rw [e] at h; simp at h
    | some y =>
     rw [e] at h; have : x = y := by simpa using h
     rw [this]
   cases h
  rintro ⟨i, h1, h2, h3⟩
  rcases (show i < n ∨ i = n by omega) with h | rfl
  ·exact .inl ⟨i, h, h2, h3⟩
  exact .inr (by rw [if_pos h2, h3]; simp)
theorem selF_16 {w : Bool} {fl : List Bool} {L : List (List UInt8 × List UInt8)} {n : Nat} (h : ∀ c ∈ L, c.1.length = 16) : all16 (selF w fl L n) := fun x hx => by
 obtain ⟨i, -, -, h3⟩ := selF_mem.1 hx
 cases e : L[i]? with
 | none => rw [e] at h3; cases h3
 | some c =>
  rw [e] at h3
  have h4 : c.1 = x := by simpa using h3
  rw [← h4]
  exact h c (List.mem_of_getElem? e)
theorem selF_filter {fl : List Bool} {L : List (List UInt8 × List UInt8)} (hnd : (L.map (·.1)).Nodup) : ∀ m, m ≤ L.length → selF false fl L m = ((L.take m).filter (noP (selF true fl L L.length))).map (·.1)
 | 0, _ => by simp [selF]
 | m + 1, hm => by
  have hlt : m < L.length := hm
  have key : noP (selF true fl L L.length) L[m] = !decide (fl[m]? = some true) := by
   unfold noP
   rw [Bool.eq_iff_iff, decide_eq_true_iff, selF_mem]
   constructor
   ·intro h
    cases hb : decide (fl[m]? = some true) with
    | false => rfl
    | true => exact absurd ⟨m, hlt, hb, by rw [List.getElem?_eq_getElem hlt]; rfl⟩ h
   rintro h ⟨i, hi, h1, h2⟩
   rw [List.getElem?_eq_getElem hi] at h2
   have h3 : L[i].1 = L[m].1 := by simpa using h2
   have h4 : i = m := by
    rcases Nat.lt_trichotomy i m with h5 | h5 | h5
    ·have h6 := (List.pairwise_iff_getElem.1 hnd) i m (by rw [List.length_map]; exact hi) (by rw [List.length_map]; exact hlt) h5
     rw [List.getElem_map, List.getElem_map] at h6
     exact absurd h3 h6
    ·exact h5
    have h6 := (List.pairwise_iff_getElem.1 hnd) m i (by rw [List.length_map]; exact hlt) (by rw [List.length_map]; exact hi) h5
    rw [List.getElem_map, List.getElem_map] at h6
    exact absurd h3.symm h6
   subst h4
   rw [h1] at h
   cases h
  rw [List.take_succ_eq_append_getElem hlt, List.filter_append, List.map_append, ← selF_filter hnd m (Nat.le_of_lt hlt)]
  cases hb : decide (fl[m]? = some true) with
  | true =>
   rw [selF_no (by rw [hb]; simp), List.filter_cons_of_neg (by rw [key, hb]; simp)]
   simp
  | false =>
   rw [selF_yes hlt hb, List.filter_cons_of_pos (by rw [key, hb]; rfl)]
   rfl
theorem inv_notes {b : List UInt8} {l : List (List UInt8 × List UInt8)} {h0 : List (List UInt8)} {p : PM} {s : SK} (h : Inv b l h0 p s) : s.notes ≤ 1 + (b.length + 999) / 1000 + (l.length + 15) / 16 + (l.filter (noP h0)).length + 1 := by
 cases h with
 | c1 => exact Nat.zero_le _
 | c2 ho hph hb hl hr j hj hw => show 1 + j ≤ _; omega
 | c3 ho hph hb hl j hj ha hk hw => show 1 + _ + j ≤ _; omega
 | c4 ho hph hb hl j hj hw => show 1 + _ + _ + j ≤ _; omega
 | c5 => show 1 + _ + _ + _ ≤ _; omega
 | c6 => exact Nat.le_refl _
theorem inv_some {b : List UInt8} {l : List (List UInt8 × List UInt8)} {h0 : List (List UInt8)} {p : PM} {s : SK} (h : Inv b l h0 p s) (ho : p.over = false) : p.wait ++ p.left ≠ [] := by
 cases h with
 | c1 _ _ _ _ _ c k hw => rw [hw]; simp
 | c2 _ _ _ _ _ j hj hw => rw [hw]; intro h; have := congrArg List.length h; rw [List.length_drop, parts_len] at this; simp at this; omega
 | c3 _ _ _ hl j hj _ _ hw => rw [hw]; intro h; have := congrArg List.length h; rw [List.length_drop, queries_len, List.length_map] at this; simp at this; omega
 | c4 _ _ _ _ j hj hw => rw [hw]; intro h; have := congrArg List.length h; rw [List.length_drop, List.length_map] at this; simp at this; omega
 | c5 _ _ hw => rw [hw]; simp
 | c6 ho2 => rw [ho] at ho2; cases ho2
theorem send_has {b : List UInt8} {l : List (List UInt8 × List UInt8)} {h0 : List (List UInt8)} {p : PM} {s : SK} (h : Inv b l h0 p s) : (sendP p).2.wait ≠ [] ∨ (sendP p).2.over = true := by
 cases ho : p.over with
 | true =>
  right
  unfold sendP
  split <;> exact ho
 | false =>
  left
  have h1 := inv_some h ho
  unfold sendP
  by_cases hn : p.left = [] ∨ 8 ≤ p.wait.length
  ·rw [if_pos hn]
   rcases hn with hn | hn
   ·rw [hn, List.append_nil] at h1; exact h1
   intro h2
   rw [h2] at hn
   exact absurd hn (by simp)
  rw [if_neg hn]
  cases e : p.left with
  | nil => exact absurd (.inl e) hn
  | cons x t => show p.wait ++ [x] ≠ []; simp
theorem inv_over {b : List UInt8} {l : List (List UInt8 × List UInt8)} {h0 : List (List UInt8)} {p : PM} {s : SK} (h : Inv b l h0 p s) (ho : p.over = true) : overP p 5 0 = true ∧ s = ⟨h0 ++ (l.filter (noP h0)).map (·.1), b, (l.filter (noP h0)).map (·.1), 1 + (b.length + 999) / 1000 + (l.length + 15) / 16 + (l.filter (noP h0)).length + 1⟩ := by
 cases h with
 | c1 h1 => rw [ho] at h1; cases h1
 | c2 h1 => rw [ho] at h1; cases h1
 | c3 h1 => rw [ho] at h1; cases h1
 | c4 h1 => rw [ho] at h1; cases h1
 | c5 h1 => rw [ho] at h1; cases h1
 | c6 h1 hn he hw =>
  refine ⟨?_, rfl⟩
  unfold overP
  rw [h1, hn, he]
  rfl
theorem takeC_nd {acc : List (List UInt8 × List UInt8)} {b : List UInt8} (h : (acc.map (·.1)).Nodup) : ((takeC acc b).map (·.1)).Nodup := by
 unfold takeC
 split
 ·exact h
 rename_i hn
 rw [List.map_append, List.nodup_append]
 refine ⟨h, by simp, fun x hx y hy => ?_⟩
 obtain rfl : y = nameM b := by simpa using hy
 exact fun e => hn (e ▸ hx)
theorem collC_nd : ∀ (l : List (List UInt8)) (acc : List (List UInt8 × List UInt8)), (acc.map (·.1)).Nodup → ((collC acc l).map (·.1)).Nodup
 | [], _, h => h
 | b :: l, acc, h => collC_nd l (takeC acc b) (takeC_nd h)
theorem makeC_nd (es : List En) : ((makeC es).map (·.1)).Nodup := collC_nd _ _ (by simp)
theorem newP_inv {c k t : Int} {es : List En} (h : (mkM ⟨c, k, 0, t⟩ es).2.2 = 0) (h0 : List (List UInt8)) : Inv (bytesO (mkM ⟨c, k, 0, t⟩ es).1.1 (mkM ⟨c, k, 0, t⟩ es).1.2) (mkM ⟨c, k, 0, t⟩ es).2.1 h0 (newP c k t es) ⟨h0, [], [], 0⟩ :=
 .c1 rfl rfl rfl rfl rfl k t rfl
theorem hyp_new {c k t : Int} {es : List En} (h : (mkM ⟨c, k, 0, t⟩ es).2.2 = 0) (hd : ∀ e ∈ es, e.data.length ≤ 12000) : Hyp (bytesO (mkM ⟨c, k, 0, t⟩ es).1.1 (mkM ⟨c, k, 0, t⟩ es).1.2) (mkM ⟨c, k, 0, t⟩ es).2.1 := by
 obtain ⟨hmk, hz0, hb0⟩ := mkM_zero h
 obtain ⟨hbo, hb1, hb2⟩ := bytesO_len (by rfl) hb0
 rw [hmk]
 refine ⟨?_, ?_, fun c hc => (makeC_all hd c hc).1, makeC_nd es⟩
 ·show 0 < (bytesO _ _).length
  rw [hbo]; exact hb1
 show (bytesO _ _).length ≤ _
 rw [hbo]; exact hb2
end Go.Proofs.YtngbglhmiefcpaaGreat
