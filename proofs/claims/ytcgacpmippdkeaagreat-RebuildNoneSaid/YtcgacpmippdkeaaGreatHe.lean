/- Merged of VS, VU, VV, WP, VW, VX, WX, WY, NB, NC, NF, RA, RB, RC, RD, RE, RF. Conditions: none. -/
import Derived.Test.YtcgacpmippdkeaaGreatHd
import Derived.Lib.Overlaps
import Derived.Lib.AppendZeros
import Derived.Laws.Externs
import Derived.ArgAppend
set_option maxRecDepth 20000
set_option linter.unusedVariables false
set_option linter.unusedSimpArgs false
namespace Go.Proofs.YtcgacpmippdkeaaGreat
open Go.RowKit
set_option maxHeartbeats 4000000 in
theorem mmakeX_tr {Ps : Nat → Prop} (c k t : Int) (v : Value) (xs : List ET) (hd : ∀ x ∈ xs, x.1.data.length ≤ 1048576) : Tr Tryz.prog 44 #[.int .i64 c, .int .i64 k, .int .i64 t, v] [slc rEV Ps v xs] []
 (TX (fun z : (Value × List IT) × Value × List CT => its z.1.2 = (mkM (⟨c, k, 0, t⟩ : Mh) (ens xs)).1.2 ∧ cks z.2.2 = (mkM (⟨c, k, 0, t⟩ : Mh) (ens xs)).2.1) (fun z => .tuple #[.agg #[.int .i64 (mkM (⟨c, k, 0, t⟩ : Mh) (ens xs)).1.1.c, .int .i64 (mkM (⟨c, k, 0, t⟩ : Mh) (ens xs)).1.1.k, .int .i64 (mkM (⟨c, k, 0, t⟩ : Mh) (ens xs)).1.1.n, .int .i64 (mkM (⟨c, k, 0, t⟩ : Mh) (ens xs)).1.1.t, z.1.1], z.2.1, .int .i64 (mkM (⟨c, k, 0, t⟩ : Mh) (ens xs)).2.2]) (fun z => [own 78 6 z.1.1 z.1.2.length (z.1.2.flatMap itC), datI 59 z.1.2, own 106 17 z.2.1 z.2.2.length (z.2.2.flatMap chC), datD 5 z.2.2])) := by
 refine Tr.of (l := [(0, .int .i64 c), (1, .int .i64 k), (2, .int .i64 t), (3, v)]) Tryz.func44 rfl (n := 64) rfl (.cons rfl (.cons rfl (.cons rfl (.cons rfl .nil)))) (fun w0 hro => ?_)
 have hv := ro1 hro
 have hv' := hv
 obtain ⟨av, cv, bv, fv, rfl, hcapv, hmaxv, hnilv, hadv, helv⟩ := Ro.openT hv
 have hel' := ens_length xs
 have hEn : ∀ e ∈ ens xs, EnOk e ∧ e.data.length ≤ 1048576 := fun e he => by obtain ⟨x, hx, rfl⟩ := List.mem_map.1 he; obtain ⟨q, hq, rfl⟩ := List.getElem_of_mem hx; exact ⟨Ro.evOk (helv q hq), hd _ hx⟩
 refine go [9,10,60,6] ?_
 intro b8
 refine go [1,1,7,8,9,9,10,0] ?_
 refine G.op rfl (G.cR rfl rfl rfl rfl Tryz.func55 rfl rfl (may1 (.old hv)) (tcheck_tr _ xs) ?_)
 refine go [0,2,7,2,7,1,1,7,8,9,10,0,2,14,7,8] ?_
 refine G.condP rfl (fun h25 => ?_) (fun h25 => ?_)
 ·refine go [9,10,2,50,7,0,20,1,1,7,8,11,12] ?_
  rw [mkM_bad (by assumption)]
  refine go [60,8] ?_
  refine G.datINil 59 ?_
  refine G.ownNil 106 17 ?_
  refine G.datDNil 5 ?_
  exact G.doneG (((.slice none 0 0, []), .slice none 0 0, [])) (by first | exact trivial | ((try dsimp only) <;> exact ⟨rfl, rfl⟩)) rfl (Rv.cellN (cs := [_, _, _, _, _]) rfl Tryz.underlying42 rfl kr Y22 (Rv.tmp rfl (Rv.tmp rfl Rv.nil))) rfl subT
 obtain ⟨h200, -, -⟩ := checkT_zero (es := ens xs) (by omega)
 have hz0 : (checkT (ens xs)).1 = 0 := by omega
 refine go [13,8,9,10] ?_
 refine G.op rfl (G.mapNew vID ok16 rfl ?_)
 intro bm
 refine G.op rfl (G.val rfl rfl (pv_buildSt (z := [.map none, .slice none 0 0]) (pl := [(0, 1), (1, 1)]) Tryz.underlying112 kr kr rfl flT) ?_)
 refine G.op rfl (G.box rfl rfl (cs := [_, _]) rfl ?_)
 intro b30
 refine go [1,7,8,9,10,0,0,0,2,50,7,60,6] ?_
 intro b14
 refine go [20,7,8,9,9,10,0,2,5,0,7,8,15,60,8] ?_
 refine G.datINil 59 ?_
 refine G.ownNil 106 17 ?_
 refine G.datDNil 5 ?_
 refine G.loopK (X := Nat × Value × (List CT) × Value × (List IT)) (ts := [8, 9, 10, 13, 14, 35, 36]) (fun st => st.1 ≤ xs.length ∧ (cks st.2.2.1 = makeC ((ens xs).take st.1) ∧ its st.2.2.2.2 = ((ens xs).take st.1).map mkI ∧ st.2.2.1.length ≤ st.1 * 1048600 ∧ st.2.2.2.2.length = st.1)) (fun st => [(37, .int .i64 (st.1 : Int))]) (fun st => [blk b30 112 [.map (some bm), st.2.1], mpc vID ok16 bm (setL (nmsC st.2.2.1)), own 106 17 st.2.1 st.2.2.1.length (st.2.2.1.flatMap chC), datD 5 st.2.2.1, own 78 6 st.2.2.2.1 st.2.2.2.2.length (st.2.2.2.2.flatMap itC), datI 59 st.2.2.2.2, blk b14 42 [.int .i64 c, .int .i64 k, .int .i64 0, .int .i64 t, st.2.2.2.1]]) (fun st => xs.length - st.1) (x0 := (0, .slice none 0 0, [], .slice none 0 0, [])) (.cons rfl (.cons rfl (.cons rfl (.cons rfl (.cons rfl (.cons rfl (.cons rfl .nil))))))) subT (.cons .nil) apT (by first | exact trivial | ((try dsimp only) <;> exact ⟨Nat.zero_le _, ⟨rfl, rfl, Nat.zero_le _, rfl⟩⟩)) (.consE rfl veqT .nil) (fun st hJ => ?_)
 obtain ⟨i, vk, cks', vw, ys⟩ := st
 try dsimp only at hJ
 try dsimp only
 obtain ⟨hki, hJ⟩ := hJ
 obtain ⟨hck, hys, hcl, hyl⟩ := hJ
 refine go [9,10,2,9,7,8,9] ?_
 refine G.condP rfl (fun h38 => ?_) (fun h38 => ?_)
 ·have hlt : i < xs.length := by omega
  have hlt' : i < (ens xs).length := by omega
  have hdi := hd _ (List.getElem_mem hlt)
  have hmk : ((ens xs).take (i + 1)).map mkI = ((ens xs).take i).map mkI ++ [mkI xs[i].1] := by rw [List.take_succ_eq_append_getElem hlt', List.map_append, ens_get hlt]; rfl
  have hcm := makeC_take hlt'
  rw [ens_get hlt] at hcm
  have hEv := helv i hlt
  have hRv := Ro.evRng hEv
  have hDv := Ro.evDat hEv
  obtain ⟨hk1v, hk2v, hlpv, hldv, hltv⟩ := Ro.evOk hEv
  have hCv := Ro.one1 hDv
  refine go [13,8,9,15,9,10] ?_
  refine G.op rfl (G.val rfl rfl (pv_ixSl (sz := 5) (k := i) Tryz.underlying44 kr rfl rfl (by first | with_reducible assumption | assumption) (by omega) (by omega)) ?_)
  refine go [2,50,3,60,20] ?_
  intro b16
  refine go [20,7,8] ?_
  refine G.drawT (nn := 9) (p := [blk b30 _ _, mpc vID ok16 bm _, own 106 17 _ _ _, own 78 6 _ _ _, datI 59 _, datD 5 _, blk b14 _ _]) (rem := 511) [0, 1, 0, 0, 12, 16, 50, 127, 255] [0, 1, 0, 0, 12, 16, 34, 0, 192] kr ⟨rfl, by kernel_rfl, by kernel_rfl⟩ subT kr (fun hT9 => ?_)
  refine go [22,0,510,3,4,22,2,506,0] ?_
  refine G.twoT hT9 (i := 1) (j := 3) (rem' := 504) (rem'' := 498) kr kr kr ?_ ?_
  ·refine go [25,4,26,24,3,496,25,50,3,26,24,4,480] ?_
   refine G.turnOp rfl rfl (G.cS rfl rfl rfl rfl Tryz.func56 rfl rfl subT (may1 Y2) (citem_tr b30 bm _ _ cks' xs[i].1 (by omega) hdi) apT ?_)
   intro x45 hJ
   obtain ⟨vk2, ck2, vI2⟩ := x45
   try dsimp only at hJ
   try dsimp only
   obtain ⟨hc1, hc2⟩ : cks ck2 = collC (cks cks') (chunksC xs[i].1.data) ∧ ck2.length ≤ cks'.length + xs[i].1.data.length + 1 := hJ
   obtain ⟨it, hit⟩ : ∃ c, mkI xs[i].1 = c := ⟨_, rfl⟩
   rw [hit]
   refine G.ownFact (v := vI2) selT (fun h39 _ => ?_)
   refine go [26,24,5,448] ?_
   refine G.turnOp rfl rfl (G.buildSlice (z := .agg #[.string ⟨#[]⟩, .int .i64 0, .int .i64 0, .int .i64 0, .string ⟨#[]⟩, .slice none 0 0]) (sz := 6) (cs := itC (it, vI2)) rfl Tryz.underlying40 kr (by decide) (by decide) rfl kr ?_)
   intro b46
   refine go [26,24,6,384] ?_
   refine G.turnOp rfl rfl (G.append (k := ys.length) (j := 1) (cs := ys.flatMap itC) (news := itC (it, vI2)) (b := b46) (off := 0) rfl Tryz.underlying40 Tryz.infoIt rfl rfl rfl selT (fun _ => rfl) (fun h => by cases h) rfl (blk_news (k := 6) selT rfl) (itC_one h39) (by omega) (by omega) ?_)
   intro vn
   rw [itC_snoc ys (it, vI2), show ys.length + 1 = (ys ++ [(it, vI2)]).length from by rw [List.length_append]; rfl]
   refine G.datISnoc (ys := ys) (x := (it, vI2)) selT selT ?_
   refine G.ownFact (v := vn) selT (fun hvn _ => ?_)
   refine go [26,22,7,256,3,4,24,8,0,30,26,27,16,8,10,2,6,0,7] ?_
   exact G.next ((i + 1, (vk2, ck2, vn, ys ++ [(it, vI2)]))) Y24 (by (try dsimp only); omega) (.consE rfl veqT (.cons rfl (.cons rfl (.cons rfl (.cons rfl (.cons rfl (.cons rfl (.cons rfl .nil)))))))) subT
  refine go [25,50,3,26] ?_
  refine G.twoT hT9 (i := 1) (j := 4) (rem' := 496) (rem'' := 482) kr kr kr ?_ ?_
  ·refine go [25,4,26,24,4,480] ?_
   refine G.turnOp rfl rfl (G.cS rfl rfl rfl rfl Tryz.func56 rfl rfl subT (may1 Y2) (citem_tr b30 bm _ _ cks' xs[i].1 (by omega) hdi) apT ?_)
   intro x45 hJ
   obtain ⟨vk2, ck2, vI2⟩ := x45
   try dsimp only at hJ
   try dsimp only
   obtain ⟨hc1, hc2⟩ : cks ck2 = collC (cks cks') (chunksC xs[i].1.data) ∧ ck2.length ≤ cks'.length + xs[i].1.data.length + 1 := hJ
   obtain ⟨it, hit⟩ : ∃ c, mkI xs[i].1 = c := ⟨_, rfl⟩
   rw [hit]
   refine G.ownFact (v := vI2) selT (fun h39 _ => ?_)
   refine go [26,24,5,448] ?_
   refine G.turnOp rfl rfl (G.buildSlice (z := .agg #[.string ⟨#[]⟩, .int .i64 0, .int .i64 0, .int .i64 0, .string ⟨#[]⟩, .slice none 0 0]) (sz := 6) (cs := itC (it, vI2)) rfl Tryz.underlying40 kr (by decide) (by decide) rfl kr ?_)
   intro b46
   refine go [26,24,6,384] ?_
   refine G.turnOp rfl rfl (G.append (k := ys.length) (j := 1) (cs := ys.flatMap itC) (news := itC (it, vI2)) (b := b46) (off := 0) rfl Tryz.underlying40 Tryz.infoIt rfl rfl rfl selT (fun _ => rfl) (fun h => by cases h) rfl (blk_news (k := 6) selT rfl) (itC_one h39) (by omega) (by omega) ?_)
   intro vn
   rw [itC_snoc ys (it, vI2), show ys.length + 1 = (ys ++ [(it, vI2)]).length from by rw [List.length_append]; rfl]
   refine G.datISnoc (ys := ys) (x := (it, vI2)) selT selT ?_
   refine G.ownFact (v := vn) selT (fun hvn _ => ?_)
   refine go [26,22,7,256,3,4,24,8,0,30,26,27,16,8,10,2,6,0,7] ?_
   exact G.next ((i + 1, (vk2, ck2, vn, ys ++ [(it, vI2)]))) Y24 (by (try dsimp only); omega) (.consE rfl veqT (.cons rfl (.cons rfl (.cons rfl (.cons rfl (.cons rfl (.cons rfl (.cons rfl .nil)))))))) subT
  refine G.turnOp rfl rfl (G.cS rfl rfl rfl rfl Tryz.func56 rfl rfl subT (may1 Y2) (citem_tr b30 bm _ _ cks' xs[i].1 (by omega) hdi) apT ?_)
  intro x45 hJ
  obtain ⟨vk2, ck2, vI2⟩ := x45
  try dsimp only at hJ
  try dsimp only
  obtain ⟨hc1, hc2⟩ : cks ck2 = collC (cks cks') (chunksC xs[i].1.data) ∧ ck2.length ≤ cks'.length + xs[i].1.data.length + 1 := hJ
  obtain ⟨it, hit⟩ : ∃ c, mkI xs[i].1 = c := ⟨_, rfl⟩
  rw [hit]
  refine G.ownFact (v := vI2) selT (fun h39 _ => ?_)
  refine go [26] ?_
  refine G.twoT hT9 (i := 1) (j := 5) (rem' := 480) (rem'' := 450) kr kr kr ?_ ?_
  ·refine go [25,4,26,24,5,448] ?_
   refine G.turnOp rfl rfl (G.buildSlice (z := .agg #[.string ⟨#[]⟩, .int .i64 0, .int .i64 0, .int .i64 0, .string ⟨#[]⟩, .slice none 0 0]) (sz := 6) (cs := itC (it, vI2)) rfl Tryz.underlying40 kr (by decide) (by decide) rfl kr ?_)
   intro b46
   refine go [26,24,6,384] ?_
   refine G.turnOp rfl rfl (G.append (k := ys.length) (j := 1) (cs := ys.flatMap itC) (news := itC (it, vI2)) (b := b46) (off := 0) rfl Tryz.underlying40 Tryz.infoIt rfl rfl rfl selT (fun _ => rfl) (fun h => by cases h) rfl (blk_news (k := 6) selT rfl) (itC_one h39) (by omega) (by omega) ?_)
   intro vn
   rw [itC_snoc ys (it, vI2), show ys.length + 1 = (ys ++ [(it, vI2)]).length from by rw [List.length_append]; rfl]
   refine G.datISnoc (ys := ys) (x := (it, vI2)) selT selT ?_
   refine G.ownFact (v := vn) selT (fun hvn _ => ?_)
   refine go [26,22,7,256,3,4,24,8,0,30,26,27,16,8,10,2,6,0,7] ?_
   exact G.next ((i + 1, (vk2, ck2, vn, ys ++ [(it, vI2)]))) Y24 (by (try dsimp only); omega) (.consE rfl veqT (.cons rfl (.cons rfl (.cons rfl (.cons rfl (.cons rfl (.cons rfl (.cons rfl .nil)))))))) subT
  refine G.turnOp rfl rfl (G.buildSlice (z := .agg #[.string ⟨#[]⟩, .int .i64 0, .int .i64 0, .int .i64 0, .string ⟨#[]⟩, .slice none 0 0]) (sz := 6) (cs := itC (it, vI2)) rfl Tryz.underlying40 kr (by decide) (by decide) rfl kr ?_)
  intro b46
  refine go [26,24,1,448,25,4,26,24,6,384] ?_
  refine G.turnOp rfl rfl (G.append (k := ys.length) (j := 1) (cs := ys.flatMap itC) (news := itC (it, vI2)) (b := b46) (off := 0) rfl Tryz.underlying40 Tryz.infoIt rfl rfl rfl selT (fun _ => rfl) (fun h => by cases h) rfl (blk_news (k := 6) selT rfl) (itC_one h39) (by omega) (by omega) ?_)
  intro vn
  rw [itC_snoc ys (it, vI2), show ys.length + 1 = (ys ++ [(it, vI2)]).length from by rw [List.length_append]; rfl]
  refine G.datISnoc (ys := ys) (x := (it, vI2)) selT selT ?_
  refine G.ownFact (v := vn) selT (fun hvn _ => ?_)
  refine go [26,22,7,256,3,4,24,8,0,30,26,27,16,8,10,2,6,0,7] ?_
  exact G.next ((i + 1, (vk2, ck2, vn, ys ++ [(it, vI2)]))) Y24 (by (try dsimp only); omega) (.consE rfl veqT (.cons rfl (.cons rfl (.cons rfl (.cons rfl (.cons rfl (.cons rfl (.cons rfl .nil)))))))) subT
 obtain rfl : i = xs.length := by omega
 rw [← hel', List.take_length] at hck hys
 refine G.ownFact (v := vw) selT (fun hvw _ => ?_)
 refine G.ownFact (v := vk) selT (fun hvk _ => ?_)
 have hok : ∀ x ∈ ys, ItOk x.1 ∧ all16 x.1.ids := fun x hx => by have h1 : x.1 ∈ its ys := List.mem_map.2 ⟨x, hx, rfl⟩; rw [hys] at h1; obtain ⟨e, he, h2⟩ := List.mem_map.1 h1; rw [← h2]; exact ⟨mkI_okX (hEn e he).1 (hEn e he).2, mkI_16 e⟩
 refine go [18,14,14,19,8,9,9,10,2,50,3] ?_
 refine G.op rfl (G.cS rfl rfl rfl rfl Tryz.func45 rfl rfl subT (may1 (may_items selT selT hok)) (mbytes_tr (⟨c, k, 0, t⟩ : Mh) _ ys) apT ?_)
 intro x52 hJ
 try dsimp only at hJ
 try dsimp only
 refine go [0,2,7,2,7,1,1,7,8,9,10,0,2,14,7,8] ?_
 refine G.condP rfl (fun h56 => ?_) (fun h56 => ?_)
 ·refine go [9,10,2,50,7,0,20,1,1,7,8,11,12] ?_
  rw [mkM_no hz0 (by rw [← hys]; assumption), ← hys]
  refine go [60,8] ?_
  refine G.datINil 59 ?_
  refine G.ownNil 106 17 ?_
  refine G.datDNil 5 ?_
  exact G.doneG (((.slice none 0 0, []), .slice none 0 0, [])) (by first | exact trivial | ((try dsimp only) <;> exact ⟨rfl, rfl⟩)) rfl (Rv.cellN (cs := [_, _, _, _, _]) rfl Tryz.underlying42 rfl kr Y22 (Rv.tmp rfl (Rv.tmp rfl Rv.nil))) rfl subT
 refine go [13,8,9] ?_
 refine G.drawT (nn := 8) (p := [blk b8 _ _]) (rem := 255) [0, 0, 2, 4, 8, 1, 63, 127] [0, 0, 2, 4, 8, 1, 16, 0] kr ⟨rfl, by kernel_rfl, by kernel_rfl⟩ subT kr (fun hT14 => ?_)
 refine go [22,1,253,0,22,2,249,8,22,3,241,3,1,22,0,240,50,3,22,4,224,4,24,5,192,29,26,22,6,128,1,22,7,0,1,27,8,11] ?_
 rw [mkM_ok hz0 (by rw [← hys]; omega)]
 exact G.doneG (((vw, ys), vk, cks')) (by first | exact trivial | ((try dsimp only) <;> exact ⟨hys, hck⟩)) rfl (Rv.cellN (cs := [_, _, _, _, _]) rfl Tryz.underlying42 rfl kr Y22 (Rv.tmp rfl (Rv.tmp rfl Rv.nil))) rfl subT
def foundM (cs : List (List UInt8 × List UInt8)) (id : List UInt8) : List UInt8 × Int := match cs.find? (fun p => decide (p.1 = id)) with
 | none => ([], 6)
 | some p => if nameM p.2 = id then (p.2, 0) else ([], 11)
def foundV (xs : List CT) (id : List UInt8) : Value := match xs.find? (fun x => decide (x.1.1 = id)) with
 | none => .slice none 0 0
 | some x => if nameM x.1.2 = id then x.2 else .slice none 0 0
def firstE (l : List Int) : Int := (l.find? fun e => ! decide (e = 0)).getD 0
def datOf (cs : List (List UInt8 × List UInt8)) (ids : List (List UInt8)) : List UInt8 := ids.flatMap fun id => (foundM cs id).1
def errB (cs : List (List UInt8 × List UInt8)) (ids : List (List UInt8)) : Int := firstE (ids.map fun id => (foundM cs id).2)
def errIt (cs : List (List UInt8 × List UInt8)) (x : It) : Int := if errB cs x.ids ≠ 0 then errB cs x.ids else if ((datOf cs x.ids).length : Int) ≠ x.size then 4 else 0
def mkE (cs : List (List UInt8 × List UInt8)) (x : It) : En := ⟨x.path, x.kind, x.mode, datOf cs x.ids, x.to⟩
def buildM (a : Mh) (ms : List It) (cs : List (List UInt8 × List UInt8)) : List En × Int := if (checkI a ms).1 ≠ 0 then ([], (checkI a ms).1) else if firstE (ms.map (errIt cs)) ≠ 0 then ([], firstE (ms.map (errIt cs))) else (ms.map (mkE cs), 0)
theorem firstE_bad {l : List Int} {i : Nat} (hi : i < l.length) (h : ∀ q (hq : q < l.length), q < i → l[q] = 0) (he : l[i] ≠ 0) : firstE l = l[i] := by
 unfold firstE
 rw [(List.find?_eq_some_iff_getElem (p := fun e : Int => ! decide (e = 0)) (b := l[i])).2 ⟨by simpa using he, i, hi, rfl, fun j hj => by simpa using h j (by omega) hj⟩]
 rfl
theorem firstE_ok {l : List Int} (h : ∀ q (hq : q < l.length), l[q] = 0) : firstE l = 0 := by
 unfold firstE
 rw [List.find?_eq_none.2 fun x hx => by
  obtain ⟨q, hq, rfl⟩ := List.getElem_of_mem hx
  simpa using h q hq]
 rfl
theorem buildM_check {a : Mh} {ms : List It} {cs : List (List UInt8 × List UInt8)} (h : (checkI a ms).1 ≠ 0) : buildM a ms cs = ([], (checkI a ms).1) := if_pos h
theorem buildM_bad {a : Mh} {ms : List It} {cs : List (List UInt8 × List UInt8)} {i : Nat} {e : Int} (h0 : (checkI a ms).1 = 0) (hi : i < ms.length) (h : ∀ q (hq : q < ms.length), q < i → errIt cs ms[q] = 0) (he : errIt cs ms[i] = e) (hn : e ≠ 0) : buildM a ms cs = ([], e) := by
 have h1 : firstE (ms.map (errIt cs)) = e := by
  rw [firstE_bad (i := i) (by rw [List.length_map]; exact hi) (fun q hq hqi => by rw [List.getElem_map]; exact h q (by rw [List.length_map] at hq; exact hq) hqi) (by rw [List.getElem_map, he]; exact hn), List.getElem_map, he]
 unfold buildM
 rw [if_neg (not_not_intro h0), h1, if_pos hn]
theorem buildM_ok {a : Mh} {ms : List It} {cs : List (List UInt8 × List UInt8)} (h0 : (checkI a ms).1 = 0) (h : ∀ q (hq : q < ms.length), errIt cs ms[q] = 0) : buildM a ms cs = (ms.map (mkE cs), 0) := by
 have h1 : firstE (ms.map (errIt cs)) = 0 := firstE_ok fun q hq => by rw [List.getElem_map]; exact h q (by rw [List.length_map] at hq; exact hq)
 unfold buildM
 rw [if_neg (not_not_intro h0), if_neg (not_not_intro h1)]
theorem errIt_bad {cs : List (List UInt8 × List UInt8)} {x : It} {q : Nat} (hq : q < x.ids.length) (h : ∀ r (hr : r < x.ids.length), r < q → (foundM cs x.ids[r]).2 = 0) (he : (foundM cs x.ids[q]).2 ≠ 0) : errIt cs x = (foundM cs x.ids[q]).2 := by
 have h1 : errB cs x.ids = (foundM cs x.ids[q]).2 := by
  unfold errB
  rw [firstE_bad (i := q) (by rw [List.length_map]; exact hq) (fun r hr hrq => by rw [List.getElem_map]; exact h r (by rw [List.length_map] at hr; exact hr) hrq) (by rw [List.getElem_map]; exact he), List.getElem_map]
 unfold errIt
 rw [h1, if_pos he]
theorem errB_ok {cs : List (List UInt8 × List UInt8)} {x : It} (h : ∀ r (hr : r < x.ids.length), (foundM cs x.ids[r]).2 = 0) : errB cs x.ids = 0 := firstE_ok fun r hr => by rw [List.getElem_map]; exact h r (by rw [List.length_map] at hr; exact hr)
theorem errIt_size {cs : List (List UInt8 × List UInt8)} {x : It} (h : ∀ r (hr : r < x.ids.length), (foundM cs x.ids[r]).2 = 0) (h2 : ((datOf cs x.ids).length : Int) ≠ x.size) : errIt cs x = 4 := by
 unfold errIt
 rw [if_neg (not_not_intro (errB_ok h)), if_pos h2]
theorem errIt_ok {cs : List (List UInt8 × List UInt8)} {x : It} (h : ∀ r (hr : r < x.ids.length), (foundM cs x.ids[r]).2 = 0) (h2 : ((datOf cs x.ids).length : Int) = x.size) : errIt cs x = 0 := by
 unfold errIt
 rw [if_neg (not_not_intro (errB_ok h)), if_neg (not_not_intro h2)]
theorem datOf_take (cs : List (List UInt8 × List UInt8)) {ids : List (List UInt8)} {q : Nat} (h : q < ids.length) : datOf cs (ids.take (q + 1)) = datOf cs (ids.take q) ++ (foundM cs ids[q]).1 := by
 unfold datOf
 rw [List.take_succ_eq_append_getElem h, List.flatMap_append]
 simp
theorem found_none {xs : List CT} {id : List UInt8} (h : ∀ q (hq : q < xs.length), ¬ xs[q].1.1 = id) : foundM (cks xs) id = ([], 6) ∧ foundV xs id = .slice none 0 0 := by
 have h1 : (cks xs).find? (fun p => decide (p.1 = id)) = none := List.find?_eq_none.2 fun p hp => by
  obtain ⟨x, hx, rfl⟩ := List.mem_map.1 hp
  obtain ⟨q, hq, rfl⟩ := List.getElem_of_mem hx
  simpa using h q hq
 have h2 : xs.find? (fun x => decide (x.1.1 = id)) = none := List.find?_eq_none.2 fun x hx => by
  obtain ⟨q, hq, rfl⟩ := List.getElem_of_mem hx
  simpa using h q hq
 unfold foundM foundV
 rw [h1, h2]
 exact ⟨rfl, rfl⟩
theorem found_at {xs : List CT} {id : List UInt8} {i : Nat} (hi : i < xs.length) (h : ∀ q (hq : q < xs.length), q < i → ¬ xs[q].1.1 = id) (he : xs[i].1.1 = id) : foundM (cks xs) id = (if nameM xs[i].1.2 = id then (xs[i].1.2, 0) else ([], 11)) ∧ foundV xs id = (if nameM xs[i].1.2 = id then xs[i].2 else .slice none 0 0) := by
 have h2 : xs.find? (fun x => decide (x.1.1 = id)) = some xs[i] := (List.find?_eq_some_iff_getElem).2 ⟨by simpa using he, i, hi, rfl, fun j hj => by simpa using h j (by omega) hj⟩
 have h1 : (cks xs).find? (fun p => decide (p.1 = id)) = some xs[i].1 := by
  unfold cks
  rw [List.find?_map]
  show Option.map _ (xs.find? fun x => decide (x.1.1 = id)) = _
  rw [h2]
  rfl
 unfold foundM foundV
 rw [h1, h2]
 exact ⟨rfl, rfl⟩
theorem found_zero {xs : List CT} {id : List UInt8} (h : (foundM (cks xs) id).2 = 0) : ∃ i, ∃ hi : i < xs.length, (foundM (cks xs) id).1 = xs[i].1.2 ∧ foundV xs id = xs[i].2 := by
 by_cases h1 : ∀ q (hq : q < xs.length), ¬ xs[q].1.1 = id
 ·rw [(found_none h1).1] at h
  cases h
 obtain ⟨i, hi, hp, hlt⟩ : ∃ i, ∃ hi : i < xs.length, xs[i].1.1 = id ∧ ∀ q (hq : q < xs.length), q < i → ¬ xs[q].1.1 = id := by
  have hex : ∃ i, ∃ hi : i < xs.length, xs[i].1.1 = id := Classical.byContradiction fun k => h1 fun q hq e => k ⟨q, hq, e⟩
  have hk : xs.findIdx (fun x => decide (x.1.1 = id)) < xs.length := List.findIdx_lt_length.2 (by
   obtain ⟨i, hi, e⟩ := hex
   exact ⟨xs[i], List.getElem_mem hi, by simpa using e⟩)
  exact ⟨_, hk, by simpa using List.findIdx_getElem (w := hk), fun q hq hqk => by simpa using List.not_of_lt_findIdx hqk⟩
 obtain ⟨e1, e2⟩ := found_at hi hlt hp
 rw [e1] at h
 split at h
 ·rename_i hn
  exact ⟨i, hi, by rw [e1, if_pos hn], by rw [e2, if_pos hn]⟩
 cases h
theorem evC_one9 {x : ET} (h : x.2.oneCell' = true) : ∀ u ∈ evC x, u.oneCell' = true := fun u hu => by
 simp only [evC, List.mem_cons, List.not_mem_nil, or_false] at hu
 rcases hu with rfl | rfl | rfl | rfl | rfl
 ·rfl
 ·rfl
 ·rfl
 ·exact h
 rfl
theorem ens_snoc9 (ys : List ET) (x : ET) : ens (ys ++ [x]) = ens ys ++ [x.1] := by simp [ens]
theorem found_len {zs : List CT} (hd : ∀ x ∈ zs, x.1.2.length ≤ 100000) (id : List UInt8) : (foundM (cks zs) id).1.length ≤ 100000 := by
 by_cases h : (foundM (cks zs) id).2 = 0
 ·obtain ⟨i, hi, h1, _⟩ := found_zero h
  rw [h1]
  exact hd _ (List.getElem_mem hi)
 unfold foundM at h ⊢
 split
 ·exact Nat.zero_le _
 rename_i p hp
 rw [hp] at h
 simp only at h
 split
 ·rename_i hn
  rw [if_pos hn] at h
  exact absurd rfl h
 exact Nat.zero_le _
theorem datOf_len (cs : List (List UInt8 × List UInt8)) (h : ∀ id, (foundM cs id).1.length ≤ 100000) : ∀ ids : List (List UInt8), (datOf cs ids).length ≤ ids.length * 100000
 | [] => Nat.le_refl _
 | id :: l => by
  have h1 := h id
  have h2 := datOf_len cs h l
  show ((foundM cs id).1 ++ datOf cs l).length ≤ _
  rw [List.length_append, List.length_cons]
  omega
set_option maxRecDepth 100000
section
variable {P : Program} {n : Nat} {w0 : World} {S : Nat → Prop} {l : Fr} {m : List Ck} {Q : Exit → Act → World → Prop} {K : Act → World → Prop} {r : Option Nat} {ds : List Deferred}
theorem I.asgA {Z : Type} {L : Z → Fr} {M2 : Z → List Ck} {m1 : List Ck} {Q' : Exit → Act → World → Prop} (z : Z) (hl : Fw l (L z)) (hm : m = M2 z ++ m1) : G n w0 S l m (dq [] (Exit.then (fun a w => ∃ z, At a n (L z) ∧ Hp w0 S w (M2 z ++ m1)) Q' .normal)) := fun a w ha hw => by
 unfold dq
 rw [da_nil ha]
 exact ⟨z, ha.weak hl, hm ▸ hw⟩
theorem I.round2A {X Z : Type} {fnx p1 p2 D lp i : Nat} {a : Act} {assign body : Code} {v1 v2 : Value} {l2 : Z → Fr} {M2 : Z → List Ck} {J : Bool → Nat → X → Prop} {B : Bool → Nat → X → List Ck} {jmp : X → Code} {x : X} {rr : List Ck} (ha : At a n l) (hp1 : Nat.blt p1 n = true) (hp2 : Nat.blt p2 n = true)
 (hassign : ∀ w1 S1 m1, G n w1 S1 ((p2, v2) :: (p1, v1) :: l) m1 (dq [] (assign.wpIn (fR (some lp)) 0 P (Exit.then (fun a w => ∃ z, At a n (l2 z) ∧ Hp w1 S1 w (M2 z ++ m1)) (fun _ _ _ => False)))))
 (hbody : ∀ w1 S1 c z, (∀ c ∈ rr, Ro w1 S1 c) → G n w1 S1 (l2 z) (c :: (B true i x ++ M2 z)) (dq [] (body.wpIn (fR (some lp)) 0 P (rnd w1 S1 J B jmp c i)))) :
 TrYr P lp [v1, v2].toArray rr [cL (recL fnx a.tmps p1 p2 assign body D) lp D B jmp true i x] (TX (fun z : Bool × X => J z.1 (i + 1) z.2) (fun z => .bool z.1) (fun z => [cL (recL fnx a.tmps p1 p2 assign body D) lp D B jmp z.1 (i + 1) z.2])) := by
 intro w1 hrr hw1
 have hds : a.defers = [] := ha.defs
 obtain ⟨S1, hS1⟩ : ∃ S1, U [cL (recL fnx a.tmps p1 p2 assign body D) lp D B jmp true i x] = S1 := ⟨_, rfl⟩
 rw [hS1] at hw1 hrr ⊢
 have hu : Hp w1 S1 w1 (obc lp (.loop (recL fnx a.tmps p1 p2 assign body D .ready none)) :: dfr D :: B true i x) := by
  have := Hp.unstar hw1
  rw [List.append_nil] at this
  exact this
 have hl : w1.heap[lp]? = some (.loop (recL fnx a.tmps p1 p2 assign body D .ready none)) := hu.holds _ (List.mem_cons_self ..)
 have hy := run_yield (P := P) (args := #[v1, v2]) hl rfl
 refine ⟨_, _, _, _, hy, roundIn_of_wpIn (F := Fence.wide) trivial ?_⟩
 have hA : At (n := n) { tmps := (a.tmps.setIfInBounds p1 v1).setIfInBounds p2 v2, defers := [] } ((p2, v2) :: (p1, v1) :: l) := by
  have h2 := (ha.put hp1 v1).put hp2 v2
  have e : ((a.put (some p1) v1).put (some p2) v2) = { tmps := (a.tmps.setIfInBounds p1 v1).setIfInBounds p2 v2, defers := [] } := by
   simp [Act.put, hds]
  rwa [e] at h2
 have h3 := hassign w1 S1 _ _ w1 hA hu
 unfold dq at h3
 rw [da_nil hA] at h3
 have eT : ((#[p1, p2] : Array Nat).zip #[v1, v2]).foldl (fun t (x : Nat × Value) => t.setIfInBounds x.1 x.2) a.tmps = (a.tmps.setIfInBounds p1 v1).setIfInBounds p2 v2 := by simp
 show assign.wpIn (fR (some lp)) 0 P _ { tmps := ((#[p1, p2] : Array Nat).zip #[v1, v2]).foldl (fun t (x : Nat × Value) => t.setIfInBounds x.1 x.2) a.tmps, defers := [] } w1
 rw [eT]
 refine wpIn_mono h3 ?_
 intro e a1 w2 hq
 cases e with
 | exit id => exact hq.elim
 | goto t => exact hq.elim
 | ret => exact hq.elim
 | panic ch => exact hq.elim
 | outgrown => exact hq.elim
 | normal =>
  obtain ⟨z, hA1, hH0⟩ := hq
  have hH1 : Hp w1 S1 w2 (obc lp (.loop (recL fnx a.tmps p1 p2 assign body D .ready none)) :: dfr D :: (B true i x ++ M2 z)) := hH0.perm List.perm_append_comm
  have hl1 : w2.heap[lp]? = some (.loop (recL fnx a.tmps p1 p2 assign body D .ready none)) := hH1.holds _ (List.mem_cons_self ..)
  have hbr := run_beginRound (P := P) hl1 rfl
  refine ⟨_, hbr, ?_⟩
  have hH2 := Hp.putO (.loop (recL fnx a.tmps p1 p2 assign body D .busy none)) hH1
  have hH3 := Hp.star (m := [_, _]) (r := B true i x ++ M2 z) hH2
  have h4 := hbody w1 S1 _ z hrr a1 _ hA1 hH3
  unfold dq at h4
  rw [da_nil hA1] at h4
  refine wpIn_mono h4 ?_
  intro e a2 w4 hq
  cases e with
  | normal =>
   obtain ⟨y, hJy, hH4⟩ := hq
   exact I.fin (b := true) hJy rfl hH4
  | ret =>
   obtain ⟨y, hJy, hj, hH4⟩ := hq
   exact I.fin (b := false) hJy (by rw [← hj]; rfl) hH4
  | exit k =>
   obtain ⟨y, hJy, hj, hH4⟩ := hq
   exact I.fin (b := false) hJy (by rw [← hj]; rfl) hH4
  | goto t => exact hq.elim
  | panic ch => exact hq.elim
  | outgrown => exact hq.elim
theorem I.rangeF2A {X Z : Type} {gf nn p1 p2 : Nat} {lb : Array Value} {rr ro pre q : List Ck} {encs : Nat → Value × Value} {g : Operand} {assign body : Code} {fn : Func} {c : Code}
 (J : Bool → Nat → X → Prop) (B : Bool → Nat → X → List Ck) (jmp : X → Code) (M2 : Nat → Z → List Ck) (L2 : Nat × Z → Fr) {x0 : X}
 (hg : ev l g = some (.func (.func gf) #[] lb)) (hf : P.funcs[gf]? = some fn) (hb : fn.body = some c) (hnm : (fn.name == "runtime.NumGoroutine") = false)
 (hseq : SeqR P gf lb ro pre nn (fun i => [(encs i).1, (encs i).2]))
 (hm : Sub m (B true 0 x0 ++ pre) q) (hro : ∀ c ∈ rr ++ ro, May w0 S q c) (h0 : J true 0 x0)
 (hp1 : Nat.blt p1 n = true) (hp2 : Nat.blt p2 n = true)
 (hassign : ∀ w1 S1 lp m1 i, i < nn → G n w1 S1 ((p2, (encs i).2) :: (p1, (encs i).1) :: l) m1 (dq [] (assign.wpIn (fR (some lp)) 0 P (Exit.then (fun a w => ∃ z, At a n (L2 (i, z)) ∧ Hp w1 S1 w (M2 i z ++ m1)) (fun _ _ _ => False)))))
 (hbody : ∀ w1 S1 lp c i x z, i < nn → J true i x → (∀ c ∈ rr, Ro w1 S1 c) → G n w1 S1 (L2 (i, z)) (c :: (B true i x ++ M2 i z)) (dq [] (body.wpIn (fR (some lp)) 0 P (rnd w1 S1 J B jmp c i))))
 (hdone : ∀ D x, J true nn x → G n w0 S l (dfr D :: (B true nn x ++ q)) (dq (mark D) (Q .normal)))
 (hstop : ∀ D i x, i ≤ nn → J false i x → G n w0 S l (dfr D :: (B false i x ++ q)) (dq (mark D) ((jmp x).wpIn (fR none) 0 P Q))) :
 G n w0 S l m (dq [] ((Code.rangeFunc g #[p1, p2] assign body).wpIn (fR none) 0 P Q)) := fun a w ha hw => by
 unfold dq
 rw [da_nil ha]
 have hds : a.defers = [] := ha.defs
 have hw' := hw.perm hm.perm
 refine wpIn_rangeFunc (F := fR none) (n := 0) ?_
 intro fnx _
 obtain ⟨W1, hW1⟩ : ∃ W1, (w.alloc (.deferred (some []))).alloc (.loop (recL fnx a.tmps p1 p2 assign body w.heap.size .ready none)) = W1 := ⟨_, rfl⟩
 have hp1W : Hp w0 S W1 (cL (recL fnx a.tmps p1 p2 assign body w.heap.size) (w.heap.size + 1) w.heap.size B jmp true 0 x0 :: pre ++ q) := by
  rw [← hW1]
  have h2 := (hw'.allocO (.deferred (some []))).allocO (.loop (recL fnx a.tmps p1 p2 assign body w.heap.size .ready none))
  rw [World.size_alloc, List.append_assoc] at h2
  exact Hp.star (m := _ :: _ :: B true 0 x0) (r := pre ++ q) h2
 have hT := hseq rr (w.heap.size + 1) X J (cL (recL fnx a.tmps p1 p2 assign body w.heap.size) (w.heap.size + 1) w.heap.size B jmp) x0 h0 fun i x hi hJ => I.round2A (l2 := fun z => L2 (i, z)) (M2 := M2 i) ha hp1 hp2 (fun w1 S1 m1 => hassign w1 S1 _ m1 i hi) (fun w1 S1 c z hr => hbody w1 S1 _ c i x z hi hJ hr)
 have hpp : Hp W1 (U (cL (recL fnx a.tmps p1 p2 assign body w.heap.size) (w.heap.size + 1) w.heap.size B jmp true 0 x0 :: pre)) W1 (cL (recL fnx a.tmps p1 p2 assign body w.heap.size) (w.heap.size + 1) w.heap.size B jmp true 0 x0 :: pre) := ⟨Chg.refl _ _, fun c hc => hp1W.holds c (List.mem_append_left _ hc), fun c hc b hb => ⟨.inl ⟨c, hc, hb⟩, (hp1W.own c (List.mem_append_left _ hc) b hb).2⟩, (List.pairwise_append.1 hp1W.dis).1⟩
 have hcall := hT W1 (fun c hc => (hro c hc).ro hp1W) hpp
 have henter : (Instr.enterLoop fnx a.tmps #[p1, p2] assign body (fR none).round).run P w = .ok (w.heap.size + 1, mark w.heap.size) W1 := by
  rw [← hW1]
  exact run_enterLoop_outer _ _ _ _ _
 have hres : (resolve a.eval (rangeCall g (w.heap.size + 1)) 0).run P W1 = .ok { target := .fn (.func gf) lb, args := #[.func (.yield (w.heap.size + 1)) #[] #[]] } W1 := by
  simp only [resolve, rangeCall, ha.eval hg]
  simp [Deferred.ofValue, Sem.run_bind, Sem.run_pure, Result.andThen, Act.eval, Sem.run]
 have hinv := run_invokeF (P := P) (args := #[.func (.yield (w.heap.size + 1)) #[] #[]]) (cap := lb) hf hb hnm W1
 have hz : (fR none).depth.isSome = true → 1 ≤ 0 := fun h => by simp [fR, Fence.wide] at h
 suffices hfin : CallsIn (fR none) 0 P gf (#[.func (.yield (w.heap.size + 1)) #[] #[]] ++ lb) W1 (rangePost (fR none) 0 P (w.heap.size + 1) Q { a with defers := mark w.heap.size ++ a.defers }) from
  ⟨w.heap.size + 1, mark w.heap.size, W1, _, W1, gf, _, W1, henter, hres, fun _ _ => trivial, hinv, hz, hfin⟩
 refine calls_fR (callsIn_wide.2 (hcall.mono ?_))
 rintro e w3 ⟨v, m', rfl, ⟨⟨b, i, y⟩, ⟨hJ, hle, hall⟩, rfl, rfl⟩, hm'⟩
 have hu2 := Hp.unstar (m := _ :: _ :: B b i y) (r := q) (hp1W.turn hm')
 have hl3 : w3.heap[w.heap.size + 1]? = some (.loop (recL fnx a.tmps p1 p2 assign body w.heap.size (stL b) (peL jmp b y))) := hu2.holds _ (List.mem_cons_self ..)
 have hend := run_endLoop (P := P) hl3 (by cases b <;> simp [recL, stL])
 have hu3 := (Hp.putO (.loop { recL fnx a.tmps p1 p2 assign body w.heap.size (stL b) (peL jmp b y) with state := .exhausted }) hu2).tail
 have eD : ({ a with defers := mark w.heap.size ++ a.defers } : Act) = da (mark w.heap.size) a := by
  unfold da
  rw [hds]
  rfl
 refine ⟨_, _, hend, ?_⟩
 rw [eD]
 cases b with
 | true =>
  have hJ' : i = nn := hall rfl
  subst hJ'
  exact hdone _ y hJ a _ ha hu3
 | false => exact hstop _ i y hle hJ a _ ha hu3
theorem I.rangeK2A {X Z : Type} {gf nn p1 p2 : Nat} {lb : Array Value} {rr ro pre q : List Ck} {encs : Nat → Value × Value} {g : Operand} {assign body : Code} {fn : Func} {c : Code}
 (J : Bool → Nat → X → Prop) (B : Bool → Nat → X → List Ck) (jmp : X → Code) (M2 : Nat → Z → List Ck) (A : Nat × Z → Fr) {x0 : X} {ts : List Nat} {l1 : Fr} {L2 : Nat × Z → Fr}
 (hg : ev l g = some (.func (.func gf) #[] lb)) (hf : P.funcs[gf]? = some fn) (hb : fn.body = some c) (hnm : (fn.name == "runtime.NumGoroutine") = false)
 (hseq : SeqR P gf lb ro pre nn (fun i => [(encs i).1, (encs i).2]))
 (hm : Sub m (B true 0 x0 ++ pre) q) (hro : ∀ c ∈ rr ++ ro, May w0 S q c) (h0 : J true 0 x0)
 (hp1 : Nat.blt p1 n = true) (hp2 : Nat.blt p2 n = true) (hk : Kp l ts l1) (hL : Ap A l1 L2)
 (hassign : ∀ w1 S1 lp m1 i, i < nn → G n w1 S1 ((p2, (encs i).2) :: (p1, (encs i).1) :: l) m1 (dq [] (assign.wpIn (fR (some lp)) 0 P (Exit.then (fun a w => ∃ z, At a n (L2 (i, z)) ∧ Hp w1 S1 w (M2 i z ++ m1)) (fun _ _ _ => False)))))
 (hbody : ∀ w1 S1 lp c i x z, i < nn → J true i x → (∀ c ∈ rr, Ro w1 S1 c) → G n w1 S1 (L2 (i, z)) (c :: (B true i x ++ M2 i z)) (dq [] (body.wpIn (fR (some lp)) 0 P (rnd w1 S1 J B jmp c i))))
 (hdone : ∀ D x, J true nn x → G n w0 S l (dfr D :: (B true nn x ++ q)) (dq (mark D) (Q .normal)))
 (hstop : ∀ D i x, i ≤ nn → J false i x → G n w0 S l (dfr D :: (B false i x ++ q)) (dq (mark D) ((jmp x).wpIn (fR none) 0 P Q))) :
 G n w0 S l m (dq [] ((Code.rangeFunc g #[p1, p2] assign body).wpIn (fR none) 0 P Q)) :=
 I.rangeF2A J B jmp M2 L2 hg hf hb hnm hseq hm hro h0 hp1 hp2 hassign hbody hdone hstop
end
def bk (xs : List CT) (k : Nat) : CT := (xs[xs.length - 1 - k]?).getD (([], []), .slice none 0 0)
theorem bk_eq {xs : List CT} {k : Nat} (h : k < xs.length) : bk xs k = xs[xs.length - 1 - k]'(by omega) := by
 unfold bk
 rw [List.getElem?_eq_getElem (show xs.length - 1 - k < xs.length by omega)]
 rfl
def AllAt (l : List (List UInt8 × Value)) (ys : List CT) : Prop := ∀ id, mget l id = (ys.find? fun x => decide (x.1.1 = id)).map (·.2)
theorem all_nil : AllAt [] [] := fun id => rfl
theorem AllAt.put {l : List (List UInt8 × Value)} {ys : List CT} (h : AllAt l ys) (x : CT) : AllAt (mset l x.1.1 x.2) (x :: ys) := fun id => by
 rw [mget_mset, List.find?_cons]
 by_cases h1 : x.1.1 = id
 ·rw [if_pos h1, decide_eq_true h1]
  rfl
 rw [if_neg h1, decide_eq_false h1]
 exact h id
theorem drop_bk {xs : List CT} {k : Nat} (h : k < xs.length) : xs.drop (xs.length - (k + 1)) = bk xs k :: xs.drop (xs.length - k) := by
 rw [bk_eq h, List.drop_eq_getElem_cons (show xs.length - (k + 1) < xs.length by omega)]
 congr 1
 ·congr 1
  omega
 congr 1
 omega
def gotV (xs : List CT) (id : List UInt8) : Value := ((xs.find? fun x => decide (x.1.1 = id)).map (·.2)).getD (.slice none 0 0)
def gotB (xs : List CT) (id : List UInt8) : Bool := (xs.find? fun x => decide (x.1.1 = id)).isSome
theorem got_look {l : List (List UInt8 × Value)} {xs : List CT} (h : AllAt l xs) (id : List UInt8) : (if true = true then Value.tuple #[(mget l id).getD (.slice none 0 0), .bool (mget l id).isSome] else (mget l id).getD (.slice none 0 0)) = .tuple #[gotV xs id, .bool (gotB xs id)] := by
 rw [if_pos rfl, h id]
 unfold gotV gotB
 rw [Option.isSome_map]
theorem got_none {xs : List CT} {id : List UInt8} (h : gotB xs id = false) : foundM (cks xs) id = ([], 6) := by
 refine (found_none fun q hq e => ?_).1
 unfold gotB at h
 rw [Option.isSome_eq_false_iff, Option.isNone_iff_eq_none, List.find?_eq_none] at h
 exact h _ (List.getElem_mem hq) (by simpa using e)
theorem got_some {xs : List CT} {id : List UInt8} (h : gotB xs id = true) : ∃ j, ∃ hj : j < xs.length, gotV xs id = xs[j].2 ∧ foundM (cks xs) id = (if nameM xs[j].1.2 = id then (xs[j].1.2, 0) else ([], 11)) := by
 unfold gotB at h
 obtain ⟨x, hx⟩ := Option.isSome_iff_exists.1 h
 obtain ⟨hp, j, hj, he, hlt⟩ := List.find?_eq_some_iff_getElem.1 hx
 subst he
 refine ⟨j, hj, by unfold gotV; rw [hx]; rfl, (found_at hj (fun q hq hqj => by simpa using hlt q hqj) (by simpa using hp)).1⟩
set_option maxHeartbeats 4000000 in
theorem back_tr (v : Value) (hv : v.oneCell' = true) : Tr Tryz.prog 72 #[v] [] [] (TX (fun _ : Nat => True) (fun b => .func (.func 94) #[] #[.pointer (some ⟨b, 0, none⟩)]) (fun b => [blk b 43 [v]])) := by
 refine Tr.of (l := [(0, v)]) Tryz.func72 rfl (n := 4) rfl (.cons rfl .nil) (fun w0 hro => ?_)
 refine go [9,10] ?_
 refine G.op rfl (G.box rfl rfl (cs := [v]) (cells_of hv) ?_)
 intro b1
 refine go [1,7,8,9,10,2,26,1,7,8,11] ?_
 exact G.doneX1 (b1) trT rfl rfl Y8 subT
set_option maxHeartbeats 4000000 in
theorem back_seq {Pv : Nat → Prop} (v : Value) (xs : List CT) (bb : Nat) : SeqR Tryz.prog 94 #[.pointer (some ⟨bb, 0, none⟩)] [slc rCT Pv v xs] [blk bb 43 [v]] xs.length (fun k => [.int .i64 ((xs.length : Int) - 1 - (k : Int)), .agg (chC (bk xs k)).toArray]) := by
 intro rr lp X J C x0 h0 hY
 show Tr _ _ #[.func (.yield lp) #[] #[], .pointer (some ⟨bb, 0, none⟩)] _ _ _
 refine Tr.ofI (l := [(0, .func (.yield lp) #[] #[]), (1, .pointer (some ⟨bb, 0, none⟩))]) Tryz.func94 rfl (n := 19) rfl (.cons rfl (.cons rfl .nil)) (fun w0 hro => ?_)
 have hv := hro _ (List.mem_append_right _ (List.mem_cons_self ..))
 have hrr : ∀ c ∈ rr, Ro w0 _ c := fun c hc => hro c (List.mem_append_left _ hc)
 obtain ⟨av, cv, bv, fv, rfl, hcapv, hmaxv, hnilv, hadv, helv⟩ := Ro.open hv
 refine go [32,33,2,4,2,5,2,19,1,34,31,38] ?_
 refine I.loopK (X := Nat × X) (ts := [0, 1]) (fun st => st.1 ≤ xs.length ∧ J true st.1 st.2) (fun st => [(3, .int .i64 ((xs.length : Int) - 1 - (st.1 : Int)))]) (fun st => [C true st.1 st.2]) (fun st => xs.length - st.1) (x0 := (0, x0)) (.cons rfl (.cons rfl .nil)) subT (.cons .nil) apT (by first | exact trivial | ((try dsimp only) <;> exact ⟨Nat.zero_le _, h0⟩)) (.consE rfl veqT .nil) (fun st hJ => ?_)
 obtain ⟨i, x⟩ := st
 try dsimp only at hJ
 try dsimp only
 obtain ⟨hki, hJx⟩ := hJ
 refine go [32,32,33,0,2,12,34,31] ?_
 refine I.condP rfl (fun h8 => ?_) (fun h8 => ?_)
 ·have hlt : i < xs.length := by omega
  obtain ⟨j, hj⟩ : ∃ j, xs.length - 1 - i = j := ⟨_, rfl⟩
  have hjl : j < xs.length := by omega
  have hbk : bk xs i = xs[j] := by rw [bk_eq hlt]; congr 1
  have hE := helv j hjl
  have hR := Ro.ckRng hE
  refine go [39,31,32,38,32] ?_
  refine IL.region ?_
  refine go [60,11,60,11] ?_
  refine IL.op rfl (IL.lift kr (G.val rfl rfl (pv_load Tryz.underlying43 rfl rfl celT) ?_))
  refine go [60,11] ?_
  refine IL.op rfl (IL.lift kr (G.val rfl rfl (pv_ixSl (sz := 17) (k := j) Tryz.underlying43 kr rfl rfl hadv (by omega) (by omega)) ?_))
  refine IL.op rfl (IL.lift kr (G.val rfl rfl (pv_loadN (cs := chC (bk xs i)) Tryz.underlying106 rfl (by rw [chC_len]; kernel_rfl) rfl (by rw [hbk]; exact fun w hw => hR.at hw)) ?_))
  refine IL.op rfl (IL.yieldR rfl rfl rfl rfl rfl subT (fun c hc => .old (hrr c hc)) (hY i x hlt hJx) apT ?_)
  intro x17 hJ
  obtain ⟨v, y⟩ := x17
  try dsimp only at hJ
  try dsimp only
  have hJ2 := hJ
  refine go [60,18] ?_
  refine IL.nil ?_
  refine I.nThen ?_
  refine I.cond rfl (fun h18 => ?_) (fun h18 => ?_)
  ·obtain rfl : v = false := by cases v <;> simp_all
   refine go [37,36,35,35,36] ?_
   exact I.doneIr ((false, i + 1, y)) (by first | exact trivial | ((try dsimp only) <;> exact ⟨hJ2, by omega, fun h => by cases h⟩)) rfl rfl subT
  obtain rfl : v = true := by cases v <;> simp_all
  refine go [39,40,31,33,0,2,19,1,34] ?_
  exact I.next ((i + 1, y)) (by first | exact trivial | ((try dsimp only) <;> exact ⟨by omega, hJ2⟩)) (by (try dsimp only); omega) (.consE rfl veqT (.cons rfl (.cons rfl .nil))) subT
 obtain rfl : i = xs.length := by omega
 refine go [42,41,41,43] ?_
 exact I.doneI ((true, xs.length, x)) (by first | exact trivial | ((try dsimp only) <;> exact ⟨hJx, Nat.le_refl _, fun _ => rfl⟩)) rfl rfl subT
set_option maxHeartbeats 4000000 in
theorem mbuild_tr {Ps Pz : Nat → Prop} (a : Mh) (v vz : Value) (xs : List IT) (zs : List CT) (hm2 : ∀ x ∈ xs, x.1.ids.length ≤ 100000) (hd : ∀ x ∈ zs, x.1.2.length ≤ 100000) : Tr Tryz.prog 51 #[.agg #[.int .i64 a.c, .int .i64 a.k, .int .i64 a.n, .int .i64 a.t, v], vz] [slc rIT Ps v xs, slc rCT Pz vz zs] []
 (TX (fun z : Value × List ET => ens z.2 = (buildM a (its xs) (cks zs)).1) (fun z => .tuple #[z.1, .int .i64 (buildM a (its xs) (cks zs)).2]) (fun z => [ownT 73 z.1 z.2, datC 5 z.2])) := by
 refine Tr.ofM (l := [(0, .agg #[.int .i64 a.c, .int .i64 a.k, .int .i64 a.n, .int .i64 a.t, v]), (1, vz)]) Tryz.func51 rfl (n := 92) rfl (.cons rfl (.cons rfl .nil)) (fun w0 hro => ?_)
 obtain ⟨hx0, hz0⟩ := ro2 hro
 have hv := hx0
 have hv' := hv
 obtain ⟨av, cv, bv, fv, rfl, hcapv, hmaxv, hnilv, hadv, helv⟩ := Ro.open hv
 have hel' := its_length xs
 have hzv := hz0
 obtain ⟨az, cz, bz, fz, rfl, -, -, -, -, helz⟩ := Ro.open hzv
 have hbk1 : ∀ k, (bk zs k).2.oneCell' = true := fun k => by unfold bk; cases h : zs[zs.length - 1 - k]? with | none => rfl | some x => exact (Ro.allCk helz x (List.mem_of_getElem? h)).2.2
 have hbk16 : ∀ k, k < zs.length → (bk zs k).1.1.length = 16 := fun k hk => by rw [bk_eq hk]; exact Ro.ckID (helz _ (by omega))
 refine go [32,33,60,5] ?_
 intro b2
 refine go [1,1,34,31,32,32,33,2,50,3] ?_
 refine G.op rfl (G.cR rfl rfl rfl rfl Tryz.func57 rfl rfl (may1 (.old hv)) (mcheck_tr a _ xs) ?_)
 refine go [0,2,7,2,7,1,1,34,31,32,33,0,2,14,34,31] ?_
 refine I.condP rfl (fun h25 => ?_) (fun h25 => ?_)
 ·refine go [32,33,0,1,1,34,31,37,35] ?_
  rw [buildM_check (by assumption)]
  refine G.ownNil 73 5 ?_
  refine G.datNil 5 ?_
  exact I.doneM0 ((.slice none 0 0, [])) Y16 rfl (Rv.tmp rfl (Rv.tmp rfl Rv.nil)) rfl subT
 have hc0 : (checkI a (its xs)).1 = 0 := by omega
 obtain ⟨-, h200, -, -⟩ := checkI_zero hc0
 refine go [39,31,32,33] ?_
 refine G.op rfl (G.mapNew vID ok16 rfl ?_)
 intro bm
 refine G.op rfl (G.alloc (z := .map none) (cs := [.map none]) rfl kr rfl ?_)
 intro b8
 refine go [21,34,31,32,32,33,0] ?_
 refine G.op rfl (G.cS rfl rfl rfl rfl Tryz.func72 rfl rfl subT may0 (back_tr _ rfl) apT ?_)
 intro x29 hJ
 try dsimp only at hJ
 try dsimp only
 refine go [34,31,38] ?_
 refine I.rangeK2A (X := (List (List UInt8 × Value))) (rr := [slc rCT Pz (.slice az zs.length cz) zs]) (encs := fun i => (.int .i64 ((zs.length : Int) - 1 - (i : Int)), .agg (chC (bk zs i)).toArray)) (ts := [8]) (fun b i l => b = true ∧ AllAt l (zs.drop (zs.length - i))) (fun b i l => [blk b8 137 [.map (some bm)], mpc vID ok16 bm l]) (fun l => .ret) (fun i (zb : Nat) => [blk zb 106 (chC (bk zs i))]) (fun p => [(10, .pointer (some ⟨p.2, 0, none⟩))]) (x0 := []) rfl Tryz.func94 rfl rfl (back_seq (Pv := Pz) (.slice az zs.length cz) zs x29) (by show Sub _ [blk b8 137 [.map (some bm)], mpc vID ok16 bm [], blk x29 43 [.slice az zs.length cz]] _; repeat (first | exact Sub.nil | (apply Sub.cons; (repeat (first | with_reducible exact Sel.here | exact Sel.here | apply Sel.there))))) (may2 (.old hz0) (.old hz0)) (by first | exact trivial | (exact ⟨rfl, by rw [Nat.sub_zero, List.drop_length]; exact all_nil⟩)) rfl rfl (.cons rfl .nil) (.cons .nil) ?_ ?_ ?_ ?_
 ·intro w1 S1 lp m1 i hi
  try dsimp only at hJ
  try dsimp only
  refine go [33] ?_
  refine G.op rfl (G.alloc (z := .agg #[.int .u8 0, .int .u8 0, .int .u8 0, .int .u8 0, .int .u8 0, .int .u8 0, .int .u8 0, .int .u8 0, .int .u8 0, .int .u8 0, .int .u8 0, .int .u8 0, .int .u8 0, .int .u8 0, .int .u8 0, .int .u8 0, .slice none 0 0]) (cs := [.int .u8 0, .int .u8 0, .int .u8 0, .int .u8 0, .int .u8 0, .int .u8 0, .int .u8 0, .int .u8 0, .int .u8 0, .int .u8 0, .int .u8 0, .int .u8 0, .int .u8 0, .int .u8 0, .int .u8 0, .int .u8 0, .slice none 0 0]) rfl kr rfl ?_)
  intro b10
  refine G.op rfl (G.storeN (vs := chC (bk zs i)) (by rw [chC_len]; kernel_rfl) rfl rfl (List.all_eq_true.2 (chC_one (hbk1 i))) selT (by rw [chC_len]; exact Nat.le_of_ble_eq_true rfl) ?_)
  rw [putN_whole _ _ (by rw [chC_len]; rfl)]
  refine I.nil ?_
  exact I.asgA (Z := Nat) b10 (.consE rfl veqT (.cons rfl .nil)) rfl
 ·intro w1 S1 lp c i l zb hi hJ hrr
  try dsimp only at hJ
  try dsimp only
  obtain ⟨hbt, hal⟩ := hJ
  have hk16 := hbk16 i hi
  refine go [38,33,2,4,2,3,0] ?_
  refine G.op rfl (G.val rfl rfl (pv_loadN (cs := (bk zs i).1.1.map vByte) Tryz.underlying59 rfl (by rw [List.length_map, hk16]; kernel_rfl) rfl (blk_range (k := 16) selT (chC_id hk16))) ?_)
  refine go [2,3,16] ?_
  refine G.op rfl (G.val rfl rfl (pv_load (v := (bk zs i).2) Tryz.underlying31 rfl rfl (blk_cell selD (chC_dat _))) ?_)
  refine G.op rfl (G.mapSet (f := vID) (ok := ok16) (x := (bk zs i).1.1) (v := (bk zs i).2) (xs := l) keyI Tryz.underlying137 rfl rfl rfl hk16 selT ?_)
  refine go [34,40] ?_
  exact I.rN (mset l (bk zs i).1.1 (bk zs i).2) (by first | exact trivial | ((try dsimp only) <;> exact ⟨rfl, by rw [drop_bk hi]; exact hal.put (bk zs i)⟩)) subT
 ·intro D l hJ
  try dsimp only at hJ
  try dsimp only
  obtain ⟨hbt, hal⟩ := hJ
  rw [Nat.sub_self, List.drop_zero] at hal
  refine go [40,31,32,33,1,34,31,32,32,33,2,3,4,2,4,2,5,0,34,31,38] ?_
  refine G.ownNil 73 5 ?_
  refine G.datNil 5 ?_
  refine I.loopK (X := Nat × Value × (List ET)) (ts := [8, 38, 39]) (fun st => st.1 ≤ xs.length ∧ (ens st.2.2 = ((its xs).take st.1).map (mkE (cks zs)) ∧ (∀ q (hq : q < (its xs).length), q < st.1 → errIt (cks zs) (its xs)[q] = 0) ∧ st.2.2.length = st.1)) (fun st => [(40, .int .i64 (st.1 : Int)), (11, st.2.1)]) (fun st => [ownT 73 st.2.1 st.2.2, datC 5 st.2.2]) (fun st => xs.length - st.1) (x0 := (0, .slice none 0 0, [])) (.cons rfl (.cons rfl (.cons rfl .nil))) subT (.cons (.cons .nil)) apT (by first | exact trivial | ((try dsimp only) <;> exact ⟨Nat.zero_le _, ⟨rfl, fun q hq h => absurd h (by omega), rfl⟩⟩)) (.consE rfl veqT (.consE rfl veqT .nil)) (fun st hJ => ?_)
  obtain ⟨i, vw, ys⟩ := st
  try dsimp only at hJ
  try dsimp only
  obtain ⟨hki, hJ⟩ := hJ
  obtain ⟨hys, herr, hyl⟩ := hJ
  refine go [32,33,2,9,34,31,32] ?_
  refine I.condP rfl (fun h41 => ?_) (fun h41 => ?_)
  ·have hlt : i < xs.length := by omega
   have hlt' : i < (its xs).length := by omega
   have hg := its_get hlt
   have hEv := helv i hlt
   have hRv := Ro.itRng hEv
   have hDv := Ro.itIds hEv
   have hOv := Ro.itOk hEv
   obtain ⟨hk1v, hk2v, hk3v, hlpv, hltv, hlnv⟩ := hOv
   have hCv := Ro.one1I hDv
   obtain ⟨aD, cD, bD, oD, hx2, hcD, hmD, -, hadD, helD⟩ := Ro.open hDv
   rw [hx2] at hRv hCv
   have hil := hm2 _ (List.getElem_mem hlt)
   have hmk : ((its xs).take (i + 1)).map (mkE (cks zs)) = ((its xs).take i).map (mkE (cks zs)) ++ [mkE (cks zs) xs[i].1] := by rw [List.take_succ_eq_append_getElem hlt', List.map_append, hg]; rfl
   refine go [39,31,32,38,32,33] ?_
   refine G.op rfl (G.val rfl rfl (pv_ixSl (sz := 6) (k := i) Tryz.underlying40 kr rfl rfl adT (by omega) (by omega)) ?_)
   refine go [2,50,6,60,12] ?_
   intro b13
   refine go [20,34,31,32,33,2,3,0,2,4,2,3,1,2,4,2,3,2,2,4,2,3,4,2,4] ?_
   refine G.op rfl (G.val rfl rfl (pv_buildSt (z := [.string ⟨#[]⟩, .int .i64 0, .int .i64 0, .slice none 0 0, .string ⟨#[]⟩]) (pl := [(0, 1), (1, 1), (2, 1), (3, 1), (4, 1)]) Tryz.underlying73 kr kr rfl flT) ?_)
   refine go [60,20] ?_
   intro b14
   refine go [20,34,31,32,32,33,2,3,5,2,4,2,5,0,34,31,38] ?_
   refine G.ownBNil 5 ?_
   refine I.loopK (X := Nat × Value) (ts := [8, 11, 13, 14, 38, 39, 40, 54, 55]) (fun st => st.1 ≤ xs[i].1.ids.length ∧ (∀ r (hr : r < xs[i].1.ids.length), r < st.1 → (foundM (cks zs) xs[i].1.ids[r]).2 = 0)) (fun st => [(56, .int .i64 (st.1 : Int))]) (fun st => [blk b14 73 [.string (sB xs[i].1.path), .int .i64 xs[i].1.kind, .int .i64 xs[i].1.mode, st.2, .string (sB xs[i].1.to)], ownB 5 st.2 (datOf (cks zs) (xs[i].1.ids.take st.1))]) (fun st => xs[i].1.ids.length - st.1) (x0 := (0, .slice none 0 0)) (.cons rfl (.cons rfl (.cons rfl (.cons rfl (.cons rfl (.cons rfl (.cons rfl (.cons rfl (.cons rfl .nil))))))))) subT (.cons .nil) apT (by first | exact trivial | ((try dsimp only) <;> exact ⟨Nat.zero_le _, fun r hr h => absurd h (by omega)⟩)) (.consE rfl veqT .nil) (fun st hJ => ?_)
   obtain ⟨q, vD⟩ := st
   try dsimp only at hJ
   try dsimp only
   obtain ⟨hkq, hJ⟩ := hJ
   have hJq := hJ
   refine go [32,33,2,9,34,31,32] ?_
   refine I.condP rfl (fun h57 => ?_) (fun h57 => ?_)
   ·have hlq : q < xs[i].1.ids.length := by omega
    obtain ⟨lq, rq⟩ := Ro.arr8 (helD q hlq)
    have hdt := datOf_take (cks zs) hlq
    have hdl := datOf_len (cks zs) (fun id => found_len hd id) (xs[i].1.ids.take q)
    have hqt : (xs[i].1.ids.take q).length ≤ q := List.length_take_le _ _
    refine go [39,31,32,38,32,33] ?_
    refine G.op rfl (G.val rfl rfl (pv_ixSl (sz := 16) (k := q) Tryz.underlying30 kr rfl rfl hadD rfl (by omega)) ?_)
    refine G.op rfl (G.val rfl rfl (pv_loadN (cs := xs[i].1.ids[q].map vByte) Tryz.underlying59 rfl Y15 rfl rq) ?_)
    refine go [60,14] ?_
    intro b16
    refine G.op rfl (G.storeN Y15 rfl rfl (List.all_eq_true.2 (vByte_one _)) selT (by simp [lq]) ?_)
    rw [putN_whole _ _ (by rw [List.length_map, lq]; rfl)]
    refine go [34,31,32,33,2,4] ?_
    refine G.op rfl (G.val rfl rfl (pv_loadN (cs := xs[i].1.ids[q].map vByte) Tryz.underlying59 rfl Y15 rfl (blk_range (k := 16) selT (List.take_of_length_le Y14))) ?_)
    refine G.op rfl (G.val rfl rfl ((pv_mapGet (f := vID) (ok := ok16) (x := xs[i].1.ids[q]) (z := .slice none 0 0) (xs := l) keyI Tryz.underlying137 (fun w => by kernel_rfl) rfl rfl lq (sel_map selT)).cast (got_look hal _)) ?_)
    refine go [0,2,7,2,7,1,1,34,31,32,38,32,33,0,2,25,1,34,31] ?_
    refine I.cond rfl (fun h66 => ?_) (fun h66 => ?_)
    ·have hfm := got_none (show gotB zs xs[i].1.ids[q] = false by simpa using h66)
     refine go [32,33,1,1,34,31,37,36,35,36,35,35,36,35,36,35,35,36,35] ?_
     rw [buildM_bad (e := 6) hc0 hlt' herr (by rw [hg]; exact (errIt_bad hlq (fun r hr hrq => hJq r hr hrq) (by rw [hfm]; decide)).trans (by rw [hfm])) (by decide)]
     refine G.ownNil 73 5 ?_
     refine G.datNil 5 ?_
     exact I.doneM ((.slice none 0 0, [])) Y16 rfl Y17 (Rv.tmp rfl (Rv.tmp rfl Rv.nil)) rfl subT
    obtain ⟨j, hj, hgv, hfm⟩ := got_some (show gotB zs xs[i].1.ids[q] = true by simpa using h66)
    rw [hgv]
    have hDz := Ro.ckDat (helz j hj)
    have hdz := hd _ (List.getElem_mem hj)
    have hnl := nameM_len zs[j].1.2
    refine I.seq ?_
    refine I.drawN (nn := 5) (p := []) (rem := 31) [0, 1, 0, 6, 10] [0, 1, 0, 6, 8] kr kr ⟨rfl, by kernel_rfl, by kernel_rfl⟩ subT kr (fun hT19 => ?_)
    refine go [22,0,30,0] ?_
    refine G.takeT hT19 (i := 2) (rem' := 26) rfl rfl rfl kr (fun _ _ _ h => h) rfl (pv_loadN (cs := xs[i].1.ids[q].map vByte) Tryz.underlying59 rfl Y15 rfl (blk_range (k := 16) selT (List.take_of_length_le Y14))) subT ?_
    refine go [24,1,24] ?_
    refine G.turnOp rfl rfl (G.cR rfl rfl rfl rfl Tryz.func22 rfl rfl (may1 (.old hDz)) (name_tr _ zs[j].1.2 (by omega)) ?_)
    refine go [26] ?_
    refine G.takeT hT19 (i := 3) (rem' := 16) rfl rfl rfl kr (fun _ _ _ h => h) rfl ((pv_neqAr8 (a := nameM zs[j].1.2) (b := xs[i].1.ids[q]) Tryz.underlying59 rfl kr Tryz.underlying5 kr rfl rfl hnl lq).cast (v' := .bool (decide (nameM zs[j].1.2 ≠ xs[i].1.ids[q]))) (neq_list _ _)) subT ?_
    refine go [22,4,0,1] ?_
    refine I.overN hT19 kr ?_
    refine I.nThen ?_
    refine I.condP rfl (fun h69 => ?_) (fun h69 => ?_)
    ·rw [if_neg (by assumption)] at hfm
     refine go [32,33,1,1,34,31,37,36,35,36,35,35,36,35,36,35,35,36,35] ?_
     rw [buildM_bad (e := 11) hc0 hlt' herr (by rw [hg]; exact (errIt_bad hlq (fun r hr hrq => hJq r hr hrq) (by rw [hfm]; decide)).trans (by rw [hfm])) (by decide)]
     refine G.ownNil 73 5 ?_
     refine G.datNil 5 ?_
     exact I.doneM ((.slice none 0 0, [])) Y16 rfl Y17 (Rv.tmp rfl (Rv.tmp rfl Rv.nil)) rfl subT
    rw [if_pos (Decidable.of_not_not (by assumption))] at hfm
    have hfz : (foundM (cks zs) xs[i].1.ids[q]).2 = 0 := by rw [hfm]
    have hff : (foundM (cks zs) xs[i].1.ids[q]).1 = zs[j].1.2 := by rw [hfm]
    rw [hff] at hdt
    refine G.ownBFact (v := vD) selT (fun hvD1 => ?_)
    refine go [39,40,31,33,2,3,3,2,4,0] ?_
    refine G.op rfl (G.appendB (xs := (datOf (cks zs) (xs[i].1.ids.take q))) (ys := zs[j].1.2) (Ps := Pz) rfl Tryz.underlying31 Tryz.infoByte rfl rfl selT (ro_sl hDz) (by omega) (by omega) ?_)
    intro x77
    rw [← hdt]
    refine G.ownBFact (v := x77) selT (fun hx77 => ?_)
    refine go [2,3,3,21,34,40,31,33,2,6,0,34] ?_
    exact I.next ((q + 1, x77)) (by first | exact trivial | ((try dsimp only) <;> exact ⟨by omega, fun r hr hrq => by rcases Nat.lt_or_ge r q with h1 | h1; exact hJq r hr h1; obtain rfl : r = q := (by omega); exact hfz⟩)) (by (try dsimp only); omega) (.consE rfl veqT (.cons rfl (.cons rfl (.cons rfl (.cons rfl (.cons rfl (.cons rfl (.cons rfl (.cons rfl (.cons rfl .nil)))))))))) subT
   obtain rfl : q = xs[i].1.ids.length := by omega
   have hall := hJq
   rw [List.take_length]
   have hdl := datOf_len (cks zs) (fun id => found_len hd id) xs[i].1.ids
   refine G.ownBSl (v := vD) selT (fun adD capD hvD => ?_)
   subst hvD
   refine go [42,41,41,43,31,32,32,33,2,3,3,2,4,2,5,2,3,3,2,4,2,14,34,31] ?_
   refine I.condP rfl (fun h85 => ?_) (fun h85 => ?_)
   ·refine go [32,33,1,1,34,31,37,35,36,35,35,36,35] ?_
    rw [buildM_bad (e := 4) hc0 hlt' herr (by rw [hg]; exact errIt_size (fun r hr => hall r hr (by omega)) (by assumption)) (by decide)]
    refine G.ownNil 73 5 ?_
    refine G.datNil 5 ?_
    exact I.doneM ((.slice none 0 0, [])) Y16 rfl Y17 (Rv.tmp rfl (Rv.tmp rfl Rv.nil)) rfl subT
   have hok1 : errIt (cks zs) (its xs)[i] = 0 := by rw [hg]; exact errIt_ok (fun r hr => hall r hr (by omega)) (by omega)
   obtain ⟨en, hen⟩ : ∃ c, mkE (cks zs) xs[i].1 = c := ⟨_, rfl⟩
   rw [show blk b14 73 [.string (sB xs[i].1.path), .int .i64 xs[i].1.kind, .int .i64 xs[i].1.mode, (.slice adD (datOf (cks zs) xs[i].1.ids).length capD), .string (sB xs[i].1.to)] = blk b14 73 (evC (en, .slice adD (datOf (cks zs) xs[i].1.ids).length capD)) from by rw [← hen]; rfl, show ownB 5 (.slice adD (datOf (cks zs) xs[i].1.ids).length capD) (datOf (cks zs) xs[i].1.ids) = ownB 5 (.slice adD (datOf (cks zs) xs[i].1.ids).length capD) en.data from by rw [← hen]; rfl]
   obtain ⟨dv, hdv⟩ : ∃ c, Value.slice adD (datOf (cks zs) xs[i].1.ids).length capD = c := ⟨_, rfl⟩
   have hone : dv.oneCell' = true := by rw [← hdv]; rfl
   rw [hdv]
   refine go [39,31,33,0] ?_
   refine G.op rfl (G.val rfl rfl (pv_loadN (cs := evC (en, dv)) Tryz.underlying73 rfl kr rfl (blk_range (k := 5) selT rfl)) ?_)
   refine G.op rfl (G.buildSlice (z := .agg #[.string ⟨#[]⟩, .int .i64 0, .int .i64 0, .slice none 0 0, .string ⟨#[]⟩]) (sz := 5) (cs := evC (en, dv)) rfl Tryz.underlying44 kr (by decide) (by decide) rfl kr ?_)
   intro b88
   rw [show ownT 73 vw ys = own 73 5 vw ys.length (flatT ys) from rfl]
   refine G.op rfl (G.append (k := ys.length) (j := 1) (cs := flatT ys) (news := evC (en, dv)) (b := b88) (off := 0) rfl Tryz.underlying44 Tryz.infoEn' rfl rfl rfl selT (fun _ => rfl) (fun h => by cases h) rfl (blk_news (k := 5) selT rfl) (evC_one9 hone) (by omega) (by omega) ?_)
   intro vn
   rw [show flatT ys ++ evC (en, dv) = flatT (ys ++ [(en, dv)]) from by rw [flatT_app, flatT_one], show ys.length + 1 = (ys ++ [(en, dv)]).length from by rw [List.length_append]; rfl]
   refine G.datSnoc (ys := ys) (x := (en, dv)) selT selT ?_
   refine G.ownFact (v := vn) selT (fun hvn _ => ?_)
   refine go [1,34,40,31,33,2,6,0,34] ?_
   exact I.next ((i + 1, (vn, ys ++ [(en, dv)]))) (by first | exact trivial | ((try dsimp only) <;> exact ⟨by omega, ⟨by rw [ens_snoc9, hys, hmk, hen], fun r hr hri => by rcases Nat.lt_or_ge r i with h1 | h1; exact herr r hr h1; obtain rfl : r = i := (by omega); exact hok1, by rw [List.length_append, hyl]; rfl⟩⟩)) (by (try dsimp only); omega) (.consE rfl veqT (.consE rfl veqT (.cons rfl (.cons rfl (.cons rfl .nil))))) subT
  obtain rfl : i = xs.length := by omega
  rw [← hel', List.take_length] at hys
  refine go [42,41,41,43,31,32,33,0,1,1,34,31,37] ?_
  rw [buildM_ok hc0 (fun q hq => herr q hq (by omega))]
  exact I.doneM ((vw, ys)) (by first | exact trivial | ((try dsimp only) <;> exact hys)) rfl Y17 (Rv.tmp rfl (Rv.tmp rfl Rv.nil)) rfl subT
 intro D i l hle hJ
 try dsimp only at hJ
 try dsimp only
 obtain ⟨h, _⟩ := hJ
 cases h
def frz (F : Nat → Prop) (W : World) : Ck := ⟨F, fun w => ∀ b, F b → w.heap[b]? = W.heap[b]?, fun w w' h hw b hb => (h b hb).trans (hw b hb)⟩
def Up (F : Nat → Prop) (W : World) (F' : Nat → Prop) (W' : World) : Prop := (∀ b, F b → F' b) ∧ ∀ b, F b → W'.heap[b]? = W.heap[b]?
theorem Up.refl (F : Nat → Prop) (W : World) : Up F W F W := ⟨fun _ h => h, fun _ _ => rfl⟩
theorem Up.trans {F F' F'' : Nat → Prop} {W W' W'' : World} (h : Up F W F' W') (k : Up F' W' F'' W'') : Up F W F'' W'' := ⟨fun b hb => k.1 b (h.1 b hb), fun b hb => (k.2 b (h.1 b hb)).trans (h.2 b hb)⟩
theorem Up.sl {α : Type} {E : Rdr α} {F F' : Nat → Prop} {W W' : World} {v : Value} {xs : List α} (h : Up F W F' W') (k : IsSl E F W v xs) : IsSl E F' W' v xs := (k.loc h.2).mono h.1
section
variable {P : Program} {n : Nat} {w0 : World} {S : Nat → Prop} {l : Fr} {m : List Ck} {Q : Exit → Act → World → Prop} {K : Act → World → Prop}
 {dst : Option Tmp} {ty : TypeId} {pos : String} {after : Array Edge} {g : Option (Nat × Bool)} {F : Nat → Prop} {W : World}
theorem G.frz0 (h : ∀ W, G n w0 S l (frz (fun _ => False) W :: m) K) : G n w0 S l m K := fun a w ha hw =>
 h w a w ha (hw.adds (m' := [frz (fun _ => False) w]) ⟨Chg.refl _ _, fun c hc => by
  obtain rfl : c = _ := by simpa using hc
  exact fun b hb => hb.elim, fun c hc b hb => by
  obtain rfl : c = _ := by simpa using hc
  exact hb.elim, by simp⟩)
theorem G.freeze {p r r' : List Ck} (h1 : Sel m (frz F W) r) (h2 : Sub r p r')
 (h : ∀ F' W', Up F W F' W' → (∀ c ∈ p, c.φ W' ∧ ∀ b, c.S b → F' b) → G n w0 S l (frz F' W' :: r') K) : G n w0 S l m K := fun a w ha hw => by
 have hw' := (hw.sel h1).perm (List.Perm.cons _ h2.perm)
 refine h (fun b => F b ∨ U p b) w ⟨fun b hb => .inl hb, fun b hb => ((hw'.holds _ (List.mem_cons_self ..) : (frz F W).φ w) b hb).symm ▸ rfl⟩ (fun c hc => ⟨hw'.holds _ (List.mem_cons_of_mem _ (List.mem_append_left _ hc)), fun b hb => .inr ⟨c, hc, hb⟩⟩) a w ha ?_
 have hs : Hp w0 S w (star (frz F W :: p) :: r') := Hp.star (m := frz F W :: p) (r := r') hw'
 have hd := List.pairwise_cons.1 hs.dis
 have key : ∀ b, (F b ∨ U p b) → (star (frz F W :: p)).S b := fun b hb => by
  rcases hb with hb | ⟨c, hc, hb⟩
  ·exact ⟨_, List.mem_cons_self .., hb⟩
  exact ⟨c, List.mem_cons_of_mem _ hc, hb⟩
 refine ⟨hs.chg, fun c hc => ?_, fun c hc b hb => ?_, List.pairwise_cons.2 ⟨fun d hdr b hb => hd.1 d hdr b (key b hb), hd.2⟩⟩
 ·rcases List.mem_cons.1 hc with rfl | hc
  ·exact fun b _ => rfl
  exact hs.holds c (List.mem_cons_of_mem _ hc)
 rcases List.mem_cons.1 hc with rfl | hc
 ·exact hs.own _ (List.mem_cons_self ..) b (key b hb)
 exact hs.own c (List.mem_cons_of_mem _ hc) b hb
theorem may_frz {α : Type} {E : Rdr α} {v : Value} {xs : List α} {r : List Ck} (h : Sel m (frz F W) r) (hs : IsSl E F W v xs) : May w0 S m (slc E F v xs) :=
 .view h.mem (fun w hw => hs.loc hw) fun b hb => hb
theorem frz_cell {b o : Nat} {v : Value} {r : List Ck} (h : Sel m (frz F W) r) (hb : F b) (k : W.cell? ⟨b, o, none⟩ = some v) : ∀ w, Hp w0 S w m → w.cell? ⟨b, o, none⟩ = some v := fun w hw => (World.cell?_of_block ((hw.holds _ h.mem : (frz F W).φ w) b hb)).trans k
theorem frz_rng {b o : Nat} {cs : List Value} {r : List Ck} (h : Sel m (frz F W) r) (hb : F b) (k : W.rangeAt b o cs) : ∀ w, Hp w0 S w m → w.rangeAt b o cs := fun w hw => rangeAt_loc ((hw.holds _ h.mem : (frz F W).φ w) b hb) k
theorem frz_sl {α : Type} {E : Rdr α} {v : Value} {xs : List α} {r : List Ck} (h : Sel m (frz F W) r) (hs : IsSl E F W v xs) : ∀ w, Hp w0 S w m → IsSl E F w v xs := fun w hw => hs.loc (hw.holds _ h.mem : (frz F W).φ w)
def que (e : TypeId) (sz : Nat) (v : Value) (k : Nat) (cs : List Value) : Ck := ⟨fun b => v.ownBlock = some b, fun w => cs.length = k * sz ∧ ((v = .slice none 0 0 ∧ k = 0) ∨
 ∃ g cap pre sp, v = .slice (some ⟨g, pre.length, none⟩) k cap ∧ k ≤ cap ∧ cap ≤ 9223372036854775807 ∧ (cap - k) * sz ≤ sp.length ∧ w.heap[g]? = some (.cells (pre ++ (cs ++ sp)).toArray e (0, 0))), fun w w' h hw => by
 refine ⟨hw.1, ?_⟩
 rcases hw.2 with h1 | ⟨g, cap, pre, sp, rfl, h2, h3, h4, h5⟩
 ·exact .inl h1
 exact .inr ⟨g, cap, pre, sp, rfl, h2, h3, h4, (h g rfl).trans h5⟩⟩
theorem G.queNil (e sz : Nat) (h : G n w0 S l (que e sz (.slice none 0 0) 0 [] :: m) K) : G n w0 S l m K := G.mem (fun w hw => by
 refine hw.adds (m' := [que e sz (.slice none 0 0) 0 []]) ⟨Chg.refl _ _, fun c hc => ?_, fun c hc b hb => ?_, by simp⟩
 ·obtain rfl : c = _ := by simpa using hc
  exact ⟨by simp, .inl ⟨rfl, rfl⟩⟩
 obtain rfl : c = _ := by simpa using hc
 cases hb) h
theorem que_form {e sz k : Nat} {v : Value} {cs : List Value} {w : World} (h : (que e sz v k cs).φ w) : v.oneCell' = true ∧ cs.length = k * sz ∧ ∃ ad cap, v = .slice ad k cap ∧ k ≤ cap ∧ cap ≤ 9223372036854775807 := by
 obtain ⟨h1, ⟨rfl, rfl⟩ | ⟨g, cap, pre, sp, rfl, h2, h3, _⟩⟩ := h
 ·exact ⟨rfl, h1, _, _, rfl, Nat.le_refl _, by omega⟩
 exact ⟨rfl, h1, _, _, rfl, h2, h3⟩
theorem G.queFact {e sz k : Nat} {v : Value} {cs : List Value} {r : List Ck} (hs : Sel m (que e sz v k cs) r) (h : v.oneCell' = true → cs.length = k * sz → ∀ ad cap, v = .slice ad k cap → G n w0 S l m K) : G n w0 S l m K := fun a w ha hw => by
 obtain ⟨h1, h2, ad, cap, h3, _⟩ := que_form (hw.holds _ hs.mem)
 exact h h1 h2 ad cap h3 a w ha hw
theorem G.queTo {e sz k : Nat} {v : Value} {cs : List Value} {r : List Ck} (hs : Sel m (que e sz v k cs) r) (hk : 0 < k)
 (h : ∀ g cap pre sp, v = .slice (some ⟨g, pre.length, none⟩) k cap → k ≤ cap → cap ≤ 9223372036854775807 → (cap - k) * sz ≤ sp.length → cs.length = k * sz → G n w0 S l (blk g e (pre ++ (cs ++ sp)) :: r) K) : G n w0 S l m K := fun a w ha hw => by
 have hw' := hw.sel hs
 obtain ⟨h1, ⟨rfl, h0⟩ | ⟨g, cap, pre, sp, rfl, h2, h3, h4, h5⟩⟩ := hw'.holds _ (List.mem_cons_self ..)
 ·omega
 refine h g cap pre sp rfl h2 h3 h4 h1 a w ha (hp_view (c := que e sz (.slice (some ⟨g, pre.length, none⟩) k cap) k cs) (d := blk g e (pre ++ (cs ++ sp))) hw' (fun _ => h5) fun b hb => ?_)
 obtain rfl : b = g := hb
 rfl
theorem G.queOf {e sz k g cap o : Nat} {cs pre sp : List Value} {r : List Ck} (hs : Sel m (blk g e (pre ++ (cs ++ sp))) r) (ho : o = pre.length) (hk : cs.length = k * sz) (hc : k ≤ cap) (hm : cap ≤ 9223372036854775807) (hl : (cap - k) * sz ≤ sp.length)
 (h : G n w0 S l (que e sz (.slice (some ⟨g, o, none⟩) k cap) k cs :: r) K) : G n w0 S l m K := fun a w ha hw => by
 subst ho
 have hw' := hw.sel hs
 refine h a w ha (hp_view (c := blk g e (pre ++ (cs ++ sp))) (d := que e sz (.slice (some ⟨g, pre.length, none⟩) k cap) k cs) hw' (fun hg => ⟨hk, .inr ⟨g, cap, pre, sp, rfl, hc, hm, hl, hg⟩⟩) fun b hb => ?_)
 have : some g = some b := hb
 injection this with this
 exact this.symm
theorem G.queTail {e sz k g cap : Nat} {c1 cs pre sp : List Value} {r : List Ck} (hs : Sel m (blk g e (pre ++ ((c1 ++ cs) ++ sp))) r) (h1 : c1.length = sz) (hk : (c1 ++ cs).length = (k + 1) * sz) (hc : k + 1 ≤ cap) (hm : cap ≤ 9223372036854775807) (hl : (cap - (k + 1)) * sz ≤ sp.length)
 (h : G n w0 S l (que e sz (subV sz (some ⟨g, pre.length, none⟩) 1 (k + 1) cap) k cs :: r) K) : G n w0 S l m K := by
 have hk' : cs.length = k * sz := by
  rw [List.length_append, h1, Nat.add_mul, Nat.one_mul] at hk
  omega
 have hl' : (cap - 1 - k) * sz ≤ sp.length := by
  rw [show cap - 1 - k = cap - (k + 1) from by omega]
  exact hl
 unfold subV at h
 by_cases hz : cap - 1 = 0
 ·have hk0 : k = 0 := by omega
  subst hk0
  have hcs : cs = [] := List.eq_nil_of_length_eq_zero (by simpa using hk')
  subst hcs
  refine G.queOf (sz := sz) (pre := pre) (cs := []) (sp := c1 ++ sp) (k := 0) (cap := cap - 1) (o := pre.length) (by simpa using hs) rfl (by simp) (by omega) (by omega) (by simp [hz]) ?_
  have hz' : cap = 1 := by omega
  subst hz'
  simpa using h
 refine G.queOf (pre := pre ++ c1) (cs := cs) (sp := sp) (k := k) (cap := cap - 1) (o := pre.length + sz) (by simpa using hs) (by rw [List.length_append, h1]) hk' (by omega) (by omega) hl' ?_
 have hz' : ¬ cap = 1 := by omega
 simpa [hz', addr_mid] using h
theorem putN_mid (news : List Value) : ∀ (a b c : List Value), b.length = news.length → putN (a ++ (b ++ c)) a.length news = a ++ (news ++ c) := by
 induction news with
 | nil =>
  intro a b c h
  obtain rfl : b = [] := List.eq_nil_of_length_eq_zero h
  rfl
 | cons v vs ih =>
  intro a b c h
  match b, h with
  | x :: b, h =>
   show putN ((a ++ (x :: b ++ c)).set a.length v) (a.length + 1) vs = _
   rw [show (a ++ (x :: b ++ c)).set a.length v = (a ++ [v]) ++ (b ++ c) from by simp [List.set_append], show a.length + 1 = (a ++ [v]).length from by simp, ih (a ++ [v]) b c (by simpa using h)]
   simp
theorem G.appendQ {t e d sz bytes k j cap b off : Nat} {s x : Operand} {v : Value} {cs news : List Value} {r : List Ck} (hn : Nat.blt d n = true) (hu : P.underlying t = some (.slice e)) (hi : (P.info? e).map (fun i => (i.zero.map (·.cells.size), i.size, i.bytes)) = some (some sz, sz, bytes)) (hsz : Nat.blt 0 sz = true)
 (hs : ev l s = some v) (hx : ev l x = some (.slice (some ⟨b, off, none⟩) j cap)) (hsel : Sel m (que e sz v k cs) r) (hj : 0 < j) (hl : news.length = j * sz) (hnews : ∀ w, Hp w0 S w m → News w b off news) (h1 : ∀ u ∈ news, u.oneCell' = true)
 (hbig : (k + j) * bytes ≤ 140737488355328) (h63 : k + j ≤ 9223372036854775807)
 (h : ∀ v', G n w0 S ((d, v') :: l) (que e sz v' (k + j) (cs ++ news) :: r) K) : G n w0 S l m (fun a w => Oper.wp P ⟨some d, .call ⟨.builtin .append, #[s, x], #[t, t]⟩, ty, pos, after, g⟩ a w K Q) := G.eff rfl hn fun a w ha hw => by
 obtain ⟨i, hi1, hi2⟩ := Option.map_eq_some_iff.1 hi
 have hi3 : i.zero.map (·.cells.size) = some sz := congrArg Prod.fst hi2
 have hi4 : i.size = sz := congrArg (fun p => p.2.1) hi2
 have hi5 : i.bytes = bytes := congrArg (fun p => p.2.2) hi2
 obtain ⟨z, hz, hz2⟩ := Option.map_eq_some_iff.1 hi3
 have hsz' : 0 < sz := by simpa using hsz
 have hw' := hw.sel hsel
 have run : ∀ v' w', (Builtin.append_ #[t, t] ty #[v, .slice (some ⟨b, off, none⟩) j cap]).run P w = .ok v' w' → (execOp a.eval ⟨some d, .call ⟨.builtin .append, #[s, x], #[t, t]⟩, ty, pos, after, g⟩).run P w = .ok (.value v') w' := fun v' w' hr => by
  simp only [execOp, resolve, invoke, builtin, Sem.run_bind, Sem.run_pure, Result.andThen_ok, List.map_toArray, List.map_cons, List.map_nil, ha.eval hs, ha.eval hx, hr]
 have hnw : ∀ i u, news[i]? = some u → w.cell? ((⟨b, off, none⟩ : Addr).add i) = some u := fun i u hu => by
  rw [addr_mid]
  exact hnews w hw i u hu
 -- a row that was made now, in the place of the old one
 have grown : ∀ {vv : Value} {v' : Value} {w' : World}, w'.ownsRow w.heap.size e sz v' (k + j) (cs ++ news) → w.grownBy w' none → Hp w0 S w' (que e sz v' (k + j) (cs ++ news) :: r) := fun {vv v' w'} ho hg => by
  refine Hp.turn (p := [que e sz v k cs]) (p' := [que e sz v' (k + j) (cs ++ news)]) hw' ⟨⟨hg.os, hg.tape, hg.output, hg.size, fun k hk _ => hg.block k hk (by simp)⟩, fun c hc => ?_, fun c hc b hb => ?_, by simp⟩
  ·obtain rfl : c = _ := by simpa using hc
   refine ⟨ho.1, ?_⟩
   rcases ho.2 with h0 | ⟨g', cap', cur, rfl, _, hg', hc', hm', hs', ht'⟩
   ·exact .inl h0
   refine .inr ⟨g', cap', [], cur.toList.drop ((k + j) * sz), rfl, hc', by unfold maxLen at hm'; omega, ?_, ?_⟩
   ·rw [List.length_drop, Array.length_toList, hs', Nat.sub_mul]
    exact Nat.le_refl _
   rw [List.nil_append, ← ht', List.take_append_drop]
   simpa using hg'
  obtain rfl : c = _ := by simpa using hc
  exact ⟨.inr (ho.lt b hb).1, (ho.lt b hb).2⟩
 have hq := hw'.holds _ (List.mem_cons_self ..)
 obtain ⟨hlen, ⟨rfl, rfl⟩ | ⟨g', c', pre, sp, rfl, hkc, hcm, hsp, hg'⟩⟩ := hq
 ·have hcs : cs = [] := List.eq_nil_of_length_eq_zero (by simpa using hlen)
  subst hcs
  obtain ⟨v', w', hr, h2, h3, _⟩ := run_append_own (P := P) w w.heap.size t ty e i z sz bytes hu hi1 hz hi4 hi5 hz2 hsz' _ 0 [] (World.ownsRow_nil w _ e sz) ⟨b, off, none⟩ j cap news hl hnw h1 (by unfold maxLen; omega) hbig (Nat.le_refl _)
  exact ⟨_, _, _, run _ _ hr, grown (vv := v') h2 h3, h v'⟩
 have hcell : ∀ q u, (pre ++ (cs ++ sp))[q]? = some u → w.cell? ⟨g', q, none⟩ = some u := fun q u hu => by
  rw [cell_of_row _ _ _ _ _ _ hg', List.getElem?_toArray, hu]
 by_cases hroom : k + j ≤ c'
 ·have hfit : news.length ≤ sp.length := by
   rw [hl]
   exact Nat.le_trans (Nat.mul_le_mul_right _ (by omega)) hsp
  have hin : ∀ q, q < news.length → ∃ u, (pre ++ (cs ++ sp))[pre.length + k * sz + q]? = some u := fun q hq => by
   refine ⟨_, List.getElem?_eq_getElem ?_⟩
   simp only [List.length_append]
   omega
  subst hi4
  have hr := run_append_room_cells (P := P) w t ty e i hu hi1 g' pre.length k c' ⟨b, off, none⟩ j cap news hl hnw h1 hroom (fun q hq => by
   obtain ⟨u, hu⟩ := hin q hq
   rw [hcell _ u hu]; rfl) (fun q hq => by
   obtain ⟨u, hu⟩ := hin q hq
   exact frozen_of_row _ _ _ _ _ hg')
  refine ⟨_, _, que e i.size (.slice (some ⟨g', pre.length, none⟩) (k + j) c') (k + j) (cs ++ news) :: r, run _ _ hr, ?_, h _⟩
  have hb0 : Hp w0 S w (blk g' e (pre ++ (cs ++ sp)) :: r) := hp_view (c := que e i.size (.slice (some ⟨g', pre.length, none⟩) k c') k cs) (d := blk g' e (pre ++ (cs ++ sp))) hw' (fun _ => hg') fun b hb => by
   obtain rfl : b = g' := hb
   rfl
  have hb1 := setCells_blk news (pre ++ (cs ++ sp)) (pre.length + k * i.size) hb0
  have e1 : putN (pre ++ (cs ++ sp)) (pre.length + k * i.size) news = pre ++ ((cs ++ news) ++ sp.drop news.length) := by
   have := putN_mid news (pre ++ cs) (sp.take news.length) (sp.drop news.length) (by rw [List.length_take]; omega)
   rw [List.take_append_drop, List.length_append, hlen] at this
   simpa using this
  rw [e1] at hb1
  refine hp_view (c := blk g' e (pre ++ ((cs ++ news) ++ sp.drop news.length))) (d := que e i.size (.slice (some ⟨g', pre.length, none⟩) (k + j) c') (k + j) (cs ++ news)) hb1 (fun hh => ⟨by rw [List.length_append, hlen, hl, Nat.add_mul], .inr ⟨g', c', pre, _, rfl, hroom, hcm, ?_, hh⟩⟩) fun b hb => ?_
  ·rw [List.length_drop, hl, show c' - (k + j) = (c' - k) - j from by omega, Nat.sub_mul]
   omega
  have : some g' = some b := hb
  injection this with this
  exact this.symm
 obtain ⟨v', w', hr, h2, h3⟩ := run_append_arg_grows (P := P) w t ty e i z sz bytes hu hi1 hz hi4 hi5 hz2 hsz' ⟨g', pre.length, none⟩ k c' cs hlen (fun q u hu => by
  rw [addr_mid]
  refine hcell _ u ?_
  rw [List.getElem?_append_right (by omega), Nat.add_sub_cancel_left, List.getElem?_append_left (List.getElem?_eq_some_iff.1 hu).1]
  exact hu) ⟨b, off, none⟩ j cap news hl hnw (by omega) (by unfold maxLen; omega) hbig
 exact ⟨_, _, _, run _ _ hr, grown (vv := v') h2 h3, h v'⟩
end
end Go.Proofs.YtcgacpmippdkeaaGreat
set_option maxRecDepth 100000
namespace Go.Proofs.YtcgacpmippdkeaaGreat
section
variable {P : Program} {ops : Array Oper} {Q : Exit → Act → World → Prop}
def nrm (Q : Exit → Act → World → Prop) (N : Act → World → Prop) : Exit → Act → World → Prop
 | .normal => N
 | e => Q e
theorem upon_nrm {P : Program} {o : Oper} {a : Act} {w : World} {K : Act → World → Prop} {N : Act → World → Prop} (h : o.wp P a w K (nrm Q N)) : o.wp P a w K Q := by
 unfold Oper.wp at *
 generalize (execOp a.eval o).run P w = r at *
 cases r with
 | ok n w' => cases n <;> simp only [Oper.upon] at h ⊢ <;> exact h
 | halt x w' => cases x <;> simp only [Oper.upon] at h ⊢ <;> exact h
theorem wpOp_nrm {i : Nat} {a : Act} {w : World} {K : Act → World → Prop} {N : Act → World → Prop} (h : wpOp P ops (nrm Q N) i K a w) : wpOp P ops Q i K a w := by
 unfold wpOp at *
 split
 ·simpa [*] using h
 rename_i o ho
 simp only [ho] at h
 split
 ·rename_i hw
  simp only [hw, if_true] at h
  exact h.imp upon_nrm id
 rename_i hw
 simp only [hw] at h
 exact h
def aheadB (ops : Array Oper) : Bool := (List.range ops.size).all fun j => ((ops[j]?).map (·.after.toList.all fun e => !Region.binds .any e || Nat.blt e.on j)).getD true
def edgB (ops : Array Oper) (k i : Nat) : Bool := ((ops[k]?).map (·.after.toList.any fun e => Region.binds .any e && Nat.beq e.on i)).getD false
def waitB (ops : Array Oper) (but : List Nat) : Nat → Nat → Nat → Bool
 | 0, k, i => edgB ops k i
 | d + 1, k, i => edgB ops k i || (List.range ops.size).any fun q => !but.contains q && edgB ops k q && waitB ops but d q i
def lastB (ops : Array Oper) (k : Nat) (but : List Nat) : Bool := (List.range ops.size).all fun i => Nat.beq i k || but.contains i || waitB ops but 12 k i
theorem edgB_spec {k i : Nat} (h : edgB ops k i = true) : ∃ o e, ops[k]? = some o ∧ e ∈ o.after ∧ Region.binds .any e = true ∧ e.on = i := by
 unfold edgB at h
 cases ho : ops[k]? with
 | none => rw [ho] at h; cases h
 | some o =>
  rw [ho] at h
  obtain ⟨e, he, h2⟩ := List.any_eq_true.1 (show o.after.toList.any _ = true from h)
  rw [Bool.and_eq_true] at h2
  exact ⟨o, e, rfl, by simpa using he, h2.1, Nat.eq_of_beq_eq_true h2.2⟩
def Cl (ops : Array Oper) (but : List Nat) (listed : Array Bool) : Prop := ∀ q o, q ∉ but → listed.getD q false = true → ops[q]? = some o → ∀ e ∈ o.after, Region.binds .any e = true → listed.getD e.on false = true
theorem Cl.next {but : List Nat} {listed : Array Bool} {i : Nat} (h : Cl ops but listed) (hi : i ∈ Region.ready .any ops listed) : Cl ops but (listed.setIfInBounds i true) := fun q o hq hl ho e he hb => by
 refine getD_set_true ?_
 by_cases hiq : i = q
 ·subst hiq
  obtain ⟨-, o', ho', hall⟩ := mem_ready.1 hi
  rw [ho] at ho'
  cases ho'
  exact hall e he hb
 rw [getD_set_ne false hiq] at hl
 exact h q o hq hl ho e he hb
theorem all_listed {listed : Array Bool} (hE : aheadB ops = true) (hr : Region.ready .any ops listed = []) : ∀ j, j < ops.size → listed.getD j true = true := by
 intro j
 induction j using Nat.strongRecOn with
 | ind j ih =>
  intro hj
  cases hl : listed.getD j true with
  | true => rfl
  | false =>
   exfalso
   have : j ∈ Region.ready .any ops listed := mem_ready.2 ⟨hl, ops[j], Array.getElem?_eq_getElem hj, fun e he hb => by
    have h1 := List.all_eq_true.1 hE j (List.mem_range.2 hj)
    rw [Array.getElem?_eq_getElem hj] at h1
    have h2 := List.all_eq_true.1 (show ops[j].after.toList.all (fun e => !Region.binds .any e || Nat.blt e.on j) = true from h1) e (by simpa using he)
    rw [hb] at h2
    have h3 : e.on < j := by simpa using h2
    have h4 := ih e.on h3 (by omega)
    cases hx : listed[e.on]? with
    | none =>
     exfalso
     have hsz : listed.size ≤ e.on := Array.getElem?_eq_none_iff.1 hx
     rw [show listed.getD j true = true from by simp [Array.getElem?_eq_none (show listed.size ≤ j by omega)]] at hl
     cases hl
    | some y =>
     simp [hx] at h4 ⊢
     exact h4⟩
   rw [hr] at this
   cases this
def AllL (ops : Array Oper) : Prop := ∀ listed : Array Bool, ops.size ≤ listed.size → Region.ready .any ops listed = [] → ∀ j, j < ops.size → listed.getD j true = true
theorem AllL.of_ahead (hE : aheadB ops = true) : AllL ops := fun _ _ hr => all_listed hE hr
theorem wait_listed {listed : Array Bool} {but : List Nat} {i : Nat} (hC : Cl ops but listed) : ∀ (d q : Nat) (o : Oper), ops[q]? = some o → (∀ e ∈ o.after, Region.binds .any e = true → listed.getD e.on false = true) → waitB ops but d q i = true → listed.getD i false = true := by
 have h1 : ∀ (q : Nat) (o : Oper), ops[q]? = some o → (∀ e ∈ o.after, Region.binds .any e = true → listed.getD e.on false = true) → edgB ops q i = true → listed.getD i false = true := fun q o ho hall h => by
  obtain ⟨o', e, ho', he, h2, h3⟩ := edgB_spec h
  rw [ho] at ho'
  cases ho'
  exact h3 ▸ hall e he h2
 intro d
 induction d with
 | zero => exact h1
 | succ d ih =>
  intro q o ho hall h
  rcases Bool.or_eq_true_iff.1 (show (edgB ops q i || _) = true from h) with h | h
  ·exact h1 q o ho hall h
  obtain ⟨j, -, h2⟩ := List.any_eq_true.1 h
  simp only [Bool.and_eq_true] at h2
  obtain ⟨o', e, ho', he, h3, h4⟩ := edgB_spec h2.1.2
  rw [ho] at ho'
  cases ho'
  cases hj : ops[j]? with
  | none =>
   have h5 := h2.2
   cases d with
   | zero => simp [waitB, edgB, hj] at h5
   | succ d => simp [waitB, edgB, hj] at h5
  | some oj => exact ih j oj hj (hC j oj (by simpa using h2.1.1) (h4 ▸ hall e he h3) hj) h2.2
theorem last_alone {listed : Array Bool} {k : Nat} {but : List Nat} (hk : lastB ops k but = true) (hb : ∀ i ∈ but, listed.getD i true = true) (hC : Cl ops but listed) (h : k ∈ Region.ready .any ops listed) : Region.ready .any ops (listed.setIfInBounds k true) = [] := by
 obtain ⟨h0, o, ho, hall⟩ := mem_ready.1 h
 refine List.eq_nil_iff_forall_not_mem.2 fun j hj => ?_
 obtain ⟨g0, oj, hoj, -⟩ := mem_ready.1 hj
 have hjs : j < ops.size := (Array.getElem?_eq_some_iff.1 hoj).1
 have hks : k < listed.size := by
  rcases Nat.lt_or_ge k listed.size with h' | h'
  ·exact h'
  simp [Array.getElem?_eq_none h'] at h0
 have hjk : j ≠ k := by
  rintro rfl
  simp [hks] at g0
 rw [getD_set_ne true (Ne.symm hjk)] at g0
 have h1 := List.all_eq_true.1 hk j (List.mem_range.2 hjs)
 simp only [Bool.or_eq_true] at h1
 have fin : listed.getD j false = true → False := fun h3 => by
  cases hx : listed[j]? with
  | none => simp [hx] at h3
  | some y => simp [hx] at h3 g0; rw [h3] at g0; cases g0
 rcases h1 with (h1 | h1) | h1
 ·exact hjk (Nat.eq_of_beq_eq_true h1)
 ·rw [hb j (by simpa using h1)] at g0
  cases g0
 exact fin (wait_listed hC 12 k o ho hall h1)
theorem wpAny_last {k : Nat} {but : List Nat} (hE : AllL ops) (hk : lastB ops k but = true) (hks : k < ops.size) : ∀ (fuel : Nat) (listed : Array Bool) (a : Act) (w : World), ops.size ≤ listed.size → (∀ i ∈ but, listed.getD i true = true) → Cl ops but listed → listed.getD k true = false →
 wpAny P .any ops (nrm Q (wpOp P ops Q k (Q .normal))) fuel (listed.setIfInBounds k true) a w → wpAny P .any ops Q (fuel + 1) listed a w := by
 intro fuel
 induction fuel with
 | zero =>
  intro listed a w hsz hb hC h0 H
  refine ⟨fun hr => ?_, fun i hi => ?_⟩
  ·rw [hE listed hsz hr k hks] at h0; cases h0
  by_cases hik : i = k
  ·subst hik
   exact wpOp_mono (fun a w h => ⟨H.1, h⟩) H.2
  have := ready_mono hi hik
  rw [H.1] at this
  cases this
 | succ fuel ih =>
  intro listed a w hsz hb hC h0 H
  refine ⟨fun hr => ?_, fun i hi => ?_⟩
  ·rw [hE listed hsz hr k hks] at h0; cases h0
  by_cases hik : i = k
  ·subst hik
   have hr := last_alone hk hb hC hi
   exact wpOp_mono (fun a w h => ⟨fun _ => h, fun j hj => by rw [hr] at hj; cases hj⟩) (H.1 hr)
  have h1 := wpOp_nrm (H.2 i (ready_mono hi hik))
  refine wpOp_mono (fun a w h => ih _ a w (by simpa using hsz) (fun q hq => ?_) (hC.next hi) ?_ ?_) h1
  ·by_cases hiq : i = q
   ·subst hiq
    have := hb i hq
    cases hx : listed[i]? with
    | none => simp [hx, Array.getElem?_eq_none_iff.1 hx]
    | some y =>
     have hlt := (Array.getElem?_eq_some_iff.1 hx).1
     simp [hlt]
   rw [getD_set_ne true hiq]; exact hb q hq
  ·rw [getD_set_ne true hik]; exact h0
  rw [Array.setIfInBounds_comm _ _ hik]
  exact h
def tailQ (P : Program) (ops : Array Oper) : List Nat → (Exit → Act → World → Prop) → Exit → Act → World → Prop
 | [], Q => Q
 | k :: ks, Q => tailQ P ops ks (nrm Q (wpOp P ops Q k (Q .normal)))
def setsT : List Nat → Array Bool → Array Bool
 | [], l => l
 | k :: ks, l => setsT ks (l.setIfInBounds k true)
def tailB (ops : Array Oper) : List Nat → List Nat → Bool
 | [], _ => true
 | k :: ks, but => lastB ops k but && Nat.blt k ops.size && !but.contains k && tailB ops ks (k :: but)
theorem wpAny_tail (hE : AllL ops) : ∀ (ks : List Nat) (but : List Nat) (Q : Exit → Act → World → Prop) (fuel : Nat) (listed : Array Bool) (a : Act) (w : World), tailB ops ks but = true → listed.size = ops.size → (∀ i, i < ops.size → (listed.getD i true = true ↔ i ∈ but)) →
 wpAny P .any ops (tailQ P ops ks Q) fuel (setsT ks listed) a w → wpAny P .any ops Q (fuel + ks.length) listed a w
 | [], _, _, _, _, _, _, _, _, _, h => h
 | k :: ks, but, Q, fuel, listed, a, w, hT, hsz, hb, h => by
  unfold tailB at hT
  simp only [Bool.and_eq_true] at hT
  obtain ⟨⟨⟨h1, h2⟩, h3⟩, h4⟩ := hT
  have hks : k < ops.size := by simpa using h2
  have hkb : k ∉ but := by simpa using h3
  have h0 : listed.getD k true = false := by
   cases hx : listed.getD k true with
   | false => rfl
   | true => exact absurd ((hb k hks).1 hx) hkb
  refine wpAny_last hE h1 hks _ listed a w (by omega) (fun i hi => ?_) (fun q o hq hl ho => ?_) h0 ?_
  ·rcases Nat.lt_or_ge i ops.size with hlt | hge
   ·exact (hb i hlt).2 hi
   simp [Array.getElem?_eq_none (show listed.size ≤ i by omega)]
  ·have hqs : q < ops.size := (Array.getElem?_eq_some_iff.1 ho).1
   refine absurd ((hb q hqs).1 ?_) hq
   simpa [show q < listed.size by omega] using hl
  refine wpAny_tail hE ks (k :: but) _ fuel _ a w h4 (by simp [hsz]) (fun i hi => ?_) h
  by_cases hki : k = i
  ·subst hki
   simp [hsz, hks]
  rw [getD_set_ne true hki, hb i hi]
  simp [Ne.symm hki]
def rmsB : List Nat → List Nat → Nat → Nat → Bool
 | [], [], r, r' => Nat.beq r r'
 | k :: ks, r1 :: rs, r, r' => rmB r k r1 && rmsB ks rs r1 r'
 | _, _, _, _ => false
theorem rmsB_lst : ∀ {ks rs : List Nat} {r r' nn : Nat} {listed : Array Bool}, rmsB ks rs r r' = true → Lst listed r nn → Lst (setsT ks listed) r' nn
 | [], [], _, _, _, _, h, hl => by
  obtain rfl := Nat.eq_of_beq_eq_true h
  exact hl
 | k :: ks, r1 :: rs, _, _, _, _, h, hl => by
  unfold rmsB at h
  rw [Bool.and_eq_true] at h
  exact rmsB_lst (ks := ks) h.2 (hl.tk' h.1)
end
section
variable {P : Program} {n : Nat} {w0 : World} {S : Nat → Prop} {l : Fr} {m mS r : List Ck} {Q : Exit → Act → World → Prop} {K : Act → World → Prop} {ops : Array Oper} {nn rem : Nat}
theorem G.drawE {id : Nat} {p : List Ck} (deps frs ks rs : List Nat) (fuel : Nat) (hm : P.follows .mixedOrders = true) (hT : Tab ops deps frs nn) (hE : (aheadB ops && tailB ops ks []) = true) (hf : Nat.beq (fuel + ks.length) nn = true) (hr : rmsB ks rs (2 ^ nn - 1) rem = true) (hs : Sub m p mS)
 (h : Tab ops deps frs nn → G n w0 S l m (GA P ops (tailQ P ops ks Q) (fun w => Hp w0 S w mS) nn fuel rem)) : G n w0 S l m ((Code.region id ops true).wp P Q) := fun a w ha hw => by
 rw [Bool.and_eq_true] at hE
 refine wp_region_any hm ?_
 have hsz := hT.size
 have := wpAny_tail (P := P) (AllL.of_ahead hE.1) ks [] Q fuel (Array.replicate ops.size false) a w.drew hE.2 (by simp) (fun i hi => by simp [hi]) (wpAny_of_held _ _ _ _ (h hT a w.drew ha hw.drew _ (by rw [hsz]; exact rmsB_lst hr (Lst.start nn))))
 rw [Nat.eq_of_beq_eq_true hf, ← hsz] at this
 exact this
theorem G.drawF {id i d : Nat} {p : List Ck} {oi : Oper} {x : Operand} {v : Value} (deps frs ks rs : List Nat) (fuel rem0 : Nat) (hm : P.follows .mixedOrders = true) (hT : Tab ops deps frs nn) (hi : ops[i]? = some oi) (ho : oi.op = .move x) (hx : ev l x = some v) (hd : oi.dst = some d) (hn : Nat.blt d n = true) (hQ : ∀ c a w, Q (.panic c) (a.put oi.dst v) w → Q (.panic c) a w) (hw : wantB ops l oi = some true)
 (hk : tkB deps frs (2 ^ nn - 1) i rem0 = true) (hE : (aheadB ops && tailB ops ks [i]) = true) (hf : Nat.beq (fuel + ks.length + 1) nn = true) (hr : rmsB ks rs rem0 rem = true) (hs : Sub m p mS)
 (h : Tab ops deps frs nn → G n w0 S ((d, v) :: l) m (GA P ops (tailQ P ops ks Q) (fun w => Hp w0 S w mS) nn fuel rem)) : G n w0 S l m ((Code.region id ops true).wp P Q) := fun a w ha hw' => by
 rw [Bool.and_eq_true] at hE
 refine wp_region_any hm ?_
 have hsz := hT.size
 have hil : i < ops.size := (Array.getElem?_eq_some_iff.1 hi).1
 obtain ⟨dd, f, h1, h2, h3, h4, h5, h6⟩ := tkB_spec hk
 have hrd : (Region.ready .any ops (Array.replicate ops.size false)).contains i = true := by
  rw [hT.ready (by rw [hsz]; exact Lst.start nn)]
  have := mem_readyGo (i := 0) h1 h3 (by rw [Nat.zero_add]; exact h5)
  rw [Nat.zero_add] at this
  simpa using this
 have hy : Yields P ops oi v a := .inl ⟨ha.wanted hw, fun w => by
  have e : a.eval x = v := ha.eval hx
  unfold execOp
  rw [ho]
  show (pure (Next.value (a.eval x)) : Sem Next).run P w = _
  rw [e]
  rfl⟩
 have key := wpAny_tail (P := P) (AllL.of_ahead hE.1) ks [i] Q fuel ((Array.replicate ops.size false).setIfInBounds i true) (a.put oi.dst v) w.drew hE.2 (by simp) (fun j hj => by
  by_cases hij : i = j
  ·subst hij
   simp [hil]
  rw [getD_set_ne true hij]
  simp [hj, Ne.symm hij]) (wpAny_of_held _ _ _ _ (by rw [hd]; exact h hT _ w.drew (ha.put hn v) hw'.drew _ (rmsB_lst hr (by rw [hsz]; exact (Lst.start nn).tk' h6))))
 have := wpAny_take hi hT.sel (hT.free (by rw [hsz]; exact Lst.start nn) hi h2 h4) hrd hQ hy key
 rw [Nat.eq_of_beq_eq_true hf, ← hsz] at this
 exact this
theorem tailQ_snoc {k : Nat} : ∀ (ks : List Nat) (Q : Exit → Act → World → Prop), tailQ P ops (ks ++ [k]) Q = nrm (tailQ P ops ks Q) (wpOp P ops (tailQ P ops ks Q) k (tailQ P ops ks Q .normal))
 | [], _ => rfl
 | a :: ks, Q => tailQ_snoc ks _
theorem G.tailS {kks : List Nat} (ks : List Nat) (k : Nat) (e : kks = ks ++ [k]) (h : G n w0 S l m (wpOp P ops (tailQ P ops ks Q) k (tailQ P ops ks Q .normal))) : G n w0 S l m (tailQ P ops kks Q .normal) := by
 subst e
 rw [tailQ_snoc]
 exact h
theorem G.tailD (h : G n w0 S l m (Q .normal)) : G n w0 S l m (tailQ P ops [] Q .normal) := h
end
end Go.Proofs.YtcgacpmippdkeaaGreat
namespace Go.Proofs.YtcgacpmippdkeaaGreat
open Go.RowKit
set_option maxHeartbeats 4000000 in
theorem sameNote_tr {Pv1 Pv2 Pv3 Pu1 Pu2 Pu3 : Nat → Prop} (k k' : Int) (v1 v2 v3 u1 u2 u3 : Value) (ns ns' : List Int) (ids ids' : List (List UInt8)) (bs bs' : List UInt8) : Tr Tryz.prog 17 #[.agg #[.int .i64 k, v1, v2, v3], .agg #[.int .i64 k', u1, u2, u3]] [slc rInt Pv1 v1 ns, slc rID Pv2 v2 ids, slc rByte Pv3 v3 bs, slc rInt Pu1 u1 ns', slc rID Pu2 u2 ids', slc rByte Pu3 u3 bs'] [] (T0 (.bool (decide (k = k' ∧ ns = ns' ∧ ids = ids' ∧ bs = bs')))) := by
 refine Tr.of (l := [(0, .agg #[.int .i64 k, v1, v2, v3]), (1, .agg #[.int .i64 k', u1, u2, u3])]) Tryz.func17 rfl (n := 31) rfl (.cons rfl (.cons rfl .nil)) (fun w0 hro => ?_)
 obtain ⟨ha, hb, hc, hd, he, hf⟩ := ro6 hro
 have oa := Ro.open ha
 have ob := Ro.open hb
 have oc := Ro.open hc
 have od := Ro.open hd
 have oe := Ro.open he
 have og := Ro.open hf
 obtain ⟨aa, ca, qa, oa, rfl, -⟩ := oa
 obtain ⟨ab, cb, qb, ob, rfl, -⟩ := ob
 obtain ⟨ac, cc, qc, oc, rfl, -⟩ := oc
 obtain ⟨ad, cd, qd, od, rfl, -⟩ := od
 obtain ⟨ae, ce, qe, oe, rfl, -⟩ := oe
 obtain ⟨ag, cg, qg, og, rfl, -⟩ := og
 refine go [9,10,60,3] ?_
 intro b2
 refine go [60,3] ?_
 intro b3
 refine go [1,7,8,9,10,2,3,0,2,4,2,3,0,2,4,2,13,0] ?_
 refine G.partP (t := 10) rfl (fun h10 => ?_) (fun h10 => ?_)
 ·refine go [3,3,1,3,4,3,3,1,3,4] ?_
  refine G.want rfl rfl rfl (G.cR rfl rfl rfl rfl Tryz.func21 rfl rfl (may2 Y1 Y1) (sameInts_tr _ _ _ _) ?_)
  refine go [2,2,0] ?_
  refine G.partP (t := 17) rfl (fun h17 => ?_) (fun h17 => ?_)
  ·refine go [3,3,2,3,4,3,3,2,3,4] ?_
   refine G.want rfl rfl rfl (G.cR rfl rfl rfl rfl Tryz.func32 rfl rfl (may2 Y1 Y1) (sameIDs_tr _ _ _ _) ?_)
   refine go [2,2,0] ?_
   refine G.partP (t := 24) rfl (fun h24 => ?_) (fun h24 => ?_)
   ·refine go [3,3,3,3,4,3,3,3,3,4] ?_
    refine G.want rfl rfl rfl (G.cR rfl rfl rfl rfl Tryz.func33 rfl rfl (may2 Y1 Y1) (same_tr _ _ _ _) ?_)
    refine go [2,2,1,7,8,11] ?_
    exact G.done1 rfl rfl .nil ⟨congrArg Value.bool (by simp [*]), rfl⟩
   refine go [4,4,4,4,4,2,2,1,7,8,11] ?_
   exact G.done1 rfl rfl .nil ⟨congrArg Value.bool (by simp [*]), rfl⟩
  refine go [4,4,4,4,4,2,2,0,4,4,4,4,4,2,2,1,7,8,11] ?_
  exact G.done1 rfl rfl .nil ⟨congrArg Value.bool (by simp [*]), rfl⟩
 refine go [4,4,4,4,4,2,2,0,4,4,4,4,4,2,2,0,4,4,4,4,4,2,2,1,7,8,11] ?_
 exact G.done1 rfl rfl .nil ⟨congrArg Value.bool (by simp [*]), rfl⟩
set_option maxHeartbeats 4000000 in
theorem longNote_tr {Pv1 Pv2 Pv3 : Nat → Prop} (k : Int) (v1 v2 v3 : Value) (ns : List Int) (ids : List (List UInt8)) (bs : List UInt8) : Tr Tryz.prog 13 #[.agg #[.int .i64 k, v1, v2, v3]] [slc rInt Pv1 v1 ns, slc rID Pv2 v2 ids, slc rByte Pv3 v3 bs] [] (T0 (.bool (decide (200 < ns.length ∨ 40 < ids.length ∨ 2000 < bs.length)))) := by
 refine Tr.of (l := [(0, .agg #[.int .i64 k, v1, v2, v3])]) Tryz.func13 rfl (n := 19) rfl (.cons rfl .nil) (fun w0 hro => ?_)
 obtain ⟨hA, hB, hC⟩ := ro3 hro
 have oa := Ro.open hA
 have ob := Ro.open hB
 have oc := Ro.open hC
 obtain ⟨aa, ca, qa, oa, rfl, -⟩ := oa
 obtain ⟨ab, cb, qb, ob, rfl, -⟩ := ob
 obtain ⟨ac, cc, qc, oc, rfl, -⟩ := oc
 refine go [9,10,60,3] ?_
 intro b1
 refine go [1,7,8,9,10,2,3,1,2,4,2,5,2,10,0] ?_
 refine G.partP (t := 7) rfl (fun h7 => ?_) (fun h7 => ?_)
 ·refine go [4,4,4,4,2,2,0,4,4,4,4,2,2,1,7,8,11] ?_
  exact G.done1 rfl rfl .nil ⟨congrArg Value.bool (by first | exact (decide_eq_true (by omega)).symm | (rw [decide_eq_decide]; omega)), rfl⟩
 refine go [3,3,2,3,4,3,5,3,10,2,2,0] ?_
 refine G.partP (t := 13) rfl (fun h13 => ?_) (fun h13 => ?_)
 ·refine go [4,4,4,4,2,2,1,7,8,11] ?_
  exact G.done1 rfl rfl .nil ⟨congrArg Value.bool (by first | exact (decide_eq_true (by omega)).symm | (rw [decide_eq_decide]; omega)), rfl⟩
 refine go [3,3,3,3,4,3,5,3,10,2,2,1,7,8,11] ?_
 exact G.done1 rfl rfl .nil ⟨congrArg Value.bool (by first | exact (decide_eq_true (by omega)).symm | (rw [decide_eq_decide]; omega)), rfl⟩
structure Sh where
 name : List UInt8
 n : Int
 ns : Int
 i : Int
 is : Int
 b : Int
 bs : Int
def shTab : List Sh := [⟨[98, 101, 103, 105, 110], 3, 3, 0, 0, 0, 0⟩, ⟨[112, 97, 114, 116], 1, 1, 0, 0, 1, 1000⟩, ⟨[113, 117, 101, 114, 121], 0, 0, 1, 16, 0, 0⟩, ⟨[103, 105, 118, 101], 0, 0, 1, 1, 1, 1024⟩, ⟨[99, 111, 109, 109, 105, 116], 0, 0, 0, 0, 0, 0⟩, ⟨[97, 98, 111, 114, 116], 0, 0, 0, 0, 0, 0⟩, ⟨[108, 105, 115, 116], 0, 0, 0, 0, 0, 0⟩, ⟨[114, 101, 115, 116, 111, 114, 101], 1, 1, 0, 0, 0, 0⟩, ⟨[109, 111, 114, 101], 1, 1, 0, 0, 0, 0⟩, ⟨[102, 101, 116, 99, 104], 0, 0, 1, 16, 0, 0⟩, ⟨[118, 101, 114, 105, 102, 121], 1, 1, 0, 0, 0, 0⟩, ⟨[102, 111, 114, 103, 101, 116], 1, 1, 0, 0, 0, 0⟩, ⟨[112, 114, 117, 110, 101], 0, 0, 0, 0, 0, 0⟩, ⟨[117, 115, 97, 103, 101], 0, 0, 0, 0, 0, 0⟩, ⟨[112, 105, 110, 103], 1, 1, 0, 0, 0, 0⟩, ⟨[114, 101, 97, 100, 121], 1, 1, 0, 0, 0, 0⟩, ⟨[104, 97, 118, 101], 1, 16, 0, 0, 0, 0⟩, ⟨[116, 111, 111, 107], 0, 0, 1, 1, 0, 0⟩, ⟨[100, 111, 110, 101], 1, 1, 0, 0, 0, 0⟩, ⟨[102, 97, 105, 108], 2, 2, 0, 0, 0, 0⟩, ⟨[115, 110, 97, 112, 115], 0, 128, 0, 0, 0, 0⟩, ⟨[112, 105, 101, 99, 101], 2, 2, 0, 0, 0, 1000⟩, ⟨[99, 104, 117, 110, 107], 0, 0, 1, 1, 1, 1024⟩, ⟨[99, 111, 117, 110, 116], 2, 2, 0, 0, 0, 0⟩]
def shM (k : Int) : Option Sh := if 1 ≤ k ∧ k ≤ 24 then shTab[(k - 1).toNat]? else none
def rowS (s : Sh) : List Value := [.string (sB s.name), .int .i64 s.n, .int .i64 s.ns, .int .i64 s.i, .int .i64 s.is, .int .i64 s.b, .int .i64 s.bs]
def sh0 : Sh := ⟨[], 0, 0, 0, 0, 0, 0⟩
def shD (k : Int) : Sh := (shM k).getD sh0
def shCells : List Value := [.string ⟨#[]⟩, .int .i64 0, .int .i64 0, .int .i64 0, .int .i64 0, .int .i64 0, .int .i64 0, .string ⟨#[98, 101, 103, 105, 110]⟩, .int .i64 3, .int .i64 3, .int .i64 0, .int .i64 0, .int .i64 0, .int .i64 0, .string ⟨#[112, 97, 114, 116]⟩, .int .i64 1, .int .i64 1, .int .i64 0, .int .i64 0, .int .i64 1, .int .i64 1000, .string ⟨#[113, 117, 101, 114, 121]⟩, .int .i64 0, .int .i64 0, .int .i64 1, .int .i64 16, .int .i64 0, .int .i64 0, .string ⟨#[103, 105, 118, 101]⟩, .int .i64 0, .int .i64 0, .int .i64 1, .int .i64 1, .int .i64 1, .int .i64 1024, .string ⟨#[99, 111, 109, 109, 105, 116]⟩, .int .i64 0, .int .i64 0, .int .i64 0, .int .i64 0, .int .i64 0, .int .i64 0, .string ⟨#[97, 98, 111, 114, 116]⟩, .int .i64 0, .int .i64 0, .int .i64 0, .int .i64 0, .int .i64 0, .int .i64 0, .string ⟨#[108, 105, 115, 116]⟩, .int .i64 0, .int .i64 0, .int .i64 0, .int .i64 0, .int .i64 0, .int .i64 0, .string ⟨#[114, 101, 115, 116, 111, 114, 101]⟩, .int .i64 1, .int .i64 1, .int .i64 0, .int .i64 0, .int .i64 0, .int .i64 0, .string ⟨#[109, 111, 114, 101]⟩, .int .i64 1, .int .i64 1, .int .i64 0, .int .i64 0, .int .i64 0, .int .i64 0, .string ⟨#[102, 101, 116, 99, 104]⟩, .int .i64 0, .int .i64 0, .int .i64 1, .int .i64 16, .int .i64 0, .int .i64 0, .string ⟨#[118, 101, 114, 105, 102, 121]⟩, .int .i64 1, .int .i64 1, .int .i64 0, .int .i64 0, .int .i64 0, .int .i64 0, .string ⟨#[102, 111, 114, 103, 101, 116]⟩, .int .i64 1, .int .i64 1, .int .i64 0, .int .i64 0, .int .i64 0, .int .i64 0, .string ⟨#[112, 114, 117, 110, 101]⟩, .int .i64 0, .int .i64 0, .int .i64 0, .int .i64 0, .int .i64 0, .int .i64 0, .string ⟨#[117, 115, 97, 103, 101]⟩, .int .i64 0, .int .i64 0, .int .i64 0, .int .i64 0, .int .i64 0, .int .i64 0, .string ⟨#[112, 105, 110, 103]⟩, .int .i64 1, .int .i64 1, .int .i64 0, .int .i64 0, .int .i64 0, .int .i64 0, .string ⟨#[114, 101, 97, 100, 121]⟩, .int .i64 1, .int .i64 1, .int .i64 0, .int .i64 0, .int .i64 0, .int .i64 0, .string ⟨#[104, 97, 118, 101]⟩, .int .i64 1, .int .i64 16, .int .i64 0, .int .i64 0, .int .i64 0, .int .i64 0, .string ⟨#[116, 111, 111, 107]⟩, .int .i64 0, .int .i64 0, .int .i64 1, .int .i64 1, .int .i64 0, .int .i64 0, .string ⟨#[100, 111, 110, 101]⟩, .int .i64 1, .int .i64 1, .int .i64 0, .int .i64 0, .int .i64 0, .int .i64 0, .string ⟨#[102, 97, 105, 108]⟩, .int .i64 2, .int .i64 2, .int .i64 0, .int .i64 0, .int .i64 0, .int .i64 0, .string ⟨#[115, 110, 97, 112, 115]⟩, .int .i64 0, .int .i64 128, .int .i64 0, .int .i64 0, .int .i64 0, .int .i64 0, .string ⟨#[112, 105, 101, 99, 101]⟩, .int .i64 2, .int .i64 2, .int .i64 0, .int .i64 0, .int .i64 0, .int .i64 1000, .string ⟨#[99, 104, 117, 110, 107]⟩, .int .i64 0, .int .i64 0, .int .i64 1, .int .i64 1, .int .i64 1, .int .i64 1024, .string ⟨#[99, 111, 117, 110, 116]⟩, .int .i64 2, .int .i64 2, .int .i64 0, .int .i64 0, .int .i64 0, .int .i64 0]
def refCells : List Value := [.string ⟨#[98, 101, 103, 105, 110]⟩, .int .i64 3, .int .i64 3, .int .i64 0, .int .i64 0, .int .i64 0, .int .i64 0, .string ⟨#[112, 97, 114, 116]⟩, .int .i64 1, .int .i64 1, .int .i64 0, .int .i64 0, .int .i64 1, .int .i64 1000, .string ⟨#[113, 117, 101, 114, 121]⟩, .int .i64 0, .int .i64 0, .int .i64 1, .int .i64 16, .int .i64 0, .int .i64 0, .string ⟨#[103, 105, 118, 101]⟩, .int .i64 0, .int .i64 0, .int .i64 1, .int .i64 1, .int .i64 1, .int .i64 1024, .string ⟨#[99, 111, 109, 109, 105, 116]⟩, .int .i64 0, .int .i64 0, .int .i64 0, .int .i64 0, .int .i64 0, .int .i64 0, .string ⟨#[97, 98, 111, 114, 116]⟩, .int .i64 0, .int .i64 0, .int .i64 0, .int .i64 0, .int .i64 0, .int .i64 0, .string ⟨#[108, 105, 115, 116]⟩, .int .i64 0, .int .i64 0, .int .i64 0, .int .i64 0, .int .i64 0, .int .i64 0, .string ⟨#[114, 101, 115, 116, 111, 114, 101]⟩, .int .i64 1, .int .i64 1, .int .i64 0, .int .i64 0, .int .i64 0, .int .i64 0, .string ⟨#[109, 111, 114, 101]⟩, .int .i64 1, .int .i64 1, .int .i64 0, .int .i64 0, .int .i64 0, .int .i64 0, .string ⟨#[102, 101, 116, 99, 104]⟩, .int .i64 0, .int .i64 0, .int .i64 1, .int .i64 16, .int .i64 0, .int .i64 0, .string ⟨#[118, 101, 114, 105, 102, 121]⟩, .int .i64 1, .int .i64 1, .int .i64 0, .int .i64 0, .int .i64 0, .int .i64 0, .string ⟨#[102, 111, 114, 103, 101, 116]⟩, .int .i64 1, .int .i64 1, .int .i64 0, .int .i64 0, .int .i64 0, .int .i64 0, .string ⟨#[112, 114, 117, 110, 101]⟩, .int .i64 0, .int .i64 0, .int .i64 0, .int .i64 0, .int .i64 0, .int .i64 0, .string ⟨#[117, 115, 97, 103, 101]⟩, .int .i64 0, .int .i64 0, .int .i64 0, .int .i64 0, .int .i64 0, .int .i64 0, .string ⟨#[112, 105, 110, 103]⟩, .int .i64 1, .int .i64 1, .int .i64 0, .int .i64 0, .int .i64 0, .int .i64 0, .string ⟨#[114, 101, 97, 100, 121]⟩, .int .i64 1, .int .i64 1, .int .i64 0, .int .i64 0, .int .i64 0, .int .i64 0, .string ⟨#[104, 97, 118, 101]⟩, .int .i64 1, .int .i64 16, .int .i64 0, .int .i64 0, .int .i64 0, .int .i64 0, .string ⟨#[116, 111, 111, 107]⟩, .int .i64 0, .int .i64 0, .int .i64 1, .int .i64 1, .int .i64 0, .int .i64 0, .string ⟨#[100, 111, 110, 101]⟩, .int .i64 1, .int .i64 1, .int .i64 0, .int .i64 0, .int .i64 0, .int .i64 0, .string ⟨#[102, 97, 105, 108]⟩, .int .i64 2, .int .i64 2, .int .i64 0, .int .i64 0, .int .i64 0, .int .i64 0, .string ⟨#[115, 110, 97, 112, 115]⟩, .int .i64 0, .int .i64 128, .int .i64 0, .int .i64 0, .int .i64 0, .int .i64 0, .string ⟨#[112, 105, 101, 99, 101]⟩, .int .i64 2, .int .i64 2, .int .i64 0, .int .i64 0, .int .i64 0, .int .i64 1000, .string ⟨#[99, 104, 117, 110, 107]⟩, .int .i64 0, .int .i64 0, .int .i64 1, .int .i64 1, .int .i64 1, .int .i64 1024, .string ⟨#[99, 111, 117, 110, 116]⟩, .int .i64 2, .int .i64 2, .int .i64 0, .int .i64 0, .int .i64 0, .int .i64 0]
theorem shM_in {k : Int} {s : Sh} (h : shM k = some s) : 1 ≤ k ∧ k ≤ 24 ∧ shTab[(k - 1).toNat]? = some s := by
 unfold shM at h
 split at h
 ·rename_i h1
  exact ⟨h1.1, h1.2, h⟩
 cases h
theorem shM_out {k : Int} (h : shM k = none) : k < 1 ∨ 24 < k := by
 unfold shM at h
 split at h
 ·rename_i h1
  have : (k - 1).toNat < shTab.length := by show _ < 24; omega
  rw [List.getElem?_eq_getElem this] at h
  cases h
 omega
theorem shRow {j : Nat} {s : Sh} (h : shTab[j]? = some s) : (shCells.drop ((j + 1) * 7)).take 7 = rowS s ∧ (refCells.drop (j * 7)).take 7 = rowS s := by
 have hj : j < 24 := (List.getElem?_eq_some_iff.1 h).1
 have : j = 0 ∨ j = 1 ∨ j = 2 ∨ j = 3 ∨ j = 4 ∨ j = 5 ∨ j = 6 ∨ j = 7 ∨ j = 8 ∨ j = 9 ∨ j = 10 ∨ j = 11 ∨ j = 12 ∨ j = 13 ∨ j = 14 ∨ j = 15 ∨ j = 16 ∨ j = 17 ∨ j = 18 ∨ j = 19 ∨ j = 20 ∨ j = 21 ∨ j = 22 ∨ j = 23 := by omega
 rcases this with rfl | rfl | rfl | rfl | rfl | rfl | rfl | rfl | rfl | rfl | rfl | rfl | rfl | rfl | rfl | rfl | rfl | rfl | rfl | rfl | rfl | rfl | rfl | rfl <;> (injection h with h; subst h; exact ⟨rfl, rfl⟩)
theorem shOk {j : Nat} {s : Sh} (h : shTab[j]? = some s) : 0 ≤ s.n ∧ s.n ≤ s.ns ∧ s.ns ≤ 128 ∧ 0 ≤ s.i ∧ s.i ≤ s.is ∧ s.is ≤ 16 ∧ 0 ≤ s.b ∧ s.b ≤ s.bs ∧ s.bs ≤ 1024 ∧ s.name ≠ [] := by
 have hj : j < 24 := (List.getElem?_eq_some_iff.1 h).1
 have : j = 0 ∨ j = 1 ∨ j = 2 ∨ j = 3 ∨ j = 4 ∨ j = 5 ∨ j = 6 ∨ j = 7 ∨ j = 8 ∨ j = 9 ∨ j = 10 ∨ j = 11 ∨ j = 12 ∨ j = 13 ∨ j = 14 ∨ j = 15 ∨ j = 16 ∨ j = 17 ∨ j = 18 ∨ j = 19 ∨ j = 20 ∨ j = 21 ∨ j = 22 ∨ j = 23 := by omega
 rcases this with rfl | rfl | rfl | rfl | rfl | rfl | rfl | rfl | rfl | rfl | rfl | rfl | rfl | rfl | rfl | rfl | rfl | rfl | rfl | rfl | rfl | rfl | rfl | rfl <;> (injection h with h; subst h; decide)
set_option maxHeartbeats 4000000 in
theorem of_tr (k : Int) : Tr Tryz.prog 73 #[.int .i64 k] [] [] (T0 (.agg #[.int .i64 k, .int .i64 k])) := by
 refine Tr.of (l := [(0, .int .i64 k)]) Tryz.func73 rfl (n := 6) rfl (.cons rfl .nil) (fun w0 hro => ?_)
 refine go [9,10,60,4] ?_
 intro b2
 refine go [7,8,9,10,0,0,2,50,4,20,7,8,11] ?_
 exact G.done0G rfl (Rv.cellN (cs := [_, _]) rfl Tryz.underlying84 rfl kr Y20 Rv.nil) Y8
set_option maxHeartbeats 4000000 in
theorem has_tr (a b k : Int) : Tr Tryz.prog 38 #[.agg #[.int .i64 a, .int .i64 b], .int .i64 k] [] [] (T0 (.bool (decide (a ≤ k ∧ k ≤ b)))) := by
 refine Tr.of (l := [(0, .agg #[.int .i64 a, .int .i64 b]), (1, .int .i64 k)]) Tryz.func38 rfl (n := 15) rfl (.cons rfl (.cons rfl .nil)) (fun w0 hro => ?_)
 refine go [9,10] ?_
 refine G.op rfl (G.box rfl rfl (cs := [_, _]) rfl ?_)
 intro b2
 refine go [1,7,8,9,10,2,3,0,2,4,0,2,11,0] ?_
 refine G.partP (t := 9) rfl (fun h9 => ?_) (fun h9 => ?_)
 ·refine go [3,0,3,3,1,3,4,3,11,2,2,1,7,8,11] ?_
  exact G.done1 rfl rfl .nil ⟨congrArg Value.bool (by simp [*]), rfl⟩
 refine go [4,4,4,4,2,2,1,7,8,11] ?_
 exact G.done1 rfl rfl .nil ⟨congrArg Value.bool (by simp [*]), rfl⟩
set_option maxRecDepth 100000 in
set_option maxHeartbeats 4000000 in
theorem shapes_tr : Tr Tryz.prog 52 #[] [] [] (TX (fun _ : Nat => True) (fun b => .pointer (some ⟨b, 0, none⟩)) (fun b => [blk b 143 shCells])) := by
 refine Tr.of (l := []) Tryz.func52 rfl (n := 101) rfl Fa.nil (fun w0 hro => ?_)
 refine go [9,10,1,7,8,9,10,2,50,4,60,4] ?_
 intro b1
 refine go [20,7,8,9] ?_
 refine G.drawT (nn := 99) (p := []) (rem := 633825300114114700748351602687) [0, 1, 2, 7, 4, 16, 0, 112, 32, 0, 256, 1792, 1024, 4096, 0, 28672, 8192, 65536, 131072, 458752, 262144, 1048576, 2097152, 7340032, 4194304, 16777216, 33554432, 117440512, 67108864, 268435456, 536870912, 1879048192, 1073741824, 4294967296, 8589934592, 30064771072, 17179869184, 0, 68719476736, 481036337152, 274877906944, 1099511627776, 2199023255552, 7696581394432, 4398046511104, 17592186044416, 35184372088832, 123145302310912, 70368744177664, 281474976710656, 562949953421312, 1970324836974592, 1125899906842624, 4503599627370496, 9007199254740992, 31525197391593472, 18014398509481984, 72057594037927936, 144115188075855872, 504403158265495552, 288230376151711744, 1152921504606846976, 2305843009213693952, 8070450532247928832, 0, 4611686018427387904, 36893488147419103232, 129127208515966861312, 73786976294838206464, 295147905179352825856, 590295810358705651712, 2066035336255469780992, 1180591620717411303424, 4722366482869645213696, 9444732965739290427392, 33056565380087516495872, 18889465931478580854784, 75557863725914323419136, 151115727451828646838272, 528905046081400263933952, 0, 302231454903657293676544, 2417851639229258349412352, 8462480737302404222943232, 4835703278458516698824704, 19342813113834066795298816, 0, 135399691796838467567091712, 38685626227668133590597632, 309485009821345068724781056, 0, 2166395068749415481073467392, 618970019642690137449562112, 4951760157141521099596496896, 9903520314283042199192993792, 34662321099990647697175478272, 42255020007607646716556773512, 79228162514264337593543950336, 316912650057057350374175801343] [0, 0, 0, 7, 0, 0, 0, 112, 0, 0, 0, 1792, 0, 0, 0, 28672, 0, 0, 0, 458752, 0, 0, 0, 7340032, 0, 0, 0, 117440512, 0, 0, 0, 1879048192, 0, 0, 0, 30064771072, 0, 0, 0, 481036337152, 0, 0, 0, 7696581394432, 0, 0, 0, 123145302310912, 0, 0, 0, 1970324836974592, 0, 0, 0, 31525197391593472, 0, 0, 0, 504403158265495552, 0, 0, 0, 8070450532247928832, 0, 0, 0, 129127208515966861312, 0, 0, 0, 2066035336255469780992, 0, 0, 0, 33056565380087516495872, 0, 0, 0, 528905046081400263933952, 0, 0, 0, 8462480737302404222943232, 0, 0, 0, 135399691796838467567091712, 0, 0, 0, 2166395068749415481073467392, 0, 0, 0, 34662321099990647697175478272, 42255020007607646716556773512, 79228162514264337593543950336, 158456325028528675187087900672] kr ⟨rfl, by kernel_rfl, by kernel_rfl⟩ subT kr (fun hT2 => ?_)
 refine go [22,6,633825300114114700748351602623,50,4,22,14,633825300114114700748351586239,50,4,22,80,633824091188295086119176880063,50,4,22,86,633746719935839749851995684799,50,4,22,90,632508779896554369577096560575,50,4,22,9,632508779896554369577096560063,50,9,22,37,632508779896554369439657606591,50,9,22,64,632508779878107625365948054975,50,9,24,0,632508779878107625365948054974] ?_
 refine G.turnOp rfl rfl (G.cR rfl rfl rfl rfl Tryz.func73 rfl rfl may0 (of_tr _) ?_)
 refine go [26,24,1,632508779878107625365948054972] ?_
 refine G.turnOp rfl rfl (G.cR rfl rfl rfl rfl Tryz.func73 rfl rfl may0 (of_tr _) ?_)
 refine go [26,24,2,632508779878107625365948054968] ?_
 refine G.turnOp rfl rfl (G.cR rfl rfl rfl rfl Tryz.func73 rfl rfl may0 (of_tr _) ?_)
 refine go [26,22,3,632508779878107625365948054960,50,2,24,4,632508779878107625365948054944] ?_
 refine G.turnOp rfl rfl (G.cR rfl rfl rfl rfl Tryz.func73 rfl rfl may0 (of_tr _) ?_)
 refine go [26,24,5,632508779878107625365948054912] ?_
 refine G.turnOp rfl rfl (G.cR rfl rfl rfl rfl Tryz.func73 rfl rfl may0 (of_tr _) ?_)
 refine go [26,22,7,632508779878107625365948054784,50,2,24,8,632508779878107625365948054528] ?_
 refine G.turnOp rfl rfl (G.cR rfl rfl rfl rfl Tryz.func73 rfl rfl may0 (of_tr _) ?_)
 refine go [26,24,10,632508779878107625365948053504] ?_
 refine G.turnOp rfl rfl (G.cR rfl rfl rfl rfl Tryz.func73 rfl rfl may0 (of_tr _) ?_)
 refine go [26,22,11,632508779878107625365948051456,50,2,24,12,632508779878107625365948047360] ?_
 refine G.turnOp rfl rfl (G.cR rfl rfl rfl rfl Tryz.func73 rfl rfl may0 (of_tr _) ?_)
 refine go [26,24,13,632508779878107625365948039168] ?_
 refine G.turnOp rfl rfl (G.cR rfl rfl rfl rfl Tryz.func73 rfl rfl may0 (of_tr _) ?_)
 refine go [26,22,15,632508779878107625365948006400,50,2,24,16,632508779878107625365947940864] ?_
 refine G.turnOp rfl rfl (G.cR rfl rfl rfl rfl Tryz.func73 rfl rfl may0 (of_tr _) ?_)
 refine go [26,24,17,632508779878107625365947809792] ?_
 refine G.turnOp rfl rfl (G.cR rfl rfl rfl rfl Tryz.func73 rfl rfl may0 (of_tr _) ?_)
 refine go [26,24,18,632508779878107625365947547648] ?_
 refine G.turnOp rfl rfl (G.cR rfl rfl rfl rfl Tryz.func73 rfl rfl may0 (of_tr _) ?_)
 refine go [26,22,19,632508779878107625365947023360,50,2,24,20,632508779878107625365945974784] ?_
 refine G.turnOp rfl rfl (G.cR rfl rfl rfl rfl Tryz.func73 rfl rfl may0 (of_tr _) ?_)
 refine go [26,24,21,632508779878107625365943877632] ?_
 refine G.turnOp rfl rfl (G.cR rfl rfl rfl rfl Tryz.func73 rfl rfl may0 (of_tr _) ?_)
 refine go [26,24,22,632508779878107625365939683328] ?_
 refine G.turnOp rfl rfl (G.cR rfl rfl rfl rfl Tryz.func73 rfl rfl may0 (of_tr _) ?_)
 refine go [26,22,23,632508779878107625365931294720,50,2,24,24,632508779878107625365914517504] ?_
 refine G.turnOp rfl rfl (G.cR rfl rfl rfl rfl Tryz.func73 rfl rfl may0 (of_tr _) ?_)
 refine go [26,24,25,632508779878107625365880963072] ?_
 refine G.turnOp rfl rfl (G.cR rfl rfl rfl rfl Tryz.func73 rfl rfl may0 (of_tr _) ?_)
 refine go [26,24,26,632508779878107625365813854208] ?_
 refine G.turnOp rfl rfl (G.cR rfl rfl rfl rfl Tryz.func73 rfl rfl may0 (of_tr _) ?_)
 refine go [26,22,27,632508779878107625365679636480,50,2,24,28,632508779878107625365411201024] ?_
 refine G.turnOp rfl rfl (G.cR rfl rfl rfl rfl Tryz.func73 rfl rfl may0 (of_tr _) ?_)
 refine go [26,24,29,632508779878107625364874330112] ?_
 refine G.turnOp rfl rfl (G.cR rfl rfl rfl rfl Tryz.func73 rfl rfl may0 (of_tr _) ?_)
 refine go [26,24,30,632508779878107625363800588288] ?_
 refine G.turnOp rfl rfl (G.cR rfl rfl rfl rfl Tryz.func73 rfl rfl may0 (of_tr _) ?_)
 refine go [26,22,31,632508779878107625361653104640,50,2,24,32,632508779878107625357358137344] ?_
 refine G.turnOp rfl rfl (G.cR rfl rfl rfl rfl Tryz.func73 rfl rfl may0 (of_tr _) ?_)
 refine go [26,24,33,632508779878107625348768202752] ?_
 refine G.turnOp rfl rfl (G.cR rfl rfl rfl rfl Tryz.func73 rfl rfl may0 (of_tr _) ?_)
 refine go [26,24,34,632508779878107625331588333568] ?_
 refine G.turnOp rfl rfl (G.cR rfl rfl rfl rfl Tryz.func73 rfl rfl may0 (of_tr _) ?_)
 refine go [26,22,35,632508779878107625297228595200,50,2,24,36,632508779878107625228509118464] ?_
 refine G.turnOp rfl rfl (G.cR rfl rfl rfl rfl Tryz.func73 rfl rfl may0 (of_tr _) ?_)
 refine go [26,24,38,632508779878107624953631211520] ?_
 refine G.turnOp rfl rfl (G.cR rfl rfl rfl rfl Tryz.func73 rfl rfl may0 (of_tr _) ?_)
 refine go [26,22,39,632508779878107624403875397632,50,2,24,40,632508779878107623304363769856] ?_
 refine G.turnOp rfl rfl (G.cR rfl rfl rfl rfl Tryz.func73 rfl rfl may0 (of_tr _) ?_)
 refine go [26,24,41,632508779878107621105340514304] ?_
 refine G.turnOp rfl rfl (G.cR rfl rfl rfl rfl Tryz.func73 rfl rfl may0 (of_tr _) ?_)
 refine go [26,24,42,632508779878107616707294003200] ?_
 refine G.turnOp rfl rfl (G.cR rfl rfl rfl rfl Tryz.func73 rfl rfl may0 (of_tr _) ?_)
 refine go [26,22,43,632508779878107607911200980992,50,2,24,44,632508779878107590319014936576] ?_
 refine G.turnOp rfl rfl (G.cR rfl rfl rfl rfl Tryz.func73 rfl rfl may0 (of_tr _) ?_)
 refine go [26,24,45,632508779878107555134642847744] ?_
 refine G.turnOp rfl rfl (G.cR rfl rfl rfl rfl Tryz.func73 rfl rfl may0 (of_tr _) ?_)
 refine go [26,24,46,632508779878107484765898670080] ?_
 refine G.turnOp rfl rfl (G.cR rfl rfl rfl rfl Tryz.func73 rfl rfl may0 (of_tr _) ?_)
 refine go [26,22,47,632508779878107344028410314752,50,2,24,48,632508779878107062553433604096] ?_
 refine G.turnOp rfl rfl (G.cR rfl rfl rfl rfl Tryz.func73 rfl rfl may0 (of_tr _) ?_)
 refine go [26,24,49,632508779878106499603480182784] ?_
 refine G.turnOp rfl rfl (G.cR rfl rfl rfl rfl Tryz.func73 rfl rfl may0 (of_tr _) ?_)
 refine go [26,24,50,632508779878105373703573340160] ?_
 refine G.turnOp rfl rfl (G.cR rfl rfl rfl rfl Tryz.func73 rfl rfl may0 (of_tr _) ?_)
 refine go [26,22,51,632508779878103121903759654912,50,2,24,52,632508779878098618304132284416] ?_
 refine G.turnOp rfl rfl (G.cR rfl rfl rfl rfl Tryz.func73 rfl rfl may0 (of_tr _) ?_)
 refine go [26,24,53,632508779878089611104877543424] ?_
 refine G.turnOp rfl rfl (G.cR rfl rfl rfl rfl Tryz.func73 rfl rfl may0 (of_tr _) ?_)
 refine go [26,24,54,632508779878071596706368061440] ?_
 refine G.turnOp rfl rfl (G.cR rfl rfl rfl rfl Tryz.func73 rfl rfl may0 (of_tr _) ?_)
 refine go [26,22,55,632508779878035567909349097472,50,2,24,56,632508779877963510315311169536] ?_
 refine G.turnOp rfl rfl (G.cR rfl rfl rfl rfl Tryz.func73 rfl rfl may0 (of_tr _) ?_)
 refine go [26,24,57,632508779877819395127235313664] ?_
 refine G.turnOp rfl rfl (G.cR rfl rfl rfl rfl Tryz.func73 rfl rfl may0 (of_tr _) ?_)
 refine go [26,24,58,632508779877531164751083601920] ?_
 refine G.turnOp rfl rfl (G.cR rfl rfl rfl rfl Tryz.func73 rfl rfl may0 (of_tr _) ?_)
 refine go [26,22,59,632508779876954703998780178432,50,2,24,60,632508779875801782494173331456] ?_
 refine G.turnOp rfl rfl (G.cR rfl rfl rfl rfl Tryz.func73 rfl rfl may0 (of_tr _) ?_)
 refine go [26,24,61,632508779873495939484959637504] ?_
 refine G.turnOp rfl rfl (G.cR rfl rfl rfl rfl Tryz.func73 rfl rfl may0 (of_tr _) ?_)
 refine go [26,24,62,632508779868884253466532249600] ?_
 refine G.turnOp rfl rfl (G.cR rfl rfl rfl rfl Tryz.func73 rfl rfl may0 (of_tr _) ?_)
 refine go [26,22,63,632508779859660881429677473792,50,2,24,65,632508779822767393282258370560] ?_
 refine G.turnOp rfl rfl (G.cR rfl rfl rfl rfl Tryz.func73 rfl rfl may0 (of_tr _) ?_)
 refine go [26,24,66,632508779748980416987420164096] ?_
 refine G.turnOp rfl rfl (G.cR rfl rfl rfl rfl Tryz.func73 rfl rfl may0 (of_tr _) ?_)
 refine go [26,22,67,632508779601406464397743751168,50,2,24,68,632508779306258559218390925312] ?_
 refine G.turnOp rfl rfl (G.cR rfl rfl rfl rfl Tryz.func73 rfl rfl may0 (of_tr _) ?_)
 refine go [26,24,69,632508778715962748859685273600] ?_
 refine G.turnOp rfl rfl (G.cR rfl rfl rfl rfl Tryz.func73 rfl rfl may0 (of_tr _) ?_)
 refine go [26,24,70,632508777535371128142273970176] ?_
 refine G.turnOp rfl rfl (G.cR rfl rfl rfl rfl Tryz.func73 rfl rfl may0 (of_tr _) ?_)
 refine go [26,22,71,632508775174187886707451363328,50,2,24,72,632508770451821403837806149632] ?_
 refine G.turnOp rfl rfl (G.cR rfl rfl rfl rfl Tryz.func73 rfl rfl may0 (of_tr _) ?_)
 refine go [26,24,73,632508761007088438098515722240] ?_
 refine G.turnOp rfl rfl (G.cR rfl rfl rfl rfl Tryz.func73 rfl rfl may0 (of_tr _) ?_)
 refine go [26,24,74,632508742117622506619934867456] ?_
 refine G.turnOp rfl rfl (G.cR rfl rfl rfl rfl Tryz.func73 rfl rfl may0 (of_tr _) ?_)
 refine go [26,22,75,632508704338690643662773157888,50,2,24,76,632508628780826917748449738752] ?_
 refine G.turnOp rfl rfl (G.cR rfl rfl rfl rfl Tryz.func73 rfl rfl may0 (of_tr _) ?_)
 refine go [26,24,77,632508477665099465919802900480] ?_
 refine G.turnOp rfl rfl (G.cR rfl rfl rfl rfl Tryz.func73 rfl rfl may0 (of_tr _) ?_)
 refine go [26,24,78,632508175433644562262509223936] ?_
 refine G.turnOp rfl rfl (G.cR rfl rfl rfl rfl Tryz.func73 rfl rfl may0 (of_tr _) ?_)
 refine go [26,22,79,632507570970734754947921870848,50,2,24,81,632505153119095525689572458496] ?_
 refine G.turnOp rfl rfl (G.cR rfl rfl rfl rfl Tryz.func73 rfl rfl may0 (of_tr _) ?_)
 refine go [26,24,82,632500317415817067172873633792] ?_
 refine G.turnOp rfl rfl (G.cR rfl rfl rfl rfl Tryz.func73 rfl rfl may0 (of_tr _) ?_)
 refine go [26,22,83,632490646009260150139475984384,50,2,24,84,632471303196146316072680685568] ?_
 refine G.turnOp rfl rfl (G.cR rfl rfl rfl rfl Tryz.func73 rfl rfl may0 (of_tr _) ?_)
 refine go [26,24,85,632432617569918647939090087936] ?_
 refine G.turnOp rfl rfl (G.cR rfl rfl rfl rfl Tryz.func73 rfl rfl may0 (of_tr _) ?_)
 refine go [26,22,87,632277875065007975404727697408,50,2,24,88,631968390055186630336002916352] ?_
 refine G.turnOp rfl rfl (G.cR rfl rfl rfl rfl Tryz.func73 rfl rfl may0 (of_tr _) ?_)
 refine go [26,24,89,631349420035543940198553354240] ?_
 refine G.turnOp rfl rfl (G.cR rfl rfl rfl rfl Tryz.func73 rfl rfl may0 (of_tr _) ?_)
 refine go [26,22,91,628873539956973179648755105792,50,2,24,92,623921779799831658549158608896] ?_
 refine G.turnOp rfl rfl (G.cR rfl rfl rfl rfl Tryz.func73 rfl rfl may0 (of_tr _) ?_)
 refine go [26,24,93,614018259485548616349965615104] ?_
 refine G.turnOp rfl rfl (G.cR rfl rfl rfl rfl Tryz.func73 rfl rfl may0 (of_tr _) ?_)
 refine go [26,24,94,594211218856982531951579627520] ?_
 refine G.turnOp rfl rfl (G.cR rfl rfl rfl rfl Tryz.func73 rfl rfl may0 (of_tr _) ?_)
 refine go [26,22,95,554597137599850363154807652352,50,2] ?_
 refine G.takeT hT2 (i := 96) (rem' := 475368975085586025561263702016) rfl rfl rfl kr (fun _ _ _ h => h) rfl (pv_build (cells := shCells.toArray) (fun a ha => ha.pevs rfl) kr) subT ?_
 refine go [24,97,316912650057057350374175801344] ?_
 refine G.turnOp rfl rfl (G.box rfl rfl (cs := shCells) rfl ?_)
 intro b100
 refine go [26,22,98,0,1,27,8,11] ?_
 exact G.doneX1 (b100) trT rfl rfl Y8 subT
set_option maxHeartbeats 4000000 in
theorem shaped_none (k : Int) (h : shM k = none) : Tr Tryz.prog 37 #[.int .i64 k] [] [] (T0 (.pointer none)) := by
 refine Tr.of (l := [(0, .int .i64 k)]) Tryz.func37 rfl (n := 15) rfl (.cons rfl .nil) (fun w0 hro => ?_)
 have hk := shM_out h
 refine go [9,10,1,7,8,9,10] ?_
 refine G.op rfl (G.cS rfl rfl rfl rfl Tryz.func52 rfl rfl subT may0 (shapes_tr) apT ?_)
 intro x4 hJ
 try dsimp only at hJ
 try dsimp only
 refine go [1,7,8,9,9,10,0,2,9,0] ?_
 refine G.partP (t := 7) rfl (fun h7 => ?_) (fun h7 => ?_)
 ·refine go [4,4,2,2,7,8] ?_
  refine G.condT rfl (by first | rfl | exact decide_eq_true (by omega)) ?_
  refine go [9,10,1,7,8,11,12] ?_
  exact G.done0G rfl (Rv.tmp rfl Rv.nil) Y8
 skip
 refine go [3,0,3,12,2,2,7,8] ?_
 refine G.condT rfl (by first | rfl | exact decide_eq_true (by omega)) ?_
 refine go [9,10,1,7,8,11,12] ?_
 exact G.done0G rfl (Rv.tmp rfl Rv.nil) Y8
set_option maxHeartbeats 4000000 in
theorem shaped_some (k : Int) (s : Sh) (h : shM k = some s) : Tr Tryz.prog 37 #[.int .i64 k] [] [] (TX (fun _ : Nat × Nat => True) (fun x => .pointer (some ⟨x.1, x.2, none⟩)) (fun x => [rng x.1 x.2 (rowS s)])) := by
 refine Tr.of (l := [(0, .int .i64 k)]) Tryz.func37 rfl (n := 15) rfl (.cons rfl .nil) (fun w0 hro => ?_)
 obtain ⟨hk1, hk2, hs⟩ := shM_in h
 obtain ⟨j, hj⟩ : ∃ j : Nat, j = (k - 1).toNat := ⟨_, rfl⟩
 rw [← hj] at hs
 have hrow := (shRow hs).1
 refine go [9,10,1,7,8,9,10] ?_
 refine G.op rfl (G.cS rfl rfl rfl rfl Tryz.func52 rfl rfl subT may0 (shapes_tr) apT ?_)
 intro x4 hJ
 try dsimp only at hJ
 try dsimp only
 refine go [1,7,8,9,9,10,0,2,9,0] ?_
 refine G.partP (t := 7) rfl (fun h7 => ?_) (fun h7 => ?_)
 ·exfalso; omega
 refine go [3,0,3,12,2,2,7,8] ?_
 refine G.condF rfl (decide_eq_false (by omega)) ?_
 refine go [13,8,9,10,0,0,2,8] ?_
 refine G.op rfl (G.val rfl rfl (pv_ixA (sz := 7) (k := j + 1) Tryz.underlying143 kr rfl rfl (by omega) (by omega)) ?_)
 refine go [1,7,8,11] ?_
 refine G.blkRng (k := 7) (xs := rowS s) (b := x4) (o := (j + 1) * 7) selT hrow ?_
 exact G.doneX1 ((x4, (j + 1) * 7)) trT rfl rfl (by rw [Nat.zero_add]) subT
def okN (x : Int) : Bool := decide (0 ≤ x ∧ x ≤ 2147483647)
def checkS (s : Sh) (ns : List Int) (il bl : Nat) : Int := if (¬ (s.n ≤ (ns.length : Int) ∧ (ns.length : Int) ≤ s.ns) ∨ ¬ (s.i ≤ (il : Int) ∧ (il : Int) ≤ s.is)) ∨ ¬ (s.b ≤ (bl : Int) ∧ (bl : Int) ≤ s.bs) then 5 else if ns.all okN = true then 0 else 5
def ncheckM (k : Int) (ns : List Int) (il bl : Nat) : Int := match shM k with
 | none => 2
 | some s => checkS s ns il bl
theorem checkS_bad {s : Sh} {ns : List Int} {il bl : Nat} (h : (¬ (s.n ≤ (ns.length : Int) ∧ (ns.length : Int) ≤ s.ns) ∨ ¬ (s.i ≤ (il : Int) ∧ (il : Int) ≤ s.is)) ∨ ¬ (s.b ≤ (bl : Int) ∧ (bl : Int) ≤ s.bs)) : Value.int .i64 5 = .int .i64 (checkS s ns il bl) := congrArg _ (if_pos h).symm
theorem checkS_num {s : Sh} {ns : List Int} {il bl : Nat} (h : ¬ ((¬ (s.n ≤ (ns.length : Int) ∧ (ns.length : Int) ≤ s.ns) ∨ ¬ (s.i ≤ (il : Int) ∧ (il : Int) ≤ s.is)) ∨ ¬ (s.b ≤ (bl : Int) ∧ (bl : Int) ≤ s.bs))) {k : Nat} (hk : k < ns.length) (hb : ns[k] < 0 ∨ 2147483647 < ns[k]) : Value.int .i64 5 = .int .i64 (checkS s ns il bl) := by
 unfold checkS
 rw [if_neg h, if_neg]
 intro ha
 have := List.all_eq_true.1 ha ns[k] (List.getElem_mem hk)
 have := of_decide_eq_true this
 omega
theorem checkS_ok {s : Sh} {ns : List Int} {il bl : Nat} (h : ¬ ((¬ (s.n ≤ (ns.length : Int) ∧ (ns.length : Int) ≤ s.ns) ∨ ¬ (s.i ≤ (il : Int) ∧ (il : Int) ≤ s.is)) ∨ ¬ (s.b ≤ (bl : Int) ∧ (bl : Int) ≤ s.bs))) {k : Nat} (ha : (ns.take k).all okN = true) (hk : ns.length ≤ k) : Value.int .i64 0 = .int .i64 (checkS s ns il bl) := by
 unfold checkS
 rw [List.take_of_length_le hk] at ha
 rw [if_neg h, if_pos ha]
theorem all_next {ns : List Int} {k : Nat} (ha : (ns.take k).all okN = true) (hk : k < ns.length) (h0 : ¬ ns[k] < 0) (h1 : ¬ 2147483647 < ns[k]) : (ns.take (k + 1)).all okN = true := by
 rw [List.take_succ_eq_append_getElem hk, List.all_append, ha]
 have : okN ns[k] = true := decide_eq_true ⟨by omega, by omega⟩
 simp [this]
def fI (ids : List (List UInt8)) (k : Nat) : List UInt8 := (ids.take k).flatten
theorem good0 {x : Int} (h : 0 ≤ x ∧ x ≤ 2147483647) : (false || decide (sizeM x = 0)) = false := by
 have := sizeM_ok h.1 h.2
 rw [Bool.false_or]
 exact decide_eq_false (by omega)
set_option maxHeartbeats 4000000 in
theorem checkNF {Pv1 Pv2 Pv3 : Nat → Prop} (k : Int) (v1 v2 v3 : Value) (ns : List Int) (ids : List (List UInt8)) (bs : List UInt8) (h : shM k = none) : Tr Tryz.prog 25 #[.agg #[.int .i64 k, v1, v2, v3]] [slc rInt Pv1 v1 ns, slc rID Pv2 v2 ids, slc rByte Pv3 v3 bs] [] (T0 (.int .i64 2)) := by
 refine Tr.of (l := [(0, .agg #[.int .i64 k, v1, v2, v3])]) Tryz.func25 rfl (n := 56) rfl (.cons rfl .nil) (fun w0 hro => ?_)
 obtain ⟨hA, hB, hC⟩ := ro3 hro
 have oa := Ro.open hA
 have ob := Ro.open hB
 have oc := Ro.open hC
 obtain ⟨aa, ca, qa, oa', rfl, hca, hma, -, had, hel⟩ := oa
 obtain ⟨ab, cb, qb, ob', rfl, hcb, hmb, -, hbd, hbl⟩ := ob
 obtain ⟨ac, cc, qc, oc', rfl, -⟩ := oc
 refine go [9,10,60,3] ?_
 intro b1
 refine go [1,7,8,9,10,2,3,0,2,4] ?_
 refine G.op rfl (G.cR rfl rfl rfl rfl Tryz.func37 rfl rfl may0 (shaped_none _ h) ?_)
 refine go [1,7,8,9,9,10,0,2,50,1,7,8,60,0,9,10,1,7,8,11,12] ?_
 exact G.done0G rfl (Rv.tmp rfl Rv.nil) Y8
set_option maxHeartbeats 4000000 in
theorem checkSF {Pv1 Pv2 Pv3 : Nat → Prop} (k : Int) (v1 v2 v3 : Value) (ns : List Int) (ids : List (List UInt8)) (bs : List UInt8) (s : Sh) (h : shM k = some s) : Tr Tryz.prog 25 #[.agg #[.int .i64 k, v1, v2, v3]] [slc rInt Pv1 v1 ns, slc rID Pv2 v2 ids, slc rByte Pv3 v3 bs] [] (T0 (.int .i64 (checkS s ns ids.length bs.length))) := by
 refine Tr.of (l := [(0, .agg #[.int .i64 k, v1, v2, v3])]) Tryz.func25 rfl (n := 56) rfl (.cons rfl .nil) (fun w0 hro => ?_)
 obtain ⟨hA, hB, hC⟩ := ro3 hro
 have oa := Ro.open hA
 have ob := Ro.open hB
 have oc := Ro.open hC
 obtain ⟨aa, ca, qa, oa', rfl, hca, hma, -, had, hel⟩ := oa
 obtain ⟨ab, cb, qb, ob', rfl, hcb, hmb, -, hbd, hbl⟩ := ob
 obtain ⟨ac, cc, qc, oc', rfl, -⟩ := oc
 refine go [9,10,60,3] ?_
 intro b1
 refine go [1,7,8,9,10,2,3,0,2,4] ?_
 refine G.op rfl (G.cS rfl rfl rfl rfl Tryz.func37 rfl rfl subT may0 (shaped_some _ _ h) apT ?_)
 intro x8 hJ
 obtain ⟨bS, oS⟩ := x8
 try dsimp only at hJ
 try dsimp only
 refine go [1,7,8,9,9,10,0,2,50,1,7,8,60,1,13,8,9,9] ?_
 refine G.drawT (nn := 31) (p := []) (rem := 2147483647) [0, 1, 2, 4, 0, 16, 32, 72, 128, 384, 512, 1536, 2560, 4608, 512, 16896, 33280, 74240, 131584, 262656, 655360, 1048576, 3145728, 5242880, 9437184, 1048576, 34603008, 68157440, 152043520, 269484032, 537919488] [0, 1, 2, 4, 0, 16, 32, 72, 128, 256, 512, 1536, 2560, 4608, 512, 16896, 33280, 74240, 131584, 262656, 524288, 1048576, 3145728, 5242880, 9437184, 1048576, 34603008, 68157440, 152043520, 269484032, 537919488] kr ⟨rfl, by kernel_rfl, by kernel_rfl⟩ subT kr (fun hT4 => ?_)
 refine go [22,0,2147483646,0,22,1,2147483644,8,22,2,2147483640,3,1,22,4,2147483624,3,1,22,3,2147483616,50,9,24,5,2147483584,25,4,26,22,6,2147483520,5,24,7,2147483392] ?_
 refine G.turnOp rfl rfl (G.cR rfl rfl rfl rfl Tryz.func38 rfl rfl may0 (has_tr _ _ _) ?_)
 refine go [26,22,8,2147483136,15,22,9,2147482624,0] ?_
 refine G.partP (t := 20) rfl (fun h20 => ?_) (fun h20 => ?_)
 ·refine go [23,10,2147481600,23,11,2147479552,23,12,2147475456,23,13,2147467264,23,14,2147450880,23,15,2147418112,23,16,2147352576,23,17,2147221504,23,18,2146959360,22,19,2146435072,2,22,20,2145386496,0,23,21,2143289344,23,22,2139095040,23,23,2130706432,23,24,2113929216,23,25,2080374784,23,26,2013265920,23,27,1879048192,23,28,1610612736,23,29,1073741824,22,30,0,2,27,8,60,0,9,10,1,7,8,11,12] ?_
  exact G.done0G rfl (Rv.tmp rfl Rv.nil) (checkS_bad (by omega))
 refine go [22,10,2147481600,0,22,11,2147479552,8,22,12,2147475456,3,3,22,13,2147467264,50,9,22,14,2147450880,3,2,24,15,2147418112,25,4,26,22,16,2147352576,5,24,17,2147221504] ?_
 refine G.turnOp rfl rfl (G.cR rfl rfl rfl rfl Tryz.func38 rfl rfl may0 (has_tr _ _ _) ?_)
 refine go [26,22,18,2146959360,15,22,19,2146435072,2,22,20,2145386496,0] ?_
 refine G.partP (t := 31) rfl (fun h31 => ?_) (fun h31 => ?_)
 ·refine go [23,21,2143289344,23,22,2139095040,23,23,2130706432,23,24,2113929216,23,25,2080374784,23,26,2013265920,23,27,1879048192,23,28,1610612736,23,29,1073741824,22,30,0,2,27,8,60,0,9,10,1,7,8,11,12] ?_
  exact G.done0G rfl (Rv.tmp rfl Rv.nil) (checkS_bad (by omega))
 refine go [22,21,2143289344,0,22,22,2139095040,8,22,23,2130706432,3,5,22,24,2113929216,50,9,22,25,2080374784,3,3,24,26,2013265920,25,4,26,22,27,1879048192,5,24,28,1610612736] ?_
 refine G.turnOp rfl rfl (G.cR rfl rfl rfl rfl Tryz.func38 rfl rfl may0 (has_tr _ _ _) ?_)
 refine go [26,22,29,1073741824,15,22,30,0,2,27,8] ?_
 refine G.condP rfl (fun h41 => ?_) (fun h41 => ?_)
 ·refine go [9,10,1,7,8,11,12] ?_
  exact G.done0G rfl (Rv.tmp rfl Rv.nil) (checkS_bad (by omega))
 refine go [13,8,9,9,10,2,3,1,2,4,2,5,0,7,8,15] ?_
 refine G.loopK (X := Nat) (ts := [43, 44]) (fun j => j ≤ ns.length ∧ ((ns.take j).all okN = true)) (fun j => [(45, .int .i64 (j : Int))]) (fun j => []) (fun j => ns.length - j) (x0 := 0) (.cons rfl (.cons rfl .nil)) subT (.cons .nil) apT (by first | exact trivial | ((try dsimp only) <;> exact ⟨Nat.zero_le _, rfl⟩)) (.consE rfl veqT .nil) (fun j hJ => ?_)
 try dsimp only at hJ
 try dsimp only
 obtain ⟨hkj, hJ⟩ := hJ
 refine go [9,10,2,9,7,8,9] ?_
 refine G.condP rfl (fun h46 => ?_) (fun h46 => ?_)
 ·have hlt : j < ns.length := by omega
  have hE := hel j hlt
  refine go [13,8,9,15,9,10,2,20,1,2,4,1,7,8,9,10,0,2,9,0] ?_
  refine G.partP (t := 51) rfl (fun h51 => ?_) (fun h51 => ?_)
  ·refine go [4,4,2,2,7,8,60,0,9,10,1,7,8,11,17,12,12,17,12] ?_
   exact G.done0G rfl (Rv.tmp rfl Rv.nil) (checkS_num (by omega) hlt (by omega))
  refine go [3,0,3,10,2,2,7,8] ?_
  refine G.condP rfl (fun h54 => ?_) (fun h54 => ?_)
  ·refine go [9,10,1,7,8,11,17,12,12,17,12] ?_
   exact G.done0G rfl (Rv.tmp rfl Rv.nil) (checkS_num (by omega) hlt (by omega))
  refine go [13,16,8,10,2,6,0,7] ?_
  exact G.next (j + 1) (by first | exact trivial | ((try dsimp only) <;> exact ⟨by omega, all_next hJ hlt (by omega) (by omega)⟩)) (by (try dsimp only); omega) (.consE rfl veqT (.cons rfl (.cons rfl .nil))) subT
 refine go [18,14,14,19,8,9,10,1,7,8,11] ?_
 exact G.done0G rfl (Rv.tmp rfl Rv.nil) (checkS_ok (by omega) hJ (by omega))
theorem checkF {Pv1 Pv2 Pv3 : Nat → Prop} (k : Int) (v1 v2 v3 : Value) (ns : List Int) (ids : List (List UInt8)) (bs : List UInt8) : Tr Tryz.prog 25 #[.agg #[.int .i64 k, v1, v2, v3]] [slc rInt Pv1 v1 ns, slc rID Pv2 v2 ids, slc rByte Pv3 v3 bs] [] (T0 (.int .i64 (ncheckM k ns ids.length bs.length))) := by
 cases h : shM k with
 | none =>
  have := checkNF (Pv1 := Pv1) (Pv2 := Pv2) (Pv3 := Pv3) k v1 v2 v3 ns ids bs h
  rwa [show ncheckM k ns ids.length bs.length = 2 by unfold ncheckM; rw [h]]
 | some s =>
  have := checkSF (Pv1 := Pv1) (Pv2 := Pv2) (Pv3 := Pv3) k v1 v2 v3 ns ids bs s h
  rwa [show ncheckM k ns ids.length bs.length = checkS s ns ids.length bs.length by unfold ncheckM; rw [h]]
structure Nt where
 k : Int
 ns : List Int
 ids : List (List UInt8)
 bs : List UInt8
structure NV where
 n : Nt
 vN : Value
 vI : Value
 vB : Value
def nvC (x : NV) : List Value := [.int .i64 x.n.k, x.vN, x.vI, x.vB]
theorem nvC_len (x : NV) : (nvC x).length = 4 := rfl
def NvOk (F : Nat → Prop) (W : World) (x : NV) : Prop := IsSl rInt F W x.vN x.n.ns ∧ IsSl rID F W x.vI x.n.ids ∧ IsSl rByte F W x.vB x.n.bs ∧ I64 x.n.k ∧ x.n.ns.length ≤ 1000 ∧ x.n.ids.length ≤ 1000 ∧ x.n.bs.length ≤ 1000000
theorem NvOk.up {F F' : Nat → Prop} {W W' : World} {x : NV} (h : Up F W F' W') (k : NvOk F W x) : NvOk F' W' x := ⟨h.sl k.1, h.sl k.2.1, h.sl k.2.2.1, k.2.2.2⟩
theorem IsSl.one {α : Type} {E : Rdr α} {F : Nat → Prop} {W : World} {v : Value} {xs : List α} (h : IsSl E F W v xs) : v.oneCell' = true := by
 obtain ⟨ad, cap, b, off, rfl, _⟩ := h
 rfl
theorem nvC_one {F : Nat → Prop} {W : World} {x : NV} (h : NvOk F W x) : ∀ u ∈ nvC x, u.oneCell' = true := fun u hu => by
 simp only [nvC, List.mem_cons, List.not_mem_nil, or_false] at hu
 rcases hu with rfl | rfl | rfl | rfl
 ·rfl
 ·exact h.1.one
 ·exact h.2.1.one
 exact h.2.2.1.one
def rNV : Rdr NV where
 sz := 4
 R := fun Ps w b o x => Ps b ∧ w.rangeAt b o (nvC x) ∧ NvOk Ps w x
 loc := fun h ⟨h1, h2, h3⟩ => ⟨h1, rangeAt_loc (h _ h1) h2, h3.up ⟨fun _ h => h, fun _ hb => h _ hb⟩⟩
 mono := fun h ⟨h1, h2, h3⟩ => ⟨h _ h1, h2, h3.up ⟨h, fun _ _ => rfl⟩⟩
def CkOk (F : Nat → Prop) (W : World) (x : CT) : Prop := IsSl rByte F W x.2 x.1.2 ∧ x.1.1.length = 16 ∧ x.1.2.length ≤ 1000000
theorem CkOk.up {F F' : Nat → Prop} {W W' : World} {x : CT} (h : Up F W F' W') (k : CkOk F W x) : CkOk F' W' x := ⟨h.sl k.1, k.2⟩
def nvs (xs : List NV) : List Nt := xs.map (·.n)
theorem nvs_length (xs : List NV) : (nvs xs).length = xs.length := List.length_map ..
theorem IsSl.open {α : Type} {E : Rdr α} {F : Nat → Prop} {W : World} {v : Value} {xs : List α} (h : IsSl E F W v xs) : ∃ ad cap b off, v = .slice ad xs.length cap ∧ xs.length ≤ cap ∧ cap ≤ 9223372036854775807 ∧ (ad = none → cap = 0) ∧ (0 < xs.length → ad = some ⟨b, off, none⟩) ∧ ∀ i (hi : i < xs.length), E.R F W b (off + i * E.sz) xs[i] :=
 let ⟨ad, cap, b, off, e, hs⟩ := h; ⟨ad, cap, b, off, e, hs.hcap, hs.hmax, hs.hnil, hs.had, fun i hi => hs.cell i hi⟩
theorem IsSl.nil {α : Type} (E : Rdr α) (F : Nat → Prop) (W : World) : IsSl E F W (.slice none 0 0) [] := ⟨none, 0, 0, 0, rfl, ⟨Nat.zero_le _, by omega, fun _ => rfl, fun h => by simp at h, fun i hi => by simp at hi⟩⟩
section
variable {w0 : World} {S : Nat → Prop} {m : List Ck} {F : Nat → Prop} {W : World}
theorem frz_int {b o : Nat} {x : Int} {r : List Ck} (h : Sel m (frz F W) r) (k : rInt.R F W b o x) : ∀ w, Hp w0 S w m → w.cell? ⟨b, o, none⟩ = some (.int .i64 x) := frz_cell h k.1 k.2.1
theorem arr8_rng {n : Nat} {b o : Nat} {xs : List UInt8} (h : (rArr n rByte).R F W b o xs) : W.rangeAt b o (xs.map vByte) := fun j v hj => by
 rw [List.getElem?_map] at hj
 obtain ⟨y, hy, rfl⟩ := Option.map_eq_some_iff.1 hj
 obtain ⟨hlt, rfl⟩ := List.getElem?_eq_some_iff.1 hy
 have := (h.2 j hlt).2.1
 rwa [show o + j * rByte.sz = o + j from by show o + j * 1 = _; omega] at this
theorem frz_id {b o : Nat} {xs : List UInt8} {r : List Ck} (h : Sel m (frz F W) r) (k : rID.R F W b o xs) (hl : 0 < xs.length) : ∀ w, Hp w0 S w m → w.rangeAt b o (xs.map vByte) := frz_rng h (by have := (k.2 0 hl).1; exact this) (arr8_rng k)
end
def YOk (y : Nt) : Prop := (y.k = 16 ∨ y.k = 19 ∨ y.k = 20 → 0 < y.ns.length) ∧ (y.k = 18 → 0 < y.ids.length)
theorem frz_own1 {α : Type} {f : α → Value} {p : α → Prop} {e k : Nat} {v : Value} {F : Nat → Prop} {W : World} (xs : List α) (h : (own e 1 v k (xs.map f)).φ W ∧ ∀ b, (own e 1 v k (xs.map f)).S b → F b) (hk : k = xs.length) (hp : ∀ x ∈ xs, p x) : IsSl (r1 f p) F W v xs := (own_isSl' h.1 hk hp).mono h.2
theorem frz_ownI {e k : Nat} {v : Value} {F : Nat → Prop} {W : World} (ids : List (List UInt8)) (h : (own e 16 v k (flatI ids)).φ W ∧ ∀ b, (own e 16 v k (flatI ids)).S b → F b) (hk : k = ids.length) (h16 : all16 ids) : IsSl rID F W v ids := by
 subst hk
 exact (own_isI h.1 h16).mono h.2
theorem nvC_app (xs : List NV) (x : NV) : xs.flatMap nvC ++ nvC x = (xs ++ [x]).flatMap nvC := by simp [List.flatMap_append]
theorem nvs_app (xs : List NV) (x : NV) : nvs (xs ++ [x]) = nvs xs ++ [x.n] := by simp [nvs]
theorem nv_all {F F' : Nat → Prop} {W W' : World} {xs : List NV} {x : NV} (hU : Up F W F' W') (h : ∀ y ∈ xs, NvOk F W y) (hx : NvOk F' W' x) : ∀ y ∈ xs ++ [x], NvOk F' W' y := fun y hy => by
 rcases List.mem_append.1 hy with hy | hy
 ·exact (h y hy).up hU
 obtain rfl : y = x := by simpa using hy
 exact hx
theorem Tryz.infoNo : (Tryz.prog.info? 33).map (fun i => (i.zero.map (·.cells.size), i.size, i.bytes)) = some (some 4, 4, 80) := by kernel_rfl
def n0 (ns : List Int) : Int := ns[0]?.getD 0
theorem n0_eq {ns : List Int} (h : 0 < ns.length) : n0 ns = ns[0] := by
 unfold n0
 rw [List.getElem?_eq_getElem h]
 rfl
def ntz : Nt := ⟨0, [], [], []⟩
theorem sub_one1 (sz : Nat) (ad : Option Addr) (i j cap : Nat) : (subV sz ad i j cap).oneCell' = true := by
 unfold subV
 split <;> rfl
theorem checkS_zero {s : Sh} {ns : List Int} {il bl : Nat} (h : checkS s ns il bl = 0) : s.n ≤ (ns.length : Int) ∧ (ns.length : Int) ≤ s.ns ∧ s.i ≤ (il : Int) ∧ (il : Int) ≤ s.is ∧ s.b ≤ (bl : Int) ∧ (bl : Int) ≤ s.bs ∧ ns.all okN = true := by
 unfold checkS at h
 split at h
 ·cases h
 rename_i h1
 split at h
 ·rename_i h2
  exact ⟨by omega, by omega, by omega, by omega, by omega, by omega, h2⟩
 cases h
theorem check_some {k : Int} {ns : List Int} {il bl : Nat} (h : ncheckM k ns il bl = 0) : ∃ s, shM k = some s ∧ checkS s ns il bl = 0 := by
 unfold ncheckM at h
 cases e : shM k with
 | none => rw [e] at h; cases h
 | some s => rw [e] at h; exact ⟨s, rfl, h⟩
theorem sh16 : (shM 16).map (·.n) = some 1 := by kernel_rfl
theorem sh18 : (shM 18).map (·.i) = some 1 := by kernel_rfl
theorem sh19 : (shM 19).map (·.n) = some 1 := by kernel_rfl
theorem sh20 : (shM 20).map (·.n) = some 2 := by kernel_rfl
theorem check_y {k : Int} {ns : List Int} {ids : List (List UInt8)} {bs : List UInt8} (h : ncheckM k ns ids.length bs.length = 0) : YOk ⟨k, ns, ids, bs⟩ := by
 obtain ⟨s, h1, h2⟩ := check_some h
 have h3 := checkS_zero h2
 refine ⟨fun hk => ?_, fun hk => ?_⟩
 ·have hs : s.n = 1 ∨ s.n = 2 := by
   rcases hk with hk | hk | hk
   ·have := sh16
    rw [← (show k = 16 from hk), h1] at this
    exact .inl (Option.some.inj this)
   ·have := sh19
    rw [← (show k = 19 from hk), h1] at this
    exact .inl (Option.some.inj this)
   have := sh20
   rw [← (show k = 20 from hk), h1] at this
   exact .inr (Option.some.inj this)
  show 0 < ns.length
  omega
 have hs : s.i = 1 := by
  have := sh18
  rw [← (show k = 18 from hk), h1] at this
  exact Option.some.inj this
 show 0 < ids.length
 omega
theorem frz_nvs {e : TypeId} {F : Nat → Prop} {W : World} {v : Value} (xs : List NV) (h : (own e 4 v xs.length (xs.flatMap nvC)).φ W ∧ ∀ b, (own e 4 v xs.length (xs.flatMap nvC)).S b → F b) (hA : ∀ a ∈ xs, NvOk F W a) : IsSl rNV F W v xs :=
 rows_sl (E := rNV) nvC_len rfl h.1 (fun b hb => h.2 b hb) (fun b o x hx hP hr => ⟨hP, hr, hA x hx⟩)
theorem nv_up {F F' : Nat → Prop} {W W' : World} {xs : List NV} (hU : Up F W F' W') (h : ∀ y ∈ xs, NvOk F W y) : ∀ y ∈ xs, NvOk F' W' y := fun y hy => (h y hy).up hU
theorem Tr.ro0 {P : Program} {f : FuncId} {args : Array Value} {ro : List Ck} {post : Value → List Ck → Prop} (h : Tr P f args [] [] post) : Tr P f args ro [] post := fun w _ hp => h w (fun c hc => by cases hc) hp
section
variable {P : Program} {n : Nat} {w0 : World} {S : Nat → Prop} {l : Fr} {m : List Ck} {Q : Exit → Act → World → Prop} {K : Act → World → Prop}
 {dst : Option Tmp} {ty : TypeId} {pos : String} {after : Array Edge} {g : Option (Nat × Bool)}
theorem G.cSv {X : Type} {J : X → Prop} {V : X → Value} {M M' : X → List Ck} {o : Oper} {d : Nat} {x : Operand} {f : FuncId} {first captured args : Array Value} {xs : List Operand} {ts : Array TypeId} {vs : List Value} {ro pre r : List Ck} (hd : o.dst = some d) (hn : Nat.blt d n = true)
 (ho : o.op = .call { callee := .value x, args := xs.toArray, argTypes := ts }) (hv : ev l x = some (.func (.func f) first captured)) (hx : evs l xs = some vs) (hf : ∃ fn c, P.funcs[f]? = some fn ∧ fn.body = some c ∧ (fn.name == "runtime.NumGoroutine") = false)
 (hargs : first ++ vs.toArray ++ captured = args) (hm : Sub m pre r) (hro : ∀ c ∈ ro, May w0 S r c) (ht : Tr P f args ro pre (TX J V M)) (hM : Ap M r M') (h : ∀ x, J x → G n w0 S ((d, V x) :: l) (M' x) K) : G n w0 S l m (fun a w => o.wp P a w K Q) := by
 obtain ⟨fn, c, h1, h2, h3⟩ := hf
 exact G.trP hd hn (hargs ▸ pe_val ho hv hx h1 h2 h3) ht hm hro fun v m' ⟨x, hJ, hv, hm'⟩ => by
  subst hv
  subst hm'
  rw [hM.eq x]
  exact h x hJ
end
theorem G.recast {n : Nat} {w0 : World} {S : Nat → Prop} {l : Fr} {m : List Ck} {K : Act → World → Prop} {c c' : Ck} {r : List Ck} (e : c = c') (hs : Sel m c r) (h : G n w0 S l (c' :: r) K) : G n w0 S l m K := fun a w ha hw => h a w ha (e ▸ hw.sel hs)
theorem mid_rowN (pre a b sp : List Value) (h : a.length = 4) : ((pre ++ ((a ++ b) ++ sp)).drop (pre.length + 0 * 4)).take 4 = a := by
 rw [Nat.zero_mul, Nat.add_zero, List.drop_left, List.append_assoc]
 exact List.take_left' h
structure BZ where
 cl : Int
 nu : Int
 ph : Nat
 leftv : Value
 waitv : Value
 size : Int
 came : Nat
 bv : Value
 read : Bool
 mh : Mh
 mv : Value
 lv : Value
 over : Bool
 treev : Value
 e : Int
 left : List NV
 wait : List NV
 b : List UInt8
 items : List IT
 l : List CT
 tree : List ET
structure BM where
 cl : Int
 nu : Int
 ph : Nat
 left : List Nt
 wait : List Nt
 size : Int
 came : Nat
 b : List UInt8
 read : Bool
 mh : Mh
 items : List It
 l : List (List UInt8 × List UInt8)
 over : Bool
 tree : List En
 e : Int
def BZ.bm (z : BZ) : BM := ⟨z.cl, z.nu, z.ph, nvs z.left, nvs z.wait, z.size, z.came, z.b, z.read, z.mh, its z.items, cks z.l, z.over, ens z.tree, z.e⟩
structure BvOk (F : Nat → Prop) (W : World) (z : BZ) : Prop where
 left : IsSl rNV F W z.leftv z.left
 wait : ∀ x ∈ z.wait, NvOk F W x
 items : IsSl rIT F W z.mv z.items
 l : ∀ x ∈ z.l, CkOk F W x
 tree : IsSl rEV F W z.treev z.tree
 nb : ∀ x ∈ z.left, x.n.bs = [] ∧ x.vB = .slice none 0 0
theorem BvOk.up {F F' : Nat → Prop} {W W' : World} {z : BZ} (h : Up F W F' W') (k : BvOk F W z) : BvOk F' W' z :=
 ⟨h.sl k.left, fun x hx => (k.wait x hx).up h, h.sl k.items, fun x hx => (k.l x hx).up h, h.sl k.tree, k.nb⟩
theorem nb_snoc {xs : List NV} {x : NV} (h : ∀ y ∈ xs, y.n.bs = [] ∧ y.vB = .slice none 0 0) (hx : x.n.bs = [] ∧ x.vB = .slice none 0 0) : ∀ y ∈ xs ++ [x], y.n.bs = [] ∧ y.vB = .slice none 0 0 := fun y hy => by
 rcases List.mem_append.1 hy with hy | hy
 ·exact h y hy
 obtain rfl : y = x := by simpa using hy
 exact hx
def finB (p : BM) (t : List En) (e : Int) : BM := { p with over := true, tree := t, e := e, left := [], wait := [] }
def BZ.end (z : BZ) (v : Value) (t : List ET) (e : Int) : BZ := { z with over := true, treev := v, tree := t, e := e, left := [], wait := [], leftv := .slice none 0 0, waitv := .slice none 0 0 }
theorem bend_bm (z : BZ) (v : Value) (t : List ET) (e : Int) : (z.end v t e).bm = finB z.bm (ens t) e := rfl
theorem bend_ok {F : Nat → Prop} {W : World} {z : BZ} (h : BvOk F W z) {v : Value} {t : List ET} (ht : IsSl rEV F W v t) (e : Int) : BvOk F W (z.end v t e) :=
 ⟨IsSl.nil _ _ _, (fun x hx => by cases hx), h.items, h.l, ht, fun x hx => by cases hx⟩
def ansB (p : BM) : BM := { p with wait := p.wait.tail, came := 0 }
def fetF : Nat → List (List UInt8) → List Nt
 | 0, _ => []
 | f + 1, ids => if ids = [] then [] else ⟨10, [], ids.take 16, []⟩ :: fetF f (ids.drop 16)
def fetL (ids : List (List UInt8)) : List Nt := fetF ids.length ids
theorem fetF_nil (f : Nat) : fetF f [] = [] := by cases f <;> rfl
theorem fetF_go {f : Nat} {ids : List (List UInt8)} (h : ids.length ≤ f) (h0 : 0 < ids.length) : fetF f ids = ⟨10, [], ids.take 16, []⟩ :: fetF (f - 1) (ids.drop 16) := by
 cases f with
 | zero => omega
 | succ f => exact if_neg (fun e => by rw [e] at h0; exact Nat.lt_irrefl 0 h0)
theorem i64_8 : I64 8 := ⟨by decide, by decide⟩
theorem i64_10 : I64 10 := ⟨by decide, by decide⟩
def n1 (ns : List Int) : Int := ns[1]?.getD 0
theorem n1_eq {ns : List Int} (h : 1 < ns.length) : n1 ns = ns[1] := by
 unfold n1
 rw [List.getElem?_eq_getElem h]
 rfl
theorem sh22 : (shM 22).map (·.n) = some 2 := by kernel_rfl
theorem sh23 : (shM 23).map (·.i) = some 1 := by kernel_rfl
theorem check_22 {ns : List Int} {il bl : Nat} (h : ncheckM 22 ns il bl = 0) : 1 < ns.length := by
 obtain ⟨s, h1, h2⟩ := check_some h
 have h3 := checkS_zero h2
 have := sh22
 rw [h1] at this
 have : s.n = 2 := Option.some.inj this
 omega
theorem check_23 {ns : List Int} {il bl : Nat} (h : ncheckM 23 ns il bl = 0) : 0 < il := by
 obtain ⟨s, h1, h2⟩ := check_some h
 have h3 := checkS_zero h2
 have := sh23
 rw [h1] at this
 have : s.i = 1 := Option.some.inj this
 omega
set_option maxHeartbeats 4000000 in
theorem bvalid_tr (x : Int) : Tr Tryz.prog 23 #[.int .i64 x] [] [] (T0 (.bool (decide (1 ≤ x ∧ x ≤ 2147483647)))) := by
 refine Tr.of (l := [(0, .int .i64 x)]) Tryz.func23 rfl (n := 9) rfl (.cons rfl .nil) (fun w0 hro => ?_)
 refine go [9,10,1,7,8,9,10,0,2,12,0] ?_
 refine G.partP (t := 5) rfl (fun h5 => ?_) (fun h5 => ?_)
 ·refine go [3,0,3,11,2,2,1,7,8,11] ?_
  exact G.done1 rfl rfl .nil ⟨congrArg Value.bool (by first | exact (decide_eq_true (by omega)).symm | exact (decide_eq_false (by omega)).symm | (rw [decide_eq_decide]; omega)), rfl⟩
 refine go [4,4,2,2,1,7,8,11] ?_
 exact G.done1 rfl rfl .nil ⟨congrArg Value.bool (by first | exact (decide_eq_true (by omega)).symm | exact (decide_eq_false (by omega)).symm | (rw [decide_eq_decide]; omega)), rfl⟩
set_option maxHeartbeats 4000000 in
theorem bend_tr (D : Nat) (z : BZ) (v : Value) (t : List ET) (e : Int) (hv : v.oneCell' = true) : Tr Tryz.prog 26 #[.pointer (some ⟨D, 0, none⟩), v, .int .i64 e] [] [blk D 46 [.bool true, .int .i64 z.cl, .int .i64 z.nu, .int .i64 (z.ph : Nat), z.leftv, z.waitv, .int .i64 z.size, .int .i64 (z.came : Nat), z.bv, .bool z.read, .int .i64 z.mh.c, .int .i64 z.mh.k, .int .i64 z.mh.n, .int .i64 z.mh.t, z.mv, z.lv, .bool z.over, z.treev, .int .i64 z.e], que 33 4 z.waitv z.wait.length (z.wait.flatMap nvC)]
 (TX (fun _ : Unit => True) (fun _ => .tuple #[]) (fun _ => [blk D 46 [.bool true, .int .i64 (z.end v t e).cl, .int .i64 (z.end v t e).nu, .int .i64 ((z.end v t e).ph : Nat), (z.end v t e).leftv, (z.end v t e).waitv, .int .i64 (z.end v t e).size, .int .i64 ((z.end v t e).came : Nat), (z.end v t e).bv, .bool (z.end v t e).read, .int .i64 (z.end v t e).mh.c, .int .i64 (z.end v t e).mh.k, .int .i64 (z.end v t e).mh.n, .int .i64 (z.end v t e).mh.t, (z.end v t e).mv, (z.end v t e).lv, .bool (z.end v t e).over, (z.end v t e).treev, .int .i64 (z.end v t e).e], que 33 4 (z.end v t e).waitv (z.end v t e).wait.length ((z.end v t e).wait.flatMap nvC)])) := by
 refine Tr.of (l := [(0, .pointer (some ⟨D, 0, none⟩)), (1, v), (2, .int .i64 e)]) Tryz.func26 rfl (n := 23) rfl (.cons rfl (.cons rfl (.cons rfl .nil))) (fun w0 hro => ?_)
 refine go [9,10,0,0,0,0,0,2,8,2,3,16,21,2,8,2,3,17,21,2,8,2,3,18,21,7,8,10,0,0,2,8,2,3,4,21,2,8,2,3,5,21,7] ?_
 refine G.queNil 33 4 ?_
 exact G.doneXE (()) trT rfl rfl subT
structure BtO where
 xs : List NV
 v : Value
 F : Nat → Prop
 W : World
structure BtJ (F : Nat → Prop) (W : World) (L : List Nt) (x : BtO) : Prop where
 up : Up F W x.F x.W
 all : ∀ y ∈ x.xs, NvOk x.F x.W y
 nt : nvs x.xs = L
 nb : ∀ y ∈ x.xs, y.n.bs = [] ∧ y.vB = .slice none 0 0
set_option maxHeartbeats 4000000 in
theorem bt_restore {F : Nat → Prop} {W : World} (D : Nat) (z : BZ) (hz : BvOk F W z) (hn : I64 z.nu) : Tr Tryz.prog 39 #[.pointer (some ⟨D, 0, none⟩)] [] [blk D 46 [.bool true, .int .i64 z.cl, .int .i64 z.nu, .int .i64 (z.ph : Nat), z.leftv, z.waitv, .int .i64 z.size, .int .i64 (z.came : Nat), z.bv, .bool z.read, .int .i64 z.mh.c, .int .i64 z.mh.k, .int .i64 z.mh.n, .int .i64 z.mh.t, z.mv, z.lv, .bool z.over, z.treev, .int .i64 z.e], frz F W]
 (TX (fun x : BtO => BtJ F W [⟨8, [z.nu], [], []⟩] x) (fun x => x.v) (fun x => [blk D 46 [.bool true, .int .i64 z.cl, .int .i64 z.nu, .int .i64 (z.ph : Nat), z.leftv, z.waitv, .int .i64 z.size, .int .i64 (z.came : Nat), z.bv, .bool z.read, .int .i64 z.mh.c, .int .i64 z.mh.k, .int .i64 z.mh.n, .int .i64 z.mh.t, z.mv, z.lv, .bool z.over, z.treev, .int .i64 z.e], frz x.F x.W, own 33 4 x.v x.xs.length (x.xs.flatMap nvC)])) := by
 refine Tr.of (l := [(0, .pointer (some ⟨D, 0, none⟩))]) Tryz.func39 rfl (n := 10) rfl (.cons rfl .nil) (fun w0 hro => ?_)
 refine go [9,10,1,7,8,9,10,0,2,8,2,3,2,2,50,0] ?_
 refine G.op rfl (G.lit1 (vs := [_]) rfl Tryz.underlying29 kr rfl (by decide) (by decide) rfl rfl ?_)
 intro b7
 refine go [2,50,8] ?_
 refine G.op rfl (G.buildSlice (z := .agg #[.int .i64 0, .slice none 0 0, .slice none 0 0, .slice none 0 0]) (sz := 4) (cs := [.int .i64 8, .slice (some ⟨b7, 0, none⟩) 1 1, .slice none 0 0, .slice none 0 0]) rfl Tryz.underlying39 kr (by decide) (by decide) rfl kr ?_)
 intro b9
 refine go [1,7,8,11] ?_
 refine G.ownBlk (b := b7) (k := 1) (sz := 1) selT rfl (by omega) ?_
 refine G.ownBlk (b := b9) (k := 1) (sz := 4) selT rfl (by omega) ?_
 refine G.freeze (p := [own 3 1 _ _ _]) selT subT (fun F1 W1 hU hC => ?_)
 have h1 := frz_own1 (p := I64) (f := vInt) [z.nu] (hC _ (List.mem_singleton.2 rfl)) rfl (by intro x hx; obtain rfl : x = _ := (by simpa using hx); exact hn)
 exact G.doneX1 (⟨[(⟨⟨8, [z.nu], [], []⟩, .slice (some ⟨b7, 0, none⟩) 1 1, .slice none 0 0, .slice none 0 0⟩ : NV)], .slice (some ⟨b9, 0, none⟩) 1 1, F1, W1⟩) (by first | exact trivial | ((try dsimp only) <;> exact ⟨hU, (fun y hy => by obtain rfl : y = _ := (by simpa using hy); exact ⟨h1, IsSl.nil _ _ _, IsSl.nil _ _ _, i64_8, by show 1 ≤ 1000; omega, by show 0 ≤ 1000; omega, by show 0 ≤ 1000000; omega⟩), rfl, (fun y hy => by obtain rfl : y = _ := (by simpa using hy); exact ⟨rfl, rfl⟩)⟩)) rfl rfl rfl subT
set_option maxHeartbeats 4000000 in
theorem bt_mores {F : Nat → Prop} {W : World} (D : Nat) (z : BZ) (hz : BvOk F W z) (hs : z.size ≤ 1000) : Tr Tryz.prog 41 #[.pointer (some ⟨D, 0, none⟩)] [] [blk D 46 [.bool true, .int .i64 z.cl, .int .i64 z.nu, .int .i64 (z.ph : Nat), z.leftv, z.waitv, .int .i64 z.size, .int .i64 (z.came : Nat), z.bv, .bool z.read, .int .i64 z.mh.c, .int .i64 z.mh.k, .int .i64 z.mh.n, .int .i64 z.mh.t, z.mv, z.lv, .bool z.over, z.treev, .int .i64 z.e], frz F W]
 (TX (fun x : BtO => BtJ F W [] x) (fun x => x.v) (fun x => [blk D 46 [.bool true, .int .i64 z.cl, .int .i64 z.nu, .int .i64 (z.ph : Nat), z.leftv, z.waitv, .int .i64 z.size, .int .i64 (z.came : Nat), z.bv, .bool z.read, .int .i64 z.mh.c, .int .i64 z.mh.k, .int .i64 z.mh.n, .int .i64 z.mh.t, z.mv, z.lv, .bool z.over, z.treev, .int .i64 z.e], frz x.F x.W, own 33 4 x.v x.xs.length (x.xs.flatMap nvC)])) := by
 refine Tr.of (l := [(0, .pointer (some ⟨D, 0, none⟩))]) Tryz.func41 rfl (n := 20) rfl (.cons rfl .nil) (fun w0 hro => ?_)
 refine go [9,10,1,7,8,9,10,1,7,8,9,9,10,1,7,8,15] ?_
 refine G.loopK (X := Unit) (ts := [0, 2]) (fun _ => True) (fun _ => [(3, .slice none 0 0), (4, .int .i64 1000)]) (fun _ => []) (fun _ => 0) (x0 := ()) (.cons rfl (.cons rfl .nil)) subT (.cons (.cons .nil)) apT trT (.consE rfl veqT (.consE rfl veqT .nil)) (fun _ hJ => ?_)
 try dsimp only at hJ
 try dsimp only
 refine go [9,9,10,0,0,2,8,2,3,6,2,50,0,2,9,7,8] ?_
 refine G.condP rfl (fun h10 => ?_) (fun h10 => ?_)
 ·exfalso; omega
 refine go [18,14,14,19,8,9,10,0,1,7,8,11] ?_
 refine G.ownNil 33 4 ?_
 exact G.doneX1 (⟨[], .slice none 0 0, F, W⟩) (by first | exact trivial | ((try dsimp only) <;> exact ⟨Up.refl _ _, (fun y hy => by cases hy), rfl, (fun y hy => by cases hy)⟩)) rfl rfl rfl subT
def stFn : Nat → Nat
 | 0 => 39
 | 1 => 41
 | _ => 42
def tkF : Nat → Nat
 | 0 => 40
 | 1 => 40
 | _ => 43
def phV (f D : Nat) : Value := .func (.func f) #[.pointer (some ⟨D, 0, none⟩)] #[]
def phC (D : Nat) : List Value := [phV (stFn 0) D, phV (tkF 0) D, phV (stFn 1) D, phV (tkF 1) D, phV (stFn 2) D, phV (tkF 2) D]
theorem phC_st {D i : Nat} (h : i < 3) : (phC D)[0 + i * 2]? = some (phV (stFn i) D) := by
 rcases (show i = 0 ∨ i = 1 ∨ i = 2 by omega) with rfl | rfl | rfl <;> rfl
theorem phC_tk {D i : Nat} (h : i < 3) : (phC D)[0 + i * 2 + 1]? = some (phV (tkF i) D) := by
 rcases (show i = 0 ∨ i = 1 ∨ i = 2 by omega) with rfl | rfl | rfl <;> rfl
set_option maxHeartbeats 4000000 in
theorem phasesB_tr (D : Nat) : Tr Tryz.prog 27 #[.pointer (some ⟨D, 0, none⟩)] [] [] (TX (fun _ : Nat => True) (fun b => .slice (some ⟨b, 0, none⟩) 3 3) (fun b => [blk b 66 (phC D)])) := by
 refine Tr.of (l := [(0, .pointer (some ⟨D, 0, none⟩))]) Tryz.func27 rfl (n := 19) rfl (.cons rfl .nil) (fun w0 hro => ?_)
 refine go [9,10,1,7,8,9,10,0,2,26,0,2,26,2,50,13,0,2,26,0,2,26,2,50,13,0,2,26,0,2,26,2,50,13] ?_
 refine G.op rfl (G.buildSlice (z := .agg #[.nilFunc, .nilFunc]) (sz := 2) (cs := phC D) rfl Tryz.underlying67 kr (by decide) (by decide) rfl kr ?_)
 intro b18
 refine go [1,7,8,11] ?_
 exact G.doneX1 (b18) trT rfl rfl rfl subT
set_option maxHeartbeats 4000000 in
theorem bans_tr {F : Nat → Prop} {W : World} (D : Nat) (z : BZ) (hz : BvOk F W z) (hw : 0 < z.wait.length) : Tr Tryz.prog 53 #[.pointer (some ⟨D, 0, none⟩)] [] [blk D 46 [.bool true, .int .i64 z.cl, .int .i64 z.nu, .int .i64 (z.ph : Nat), z.leftv, z.waitv, .int .i64 z.size, .int .i64 (z.came : Nat), z.bv, .bool z.read, .int .i64 z.mh.c, .int .i64 z.mh.k, .int .i64 z.mh.n, .int .i64 z.mh.t, z.mv, z.lv, .bool z.over, z.treev, .int .i64 z.e], que 33 4 z.waitv z.wait.length (z.wait.flatMap nvC)]
 (TX (fun x : BZ => BvOk F W x ∧ x.bm = ansB z.bm ∧ ∃ v t, x = { z with waitv := v, wait := t, came := 0 }) (fun _ => .tuple #[]) (fun x => [blk D 46 [.bool true, .int .i64 x.cl, .int .i64 x.nu, .int .i64 (x.ph : Nat), x.leftv, x.waitv, .int .i64 x.size, .int .i64 (x.came : Nat), x.bv, .bool x.read, .int .i64 x.mh.c, .int .i64 x.mh.k, .int .i64 x.mh.n, .int .i64 x.mh.t, x.mv, x.lv, .bool x.over, x.treev, .int .i64 x.e], que 33 4 x.waitv x.wait.length (x.wait.flatMap nvC)])) := by
 refine Tr.of (l := [(0, .pointer (some ⟨D, 0, none⟩))]) Tryz.func53 rfl (n := 13) rfl (.cons rfl .nil) (fun w0 hro => ?_)
 refine G.queFact (v := z.waitv) selT (fun _ hql qad qcap hvw => ?_)
 obtain ⟨X, t, hXt⟩ : ∃ X t, z.wait = X :: t := by cases e : z.wait with | nil => (exfalso; rw [e] at hw; exact Nat.lt_irrefl 0 hw) | cons X t => exact ⟨X, t, rfl⟩
 refine G.recast (c := que 33 4 z.waitv z.wait.length (z.wait.flatMap nvC)) (c' := que 33 4 z.waitv (t.length + 1) (nvC X ++ t.flatMap nvC)) (by rw [hXt]; rfl) selT ?_
 refine G.queTo (v := z.waitv) selT (by omega) (fun qg qc qp qs hqv hq1 hq2 hq3 hq4 => ?_)
 refine go [10,0,0,0,2,8,2,3,5] ?_
 refine G.op rfl (G.val rfl rfl ((pv_load (v := z.waitv) Tryz.underlying39 rfl rfl (by exact blk_cell selD (by rfl))).cast hqv) ?_)
 refine G.op rfl (G.val rfl rfl (pv_subL (sz := 4) (k := 1) Tryz.underlying39 kr rfl rfl rfl (by omega)) ?_)
 refine go [2,8,2,3,5] ?_
 refine G.op rfl (G.store kr rfl rfl (sub_one1 _ _ _ _ _) selT leT ?_)
 refine G.queTail (e := 33) (sz := 4) (k := t.length) (c1 := nvC X) selT rfl hq4 hq1 hq2 hq3 ?_
 refine go [2,8,2,3,7,21,7] ?_
 exact G.doneXE ({ z with waitv := subV 4 (some ⟨qg, qp.length, none⟩) 1 (t.length + 1) qc, wait := t, came := 0 }) (by first | exact trivial | ((try dsimp only) <;> exact ⟨⟨hz.left, (fun y hy => hz.wait y (by rw [hXt]; exact List.mem_cons_of_mem _ hy)), hz.items, hz.l, hz.tree, hz.nb⟩, by unfold ansB BZ.bm; rw [hXt]; rfl, _, _, rfl⟩)) rfl rfl subT
section
variable {P : Program} {n : Nat} {w0 : World} {S : Nat → Prop} {l : Fr} {m : List Ck} {Q : Exit → Act → World → Prop} {K : Act → World → Prop}
 {dst : Option Tmp} {ty : TypeId} {pos : String} {after : Array Edge} {g : Option (Nat × Bool)}
theorem pv_subM {t e : TypeId} {x i i' : Operand} {ad : Option Addr} {len cap sz k : Nat} {kd kd' : IntKind} {j j' : Int} (hu : P.underlying t = some (.slice e)) (hsz : (P.info? e).map (·.size) = some sz) (hx : ev l x = some (.slice ad len cap)) (hi : ev l i = some (.int kd j)) (hi' : ev l i' = some (.int kd' j')) (hj : j = (k : Int)) (hj' : j' = (k : Int)) (hk : k ≤ cap) :
 PV P n w0 S l m ⟨dst, .slice t x none (some i) (some i'), ty, pos, after, g⟩ (subV sz ad 0 k k) := fun act w ha _ => by
 show ((Instr.sliceAt t (act.eval x) none (some (act.eval i)) (some (act.eval i'))) >>= fun x => pure (Next.value x)).run P w = _
 rw [ha.eval hx, ha.eval hi, ha.eval hi', hj, hj']
 refine run_v ?_
 have h2 : (k : Int) ≤ cap := by omega
 have hz : ∀ w, (sizeOf e).run P w = .ok sz w := run_sizeOf hsz
 simp [Instr.sliceAt, Instr.slice, Instr.sliceBounds, Instr.sliceBound, go_sem, run_underlying hu, hz, hk, subV]
variable {F : Nat → Prop} {W : World}
theorem may_ckF {e : TypeId} {v : Value} {xs : List CT} {r r' : List Ck} (h : Sel m (own e 17 v xs.length (xs.flatMap chC)) r) (h' : Sel m (frz F W) r') (hok : ∀ x ∈ xs, CkOk F W x) : May w0 S m (slc rCT (fun b => v.ownBlock = some b ∨ F b) v xs) :=
 .mix (fun w hw => rows_sl (E := rCT) chC_len rfl (hw.holds _ h.mem) (fun b hb => .inl hb) fun b o x hx hP hr => ⟨hP, hr, (((hok x hx).1).loc fun b hb => (hw.holds _ h'.mem : (frz F W).φ w) b hb).mono fun k hk => .inr hk, (hok x hx).2.1, by have := (hok x hx).2.2; omega⟩) fun b hb => .inr (by
  rcases hb with hb | hb
  ·exact ⟨_, h.mem, hb⟩
  exact ⟨_, h'.mem, hb⟩)
end
theorem frz_its {e e2 : TypeId} {F : Nat → Prop} {W : World} {v : Value} (xs : List IT) (h1 : (own e 6 v xs.length (xs.flatMap itC)).φ W ∧ ∀ b, (own e 6 v xs.length (xs.flatMap itC)).S b → F b) (h2 : (datI e2 xs).φ W ∧ ∀ b, (datI e2 xs).S b → F b) (hok : ∀ x ∈ xs, ItOk x.1 ∧ all16 x.1.ids) : IsSl rIT F W v xs :=
 rows_sl (E := rIT) itC_len rfl h1.1 (fun b hb => h1.2 b hb) (fun b o x hx hP hr => ⟨hP, hr, (datI_sl h2.1 (fun y hy => (hok y hy).2) x hx).mono h2.2, (hok x hx).1⟩)
theorem frz_tree {e e2 : TypeId} {F : Nat → Prop} {W : World} {v : Value} (xs : List ET) (h1 : (ownT e v xs).φ W ∧ ∀ b, (ownT e v xs).S b → F b) (h2 : (datC e2 xs).φ W ∧ ∀ b, (datC e2 xs).S b → F b) (hok : ∀ x ∈ xs, EnOk x.1) : IsSl rEV F W v xs :=
 ownT_sl h1.1 (fun b hb => h1.2 b hb) hok fun x hx => (datC_dat h2.1 x hx).mono h2.2
theorem its_16 {F : Nat → Prop} {W : World} {v : Value} {xs : List IT} (h : IsSl rIT F W v xs) : ∀ x ∈ its xs, all16 x.ids := fun x hx => by
 obtain ⟨y, hy, rfl⟩ := List.mem_map.1 hx
 obtain ⟨i, hi, rfl⟩ := List.getElem_of_mem hy
 obtain ⟨ad, cap, b, off, _, _, _, _, _, he⟩ := h.open
 exact (IsSl.flat (he i hi).2.2.1).1
theorem fetF_any : ∀ {f g : Nat} {ids : List (List UInt8)}, ids.length ≤ f → ids.length ≤ g → fetF g ids = fetF f ids
 | 0, g, ids, h, _ => by
  rw [List.eq_nil_of_length_eq_zero (by omega : ids.length = 0), fetF_nil, fetF_nil]
 | f + 1, 0, ids, _, h => by
  rw [List.eq_nil_of_length_eq_zero (by omega : ids.length = 0), fetF_nil, fetF_nil]
 | f + 1, g + 1, ids, h1, h2 => by
  by_cases e : ids = []
  ·rw [e, fetF_nil, fetF_nil]
  have hp : 0 < ids.length := List.length_pos_iff.2 e
  rw [fetF_go h1 hp, fetF_go h2 hp]
  exact congrArg _ (fetF_any (f := f) (g := g) (by rw [List.length_drop]; omega) (by rw [List.length_drop]; omega))
theorem isSl_cut {α : Type} {E : Rdr α} {F : Nat → Prop} {W : World} {ad : Option Addr} {cap k : Nat} {xs : List α} {q : Nat} (h : IsSl E F W (.slice ad xs.length cap) xs) (hk : k ≤ xs.length) (hq : (xs.take q).length = k) : IsSl E F W (subV E.sz ad 0 k k) (xs.take q) := by
 obtain ⟨a2, c2, b, off, he, h1⟩ := h
 injection he with e1 e2 e3
 subst e1 e3
 refine ⟨if k = 0 then ad else ad.map (·.add (0 * E.sz)), k, b, off, by unfold subV; rw [hq, Nat.sub_zero], ⟨by omega, by have := h1.hcap; have := h1.hmax; omega, fun h0 => ?_, fun hp => ?_, fun i hi => ?_⟩⟩
 ·by_cases hk0 : k = 0
  ·exact hk0
  rw [if_neg hk0] at h0
  have := h1.had (by omega)
  rw [this] at h0
  cases h0
 ·have := h1.had (by omega)
  rw [if_neg (by omega), this]
  simp [Addr.add]
 have hi2 : i < xs.length := by rw [hq] at hi; omega
 have := h1.cell i hi2
 rwa [List.getElem_take]
theorem isSl_tail {α : Type} {E : Rdr α} {F : Nat → Prop} {W : World} {ad : Option Addr} {cap q : Nat} {xs : List α} (h : IsSl E F W (.slice ad xs.length cap) xs) (hq : 0 < q) : IsSl E F W (subV E.sz ad (min xs.length q) xs.length cap) (xs.drop q) := by
 have := IsSl.sub (i := min xs.length q) (j := xs.length) h (by omega) (Nat.le_refl _)
 rw [List.take_length] at this
 have e : xs.drop (min xs.length q) = xs.drop q := by
  rcases Nat.le_total q xs.length with h1 | h1
  ·rw [Nat.min_eq_right h1]
  rw [Nat.min_eq_left h1, List.drop_length, List.drop_eq_nil_of_le h1]
 rwa [e] at this
structure GoodI (ms : List It) : Prop where
 len : ms.length ≤ 1000
 few : ∀ i, (uniqM (ms.take i)).length ≤ 10000
 ids : ∀ x ∈ ms, x.ids.length ≤ 100000
def readsB (p : BM) : BM := if (rdM p.b).2.1 ≠ 0 ∨ (rdM p.b).1.1.c ≠ p.cl ∨ (rdM p.b).1.1.n ≠ p.nu then finB p [] 11 else { p with mh := (rdM p.b).1.1, items := (rdM p.b).1.2, read := true }
def buildsB (p : BM) : BM := finB p (buildM p.mh p.items p.l).1 (if (buildM p.mh p.items p.l).2 ≠ 0 then 11 else 0)
theorem readsB_no {p : BM} (h : (rdM p.b).2.1 ≠ 0 ∨ (rdM p.b).1.1.c ≠ p.cl ∨ (rdM p.b).1.1.n ≠ p.nu) : readsB p = finB p [] 11 := if_pos h
theorem readsB_ok {p : BM} (h : ¬ ((rdM p.b).2.1 ≠ 0 ∨ (rdM p.b).1.1.c ≠ p.cl ∨ (rdM p.b).1.1.n ≠ p.nu)) : readsB p = { p with mh := (rdM p.b).1.1, items := (rdM p.b).1.2, read := true } := if_neg h
set_option maxHeartbeats 4000000 in
theorem bt_fetches {F : Nat → Prop} {W : World} (D : Nat) (z : BZ) (hz : BvOk F W z) (hg : GoodI (its z.items)) : Tr Tryz.prog 42 #[.pointer (some ⟨D, 0, none⟩)] [] [blk D 46 [.bool true, .int .i64 z.cl, .int .i64 z.nu, .int .i64 (z.ph : Nat), z.leftv, z.waitv, .int .i64 z.size, .int .i64 (z.came : Nat), z.bv, .bool z.read, .int .i64 z.mh.c, .int .i64 z.mh.k, .int .i64 z.mh.n, .int .i64 z.mh.t, z.mv, z.lv, .bool z.over, z.treev, .int .i64 z.e], frz F W]
 (TX (fun x : BtO => BtJ F W (fetL (uniqM (its z.items))) x) (fun x => x.v) (fun x => [blk D 46 [.bool true, .int .i64 z.cl, .int .i64 z.nu, .int .i64 (z.ph : Nat), z.leftv, z.waitv, .int .i64 z.size, .int .i64 (z.came : Nat), z.bv, .bool z.read, .int .i64 z.mh.c, .int .i64 z.mh.k, .int .i64 z.mh.n, .int .i64 z.mh.t, z.mv, z.lv, .bool z.over, z.treev, .int .i64 z.e], frz x.F x.W, own 33 4 x.v x.xs.length (x.xs.flatMap nvC)])) := by
 refine Tr.of (l := [(0, .pointer (some ⟨D, 0, none⟩))]) Tryz.func42 rfl (n := 29) rfl (.cons rfl .nil) (fun w0 hro => ?_)
 refine go [9,10,1,7,8,9,10,0,2,8,2,3,10] ?_
 refine G.op rfl (G.val rfl rfl (pv_loadN (cs := [.int .i64 z.mh.c, .int .i64 z.mh.k, .int .i64 z.mh.n, .int .i64 z.mh.t, z.mv]) Tryz.underlying42 rfl kr rfl (blk_range (k := 5) selD rfl)) ?_)
 refine G.op rfl (G.cS rfl rfl rfl rfl Tryz.func54 rfl rfl subT (may1 (may_frz selD hz.items)) (mids_tr z.mh z.mv z.items (by rw [← its_length]; exact hg.len) hg.few (fun x hx => hg.ids _ (List.mem_map.2 ⟨x, hx, rfl⟩))) apT ?_)
 intro x10 hJ
 try dsimp only at hJ
 try dsimp only
 refine G.freeze (p := [own 59 16 x10 _ _]) selT subT (fun F1 W1 hU1 hC1 => ?_)
 have hI := frz_ownI (uniqM (its z.items)) (hC1 _ (List.mem_singleton.2 rfl)) rfl (uniqM_16 (its_16 hz.items))
 have hful : (uniqM (its z.items)).length ≤ 10000 := by have := hg.few (its z.items).length; rwa [List.take_length] at this
 obtain ⟨U, hUe⟩ : ∃ U, uniqM (its z.items) = U := ⟨_, rfl⟩
 rw [hUe] at hI hful
 rw [hUe]
 obtain ⟨ad, cap, bI, oI, hvI, hIc, hIm, _⟩ := hI.open
 subst hvI
 refine go [1,7,8,9,10,1,7,8,9,15] ?_
 refine G.ownNil 33 4 ?_
 refine G.loopK (X := (Option Addr) × Nat × (List (List UInt8)) × Value × (List NV) × (Nat → Prop) × World) (ts := [2]) (fun st => Up F W st.2.2.2.2.2.1 st.2.2.2.2.2.2 ∧ (∀ y ∈ st.2.2.2.2.1, NvOk st.2.2.2.2.2.1 st.2.2.2.2.2.2 y) ∧ nvs st.2.2.2.2.1 ++ fetF st.2.2.1.length st.2.2.1 = fetL U ∧ IsSl rID st.2.2.2.2.2.1 st.2.2.2.2.2.2 (.slice st.1 st.2.2.1.length st.2.1) st.2.2.1 ∧ st.2.2.2.2.1.length + st.2.2.1.length ≤ 10000 ∧ (∀ y ∈ st.2.2.2.2.1, y.n.bs = [] ∧ y.vB = .slice none 0 0)) (fun st => [(3, .slice st.1 st.2.2.1.length st.2.1), (4, st.2.2.2.1)]) (fun st => [frz st.2.2.2.2.2.1 st.2.2.2.2.2.2, own 33 4 st.2.2.2.1 st.2.2.2.2.1.length (st.2.2.2.2.1.flatMap nvC)]) (fun st => st.2.2.1.length) (x0 := (ad, cap, U, .slice none 0 0, [], F1, W1)) (.cons rfl .nil) subT (.cons (.cons .nil)) apT (by first | exact trivial | ((try dsimp only) <;> exact ⟨hU1, (fun y hy => by cases hy), rfl, hI, (by rw [List.length_nil]; omega), (fun y hy => by cases hy)⟩)) (.consE rfl veqT (.consE rfl veqT .nil)) (fun st hJ => ?_)
 obtain ⟨ar, cr, rest, vo, xs, F2, W2⟩ := st
 try dsimp only at hJ
 try dsimp only
 obtain ⟨hU2, hA2, hN2, hI2, hl2, hb2⟩ := hJ
 obtain ⟨_, _, _, _, hq9, hcr, hcm, _⟩ := hI2.open
 injection hq9 with q1 q2 q3
 subst q3
 refine go [9,9,10,0,2,5,2,10,7,8] ?_
 refine G.condP rfl (fun h13 => ?_) (fun h13 => ?_)
 ·have h0 : 0 < rest.length := by omega
  have hdl : (rest.drop 16).length = rest.length - 16 := List.length_drop
  have htl : (rest.take 16).length = min rest.length 16 := by rw [List.length_take, Nat.min_comm]
  refine go [13,8,15,9,10,0,2,5] ?_
  refine G.op rfl (G.val rfl rfl (pv_min rfl rfl) ?_)
  refine go [1,7,8,9,10,0,0,0,0] ?_
  refine G.op rfl (G.val rfl rfl (pv_subM (sz := 16) (k := min rest.length 16) Tryz.underlying30 kr rfl rfl rfl (by omega) (by omega) (by omega)) ?_)
  have hsb : IsSl rID F2 W2 (subV 16 ar 0 (min rest.length 16) (min rest.length 16)) (rest.take 16) := isSl_cut hI2 (by omega) htl
  obtain ⟨an, cn, bn, on, hvn1, _⟩ := hsb.open
  rw [hvn1]
  rw [hvn1] at hsb
  have hok : NvOk F2 W2 (⟨⟨10, [], rest.take 16, []⟩, .slice none 0 0, .slice an (rest.take 16).length cn, .slice none 0 0⟩ : NV) := ⟨IsSl.nil _ _ _, hsb, IsSl.nil _ _ _, i64_10, by show 0 ≤ 1000; omega, by show (rest.take 16).length ≤ 1000; omega, by show 0 ≤ 1000000; omega⟩
  refine go [2,50,8] ?_
  refine G.op rfl (G.buildSlice (z := .agg #[.int .i64 0, .slice none 0 0, .slice none 0 0, .slice none 0 0]) (sz := 4) (cs := nvC (⟨⟨10, [], rest.take 16, []⟩, .slice none 0 0, .slice an (rest.take 16).length cn, .slice none 0 0⟩ : NV)) rfl Tryz.underlying39 kr (by decide) (by decide) rfl kr ?_)
  intro b23
  refine G.op rfl (G.append (k := xs.length) (j := 1) (cs := xs.flatMap nvC) (news := nvC (⟨⟨10, [], rest.take 16, []⟩, .slice none 0 0, .slice an (rest.take 16).length cn, .slice none 0 0⟩ : NV)) (b := b23) (off := 0) rfl Tryz.underlying39 Tryz.infoNo rfl rfl rfl selT (fun _ => rfl) (fun h => by cases h) rfl (blk_news (k := 4) selT rfl) (fun u hu => by simp only [nvC, List.mem_cons, List.not_mem_nil, or_false] at hu; rcases hu with rfl | rfl | rfl | rfl <;> rfl) (by omega) (by omega) ?_)
  intro vn
  rw [nvC_app, show xs.length + 1 = (xs ++ [(⟨⟨10, [], rest.take 16, []⟩, .slice none 0 0, .slice an (rest.take 16).length cn, .slice none 0 0⟩ : NV)]).length from by rw [List.length_append]; rfl]
  refine G.ownFact (v := vn) selT (fun hvn _ => ?_)
  refine go [1,7,8,10,0,0] ?_
  refine G.op rfl (G.val rfl rfl (pv_subL (sz := 16) (k := min rest.length 16) Tryz.underlying30 kr rfl rfl (by omega) (by omega)) ?_)
  have hsd : IsSl rID F2 W2 (subV 16 ar (min rest.length 16) rest.length cr) (rest.drop 16) := isSl_tail hI2 (by omega)
  obtain ⟨a2, c2, b2, o2, hv2, _⟩ := hsd.open
  rw [hv2]
  rw [hv2] at hsd
  have hI3 := hsd
  refine go [1,7,16] ?_
  exact G.next (a2, c2, rest.drop 16, vn, xs ++ [(⟨⟨10, [], rest.take 16, []⟩, .slice none 0 0, .slice an (rest.take 16).length cn, .slice none 0 0⟩ : NV)], F2, W2) (by first | exact trivial | ((try dsimp only) <;> exact ⟨hU2, nv_all (Up.refl _ _) hA2 hok, (by rw [nvs_app, List.append_assoc, ← hN2, fetF_go (Nat.le_refl _) h0, fetF_any (f := (rest.drop 16).length) (g := rest.length - 1) (Nat.le_refl _) (by rw [List.length_drop]; omega)]; rfl), hI3, (by have e1 := List.length_drop (i := 16) (l := rest); rw [List.length_append]; show xs.length + 1 + (rest.drop 16).length ≤ 10000; omega), nb_snoc hb2 ⟨rfl, rfl⟩⟩)) (by (try dsimp only); omega) (.consE rfl veqT (.consE rfl veqT (.cons rfl .nil))) subT
 obtain rfl : rest = [] := List.eq_nil_of_length_eq_zero (by omega)
 refine go [18,14,14,19,8,9,10,0,1,7,8,11] ?_
 exact G.doneX1 (⟨xs, vo, F2, W2⟩) (by first | exact trivial | ((try dsimp only) <;> exact ⟨hU2, hA2, by rw [← hN2, fetF_nil, List.append_nil], hb2⟩)) rfl rfl rfl subT
set_option maxHeartbeats 4000000 in
theorem breads_tr {F : Nat → Prop} {W : World} (D : Nat) (z : BZ) (hz : BvOk F W z) (hb : z.b.length ≤ 1000000000) (hok : ∀ x ∈ (rdM z.b).1.2, ItOk x ∧ all16 x.ids) : Tr Tryz.prog 35 #[.pointer (some ⟨D, 0, none⟩)] [] [blk D 46 [.bool true, .int .i64 z.cl, .int .i64 z.nu, .int .i64 (z.ph : Nat), z.leftv, z.waitv, .int .i64 z.size, .int .i64 (z.came : Nat), z.bv, .bool z.read, .int .i64 z.mh.c, .int .i64 z.mh.k, .int .i64 z.mh.n, .int .i64 z.mh.t, z.mv, z.lv, .bool z.over, z.treev, .int .i64 z.e], frz F W, que 33 4 z.waitv z.wait.length (z.wait.flatMap nvC), own 5 1 z.bv z.b.length (z.b.map vByte), own 106 17 z.lv z.l.length (z.l.flatMap chC)]
 (TX (fun x : BZ × (Nat → Prop) × World => Up F W x.2.1 x.2.2 ∧ BvOk x.2.1 x.2.2 x.1 ∧ x.1.bm = readsB z.bm) (fun _ => .tuple #[]) (fun x => [blk D 46 [.bool true, .int .i64 x.1.cl, .int .i64 x.1.nu, .int .i64 (x.1.ph : Nat), x.1.leftv, x.1.waitv, .int .i64 x.1.size, .int .i64 (x.1.came : Nat), x.1.bv, .bool x.1.read, .int .i64 x.1.mh.c, .int .i64 x.1.mh.k, .int .i64 x.1.mh.n, .int .i64 x.1.mh.t, x.1.mv, x.1.lv, .bool x.1.over, x.1.treev, .int .i64 x.1.e], frz x.2.1 x.2.2, que 33 4 x.1.waitv x.1.wait.length (x.1.wait.flatMap nvC), own 5 1 x.1.bv x.1.b.length (x.1.b.map vByte), own 106 17 x.1.lv x.1.l.length (x.1.l.flatMap chC)])) := by
 refine Tr.of (l := [(0, .pointer (some ⟨D, 0, none⟩))]) Tryz.func35 rfl (n := 42) rfl (.cons rfl .nil) (fun w0 hro => ?_)
 refine G.ownOpen (v := z.bv) selT (fun qad qcap hbv _ _ => ?_)
 refine go [9,10,0,2,8,2,3,8] ?_
 refine G.op rfl (G.val rfl rfl ((pv_load (v := z.bv) Tryz.underlying31 rfl rfl (by exact blk_cell selD (by rfl))).cast hbv) ?_)
 refine G.op rfl (G.cS rfl rfl rfl rfl Tryz.func50 rfl rfl subT (may1 (by rw [← hbv]; exact may_own selT rfl (fun _ _ => trivial))) (mread_tr _ z.b hb) apT ?_)
 intro x9 hJ
 obtain ⟨iv, is⟩ := x9
 try dsimp only at hJ
 try dsimp only
 have his : its is = (rdM z.b).1.2 := hJ
 refine G.ownFact (v := iv) selT (fun hiv _ => ?_)
 refine go [0] ?_
 refine G.op rfl (G.val rfl rfl (pv_extract (v := .agg #[.int .i64 (rdM z.b).1.1.c, .int .i64 (rdM z.b).1.1.k, .int .i64 (rdM z.b).1.1.n, .int .i64 (rdM z.b).1.1.t, iv]) rfl rfl) ?_)
 refine G.op rfl (G.val rfl rfl (pv_extract (v := .agg #[.int .i64 (rdM z.b).2.1, .int .i64 (rdM z.b).2.2]) rfl rfl) ?_)
 refine go [60,6] ?_
 intro b2
 refine go [60,4] ?_
 intro b3
 refine go [20,20,7,8,9,9] ?_
 refine G.drawT (nn := 21) (p := []) (rem := 2097151) [0, 1, 2, 4, 8, 24, 8, 72, 136, 264, 552, 1032, 2056, 4096, 12288, 4096, 36864, 69632, 135168, 282624, 528384] [0, 1, 2, 4, 8, 24, 8, 72, 136, 264, 552, 1032, 2048, 4096, 12288, 4096, 36864, 69632, 135168, 282624, 528384] kr ⟨rfl, by kernel_rfl, by kernel_rfl⟩ subT kr (fun hT1 => ?_)
 refine go [22,0,2097150,3,0,24,1,2097148,25,50,0,26,22,2,2097144,14,22,3,2097136,0] ?_
 refine G.partP (t := 15) rfl (fun h15 => ?_) (fun h15 => ?_)
 ·refine go [23,4,2097120,23,5,2097088,23,6,2097024,23,7,2096896,23,8,2096640,23,9,2096128,23,10,2095104,22,11,2093056,2,22,12,2088960,0,23,13,2080768,23,14,2064384,23,15,2031616,23,16,1966080,23,17,1835008,23,18,1572864,23,19,1048576,22,20,0,2,27,8,60,0,9,10,0] ?_
  refine G.op rfl (G.cS rfl rfl rfl rfl Tryz.func26 rfl rfl subT may0 (bend_tr D z (.slice none 0 0) [] 11 rfl) apT ?_)
  intro x34 hJ
  try dsimp only at hJ
  try dsimp only
  refine go [7,8,11,12] ?_
  exact G.doneX0 ((z.end (.slice none 0 0) [] 11, F, W)) Y26 rfl rfl subT
 refine go [22,4,2097120,3,0,22,5,2097088,50,0,22,6,2097024,0,22,7,2096896,8,22,8,2096640,3,1,24,9,2096128,25,50,0,26,22,10,2095104,14,22,11,2093056,2,22,12,2088960,0] ?_
 refine G.partP (t := 24) rfl (fun h24 => ?_) (fun h24 => ?_)
 ·refine go [23,13,2080768,23,14,2064384,23,15,2031616,23,16,1966080,23,17,1835008,23,18,1572864,23,19,1048576,22,20,0,2,27,8,60,0,9,10,0] ?_
  refine G.op rfl (G.cS rfl rfl rfl rfl Tryz.func26 rfl rfl subT may0 (bend_tr D z (.slice none 0 0) [] 11 rfl) apT ?_)
  intro x34 hJ
  try dsimp only at hJ
  try dsimp only
  refine go [7,8,11,12] ?_
  exact G.doneX0 ((z.end (.slice none 0 0) [] 11, F, W)) Y26 rfl rfl subT
 refine go [22,13,2080768,3,2,22,14,2064384,50,0,22,15,2031616,0,22,16,1966080,8,22,17,1835008,3,2,24,18,1572864,25,50,0,26,22,19,1048576,14,22,20,0,2,27,8] ?_
 refine G.condP rfl (fun h32 => ?_) (fun h32 => ?_)
 ·refine go [9,10,0] ?_
  refine G.op rfl (G.cS rfl rfl rfl rfl Tryz.func26 rfl rfl subT may0 (bend_tr D z (.slice none 0 0) [] 11 rfl) apT ?_)
  intro x34 hJ
  try dsimp only at hJ
  try dsimp only
  refine go [7,8,11,12] ?_
  exact G.doneX0 ((z.end (.slice none 0 0) [] 11, F, W)) Y26 rfl rfl subT
 refine go [13,8,10,0,0,2,50,3,2,8,2,3,10,20,2,8,2,3,9,21,7] ?_
 refine G.freeze (p := [own 78 6 iv is.length (is.flatMap itC), datI 59 is]) selT subT (fun F1 W1 hU hC => ?_)
 have hi := frz_its is (hC _ (List.mem_cons_self ..)) (hC _ (List.mem_cons_of_mem _ (List.mem_cons_self ..))) (fun x hx => hok _ (by rw [← his]; exact List.mem_map.2 ⟨x, hx, rfl⟩))
 exact G.doneXE (({ z with mh := (rdM z.b).1.1, mv := iv, items := is, read := true }, F1, W1)) (by first | exact trivial | ((try dsimp only) <;> exact ⟨hU, ⟨(hz.up hU).left, (hz.up hU).wait, hi, (hz.up hU).l, (hz.up hU).tree, (hz.up hU).nb⟩, by rw [readsB_ok (by show ¬ ((rdM z.b).2.1 ≠ 0 ∨ (rdM z.b).1.1.c ≠ z.cl ∨ (rdM z.b).1.1.n ≠ z.nu); omega)]; show BM.mk .. = BM.mk ..; rw [his]; rfl⟩)) rfl rfl subT
set_option maxHeartbeats 4000000 in
theorem bbuilds_tr {F : Nat → Prop} {W : World} (D : Nat) (z : BZ) (hz : BvOk F W z) (hi : ∀ x ∈ z.items, x.1.ids.length ≤ 100000) (hd : ∀ x ∈ z.l, x.1.2.length ≤ 100000) (hen : ∀ e ∈ (buildM z.mh (its z.items) (cks z.l)).1, EnOk e) : Tr Tryz.prog 36 #[.pointer (some ⟨D, 0, none⟩)] [] [blk D 46 [.bool true, .int .i64 z.cl, .int .i64 z.nu, .int .i64 (z.ph : Nat), z.leftv, z.waitv, .int .i64 z.size, .int .i64 (z.came : Nat), z.bv, .bool z.read, .int .i64 z.mh.c, .int .i64 z.mh.k, .int .i64 z.mh.n, .int .i64 z.mh.t, z.mv, z.lv, .bool z.over, z.treev, .int .i64 z.e], frz F W, que 33 4 z.waitv z.wait.length (z.wait.flatMap nvC), own 5 1 z.bv z.b.length (z.b.map vByte), own 106 17 z.lv z.l.length (z.l.flatMap chC)]
 (TX (fun x : BZ × (Nat → Prop) × World => Up F W x.2.1 x.2.2 ∧ BvOk x.2.1 x.2.2 x.1 ∧ x.1.bm = buildsB z.bm) (fun _ => .tuple #[]) (fun x => [blk D 46 [.bool true, .int .i64 x.1.cl, .int .i64 x.1.nu, .int .i64 (x.1.ph : Nat), x.1.leftv, x.1.waitv, .int .i64 x.1.size, .int .i64 (x.1.came : Nat), x.1.bv, .bool x.1.read, .int .i64 x.1.mh.c, .int .i64 x.1.mh.k, .int .i64 x.1.mh.n, .int .i64 x.1.mh.t, x.1.mv, x.1.lv, .bool x.1.over, x.1.treev, .int .i64 x.1.e], frz x.2.1 x.2.2, que 33 4 x.1.waitv x.1.wait.length (x.1.wait.flatMap nvC), own 5 1 x.1.bv x.1.b.length (x.1.b.map vByte), own 106 17 x.1.lv x.1.l.length (x.1.l.flatMap chC)])) := by
 refine Tr.of (l := [(0, .pointer (some ⟨D, 0, none⟩))]) Tryz.func36 rfl (n := 22) rfl (.cons rfl .nil) (fun w0 hro => ?_)
 refine G.ownOpen (v := z.lv) selT (fun qad qcap hlv _ _ => ?_)
 refine G.seq ?_
 refine G.drawT (nn := 14) (p := []) (rem := 16383) [0, 1, 2, 4, 0, 16, 32, 64, 136, 256, 512, 512, 2047, 8191] [0, 1, 2, 4, 0, 16, 32, 64, 136, 256, 512, 512, 1024, 2048] kr ⟨rfl, by kernel_rfl, by kernel_rfl⟩ subT kr (fun hT0 => ?_)
 refine go [22,0,16382,0,22,1,16380,8,22,2,16376,3,10,22,4,16360,0,22,5,16328,8,22,6,16264,3,15] ?_
 refine G.takeT hT0 (i := 3) (rem' := 16256) rfl rfl rfl kr (fun _ _ _ h => h) rfl (pv_loadN (cs := [.int .i64 z.mh.c, .int .i64 z.mh.k, .int .i64 z.mh.n, .int .i64 z.mh.t, z.mv]) Tryz.underlying42 rfl kr rfl (blk_range (k := 5) selD rfl)) subT ?_
 refine go [24,7,16128] ?_
 refine G.turnOp rfl rfl (G.val rfl rfl ((pv_load (v := z.lv) Tryz.underlying43 rfl rfl (by exact blk_cell selD (by rfl))).cast hlv) ?_)
 refine go [26,24,8,15872] ?_
 refine G.turnOp rfl rfl (G.cS rfl rfl rfl rfl Tryz.func51 rfl rfl subT (may2 (may_frz selD hz.items) (by rw [← hlv]; exact may_ckF selD selD hz.l)) (mbuild_tr z.mh _ _ z.items z.l hi hd) apT ?_)
 intro x13 hJ
 obtain ⟨tv, ts⟩ := x13
 try dsimp only at hJ
 try dsimp only
 have hts : ens ts = (buildM z.mh (its z.items) (cks z.l)).1 := hJ
 refine G.ownFact (v := tv) selT (fun htv _ => ?_)
 refine go [26,22,9,15360,0] ?_
 refine G.takeT hT0 (i := 10) (rem' := 14336) rfl rfl rfl kr (fun _ _ _ h => h) rfl (pv_extract (v := tv) rfl rfl) subT ?_
 refine G.takeT hT0 (i := 11) (rem' := 12288) rfl rfl rfl kr (fun _ _ _ h => h) rfl (pv_extract (v := .int .i64 (buildM z.mh (its z.items) (cks z.l)).2) rfl rfl) subT ?_
 refine go [22,12,8192,1,22,13,0,1,27,8,9] ?_
 refine G.cutK (X := Unit) (ts := [0, 2]) (p := []) (fun _ => True) (fun _ => [(3, .int .i64 (if (buildM z.mh (its z.items) (cks z.l)).2 ≠ 0 then 11 else 0))]) (fun _ => []) (.cons rfl (.cons rfl .nil)) subT (.cons .nil) apT ?_ ?_
 ·refine go [9,10,0,2,14,7,8] ?_
  refine G.condP rfl (fun h17 => ?_) (fun h17 => ?_)
  ·refine go [10,1,7] ?_
   exact G.meet (()) trT (.consE rfl (congrArg (Value.int .i64) (if_pos (by omega)).symm) (.cons rfl (.cons rfl .nil))) subT
  refine G.skip ?_
  exact G.meet (()) trT (.consE rfl (congrArg (Value.int .i64) (by rw [if_neg (by omega)]; omega)) (.cons rfl (.cons rfl .nil))) subT
 intro _ hJ
 try dsimp only at hJ
 try dsimp only
 refine go [10] ?_
 refine G.freeze (p := [ownT 73 tv ts, datC 5 ts]) selT subT (fun F1 W1 hU hC => ?_)
 have ht := frz_tree ts (hC _ (List.mem_cons_self ..)) (hC _ (List.mem_cons_of_mem _ (List.mem_cons_self ..))) (fun x hx => hen _ (by rw [← hts]; exact List.mem_map.2 ⟨x, hx, rfl⟩))
 refine go [0,0,0] ?_
 refine G.op rfl (G.cS rfl rfl rfl rfl Tryz.func26 rfl rfl subT may0 (bend_tr D z tv ts _ htv) apT ?_)
 intro x21 hJ
 try dsimp only at hJ
 try dsimp only
 refine G.nil ?_
 exact G.doneXE ((z.end tv ts (if (buildM z.mh (its z.items) (cks z.l)).2 ≠ 0 then 11 else 0), F1, W1)) (by first | exact trivial | ((try dsimp only) <;> exact ⟨hU, bend_ok (hz.up hU) ht _, by rw [bend_bm, hts]; rfl⟩)) rfl rfl subT
def notesB (p : BM) : Nat → List Nt
 | 0 => [⟨8, [p.nu], [], []⟩]
 | 1 => []
 | _ => fetL (uniqM p.items)
def midB (p : BM) : BM := if p.ph = 3 then readsB p else if p.ph = 4 then buildsB p else p
def goB (p : BM) : BM := if (midB { p with ph := p.ph + 1 }).over = true then midB { p with ph := p.ph + 1 } else { midB { p with ph := p.ph + 1 } with left := notesB (midB { p with ph := p.ph + 1 }) ((midB { p with ph := p.ph + 1 }).ph - 1) }
def nextF : Nat → BM → BM
 | 0, p => p
 | f + 1, p => if p.over = false ∧ p.left = [] ∧ p.wait = [] then nextF f (goB p) else p
def nextB (p : BM) : BM := nextF (4 - p.ph) p
theorem nextF_go {f : Nat} {p : BM} (h : p.over = false ∧ p.left = [] ∧ p.wait = []) : nextF (f + 1) p = nextF f (goB p) := if_pos h
theorem nextF_no {f : Nat} {p : BM} (h : ¬ (p.over = false ∧ p.left = [] ∧ p.wait = [])) : nextF f p = p := by
 cases f with
 | zero => rfl
 | succ f => exact if_neg h
structure BgOk (p : BM) : Prop where
 nu : I64 p.nu
 size : p.size ≤ 1000
 b : p.b.length ≤ 1000000000
 rd : GoodI (rdM p.b).1.2 ∧ ∀ x ∈ (rdM p.b).1.2, ItOk x ∧ all16 x.ids
 its : GoodI p.items
 l : ∀ c ∈ p.l, c.2.length ≤ 100000
 ph : p.over = true ∨ p.ph ≤ 3
 few : p.left.length + p.wait.length ≤ 200000000
 bd : ∀ e ∈ (buildM p.mh p.items p.l).1, EnOk e
 bd2 : ∀ e ∈ (buildM (rdM p.b).1.1 (rdM p.b).1.2 p.l).1, EnOk e
theorem readsB_two (p : BM) : readsB p = finB p [] 11 ∨ readsB p = { p with mh := (rdM p.b).1.1, items := (rdM p.b).1.2, read := true } := by
 unfold readsB
 split
 ·exact .inl rfl
 exact .inr rfl
theorem mid_ok {p : BM} (h : BgOk p) (ho : p.over = false) (hp : p.ph + 1 ≤ 4) : BgOk (midB { p with ph := p.ph + 1 }) ∧ ((midB { p with ph := p.ph + 1 }).over = true ∨ (midB { p with ph := p.ph + 1 }).ph = p.ph + 1 ∧ p.ph + 1 ≤ 3) := by
 unfold midB
 by_cases h3 : p.ph + 1 = 3
 ·rw [if_pos h3]
  rcases readsB_two { p with ph := p.ph + 1 } with e | e
  ·rw [e]
   exact ⟨⟨h.nu, h.size, h.b, h.rd, h.its, h.l, .inl rfl, Nat.zero_le _, h.bd, h.bd2⟩, .inl rfl⟩
  rw [e]
  exact ⟨⟨h.nu, h.size, h.b, h.rd, h.rd.1, h.l, .inr (by show p.ph + 1 ≤ 3; omega), h.few, h.bd2, h.bd2⟩, .inr ⟨rfl, by omega⟩⟩
 rw [if_neg h3]
 by_cases h4 : p.ph + 1 = 4
 ·rw [if_pos h4]
  exact ⟨⟨h.nu, h.size, h.b, h.rd, h.its, h.l, .inl rfl, Nat.zero_le _, h.bd, h.bd2⟩, .inl rfl⟩
 rw [if_neg h4]
 exact ⟨⟨h.nu, h.size, h.b, h.rd, h.its, h.l, .inr (by show p.ph + 1 ≤ 3; omega), h.few, h.bd, h.bd2⟩, .inr ⟨rfl, by omega⟩⟩
theorem mid_ph (p : BM) : (midB p).ph = p.ph := by
 unfold midB
 split
 ·rcases readsB_two p with e | e
  ·rw [e]; rfl
  rw [e]
 split
 ·rfl
 rfl
theorem notes_few {p : BM} (h : BgOk p) (i : Nat) : (notesB p i).length ≤ 20000 := by
 have hf : ∀ (f : Nat) (ids : List (List UInt8)), (fetF f ids).length ≤ f := by
  intro f
  induction f with
  | zero => intro ids; exact Nat.le_refl _
  | succ f ih =>
   intro ids
   show (if _ then _ else _ : List Nt).length ≤ _
   split
   ·exact Nat.zero_le _
   have := ih (ids.drop 16)
   rw [List.length_cons]
   omega
 unfold notesB
 split
 ·show 1 ≤ _; omega
 ·show 0 ≤ _; omega
 have h1 := hf (uniqM p.items).length (uniqM p.items)
 have h2 := h.its.few p.items.length
 rw [List.take_length] at h2
 unfold fetL
 omega
theorem st_trB {F : Nat → Prop} {W : World} (D : Nat) (z : BZ) (i : Nat) (hz : BvOk F W z) (hg : BgOk z.bm) : Tr Tryz.prog (stFn i) #[.pointer (some ⟨D, 0, none⟩)] [] [blk D 46 [.bool true, .int .i64 z.cl, .int .i64 z.nu, .int .i64 (z.ph : Nat), z.leftv, z.waitv, .int .i64 z.size, .int .i64 (z.came : Nat), z.bv, .bool z.read, .int .i64 z.mh.c, .int .i64 z.mh.k, .int .i64 z.mh.n, .int .i64 z.mh.t, z.mv, z.lv, .bool z.over, z.treev, .int .i64 z.e], frz F W]
 (TX (fun x : BtO => BtJ F W (notesB z.bm i) x) (fun x => x.v) (fun x => [blk D 46 [.bool true, .int .i64 z.cl, .int .i64 z.nu, .int .i64 (z.ph : Nat), z.leftv, z.waitv, .int .i64 z.size, .int .i64 (z.came : Nat), z.bv, .bool z.read, .int .i64 z.mh.c, .int .i64 z.mh.k, .int .i64 z.mh.n, .int .i64 z.mh.t, z.mv, z.lv, .bool z.over, z.treev, .int .i64 z.e], frz x.F x.W, own 33 4 x.v x.xs.length (x.xs.flatMap nvC)])) := by
 match i with
 | 0 => exact bt_restore D z hz hg.nu
 | 1 => exact bt_mores D z hz hg.size
 | _ + 2 => exact bt_fetches D z hz hg.its
theorem stFn_fn (i : Nat) : ∃ fn c, Tryz.prog.funcs[stFn i]? = some fn ∧ fn.body = some c ∧ (fn.name == "runtime.NumGoroutine") = false := by
 match i with
 | 0 => exact ⟨_, _, Tryz.func39, rfl, by rfl⟩
 | 1 => exact ⟨_, _, Tryz.func41, rfl, by rfl⟩
 | _ + 2 => exact ⟨_, _, Tryz.func42, rfl, by rfl⟩
theorem tkFn_fn (i : Nat) : ∃ fn c, Tryz.prog.funcs[tkF i]? = some fn ∧ fn.body = some c ∧ (fn.name == "runtime.NumGoroutine") = false := by
 match i with
 | 0 => exact ⟨_, _, Tryz.func40, rfl, by rfl⟩
 | 1 => exact ⟨_, _, Tryz.func40, rfl, by rfl⟩
 | _ + 2 => exact ⟨_, _, Tryz.func43, rfl, by rfl⟩
theorem wait_zero {p q : BM} (h : q = midB { p with ph := p.ph + 1 }) (hw : p.wait.length = 0) : q.wait.length = 0 := by
 subst h
 unfold midB
 split
 ·rcases readsB_two { p with ph := p.ph + 1 } with e | e
  ·rw [e]; rfl
  rw [e]; exact hw
 split
 ·rfl
 exact hw
theorem nvs_none {xs : List NV} (h : xs.length = 0) : nvs xs = [] := by
 rw [List.eq_nil_of_length_eq_zero h]
 rfl
set_option maxHeartbeats 4000000 in
theorem bnext_tr {F : Nat → Prop} {W : World} (D : Nat) (z : BZ) (hz : BvOk F W z) (hg : BgOk z.bm) : Tr Tryz.prog 24 #[.pointer (some ⟨D, 0, none⟩)] [] [blk D 46 [.bool true, .int .i64 z.cl, .int .i64 z.nu, .int .i64 (z.ph : Nat), z.leftv, z.waitv, .int .i64 z.size, .int .i64 (z.came : Nat), z.bv, .bool z.read, .int .i64 z.mh.c, .int .i64 z.mh.k, .int .i64 z.mh.n, .int .i64 z.mh.t, z.mv, z.lv, .bool z.over, z.treev, .int .i64 z.e], frz F W, que 33 4 z.waitv z.wait.length (z.wait.flatMap nvC), own 5 1 z.bv z.b.length (z.b.map vByte), own 106 17 z.lv z.l.length (z.l.flatMap chC)]
 (TX (fun x : BZ × (Nat → Prop) × World => Up F W x.2.1 x.2.2 ∧ BvOk x.2.1 x.2.2 x.1 ∧ x.1.bm = nextB z.bm) (fun _ => .tuple #[]) (fun x => [blk D 46 [.bool true, .int .i64 x.1.cl, .int .i64 x.1.nu, .int .i64 (x.1.ph : Nat), x.1.leftv, x.1.waitv, .int .i64 x.1.size, .int .i64 (x.1.came : Nat), x.1.bv, .bool x.1.read, .int .i64 x.1.mh.c, .int .i64 x.1.mh.k, .int .i64 x.1.mh.n, .int .i64 x.1.mh.t, x.1.mv, x.1.lv, .bool x.1.over, x.1.treev, .int .i64 x.1.e], frz x.2.1 x.2.2, que 33 4 x.1.waitv x.1.wait.length (x.1.wait.flatMap nvC), own 5 1 x.1.bv x.1.b.length (x.1.b.map vByte), own 106 17 x.1.lv x.1.l.length (x.1.l.flatMap chC)])) := by
 refine Tr.of (l := [(0, .pointer (some ⟨D, 0, none⟩))]) Tryz.func24 rfl (n := 59) rfl (.cons rfl .nil) (fun w0 hro => ?_)
 refine G.block ?_
 refine G.loopK (X := BZ × (Nat → Prop) × World) (ts := [0]) (fun st => Up F W st.2.1 st.2.2 ∧ BvOk st.2.1 st.2.2 st.1 ∧ BgOk st.1.bm ∧ nextB z.bm = nextF (4 - st.1.ph) st.1.bm) (fun st => []) (fun st => [blk D 46 [.bool true, .int .i64 st.1.cl, .int .i64 st.1.nu, .int .i64 (st.1.ph : Nat), st.1.leftv, st.1.waitv, .int .i64 st.1.size, .int .i64 (st.1.came : Nat), st.1.bv, .bool st.1.read, .int .i64 st.1.mh.c, .int .i64 st.1.mh.k, .int .i64 st.1.mh.n, .int .i64 st.1.mh.t, st.1.mv, st.1.lv, .bool st.1.over, st.1.treev, .int .i64 st.1.e], frz st.2.1 st.2.2, que 33 4 st.1.waitv st.1.wait.length (st.1.wait.flatMap nvC), own 5 1 st.1.bv st.1.b.length (st.1.b.map vByte), own 106 17 st.1.lv st.1.l.length (st.1.l.flatMap chC)]) (fun st => 4 - st.1.ph) (x0 := (z, F, W)) (.cons rfl .nil) subT Ap.nil apT (by first | exact trivial | ((try dsimp only) <;> exact ⟨Up.refl _ _, hz, hg, rfl⟩)) .nil (fun st hJ => ?_)
 obtain ⟨y, F1, W1⟩ := st
 try dsimp only at hJ
 try dsimp only
 obtain ⟨hU1, hy, hgy, hE⟩ := hJ
 obtain ⟨cL, dL, eL, fL, hvL, _⟩ := hy.left.open
 refine G.queFact (v := y.waitv) selT (fun _ hql qad qcap hvw => ?_)
 have hfew : y.left.length + y.wait.length ≤ 200000000 := by have := hgy.few; have h1 := nvs_length y.left; have h2 := nvs_length y.wait; change (nvs y.left).length + (nvs y.wait).length ≤ _ at this; omega
 have hpo : y.over = true ∨ y.ph ≤ 3 := hgy.ph
 refine go [9,9] ?_
 refine G.drawT (nn := 19) (p := []) (rem := 524287) [0, 1, 2, 4, 8, 16, 32, 96, 160, 288, 544, 32, 2080, 4128, 8224, 16416, 33824, 65568, 131104] [0, 1, 2, 4, 8, 16, 32, 96, 160, 288, 544, 32, 2080, 4128, 8224, 16416, 33824, 65568, 131104] kr ⟨rfl, by kernel_rfl, by kernel_rfl⟩ subT kr (fun hT0 => ?_)
 refine go [22,0,524286,0,22,1,524284,8,22,2,524280,3,16,24,3,524272,25,50,0,26,22,4,524256,25,22,5,524224,0] ?_
 refine G.part (t := 7) rfl (fun h7 => ?_) (fun h7 => ?_)
 ·refine go [22,6,524160,0,22,7,524032,8,22,8,523776,3,4] ?_
  refine G.takeT hT0 (i := 9) (rem' := 523264) rfl rfl rfl kr (fun _ _ _ h => h) rfl ((pv_load (v := y.leftv) Tryz.underlying39 rfl rfl (by exact blk_cell selD (by rfl))).cast hvL) subT ?_
  refine go [22,10,522240,5,22,11,520192,0,22,12,516096,8,22,13,507904,3,5,24,14,491520] ?_
  refine G.turnOp rfl rfl (G.val rfl rfl ((pv_load (v := y.waitv) Tryz.underlying39 rfl rfl (by exact blk_cell selD (by rfl))).cast hvw) ?_)
  refine go [26,22,15,458752,5,22,16,393216,6,22,17,262144,13,22,18,0,2,27,8] ?_
  refine G.condP rfl (fun h20 => ?_) (fun h20 => ?_)
  ·have hov : y.over = false := by simp_all
   have hp3 : y.ph ≤ 3 := by rcases hpo with h | h; (rw [hov] at h; cases h); exact h
   have hl0 : y.left.length = 0 := by omega
   have hw0 : y.wait.length = 0 := by omega
   have hcond : y.bm.over = false ∧ y.bm.left = [] ∧ y.bm.wait = [] := ⟨hov, nvs_none hl0, nvs_none hw0⟩
   have hE2 : nextB z.bm = nextF (3 - y.ph) (goB y.bm) := by rw [hE, show 4 - y.ph = (3 - y.ph) + 1 from by omega]; exact nextF_go hcond
   obtain ⟨hg2', ho2'⟩ := mid_ok hgy hov (by show y.ph + 1 ≤ 4; omega)
   refine go [13,8,15,9,10,0,2,8,2,3,3,2,50,0] ?_
   refine G.op rfl (G.val rfl rfl ((pv_add64 rfl rfl (by omega)).cast (v' := .int .i64 ((y.ph + 1 : Nat) : Int)) (congrArg _ (by omega))) ?_)
   refine go [2,8,2,3,3,21,7,8,9] ?_
   refine G.cutK (X := BZ × (Nat → Prop) × World) (ts := [0]) (p := [blk D 46 _, frz F1 W1, que 33 4 _ _ _, own 5 1 _ _ _, own 106 17 _ _ _]) (fun st => Up F1 W1 st.2.1 st.2.2 ∧ BvOk st.2.1 st.2.2 st.1 ∧ st.1.bm = midB { y.bm with ph := y.bm.ph + 1 }) (fun st => []) (fun st => [blk D 46 [.bool true, .int .i64 st.1.cl, .int .i64 st.1.nu, .int .i64 (st.1.ph : Nat), st.1.leftv, st.1.waitv, .int .i64 st.1.size, .int .i64 (st.1.came : Nat), st.1.bv, .bool st.1.read, .int .i64 st.1.mh.c, .int .i64 st.1.mh.k, .int .i64 st.1.mh.n, .int .i64 st.1.mh.t, st.1.mv, st.1.lv, .bool st.1.over, st.1.treev, .int .i64 st.1.e], frz st.2.1 st.2.2, que 33 4 st.1.waitv st.1.wait.length (st.1.wait.flatMap nvC), own 5 1 st.1.bv st.1.b.length (st.1.b.map vByte), own 106 17 st.1.lv st.1.l.length (st.1.l.flatMap chC)]) (.cons rfl .nil) subT Ap.nil apT ?_ ?_
   ·refine go [9,10,0,2,8,2,3,3,2,50,0,7,8,15,9,10,2,13,1,7,8] ?_
    refine G.condP rfl (fun h32 => ?_) (fun h32 => ?_)
    ·refine go [10,0] ?_
     refine G.op rfl (G.cS rfl rfl rfl rfl Tryz.func35 rfl rfl subT may0 (breads_tr (F := F1) (W := W1) D ({ y with ph := y.ph + 1 } : BZ) ⟨hy.left, hy.wait, hy.items, hy.l, hy.tree, hy.nb⟩ hgy.b hgy.rd.2) apT ?_)
     intro x35 hJ
     obtain ⟨y3, F3, W3⟩ := x35
     try dsimp only at hJ
     try dsimp only
     refine go [7,16] ?_
     exact G.meet (y3, F3, W3) (by first | exact trivial | ((try dsimp only) <;> exact ⟨hJ.1, hJ.2.1, hJ.2.2.trans (if_pos (show y.ph + 1 = 3 from by omega)).symm⟩)) (.cons rfl .nil) subT
    refine go [9,10,2,13,1,7,8] ?_
    refine G.condP rfl (fun h36 => ?_) (fun h36 => ?_)
    ·refine go [10,0] ?_
     refine G.op rfl (G.cS rfl rfl rfl rfl Tryz.func36 rfl rfl subT may0 (bbuilds_tr (F := F1) (W := W1) D ({ y with ph := y.ph + 1 } : BZ) ⟨hy.left, hy.wait, hy.items, hy.l, hy.tree, hy.nb⟩ (fun x hx => hgy.its.ids _ (List.mem_map.2 ⟨x, hx, rfl⟩)) (fun x hx => hgy.l _ (List.mem_map.2 ⟨x, hx, rfl⟩)) hgy.bd) apT ?_)
     intro x39 hJ
     obtain ⟨y3, F3, W3⟩ := x39
     try dsimp only at hJ
     try dsimp only
     refine go [7,16] ?_
     exact G.meet (y3, F3, W3) (by first | exact trivial | ((try dsimp only) <;> exact ⟨hJ.1, hJ.2.1, hJ.2.2.trans ((if_neg (show ¬ y.ph + 1 = 3 from by omega)).trans (if_pos (show y.ph + 1 = 4 from by omega))).symm⟩)) (.cons rfl .nil) subT
    refine go [13,16] ?_
    exact G.meet (({ y with ph := y.ph + 1 } : BZ), F1, W1) (by first | exact trivial | ((try dsimp only) <;> exact ⟨Up.refl _ _, ⟨hy.left, hy.wait, hy.items, hy.l, hy.tree, hy.nb⟩, ((if_neg (show ¬ y.ph + 1 = 3 from by omega)).trans (if_neg (show ¬ y.ph + 1 = 4 from by omega))).symm⟩)) (.cons rfl .nil) subT
   intro st hJ
   obtain ⟨y2, F2, W2⟩ := st
   try dsimp only at hJ
   try dsimp only
   obtain ⟨hU2, hy2, hb2⟩ := hJ
   rw [← hb2] at hg2' ho2'
   have hph9 : y2.ph = y.ph + 1 := by have := mid_ph { y.bm with ph := y.bm.ph + 1 }; rw [← hb2] at this; exact this
   have hg2 := hg2'
   have ho2 : y2.over = true ∨ y2.ph = y.ph + 1 ∧ y.ph + 1 ≤ 3 := ho2'
   have hgo : goB y.bm = if y2.over = true then y2.bm else { y2.bm with left := notesB y2.bm (y2.ph - 1) } := by unfold goB; rw [← hb2]; rfl
   refine go [9,10,0,2,8,2,3,16,2,50,0,2,25,7,8] ?_
   refine G.cond rfl (fun h44 => ?_) (fun h44 => ?_)
   ·have hov2 : y2.over = false := by simp_all
    have hph2 : y2.ph = y.ph + 1 ∧ y.ph + 1 ≤ 3 := by rcases ho2 with h | h; (rw [hov2] at h; cases h); exact h
    rw [if_neg (by rw [hov2]; simp)] at hgo
    have hi3 : y2.ph - 1 < 3 := by omega
    refine G.drawE (nn := 15) (p := [blk D 46 _, frz F2 W2]) (rem := 4095) [0, 0, 2, 0, 8, 16, 32, 64, 132, 256, 512, 1028, 4095, 8191, 12287] [0, 0, 2, 0, 8, 16, 32, 64, 132, 256, 512, 1024, 1, 4096, 10240] [14, 13, 12] [16383, 8191, 4095] 12 kr ⟨rfl, by kernel_rfl, by kernel_rfl⟩ kr kr kr subT (fun hT8 => ?_)
    refine go [22,0,4094,0,22,1,4092,0,22,3,4084,0,22,4,4068,8,22,5,4036,3,3] ?_
    refine G.twoT hT8 (i := 2) (j := 6) (rem' := 4032) (rem'' := 3972) kr kr kr ?_ ?_
    ·refine G.turnOp rfl rfl (G.cS rfl rfl rfl rfl Tryz.func27 rfl rfl subT may0 (phasesB_tr D) apT ?_)
     intro x47 hJ
     obtain bph := x47
     try dsimp only at hJ
     try dsimp only
     refine go [26,24,6,3968,25,50,0,26] ?_
     refine G.takeT hT8 (i := 7) (rem' := 3840) rfl rfl rfl kr (fun _ _ _ h => h) rfl ((pv_sub64 rfl rfl (by omega)).cast (v' := .int .i64 ((y2.ph - 1 : Nat) : Int)) (congrArg _ (by omega))) subT ?_
     refine G.takeT hT8 (i := 8) (rem' := 3584) rfl rfl rfl kr (fun _ _ _ h => h) rfl (pv_ixSl (sz := 2) (k := y2.ph - 1) Tryz.underlying67 kr rfl rfl (fun _ => rfl) rfl (by omega)) subT ?_
     refine go [22,9,3072,3,0,24,10,2048] ?_
     refine G.turnOp rfl rfl (G.val rfl rfl (pv_load (v := phV (stFn (y2.ph - 1)) D) Tryz.underlying63 rfl rfl (blk_cell selD (phC_st hi3))) ?_)
     refine go [26,24,11,0] ?_
     refine G.turnOp rfl rfl (G.cSv (J := fun x : BtO => BtJ F2 W2 (notesB y2.bm (y2.ph - 1)) x) rfl rfl rfl rfl rfl (stFn_fn _) rfl subT may0 (st_trB D y2 (y2.ph - 1) hy2 hg2) apT ?_)
     rintro ⟨nxs, nv, F3, W3⟩ hJ
     try dsimp only at hJ
     obtain ⟨hU3, hA3, hN3, hB3⟩ := hJ
     try dsimp only
     refine G.ownOpen (v := nv) selT (fun na nc hov3 _ _ => ?_)
     subst hov3
     refine go [26,27] ?_
     refine G.tailS [14, 13] 12 rfl ?_
     refine go [25,8] ?_
     refine G.tailS [14] 13 rfl ?_
     refine go [25,3,4] ?_
     refine G.tailS [] 14 rfl ?_
     refine go [30] ?_
     refine G.freeze (p := [own 33 4 _ _ _]) selT subT (fun F4 W4 hU4 hC4 => ?_)
     have hnl : IsSl rNV F4 W4 (.slice na nxs.length nc) nxs := frz_nvs nxs (hC4 _ (List.mem_singleton.2 rfl)) (nv_up hU4 hA3)
     have hN3' : nvs nxs = notesB y2.bm (y2.ph - 1) := hN3
     have hnf := notes_few hg2 (y2.ph - 1)
     have hb4 : ({ y2 with leftv := .slice na nxs.length nc, left := nxs } : BZ).bm = goB y.bm := by rw [hgo, ← hN3']; rfl
     have hg4 : BgOk ({ y2 with leftv := .slice na nxs.length nc, left := nxs } : BZ).bm := ⟨hg2.nu, hg2.size, hg2.b, hg2.rd, hg2.its, hg2.l, hg2.ph, by show (nvs nxs).length + (nvs y2.wait).length ≤ _; have h1 : y2.bm.wait.length ≤ 200000000 := Nat.le_trans (Nat.le_add_left _ _) hg2.few; rw [hN3']; have h2 : (nvs y2.wait).length = 0 := wait_zero hb2 (by show (nvs y.wait).length = 0; rw [nvs_length]; exact hw0); omega, hg2.bd, hg2.bd2⟩
     have hE4 : nextB z.bm = nextF (4 - ({ y2 with leftv := .slice na nxs.length nc, left := nxs } : BZ).ph) ({ y2 with leftv := .slice na nxs.length nc, left := nxs } : BZ).bm := by rw [hE2, hb4]; show _ = nextF (4 - y2.ph) _; rw [show 4 - y2.ph = 3 - y.ph from by omega]
     refine G.tailD ?_
     refine go [16] ?_
     exact G.next ({ y2 with leftv := .slice na nxs.length nc, left := nxs }, F4, W4) (by first | exact trivial | ((try dsimp only) <;> exact ⟨hU1.trans (hU2.trans (hU3.trans hU4)), ⟨hnl, (hy2.up (hU3.trans hU4)).wait, (hy2.up (hU3.trans hU4)).items, (hy2.up (hU3.trans hU4)).l, (hy2.up (hU3.trans hU4)).tree, hB3⟩, hg4, hE4⟩)) (by (try dsimp only); omega) (.cons rfl .nil) subT
    refine go [25,50,0,26] ?_
    refine G.takeT hT8 (i := 7) (rem' := 3844) rfl rfl rfl kr (fun _ _ _ h => h) rfl ((pv_sub64 rfl rfl (by omega)).cast (v' := .int .i64 ((y2.ph - 1 : Nat) : Int)) (congrArg _ (by omega))) subT ?_
    refine go [24,2,3840] ?_
    refine G.turnOp rfl rfl (G.cS rfl rfl rfl rfl Tryz.func27 rfl rfl subT may0 (phasesB_tr D) apT ?_)
    intro x47 hJ
    obtain bph := x47
    try dsimp only at hJ
    try dsimp only
    refine go [26] ?_
    refine G.takeT hT8 (i := 8) (rem' := 3584) rfl rfl rfl kr (fun _ _ _ h => h) rfl (pv_ixSl (sz := 2) (k := y2.ph - 1) Tryz.underlying67 kr rfl rfl (fun _ => rfl) rfl (by omega)) subT ?_
    refine go [22,9,3072,3,0,24,10,2048] ?_
    refine G.turnOp rfl rfl (G.val rfl rfl (pv_load (v := phV (stFn (y2.ph - 1)) D) Tryz.underlying63 rfl rfl (blk_cell selD (phC_st hi3))) ?_)
    refine go [26,24,11,0] ?_
    refine G.turnOp rfl rfl (G.cSv (J := fun x : BtO => BtJ F2 W2 (notesB y2.bm (y2.ph - 1)) x) rfl rfl rfl rfl rfl (stFn_fn _) rfl subT may0 (st_trB D y2 (y2.ph - 1) hy2 hg2) apT ?_)
    rintro ⟨nxs, nv, F3, W3⟩ hJ
    try dsimp only at hJ
    obtain ⟨hU3, hA3, hN3, hB3⟩ := hJ
    try dsimp only
    refine G.ownOpen (v := nv) selT (fun na nc hov3 _ _ => ?_)
    subst hov3
    refine go [26,27] ?_
    refine G.tailS [14, 13] 12 rfl ?_
    refine go [25,8] ?_
    refine G.tailS [14] 13 rfl ?_
    refine go [25,3,4] ?_
    refine G.tailS [] 14 rfl ?_
    refine go [30] ?_
    refine G.freeze (p := [own 33 4 _ _ _]) selT subT (fun F4 W4 hU4 hC4 => ?_)
    have hnl : IsSl rNV F4 W4 (.slice na nxs.length nc) nxs := frz_nvs nxs (hC4 _ (List.mem_singleton.2 rfl)) (nv_up hU4 hA3)
    have hN3' : nvs nxs = notesB y2.bm (y2.ph - 1) := hN3
    have hnf := notes_few hg2 (y2.ph - 1)
    have hb4 : ({ y2 with leftv := .slice na nxs.length nc, left := nxs } : BZ).bm = goB y.bm := by rw [hgo, ← hN3']; rfl
    have hg4 : BgOk ({ y2 with leftv := .slice na nxs.length nc, left := nxs } : BZ).bm := ⟨hg2.nu, hg2.size, hg2.b, hg2.rd, hg2.its, hg2.l, hg2.ph, by show (nvs nxs).length + (nvs y2.wait).length ≤ _; have h1 : y2.bm.wait.length ≤ 200000000 := Nat.le_trans (Nat.le_add_left _ _) hg2.few; rw [hN3']; have h2 : (nvs y2.wait).length = 0 := wait_zero hb2 (by show (nvs y.wait).length = 0; rw [nvs_length]; exact hw0); omega, hg2.bd, hg2.bd2⟩
    have hE4 : nextB z.bm = nextF (4 - ({ y2 with leftv := .slice na nxs.length nc, left := nxs } : BZ).ph) ({ y2 with leftv := .slice na nxs.length nc, left := nxs } : BZ).bm := by rw [hE2, hb4]; show _ = nextF (4 - y2.ph) _; rw [show 4 - y2.ph = 3 - y.ph from by omega]
    refine G.tailD ?_
    refine go [16] ?_
    exact G.next ({ y2 with leftv := .slice na nxs.length nc, left := nxs }, F4, W4) (by first | exact trivial | ((try dsimp only) <;> exact ⟨hU1.trans (hU2.trans (hU3.trans hU4)), ⟨hnl, (hy2.up (hU3.trans hU4)).wait, (hy2.up (hU3.trans hU4)).items, (hy2.up (hU3.trans hU4)).l, (hy2.up (hU3.trans hU4)).tree, hB3⟩, hg4, hE4⟩)) (by (try dsimp only); omega) (.cons rfl .nil) subT
   have hov2 : y2.over = true := by simp_all
   rw [if_pos hov2] at hgo
   have hE5 : nextB z.bm = nextF (4 - y2.ph) y2.bm := by rw [hE2, hgo, nextF_no (by rintro ⟨h, _⟩; rw [show y2.bm.over = y2.over from rfl, hov2] at h; cases h), nextF_no (by rintro ⟨h, _⟩; rw [show y2.bm.over = y2.over from rfl, hov2] at h; cases h)]
   refine go [13,16] ?_
   exact G.next (y2, F2, W2) (by first | exact trivial | ((try dsimp only) <;> exact ⟨hU1.trans hU2, hy2, hg2, hE5⟩)) (by (try dsimp only); omega) (.cons rfl .nil) subT
  refine go [18,14,14,19] ?_
  exact G.doneXE ((y, F1, W1)) (by first | exact trivial | ((try dsimp only) <;> exact ⟨hU1, hy, by rw [hE]; exact (nextF_no (by rintro ⟨h1, h2, h3⟩; have h1 : y.over = false := h1; have h2 := congrArg List.length h2; have h3 := congrArg List.length h3; change (nvs y.left).length = 0 at h2; change (nvs y.wait).length = 0 at h3; rw [nvs_length] at h2 h3; simp_all)).symm⟩)) rfl rfl subT
 refine go [23,6,524160,23,7,524032,23,8,523776,23,9,523264,23,10,522240,23,11,520192,23,12,516096,23,13,507904,23,14,491520,23,15,458752,23,16,393216,23,17,262144,22,18,0,2,27,8,60,1,18,14,14,19] ?_
 exact G.doneXE ((y, F1, W1)) (by first | exact trivial | ((try dsimp only) <;> exact ⟨hU1, hy, by rw [hE]; exact (nextF_no (by rintro ⟨h1, h2, h3⟩; have h1 : y.over = false := h1; have h2 := congrArg List.length h2; have h3 := congrArg List.length h3; change (nvs y.left).length = 0 at h2; change (nvs y.wait).length = 0 at h3; rw [nvs_length] at h2 h3; simp_all)).symm⟩)) rfl rfl subT
def newBM (c n : Int) : BM := ⟨c, n, 0, [], [], 0, 0, [], false, mh0, [], [], false, [], 0⟩
theorem rd_nil : (rdM []).1.2 = [] := by kernel_rfl
theorem bd_nil : (buildM mh0 [] []).1 = [] := by kernel_rfl
theorem bd_nil2 : (buildM (rdM []).1.1 (rdM []).1.2 []).1 = [] := by kernel_rfl
theorem goodI_nil : GoodI [] := ⟨Nat.zero_le _, fun i => (by rw [List.take_nil]; exact Nat.zero_le _), fun x hx => by cases hx⟩
theorem new_bg {c n : Int} (hn : 1 ≤ n ∧ n ≤ 2147483647) : BgOk (newBM c n) :=
 ⟨by show -9223372036854775808 ≤ n ∧ n ≤ 9223372036854775807; omega, by show (0 : Int) ≤ 1000; decide, Nat.zero_le _, ⟨by show GoodI (rdM []).1.2; rw [rd_nil]; exact goodI_nil, fun x hx => by have hx : x ∈ (rdM []).1.2 := hx; rw [rd_nil] at hx; cases hx⟩, goodI_nil, (fun c hc => by cases hc), .inr (Nat.zero_le _), Nat.zero_le _, (fun e he => by have he : e ∈ (buildM mh0 [] []).1 := he; rw [bd_nil] at he; cases he), fun e he => by have he : e ∈ (buildM (rdM []).1.1 (rdM []).1.2 []).1 := he; rw [bd_nil2] at he; cases he⟩
theorem bz0_ok {F : Nat → Prop} {W : World} (c n : Int) : BvOk F W (⟨c, n, 0, .slice none 0 0, .slice none 0 0, 0, 0, .slice none 0 0, false, mh0, .slice none 0 0, .slice none 0 0, false, .slice none 0 0, 0, [], [], [], [], [], []⟩ : BZ) := ⟨IsSl.nil _ _ _, (fun x hx => by cases hx), IsSl.nil _ _ _, (fun x hx => by cases hx), IsSl.nil _ _ _, fun x hx => by cases hx⟩
set_option maxHeartbeats 4000000 in
theorem bnew_ok (c n : Int) (hc : 1 ≤ c ∧ c ≤ 2147483647) (hn : 1 ≤ n ∧ n ≤ 2147483647) : Tr Tryz.prog 7 #[.int .i64 c, .int .i64 n] [] []
 (TX (fun x : BZ × Nat × (Nat → Prop) × World => BvOk x.2.2.1 x.2.2.2 x.1 ∧ x.1.bm = nextB (newBM c n)) (fun x => .tuple #[.pointer (some ⟨x.2.1, 0, none⟩), .int .i64 0]) (fun x => [blk x.2.1 46 [.bool true, .int .i64 x.1.cl, .int .i64 x.1.nu, .int .i64 (x.1.ph : Nat), x.1.leftv, x.1.waitv, .int .i64 x.1.size, .int .i64 (x.1.came : Nat), x.1.bv, .bool x.1.read, .int .i64 x.1.mh.c, .int .i64 x.1.mh.k, .int .i64 x.1.mh.n, .int .i64 x.1.mh.t, x.1.mv, x.1.lv, .bool x.1.over, x.1.treev, .int .i64 x.1.e], frz x.2.2.1 x.2.2.2, que 33 4 x.1.waitv x.1.wait.length (x.1.wait.flatMap nvC), own 5 1 x.1.bv x.1.b.length (x.1.b.map vByte), own 106 17 x.1.lv x.1.l.length (x.1.l.flatMap chC)])) := by
 refine Tr.of (l := [(0, .int .i64 c), (1, .int .i64 n)]) Tryz.func7 rfl (n := 22) rfl (.cons rfl (.cons rfl .nil)) (fun w0 hro => ?_)
 refine go [9,10,1,1,7,8,9,9,10,0] ?_
 refine G.op rfl (G.cR rfl rfl rfl rfl Tryz.func23 rfl rfl may0 (bvalid_tr c) ?_)
 refine G.op rfl (G.val rfl rfl ((pv_not rfl).cast (v' := .bool false) (congrArg Value.bool (by rw [decide_eq_true hc]; rfl))) ?_)
 refine go [0,3,0] ?_
 refine G.want rfl rfl rfl (G.cR rfl rfl rfl rfl Tryz.func23 rfl rfl may0 (bvalid_tr n) ?_)
 refine G.want rfl rfl rfl (G.val rfl rfl ((pv_not rfl).cast (v' := .bool false) (congrArg Value.bool (by rw [decide_eq_true hn]; rfl))) ?_)
 refine go [2,2,7,8,60,1,13,8,9,10,0,0] ?_
 refine G.op rfl (G.val rfl rfl (pv_buildSt (z := [.bool false, .int .i64 0, .int .i64 0, .int .i64 0, .slice none 0 0, .slice none 0 0, .int .i64 0, .int .i64 0, .slice none 0 0, .bool false, .int .i64 0, .int .i64 0, .int .i64 0, .int .i64 0, .slice none 0 0, .slice none 0 0, .bool false, .slice none 0 0, .int .i64 0]) (pl := [(0, 1), (1, 1), (2, 1), (3, 1), (4, 1), (5, 1), (6, 1), (7, 1), (8, 1), (9, 1), (10, 5), (15, 1), (16, 1), (17, 1), (18, 1)]) Tryz.underlying46 kr kr rfl flT) ?_)
 refine go [60,19] ?_
 intro b18
 refine go [1,7,8,9,10] ?_
 refine G.frz0 (fun W9 => ?_)
 refine G.queNil 33 4 ?_
 refine G.ownNil 5 1 ?_
 refine G.ownNil 106 17 ?_
 refine go [0] ?_
 refine G.op rfl (G.cS rfl rfl rfl rfl Tryz.func24 rfl rfl subT may0 (bnext_tr (F := fun _ => False) (W := W9) b18 (⟨c, n, 0, .slice none 0 0, .slice none 0 0, 0, 0, .slice none 0 0, false, mh0, .slice none 0 0, .slice none 0 0, false, .slice none 0 0, 0, [], [], [], [], [], []⟩ : BZ) (bz0_ok c n) (new_bg hn)) apT ?_)
 intro x20 hJ
 obtain ⟨z3, F3, W3⟩ := x20
 try dsimp only at hJ
 try dsimp only
 refine go [7,8,9,10,0,1,1,7,8,11] ?_
 exact G.doneX2 ((z3, b18, F3, W3)) (by first | exact trivial | ((try dsimp only) <;> exact ⟨hJ.2.1, hJ.2.2⟩)) rfl rfl rfl rfl subT
set_option maxHeartbeats 4000000 in
theorem bnew_bad (c n : Int) (hc : ¬ (1 ≤ c ∧ c ≤ 2147483647)) : Tr Tryz.prog 7 #[.int .i64 c, .int .i64 n] [] [] (T0 (.tuple #[.pointer none, .int .i64 2])) := by
 refine Tr.of (l := [(0, .int .i64 c), (1, .int .i64 n)]) Tryz.func7 rfl (n := 22) rfl (.cons rfl (.cons rfl .nil)) (fun w0 hro => ?_)
 refine go [9,10,1,1,7,8,9,9,10,0] ?_
 refine G.op rfl (G.cR rfl rfl rfl rfl Tryz.func23 rfl rfl may0 (bvalid_tr c) ?_)
 refine G.op rfl (G.val rfl rfl ((pv_not rfl).cast (v' := .bool true) (congrArg Value.bool (by rw [decide_eq_false hc]; rfl))) ?_)
 refine go [0,4,4,4,2,2,7,8,60,0,9,10,1,1,7,8,11,12] ?_
 exact G.done0G rfl (Rv.tmp rfl (Rv.tmp rfl Rv.nil)) Y8
def pieceB (p : BM) (y : Nt) : BM := if y.k ≠ 22 ∨ n0 y.ns ≠ p.b.length ∨ (p.ph = 2 ∧ n1 y.ns ≠ p.size) ∨ n1 y.ns < 1 ∨ 262144 < n1 y.ns ∨ (y.bs.length : Int) ≠ min (n1 y.ns - p.b.length) 1000 then finB p [] 370 else ansB { p with size := n1 y.ns, b := p.b ++ y.bs }
theorem pieceB_no {p : BM} {y : Nt} (h : y.k ≠ 22 ∨ n0 y.ns ≠ p.b.length ∨ (p.ph = 2 ∧ n1 y.ns ≠ p.size) ∨ n1 y.ns < 1 ∨ 262144 < n1 y.ns ∨ (y.bs.length : Int) ≠ min (n1 y.ns - p.b.length) 1000) : pieceB p y = finB p [] 370 := if_pos h
theorem pieceB_ok {p : BM} {y : Nt} (h : ¬ (y.k ≠ 22 ∨ n0 y.ns ≠ p.b.length ∨ (p.ph = 2 ∧ n1 y.ns ≠ p.size) ∨ n1 y.ns < 1 ∨ 262144 < n1 y.ns ∨ (y.bs.length : Int) ≠ min (n1 y.ns - p.b.length) 1000)) : pieceB p y = ansB { p with size := n1 y.ns, b := p.b ++ y.bs } := if_neg h
set_option maxHeartbeats 4000000 in
theorem bpiece_tr {F : Nat → Prop} {W : World} {Pv1 Pv2 Pv3 : Nat → Prop} (k : Int) (v1 v2 v3 : Value) (ns : List Int) (ids : List (List UInt8)) (bs : List UInt8) (D : Nat) (z : BZ) (x : NV) (hz : BvOk F W z) (hx : NvOk F W x) (hw : 0 < z.wait.length) (hy : k = 22 → 1 < ns.length) (hb : z.b.length ≤ 1000000) : Tr Tryz.prog 40 #[.pointer (some ⟨D, 0, none⟩), .agg #[.int .i64 x.n.k, x.vN, x.vI, x.vB], .agg #[.int .i64 k, v1, v2, v3]] [slc rInt Pv1 v1 ns, slc rID Pv2 v2 ids, slc rByte Pv3 v3 bs] [blk D 46 [.bool true, .int .i64 z.cl, .int .i64 z.nu, .int .i64 (z.ph : Nat), z.leftv, z.waitv, .int .i64 z.size, .int .i64 (z.came : Nat), z.bv, .bool z.read, .int .i64 z.mh.c, .int .i64 z.mh.k, .int .i64 z.mh.n, .int .i64 z.mh.t, z.mv, z.lv, .bool z.over, z.treev, .int .i64 z.e], frz F W, que 33 4 z.waitv z.wait.length (z.wait.flatMap nvC), own 5 1 z.bv z.b.length (z.b.map vByte), own 106 17 z.lv z.l.length (z.l.flatMap chC)]
 (TX (fun x : BZ × (Nat → Prop) × World => Up F W x.2.1 x.2.2 ∧ BvOk x.2.1 x.2.2 x.1 ∧ x.1.bm = pieceB z.bm ⟨k, ns, ids, bs⟩) (fun _ => .tuple #[]) (fun x => [blk D 46 [.bool true, .int .i64 x.1.cl, .int .i64 x.1.nu, .int .i64 (x.1.ph : Nat), x.1.leftv, x.1.waitv, .int .i64 x.1.size, .int .i64 (x.1.came : Nat), x.1.bv, .bool x.1.read, .int .i64 x.1.mh.c, .int .i64 x.1.mh.k, .int .i64 x.1.mh.n, .int .i64 x.1.mh.t, x.1.mv, x.1.lv, .bool x.1.over, x.1.treev, .int .i64 x.1.e], frz x.2.1 x.2.2, que 33 4 x.1.waitv x.1.wait.length (x.1.wait.flatMap nvC), own 5 1 x.1.bv x.1.b.length (x.1.b.map vByte), own 106 17 x.1.lv x.1.l.length (x.1.l.flatMap chC)])) := by
 refine Tr.of (l := [(0, .pointer (some ⟨D, 0, none⟩)), (1, .agg #[.int .i64 x.n.k, x.vN, x.vI, x.vB]), (2, .agg #[.int .i64 k, v1, v2, v3])]) Tryz.func40 rfl (n := 91) rfl (.cons rfl (.cons rfl (.cons rfl .nil))) (fun w0 hro => ?_)
 obtain ⟨hA, hB, hC⟩ := ro3 hro
 have oa := Ro.open hA
 have ob := Ro.open hB
 have oc := Ro.open hC
 obtain ⟨aa, ca, qa, oa', rfl, hca, hma, -, had, hel⟩ := oa
 obtain ⟨ab, cb, qb, ob', rfl, hcb, hmb, -, hbd, hbl⟩ := ob
 obtain ⟨ac, cc, qc, oc', rfl, hcc, -⟩ := oc
 refine G.ownOpen (v := z.bv) selT (fun bad bcp hbv _ _ => ?_)
 have hx1 := hx.1.one
 have hx2 := hx.2.1.one
 have hx3 := hx.2.2.1.one
 refine go [9,10,60,3] ?_
 intro b4
 refine go [60,3] ?_
 intro b5
 refine go [7,8,9,9] ?_
 refine G.drawT (nn := 64) (p := []) (rem := 18446744073709551615) [0, 1, 2, 4, 8, 24, 40, 72, 8, 264, 520, 1032, 2056, 4232, 8200, 16392, 32768, 98304, 163840, 294912, 557056, 1081344, 2097152, 6291456, 10485760, 18874368, 2097152, 69206016, 136314880, 270532608, 572522496, 1075871744, 2147516416, 4297064448, 8589934592, 25769803776, 42949672960, 77309411328, 146028888064, 283467841536, 558345748480, 1099511627776, 3298534883328, 5497558138880, 9895604649984, 18691697672192, 36283883716608, 71468255805440, 140737488355328, 422212465065984, 703687441776640, 140737488355328, 2392537302040576, 4644337115725824, 9147936743096320, 140737488355328, 36169534507319296, 72198331526283264, 144255925564211200, 288371113640067072, 594615888301260800, 1153062242095202304, 2307109646608891904, 4611826755915743232] [0, 1, 2, 4, 8, 24, 40, 72, 8, 264, 520, 1032, 2056, 4232, 8200, 16384, 32768, 98304, 163840, 294912, 557056, 1081344, 2097152, 6291456, 10485760, 18874368, 2097152, 69206016, 136314880, 270532608, 572522496, 1075871744, 2147516416, 4294967296, 8589934592, 25769803776, 42949672960, 77309411328, 146028888064, 283467841536, 549755813888, 1099511627776, 3298534883328, 5497558138880, 9895604649984, 18691697672192, 36283883716608, 70368744177664, 140737488355328, 422212465065984, 703687441776640, 140737488355328, 2392537302040576, 4644337115725824, 9147936743096320, 140737488355328, 36169534507319296, 72198331526283264, 144255925564211200, 288371113640067072, 594615888301260800, 1153062242095202304, 2307109646608891904, 4611826755915743232] kr ⟨rfl, by kernel_rfl, by kernel_rfl⟩ subT kr (fun hT1 => ?_)
 refine go [22,0,18446744073709551614,3,0,24,1,18446744073709551612,25,50,0,26,22,2,18446744073709551608,14,22,3,18446744073709551600,0] ?_
 refine G.partP (t := 9) rfl (fun h9 => ?_) (fun h9 => ?_)
 ·refine go [23,4,18446744073709551584,23,5,18446744073709551552,23,6,18446744073709551488,23,7,18446744073709551360,23,8,18446744073709551104,23,9,18446744073709550592,23,10,18446744073709549568,23,11,18446744073709547520,23,12,18446744073709543424,23,13,18446744073709535232,22,14,18446744073709518848,2,22,15,18446744073709486080,0,23,16,18446744073709420544,23,17,18446744073709289472,23,18,18446744073709027328,23,19,18446744073708503040,23,20,18446744073707454464,23,21,18446744073705357312] ?_
  refine G.takeUT hT1 (i := 22) (rem' := 18446744073701163008) rfl rfl rfl kr (fun _ _ _ h => h) rfl rfl rfl subT ?_
  refine G.takeUT hT1 (i := 23) (rem' := 18446744073692774400) rfl rfl rfl kr (fun _ _ _ h => h) rfl rfl rfl subT ?_
  refine G.takeUT hT1 (i := 24) (rem' := 18446744073675997184) rfl rfl rfl kr (fun _ _ _ h => h) rfl rfl rfl subT ?_
  refine G.takeUT hT1 (i := 25) (rem' := 18446744073642442752) rfl rfl rfl kr (fun _ _ _ h => h) rfl rfl rfl subT ?_
  refine G.takeUT hT1 (i := 26) (rem' := 18446744073575333888) rfl rfl rfl kr (fun _ _ _ h => h) rfl rfl rfl subT ?_
  refine G.takeUT hT1 (i := 27) (rem' := 18446744073441116160) rfl rfl rfl kr (fun _ _ _ h => h) rfl rfl rfl subT ?_
  refine G.takeUT hT1 (i := 28) (rem' := 18446744073172680704) rfl rfl rfl kr (fun _ _ _ h => h) rfl rfl rfl subT ?_
  refine G.takeUT hT1 (i := 29) (rem' := 18446744072635809792) rfl rfl rfl kr (fun _ _ _ h => h) rfl rfl rfl subT ?_
  refine G.takeUT hT1 (i := 30) (rem' := 18446744071562067968) rfl rfl rfl kr (fun _ _ _ h => h) rfl rfl rfl subT ?_
  refine go [23,31,18446744069414584320,22,32,18446744065119617024,2,22,33,18446744056529682432,0,23,34,18446744039349813248,23,35,18446744004990074880,23,36,18446743936270598144,23,37,18446743798831644672,23,38,18446743523953737728,22,39,18446742974197923840,2,22,40,18446741874686296064,0,23,41,18446739675663040512,23,42,18446735277616529408,23,43,18446726481523507200,23,44,18446708889337462784,23,45,18446673704965373952,22,46,18446603336221196288,2,22,47,18446462598732840960,0,23,48,18446181123756130304,23,49,18445618173802708992,23,50,18444492273895866368,23,51,18442240474082181120,23,52,18437736874454810624,23,53,18428729675200069632,23,54,18410715276690587648,23,55,18374686479671623680,23,56,18302628885633695744,23,57,18158513697557839872,23,58,17870283321406128128,23,59,17293822569102704640,23,60,16140901064495857664,23,61,13835058055282163712,23,62,9223372036854775808,22,63,0,2,27,8,60,0,9,10,0] ?_
  refine G.op rfl (G.cS rfl rfl rfl rfl Tryz.func26 rfl rfl subT may0 (bend_tr D z (.slice none 0 0) [] 370 rfl) apT ?_)
  intro x71 hJ
  try dsimp only at hJ
  try dsimp only
  refine go [7,8,11,12] ?_
  exact G.doneX0 ((z.end (.slice none 0 0) [] 370, F, W)) Y6 rfl rfl subT
 have hlt : 1 < ns.length := hy (by first | assumption | omega)
 have hE0 := hel 0 (by omega)
 have hE1 := hel 1 (by omega)
 have e0 : n0 ns = ns[0] := n0_eq (by omega)
 have e1 : n1 ns = ns[1] := n1_eq hlt
 refine go [22,4,18446744073709551584,3,1,22,5,18446744073709551552,50,0] ?_
 refine G.takeT hT1 (i := 6) (rem' := 18446744073709551488) rfl rfl rfl kr (fun _ _ _ h => h) rfl (pv_ixSl (sz := 1) (k := 0) Tryz.underlying29 kr rfl rfl had rfl (by omega)) subT ?_
 refine G.takeT hT1 (i := 7) (rem' := 18446744073709551360) rfl rfl rfl kr (fun _ _ _ h => h) rfl (pv_load (v := .int .i64 ns[0]) Tryz.underlying3 rfl rfl (ro_int hE0)) subT ?_
 refine go [22,8,18446744073709551104,0,22,9,18446744073709550592,8,22,10,18446744073709549568,3,8,24,11,18446744073709547520] ?_
 refine G.turnOp rfl rfl (G.val rfl rfl ((pv_load (v := z.bv) Tryz.underlying31 rfl rfl (by exact blk_cell selD (by rfl))).cast hbv) ?_)
 refine go [26,22,12,18446744073709543424,5,22,13,18446744073709535232,14,22,14,18446744073709518848,2,22,15,18446744073709486080,0] ?_
 refine G.partP (t := 21) rfl (fun h21 => ?_) (fun h21 => ?_)
 ·refine go [23,16,18446744073709420544,23,17,18446744073709289472,23,18,18446744073709027328,23,19,18446744073708503040,23,20,18446744073707454464,23,21,18446744073705357312] ?_
  refine G.takeUT hT1 (i := 22) (rem' := 18446744073701163008) rfl rfl rfl kr (fun _ _ _ h => h) rfl rfl rfl subT ?_
  refine G.takeUT hT1 (i := 23) (rem' := 18446744073692774400) rfl rfl rfl kr (fun _ _ _ h => h) rfl rfl rfl subT ?_
  refine G.takeUT hT1 (i := 24) (rem' := 18446744073675997184) rfl rfl rfl kr (fun _ _ _ h => h) rfl rfl rfl subT ?_
  refine G.takeUT hT1 (i := 25) (rem' := 18446744073642442752) rfl rfl rfl kr (fun _ _ _ h => h) rfl rfl rfl subT ?_
  refine G.takeUT hT1 (i := 26) (rem' := 18446744073575333888) rfl rfl rfl kr (fun _ _ _ h => h) rfl rfl rfl subT ?_
  refine G.takeUT hT1 (i := 27) (rem' := 18446744073441116160) rfl rfl rfl kr (fun _ _ _ h => h) rfl rfl rfl subT ?_
  refine G.takeUT hT1 (i := 28) (rem' := 18446744073172680704) rfl rfl rfl kr (fun _ _ _ h => h) rfl rfl rfl subT ?_
  refine G.takeUT hT1 (i := 29) (rem' := 18446744072635809792) rfl rfl rfl kr (fun _ _ _ h => h) rfl rfl rfl subT ?_
  refine G.takeUT hT1 (i := 30) (rem' := 18446744071562067968) rfl rfl rfl kr (fun _ _ _ h => h) rfl rfl rfl subT ?_
  refine go [23,31,18446744069414584320,22,32,18446744065119617024,2,22,33,18446744056529682432,0,23,34,18446744039349813248,23,35,18446744004990074880,23,36,18446743936270598144,23,37,18446743798831644672,23,38,18446743523953737728,22,39,18446742974197923840,2,22,40,18446741874686296064,0,23,41,18446739675663040512,23,42,18446735277616529408,23,43,18446726481523507200,23,44,18446708889337462784,23,45,18446673704965373952,22,46,18446603336221196288,2,22,47,18446462598732840960,0,23,48,18446181123756130304,23,49,18445618173802708992,23,50,18444492273895866368,23,51,18442240474082181120,23,52,18437736874454810624,23,53,18428729675200069632,23,54,18410715276690587648,23,55,18374686479671623680,23,56,18302628885633695744,23,57,18158513697557839872,23,58,17870283321406128128,23,59,17293822569102704640,23,60,16140901064495857664,23,61,13835058055282163712,23,62,9223372036854775808,22,63,0,2,27,8,60,0,9,10,0] ?_
  refine G.op rfl (G.cS rfl rfl rfl rfl Tryz.func26 rfl rfl subT may0 (bend_tr D z (.slice none 0 0) [] 370 rfl) apT ?_)
  intro x71 hJ
  try dsimp only at hJ
  try dsimp only
  refine go [7,8,11,12] ?_
  exact G.doneX0 ((z.end (.slice none 0 0) [] 370, F, W)) Y6 rfl rfl subT
 refine go [22,16,18446744073709420544,0,22,17,18446744073709289472,8,22,18,18446744073709027328,3,3,24,19,18446744073708503040,25,50,0,26,22,20,18446744073707454464,13,22,21,18446744073705357312,0] ?_
 refine G.partP (t := 27) rfl (fun h27 => ?_) (fun h27 => ?_)
 ·refine go [22,22,18446744073701163008,3,1,22,23,18446744073692774400,50,0] ?_
  refine G.takeT hT1 (i := 24) (rem' := 18446744073675997184) rfl rfl rfl kr (fun _ _ _ h => h) rfl (pv_ixSl (sz := 1) (k := 1) Tryz.underlying29 kr rfl rfl had rfl (by omega)) subT ?_
  refine G.takeT hT1 (i := 25) (rem' := 18446744073642442752) rfl rfl rfl kr (fun _ _ _ h => h) rfl (pv_load (v := .int .i64 ns[1]) Tryz.underlying3 rfl rfl (ro_int hE1)) subT ?_
  refine go [22,26,18446744073575333888,0,22,27,18446744073441116160,8,22,28,18446744073172680704,3,6,24,29,18446744072635809792,25,50,0,26,22,30,18446744071562067968,14,22,31,18446744069414584320,2,22,32,18446744065119617024,2,22,33,18446744056529682432,0] ?_
  refine G.partP (t := 39) rfl (fun h39 => ?_) (fun h39 => ?_)
  ·refine go [23,34,18446744039349813248,23,35,18446744004990074880,23,36,18446743936270598144,23,37,18446743798831644672,23,38,18446743523953737728,22,39,18446742974197923840,2,22,40,18446741874686296064,0,23,41,18446739675663040512,23,42,18446735277616529408,23,43,18446726481523507200,23,44,18446708889337462784,23,45,18446673704965373952,22,46,18446603336221196288,2,22,47,18446462598732840960,0,23,48,18446181123756130304,23,49,18445618173802708992,23,50,18444492273895866368,23,51,18442240474082181120,23,52,18437736874454810624,23,53,18428729675200069632,23,54,18410715276690587648,23,55,18374686479671623680,23,56,18302628885633695744,23,57,18158513697557839872,23,58,17870283321406128128,23,59,17293822569102704640,23,60,16140901064495857664,23,61,13835058055282163712,23,62,9223372036854775808,22,63,0,2,27,8,60,0,9,10,0] ?_
   refine G.op rfl (G.cS rfl rfl rfl rfl Tryz.func26 rfl rfl subT may0 (bend_tr D z (.slice none 0 0) [] 370 rfl) apT ?_)
   intro x71 hJ
   try dsimp only at hJ
   try dsimp only
   refine go [7,8,11,12] ?_
   exact G.doneX0 ((z.end (.slice none 0 0) [] 370, F, W)) Y6 rfl rfl subT
  refine go [22,34,18446744039349813248,3,1,24,35,18446744004990074880,25,50,0,26] ?_
  refine G.takeT hT1 (i := 36) (rem' := 18446743936270598144) rfl rfl rfl kr (fun _ _ _ h => h) rfl (pv_ixSl (sz := 1) (k := 1) Tryz.underlying29 kr rfl rfl had rfl (by omega)) subT ?_
  refine go [24,37,18446743798831644672] ?_
  refine G.turnOp rfl rfl (G.val rfl rfl (pv_load (v := .int .i64 ns[1]) Tryz.underlying3 rfl rfl (ro_int hE1)) ?_)
  refine go [26,22,38,18446743523953737728,9,22,39,18446742974197923840,2,22,40,18446741874686296064,0] ?_
  refine G.partP (t := 46) rfl (fun h46 => ?_) (fun h46 => ?_)
  ·refine go [23,41,18446739675663040512,23,42,18446735277616529408,23,43,18446726481523507200,23,44,18446708889337462784,23,45,18446673704965373952,22,46,18446603336221196288,2,22,47,18446462598732840960,0,23,48,18446181123756130304,23,49,18445618173802708992,23,50,18444492273895866368,23,51,18442240474082181120,23,52,18437736874454810624,23,53,18428729675200069632,23,54,18410715276690587648,23,55,18374686479671623680,23,56,18302628885633695744,23,57,18158513697557839872,23,58,17870283321406128128,23,59,17293822569102704640,23,60,16140901064495857664,23,61,13835058055282163712,23,62,9223372036854775808,22,63,0,2,27,8,60,0,9,10,0] ?_
   refine G.op rfl (G.cS rfl rfl rfl rfl Tryz.func26 rfl rfl subT may0 (bend_tr D z (.slice none 0 0) [] 370 rfl) apT ?_)
   intro x71 hJ
   try dsimp only at hJ
   try dsimp only
   refine go [7,8,11,12] ?_
   exact G.doneX0 ((z.end (.slice none 0 0) [] 370, F, W)) Y6 rfl rfl subT
  refine go [22,41,18446739675663040512,3,1,24,42,18446735277616529408,25,50,0,26] ?_
  refine G.takeT hT1 (i := 43) (rem' := 18446726481523507200) rfl rfl rfl kr (fun _ _ _ h => h) rfl (pv_ixSl (sz := 1) (k := 1) Tryz.underlying29 kr rfl rfl had rfl (by omega)) subT ?_
  refine go [24,44,18446708889337462784] ?_
  refine G.turnOp rfl rfl (G.val rfl rfl (pv_load (v := .int .i64 ns[1]) Tryz.underlying3 rfl rfl (ro_int hE1)) ?_)
  refine go [26,22,45,18446673704965373952,10,22,46,18446603336221196288,2,22,47,18446462598732840960,0] ?_
  refine G.partP (t := 53) rfl (fun h53 => ?_) (fun h53 => ?_)
  ·refine go [23,48,18446181123756130304,23,49,18445618173802708992,23,50,18444492273895866368,23,51,18442240474082181120,23,52,18437736874454810624,23,53,18428729675200069632,23,54,18410715276690587648,23,55,18374686479671623680,23,56,18302628885633695744,23,57,18158513697557839872,23,58,17870283321406128128,23,59,17293822569102704640,23,60,16140901064495857664,23,61,13835058055282163712,23,62,9223372036854775808,22,63,0,2,27,8,60,0,9,10,0] ?_
   refine G.op rfl (G.cS rfl rfl rfl rfl Tryz.func26 rfl rfl subT may0 (bend_tr D z (.slice none 0 0) [] 370 rfl) apT ?_)
   intro x71 hJ
   try dsimp only at hJ
   try dsimp only
   refine go [7,8,11,12] ?_
   exact G.doneX0 ((z.end (.slice none 0 0) [] 370, F, W)) Y6 rfl rfl subT
  refine go [22,48,18446181123756130304,3,3,22,49,18445618173802708992,50,0,22,50,18444492273895866368,5,22,51,18442240474082181120,3,1,22,52,18437736874454810624,50,0] ?_
  refine G.takeT hT1 (i := 53) (rem' := 18428729675200069632) rfl rfl rfl kr (fun _ _ _ h => h) rfl (pv_ixSl (sz := 1) (k := 1) Tryz.underlying29 kr rfl rfl had rfl (by omega)) subT ?_
  refine G.takeT hT1 (i := 54) (rem' := 18410715276690587648) rfl rfl rfl kr (fun _ _ _ h => h) rfl (pv_load (v := .int .i64 ns[1]) Tryz.underlying3 rfl rfl (ro_int hE1)) subT ?_
  refine go [22,55,18374686479671623680,0,22,56,18302628885633695744,8,22,57,18158513697557839872,3,8,24,58,17870283321406128128] ?_
  refine G.turnOp rfl rfl (G.val rfl rfl ((pv_load (v := z.bv) Tryz.underlying31 rfl rfl (by exact blk_cell selD (by rfl))).cast hbv) ?_)
  refine go [26,22,59,17293822569102704640,5,22,60,16140901064495857664,19] ?_
  refine G.takeT hT1 (i := 61) (rem' := 13835058055282163712) rfl rfl rfl kr (fun _ _ _ h => h) rfl (pv_min rfl rfl) subT ?_
  refine go [22,62,9223372036854775808,14,22,63,0,2,27,8] ?_
  refine G.condP rfl (fun h69 => ?_) (fun h69 => ?_)
  ·refine go [9,10,0] ?_
   refine G.op rfl (G.cS rfl rfl rfl rfl Tryz.func26 rfl rfl subT may0 (bend_tr D z (.slice none 0 0) [] 370 rfl) apT ?_)
   intro x71 hJ
   try dsimp only at hJ
   try dsimp only
   refine go [7,8,11,12] ?_
   exact G.doneX0 ((z.end (.slice none 0 0) [] 370, F, W)) Y6 rfl rfl subT
  refine go [13,8,9,10,0,2,3,1,2,50,0] ?_
  refine G.op rfl (G.val rfl rfl (pv_ixSl (sz := 1) (k := 1) Tryz.underlying29 kr rfl rfl had rfl (by omega)) ?_)
  refine G.op rfl (G.val rfl rfl (pv_load (v := .int .i64 ns[1]) Tryz.underlying3 rfl rfl (ro_int hE1)) ?_)
  refine go [2,8,2,3,6,21,7,8,9] ?_
  refine G.drawE (nn := 11) (p := [own 5 1 _ _ _]) (rem := 255) [0, 0, 2, 4, 8, 0, 32, 80, 255, 511, 767] [0, 0, 2, 4, 8, 0, 32, 80, 1, 256, 640] [10, 9, 8] [1023, 511, 255] 8 kr ⟨rfl, by kernel_rfl, by kernel_rfl⟩ kr kr kr subT (fun hT4 => ?_)
  refine go [22,0,254,0,22,1,252,0,22,2,248,8,22,3,240,3,8,22,5,208,3,3] ?_
  refine G.takeT hT4 (i := 4) (rem' := 192) rfl rfl rfl kr (fun _ _ _ h => h) rfl ((pv_load (v := z.bv) Tryz.underlying31 rfl rfl (by exact blk_cell selD (by rfl))).cast hbv) subT ?_
  refine go [24,6,128,25,50,0,26,24,7,0] ?_
  refine G.recast (c := own 5 1 z.bv z.b.length (z.b.map vByte)) (c' := own 5 1 (.slice bad z.b.length bcp) z.b.length (z.b.map vByte)) (by rw [hbv]) selT ?_
  refine G.turnOp rfl rfl (G.appendS (k := z.b.length) (cs := z.b.map vByte) (xs := bs) (f := vByte) (p := fun _ => True) (Ps := Pv3) rfl Tryz.underlying31 Tryz.infoByte' rfl rfl selT (ro_sl hC) (vByte_one _) (by omega) (by omega) ?_)
  intro vb
  rw [← List.map_append, ← List.length_append]
  refine G.ownFact (v := vb) selT (fun hvb _ => ?_)
  refine go [26,27] ?_
  refine G.tailS [10, 9] 8 rfl ?_
  refine go [25,8] ?_
  refine G.tailS [10] 9 rfl ?_
  refine go [25,3,8] ?_
  refine G.tailS [] 10 rfl ?_
  refine go [30] ?_
  refine G.tailD ?_
  refine go [8,10,0] ?_
  refine G.op rfl (G.cS rfl rfl rfl rfl Tryz.func53 rfl rfl subT may0 (bans_tr (F := F) (W := W) D { z with size := ns[1], bv := vb, b := z.b ++ bs } ⟨hz.left, hz.wait, hz.items, hz.l, hz.tree, hz.nb⟩ hw) apT ?_)
  intro x90 hJ
  obtain z3 := x90
  try dsimp only at hJ
  try dsimp only
  obtain ⟨hz3, hb3, wv, wt, hkp⟩ := hJ
  subst hkp
  try dsimp only
  refine G.nil ?_
  exact G.doneXE (({ z with size := ns[1], bv := vb, b := z.b ++ bs, waitv := wv, wait := wt, came := 0 }, F, W)) (by first | exact trivial | ((try dsimp only) <;> exact ⟨Up.refl _ _, hz3, by rw [(pieceB_ok (p := z.bm) (y := ⟨k, ns, ids, bs⟩) (by show ¬ (k ≠ 22 ∨ n0 ns ≠ z.b.length ∨ (z.ph = 2 ∧ n1 ns ≠ z.size) ∨ n1 ns < 1 ∨ 262144 < n1 ns ∨ (bs.length : Int) ≠ min (n1 ns - z.b.length) 1000); omega)), hb3, e1]; rfl⟩)) rfl rfl subT
 refine go [23,22,18446744073701163008,23,23,18446744073692774400,23,24,18446744073675997184,23,25,18446744073642442752,23,26,18446744073575333888,23,27,18446744073441116160,23,28,18446744073172680704,23,29,18446744072635809792,23,30,18446744071562067968,22,31,18446744069414584320,2,22,32,18446744065119617024,2,22,33,18446744056529682432,0,22,34,18446744039349813248,3,1,24,35,18446744004990074880,25,50,0,26] ?_
 refine G.takeT hT1 (i := 36) (rem' := 18446743936270598144) rfl rfl rfl kr (fun _ _ _ h => h) rfl (pv_ixSl (sz := 1) (k := 1) Tryz.underlying29 kr rfl rfl had rfl (by omega)) subT ?_
 refine go [24,37,18446743798831644672] ?_
 refine G.turnOp rfl rfl (G.val rfl rfl (pv_load (v := .int .i64 ns[1]) Tryz.underlying3 rfl rfl (ro_int hE1)) ?_)
 refine go [26,22,38,18446743523953737728,9,22,39,18446742974197923840,2,22,40,18446741874686296064,0] ?_
 refine G.partP (t := 46) rfl (fun h46 => ?_) (fun h46 => ?_)
 ·refine go [23,41,18446739675663040512,23,42,18446735277616529408,23,43,18446726481523507200,23,44,18446708889337462784,23,45,18446673704965373952,22,46,18446603336221196288,2,22,47,18446462598732840960,0,23,48,18446181123756130304,23,49,18445618173802708992,23,50,18444492273895866368,23,51,18442240474082181120,23,52,18437736874454810624,23,53,18428729675200069632,23,54,18410715276690587648,23,55,18374686479671623680,23,56,18302628885633695744,23,57,18158513697557839872,23,58,17870283321406128128,23,59,17293822569102704640,23,60,16140901064495857664,23,61,13835058055282163712,23,62,9223372036854775808,22,63,0,2,27,8,60,0,9,10,0] ?_
  refine G.op rfl (G.cS rfl rfl rfl rfl Tryz.func26 rfl rfl subT may0 (bend_tr D z (.slice none 0 0) [] 370 rfl) apT ?_)
  intro x71 hJ
  try dsimp only at hJ
  try dsimp only
  refine go [7,8,11,12] ?_
  exact G.doneX0 ((z.end (.slice none 0 0) [] 370, F, W)) Y6 rfl rfl subT
 refine go [22,41,18446739675663040512,3,1,24,42,18446735277616529408,25,50,0,26] ?_
 refine G.takeT hT1 (i := 43) (rem' := 18446726481523507200) rfl rfl rfl kr (fun _ _ _ h => h) rfl (pv_ixSl (sz := 1) (k := 1) Tryz.underlying29 kr rfl rfl had rfl (by omega)) subT ?_
 refine go [24,44,18446708889337462784] ?_
 refine G.turnOp rfl rfl (G.val rfl rfl (pv_load (v := .int .i64 ns[1]) Tryz.underlying3 rfl rfl (ro_int hE1)) ?_)
 refine go [26,22,45,18446673704965373952,10,22,46,18446603336221196288,2,22,47,18446462598732840960,0] ?_
 refine G.partP (t := 53) rfl (fun h53 => ?_) (fun h53 => ?_)
 ·refine go [23,48,18446181123756130304,23,49,18445618173802708992,23,50,18444492273895866368,23,51,18442240474082181120,23,52,18437736874454810624,23,53,18428729675200069632,23,54,18410715276690587648,23,55,18374686479671623680,23,56,18302628885633695744,23,57,18158513697557839872,23,58,17870283321406128128,23,59,17293822569102704640,23,60,16140901064495857664,23,61,13835058055282163712,23,62,9223372036854775808,22,63,0,2,27,8,60,0,9,10,0] ?_
  refine G.op rfl (G.cS rfl rfl rfl rfl Tryz.func26 rfl rfl subT may0 (bend_tr D z (.slice none 0 0) [] 370 rfl) apT ?_)
  intro x71 hJ
  try dsimp only at hJ
  try dsimp only
  refine go [7,8,11,12] ?_
  exact G.doneX0 ((z.end (.slice none 0 0) [] 370, F, W)) Y6 rfl rfl subT
 refine go [22,48,18446181123756130304,3,3,22,49,18445618173802708992,50,0,22,50,18444492273895866368,5,22,51,18442240474082181120,3,1,22,52,18437736874454810624,50,0] ?_
 refine G.takeT hT1 (i := 53) (rem' := 18428729675200069632) rfl rfl rfl kr (fun _ _ _ h => h) rfl (pv_ixSl (sz := 1) (k := 1) Tryz.underlying29 kr rfl rfl had rfl (by omega)) subT ?_
 refine G.takeT hT1 (i := 54) (rem' := 18410715276690587648) rfl rfl rfl kr (fun _ _ _ h => h) rfl (pv_load (v := .int .i64 ns[1]) Tryz.underlying3 rfl rfl (ro_int hE1)) subT ?_
 refine go [22,55,18374686479671623680,0,22,56,18302628885633695744,8,22,57,18158513697557839872,3,8,24,58,17870283321406128128] ?_
 refine G.turnOp rfl rfl (G.val rfl rfl ((pv_load (v := z.bv) Tryz.underlying31 rfl rfl (by exact blk_cell selD (by rfl))).cast hbv) ?_)
 refine go [26,22,59,17293822569102704640,5,22,60,16140901064495857664,19] ?_
 refine G.takeT hT1 (i := 61) (rem' := 13835058055282163712) rfl rfl rfl kr (fun _ _ _ h => h) rfl (pv_min rfl rfl) subT ?_
 refine go [22,62,9223372036854775808,14,22,63,0,2,27,8] ?_
 refine G.condP rfl (fun h69 => ?_) (fun h69 => ?_)
 ·refine go [9,10,0] ?_
  refine G.op rfl (G.cS rfl rfl rfl rfl Tryz.func26 rfl rfl subT may0 (bend_tr D z (.slice none 0 0) [] 370 rfl) apT ?_)
  intro x71 hJ
  try dsimp only at hJ
  try dsimp only
  refine go [7,8,11,12] ?_
  exact G.doneX0 ((z.end (.slice none 0 0) [] 370, F, W)) Y6 rfl rfl subT
 refine go [13,8,9,10,0,2,3,1,2,50,0] ?_
 refine G.op rfl (G.val rfl rfl (pv_ixSl (sz := 1) (k := 1) Tryz.underlying29 kr rfl rfl had rfl (by omega)) ?_)
 refine G.op rfl (G.val rfl rfl (pv_load (v := .int .i64 ns[1]) Tryz.underlying3 rfl rfl (ro_int hE1)) ?_)
 refine go [2,8,2,3,6,21,7,8,9] ?_
 refine G.drawE (nn := 11) (p := [own 5 1 _ _ _]) (rem := 255) [0, 0, 2, 4, 8, 0, 32, 80, 255, 511, 767] [0, 0, 2, 4, 8, 0, 32, 80, 1, 256, 640] [10, 9, 8] [1023, 511, 255] 8 kr ⟨rfl, by kernel_rfl, by kernel_rfl⟩ kr kr kr subT (fun hT4 => ?_)
 refine go [22,0,254,0,22,1,252,0,22,2,248,8,22,3,240,3,8,22,5,208,3,3] ?_
 refine G.takeT hT4 (i := 4) (rem' := 192) rfl rfl rfl kr (fun _ _ _ h => h) rfl ((pv_load (v := z.bv) Tryz.underlying31 rfl rfl (by exact blk_cell selD (by rfl))).cast hbv) subT ?_
 refine go [24,6,128,25,50,0,26,24,7,0] ?_
 refine G.recast (c := own 5 1 z.bv z.b.length (z.b.map vByte)) (c' := own 5 1 (.slice bad z.b.length bcp) z.b.length (z.b.map vByte)) (by rw [hbv]) selT ?_
 refine G.turnOp rfl rfl (G.appendS (k := z.b.length) (cs := z.b.map vByte) (xs := bs) (f := vByte) (p := fun _ => True) (Ps := Pv3) rfl Tryz.underlying31 Tryz.infoByte' rfl rfl selT (ro_sl hC) (vByte_one _) (by omega) (by omega) ?_)
 intro vb
 rw [← List.map_append, ← List.length_append]
 refine G.ownFact (v := vb) selT (fun hvb _ => ?_)
 refine go [26,27] ?_
 refine G.tailS [10, 9] 8 rfl ?_
 refine go [25,8] ?_
 refine G.tailS [10] 9 rfl ?_
 refine go [25,3,8] ?_
 refine G.tailS [] 10 rfl ?_
 refine go [30] ?_
 refine G.tailD ?_
 refine go [8,10,0] ?_
 refine G.op rfl (G.cS rfl rfl rfl rfl Tryz.func53 rfl rfl subT may0 (bans_tr (F := F) (W := W) D { z with size := ns[1], bv := vb, b := z.b ++ bs } ⟨hz.left, hz.wait, hz.items, hz.l, hz.tree, hz.nb⟩ hw) apT ?_)
 intro x90 hJ
 obtain z3 := x90
 try dsimp only at hJ
 try dsimp only
 obtain ⟨hz3, hb3, wv, wt, hkp⟩ := hJ
 subst hkp
 try dsimp only
 refine G.nil ?_
 exact G.doneXE (({ z with size := ns[1], bv := vb, b := z.b ++ bs, waitv := wv, wait := wt, came := 0 }, F, W)) (by first | exact trivial | ((try dsimp only) <;> exact ⟨Up.refl _ _, hz3, by rw [(pieceB_ok (p := z.bm) (y := ⟨k, ns, ids, bs⟩) (by show ¬ (k ≠ 22 ∨ n0 ns ≠ z.b.length ∨ (z.ph = 2 ∧ n1 ns ≠ z.size) ∨ n1 ns < 1 ∨ 262144 < n1 ns ∨ (bs.length : Int) ≠ min (n1 ns - z.b.length) 1000); omega)), hb3, e1]; rfl⟩)) rfl rfl subT
end Go.Proofs.YtcgacpmippdkeaaGreat
