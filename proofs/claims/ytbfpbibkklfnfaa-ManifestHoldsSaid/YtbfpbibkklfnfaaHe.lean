/- Merged of VS, VU, VV, WP, VW, VX, VY, WF9, WG9, TreeOpn, ManOpn. Conditions: none. -/
import Derived.Test.YtbfpbibkklfnfaaHd
import Derived.ChangeMaps5
namespace Go.Proofs.Ytbfpbibkklfnfaa
open Go.RowKit
set_option linter.unusedVariables false
set_option linter.unusedSimpArgs false
set_option maxRecDepth 20000 in
set_option maxHeartbeats 4000000 in
theorem mmake_tr {Ps : Nat → Prop} (c k t : Int) (v : Value) (xs : List ET) (hd : ∀ x ∈ xs, x.1.data.length ≤ 10000) : Tr Try.prog 5 #[.int .i64 c, .int .i64 k, .int .i64 t, v] [slc rEV Ps v xs] []
 (TX (fun z : (Value × List IT) × Value × List CT => its z.1.2 = (mkM (⟨c, k, 0, t⟩ : Mh) (ens xs)).1.2 ∧ cks z.2.2 = (mkM (⟨c, k, 0, t⟩ : Mh) (ens xs)).2.1) (fun z => .tuple #[.agg #[.int .i64 (mkM (⟨c, k, 0, t⟩ : Mh) (ens xs)).1.1.c, .int .i64 (mkM (⟨c, k, 0, t⟩ : Mh) (ens xs)).1.1.k, .int .i64 (mkM (⟨c, k, 0, t⟩ : Mh) (ens xs)).1.1.n, .int .i64 (mkM (⟨c, k, 0, t⟩ : Mh) (ens xs)).1.1.t, z.1.1], z.2.1, .int .i64 (mkM (⟨c, k, 0, t⟩ : Mh) (ens xs)).2.2]) (fun z => [own 36 6 z.1.1 z.1.2.length (z.1.2.flatMap itC), datI 40 z.1.2, own 42 17 z.2.1 z.2.2.length (z.2.2.flatMap chC), datD 5 z.2.2])) := by
 refine Tr.of (l := [(0, .int .i64 c), (1, .int .i64 k), (2, .int .i64 t), (3, v)]) Try.func5 rfl (n := 64) rfl (.cons rfl (.cons rfl (.cons rfl (.cons rfl .nil)))) (fun w0 hro => ?_)
 have hv := ro1 hro
 have hv' := hv
 obtain ⟨av, cv, bv, fv, rfl, hcapv, hmaxv, hnilv, hadv, helv⟩ := Ro.openT hv
 have hel' := ens_length xs
 have hEn : ∀ e ∈ ens xs, EnOk e ∧ e.data.length ≤ 10000 := fun e he => by obtain ⟨x, hx, rfl⟩ := List.mem_map.1 he; obtain ⟨q, hq, rfl⟩ := List.getElem_of_mem hx; exact ⟨Ro.evOk (helv q hq), hd _ hx⟩
 refine go [9,10,60,10] ?_
 intro b8
 refine go [1,1,7,8,9,9,10,0] ?_
 refine G.op rfl (G.cR rfl rfl rfl rfl Try.func16 rfl rfl (may1 (.old hv)) (tcheck_tr _ xs) ?_)
 refine go [0,2,7,2,7,1,1,7,8,9,10,0,2,14,7,8] ?_
 refine G.condP rfl (fun h25 => ?_) (fun h25 => ?_)
 ·refine go [9,10,2,50,4,0,20,1,1,7,8,11,12] ?_
  rw [mkM_bad (by assumption)]
  refine G.ownNil 36 6 ?_
  refine G.datINil 40 ?_
  refine G.ownNil 42 17 ?_
  refine G.datDNil 5 ?_
  exact G.doneG (((.slice none 0 0, []), .slice none 0 0, [])) (by first | exact trivial | ((try dsimp only) <;> exact ⟨rfl, rfl⟩)) rfl (Rv.cellN (cs := [_, _, _, _, _]) rfl Try.underlying24 rfl kr Y19 (Rv.tmp rfl (Rv.tmp rfl Rv.nil))) rfl subT
 obtain ⟨h200, -, -⟩ := checkT_zero (es := ens xs) (by omega)
 have hz0 : (checkT (ens xs)).1 = 0 := by omega
 refine go [13,8,9,10] ?_
 refine G.op rfl (G.mapNew vID ok16 rfl ?_)
 intro bm
 refine G.op rfl (G.val rfl rfl (pv_buildSt (z := [.map none, .slice none 0 0]) (pl := [(0, 1), (1, 1)]) Try.underlying60 kr kr rfl flT) ?_)
 refine G.op rfl (G.box rfl rfl (cs := [_, _]) rfl ?_)
 intro b30
 refine go [1,7,8,9,10,0,0,0,2,50,4,60,10] ?_
 intro b14
 refine go [20,7,8,9,9,10,0,2,5,0,7,8,15] ?_
 refine G.ownNil 36 6 ?_
 refine G.datINil 40 ?_
 refine G.ownNil 42 17 ?_
 refine G.datDNil 5 ?_
 refine G.loopK (X := Nat × Value × (List CT) × Value × (List IT)) (ts := [8, 9, 10, 13, 14, 35, 36]) (fun st => st.1 ≤ xs.length ∧ (cks st.2.2.1 = makeC ((ens xs).take st.1) ∧ its st.2.2.2.2 = ((ens xs).take st.1).map mkI ∧ st.2.2.1.length ≤ st.1 * 20000 ∧ st.2.2.2.2.length = st.1)) (fun st => [(37, .int .i64 (st.1 : Int))]) (fun st => [blk b30 60 [.map (some bm), st.2.1], mpc vID ok16 bm (setL (nmsC st.2.2.1)), own 42 17 st.2.1 st.2.2.1.length (st.2.2.1.flatMap chC), datD 5 st.2.2.1, own 36 6 st.2.2.2.1 st.2.2.2.2.length (st.2.2.2.2.flatMap itC), datI 40 st.2.2.2.2, blk b14 24 [.int .i64 c, .int .i64 k, .int .i64 0, .int .i64 t, st.2.2.2.1]]) (fun st => xs.length - st.1) (x0 := (0, .slice none 0 0, [], .slice none 0 0, [])) (.cons rfl (.cons rfl (.cons rfl (.cons rfl (.cons rfl (.cons rfl (.cons rfl .nil))))))) subT (.cons .nil) apT (by first | exact trivial | ((try dsimp only) <;> exact ⟨Nat.zero_le _, ⟨rfl, rfl, Nat.zero_le _, rfl⟩⟩)) (.consE rfl veqT .nil) (fun st hJ => ?_)
 obtain ⟨i, vk, cks', vw, ys⟩ := st
 try dsimp only at hJ
 try dsimp only
 obtain ⟨hki, hJ⟩ := hJ
 obtain ⟨hck, hys, hcl, hyl⟩ := hJ
 refine go [9,10,2,9,7,8,9] ?_
 refine G.condP rfl (fun h38 => ?_) (fun h38 => ?_)
 ·have hlt : i < xs.length := by omega
  have hlt' : i < (ens xs).length := by omega
  have hdi := hd _ (List.getElem_mem hlt)
  have hmk : ((ens xs).take (i + 1)).map mkI = ((ens xs).take i).map mkI ++ [mkI xs[i].1] := by rw [List.take_succ_eq_append_getElem hlt', List.map_append, ens_get hlt]; rfl
  have hcm := makeC_take hlt'
  rw [ens_get hlt] at hcm
  have hEv := helv i hlt
  have hRv := Ro.evRng hEv
  have hDv := Ro.evDat hEv
  obtain ⟨hk1v, hk2v, hlpv, hldv, hltv⟩ := Ro.evOk hEv
  have hCv := Ro.one1 hDv
  refine go [13,8,9,15,9,10] ?_
  refine G.op rfl (G.val rfl rfl (pv_ixSl (sz := 5) (k := i) Try.underlying29 kr rfl rfl (by first | with_reducible assumption | assumption) (by omega) (by omega)) ?_)
  refine go [2,50,0,60,15] ?_
  intro b16
  refine go [20,7,8] ?_
  refine G.drawT (nn := 9) (p := [blk b30 _ _, mpc vID ok16 bm _, own 42 17 _ _ _, own 36 6 _ _ _, datI 40 _, datD 5 _, blk b14 _ _]) (rem := 511) [0, 1, 0, 0, 12, 16, 50, 127, 255] [0, 1, 0, 0, 12, 16, 34, 0, 192] kr ⟨rfl, by kernel_rfl, by kernel_rfl⟩ subT kr (fun hT9 => ?_)
  refine go [22,0,510,3,4,22,2,506,0] ?_
  refine G.twoT hT9 (i := 1) (j := 3) (rem' := 504) (rem'' := 498) kr kr kr ?_ ?_
  ·refine go [25,4,26,24,3,496,25,50,0,26,24,4,480] ?_
   refine G.turnOp rfl rfl (G.cS rfl rfl rfl rfl Try.func19 rfl rfl subT (may1 Y3) (citem_tr b30 bm _ _ cks' xs[i].1 (by omega) hdi) apT ?_)
   intro x45 hJ
   obtain ⟨vk2, ck2, vI2⟩ := x45
   try dsimp only at hJ
   try dsimp only
   obtain ⟨hc1, hc2⟩ : cks ck2 = collC (cks cks') (chunksC xs[i].1.data) ∧ ck2.length ≤ cks'.length + xs[i].1.data.length + 1 := hJ
   obtain ⟨it, hit⟩ : ∃ c, mkI xs[i].1 = c := ⟨_, rfl⟩
   rw [hit]
   refine G.ownFact (v := vI2) selT (fun h39 _ => ?_)
   refine go [26,24,5,448] ?_
   refine G.turnOp rfl rfl (G.buildSlice (z := .agg #[.string ⟨#[]⟩, .int .i64 0, .int .i64 0, .int .i64 0, .string ⟨#[]⟩, .slice none 0 0]) (sz := 6) (cs := itC (it, vI2)) rfl Try.underlying22 kr (by decide) (by decide) rfl kr ?_)
   intro b46
   refine go [26,24,6,384] ?_
   refine G.turnOp rfl rfl (G.append (k := ys.length) (j := 1) (cs := ys.flatMap itC) (news := itC (it, vI2)) (b := b46) (off := 0) rfl Try.underlying22 Try.infoIt rfl rfl rfl selT (fun _ => rfl) (fun h => by cases h) rfl (blk_news (k := 6) selT rfl) (itC_one h39) (by omega) (by omega) ?_)
   intro vn
   rw [itC_snoc ys (it, vI2), show ys.length + 1 = (ys ++ [(it, vI2)]).length from by rw [List.length_append]; rfl]
   refine G.datISnoc (ys := ys) (x := (it, vI2)) selT selT ?_
   refine G.ownFact (v := vn) selT (fun hvn _ => ?_)
   refine go [26,22,7,256,3,4,24,8,0,30,26,27,16,8,10,2,6,0,7] ?_
   exact G.next ((i + 1, (vk2, ck2, vn, ys ++ [(it, vI2)]))) Y16 (by (try dsimp only); omega) (.consE rfl veqT (.cons rfl (.cons rfl (.cons rfl (.cons rfl (.cons rfl (.cons rfl (.cons rfl .nil)))))))) subT
  refine go [25,50,0,26] ?_
  refine G.twoT hT9 (i := 1) (j := 4) (rem' := 496) (rem'' := 482) kr kr kr ?_ ?_
  ·refine go [25,4,26,24,4,480] ?_
   refine G.turnOp rfl rfl (G.cS rfl rfl rfl rfl Try.func19 rfl rfl subT (may1 Y3) (citem_tr b30 bm _ _ cks' xs[i].1 (by omega) hdi) apT ?_)
   intro x45 hJ
   obtain ⟨vk2, ck2, vI2⟩ := x45
   try dsimp only at hJ
   try dsimp only
   obtain ⟨hc1, hc2⟩ : cks ck2 = collC (cks cks') (chunksC xs[i].1.data) ∧ ck2.length ≤ cks'.length + xs[i].1.data.length + 1 := hJ
   obtain ⟨it, hit⟩ : ∃ c, mkI xs[i].1 = c := ⟨_, rfl⟩
   rw [hit]
   refine G.ownFact (v := vI2) selT (fun h39 _ => ?_)
   refine go [26,24,5,448] ?_
   refine G.turnOp rfl rfl (G.buildSlice (z := .agg #[.string ⟨#[]⟩, .int .i64 0, .int .i64 0, .int .i64 0, .string ⟨#[]⟩, .slice none 0 0]) (sz := 6) (cs := itC (it, vI2)) rfl Try.underlying22 kr (by decide) (by decide) rfl kr ?_)
   intro b46
   refine go [26,24,6,384] ?_
   refine G.turnOp rfl rfl (G.append (k := ys.length) (j := 1) (cs := ys.flatMap itC) (news := itC (it, vI2)) (b := b46) (off := 0) rfl Try.underlying22 Try.infoIt rfl rfl rfl selT (fun _ => rfl) (fun h => by cases h) rfl (blk_news (k := 6) selT rfl) (itC_one h39) (by omega) (by omega) ?_)
   intro vn
   rw [itC_snoc ys (it, vI2), show ys.length + 1 = (ys ++ [(it, vI2)]).length from by rw [List.length_append]; rfl]
   refine G.datISnoc (ys := ys) (x := (it, vI2)) selT selT ?_
   refine G.ownFact (v := vn) selT (fun hvn _ => ?_)
   refine go [26,22,7,256,3,4,24,8,0,30,26,27,16,8,10,2,6,0,7] ?_
   exact G.next ((i + 1, (vk2, ck2, vn, ys ++ [(it, vI2)]))) Y16 (by (try dsimp only); omega) (.consE rfl veqT (.cons rfl (.cons rfl (.cons rfl (.cons rfl (.cons rfl (.cons rfl (.cons rfl .nil)))))))) subT
  refine G.turnOp rfl rfl (G.cS rfl rfl rfl rfl Try.func19 rfl rfl subT (may1 Y3) (citem_tr b30 bm _ _ cks' xs[i].1 (by omega) hdi) apT ?_)
  intro x45 hJ
  obtain ⟨vk2, ck2, vI2⟩ := x45
  try dsimp only at hJ
  try dsimp only
  obtain ⟨hc1, hc2⟩ : cks ck2 = collC (cks cks') (chunksC xs[i].1.data) ∧ ck2.length ≤ cks'.length + xs[i].1.data.length + 1 := hJ
  obtain ⟨it, hit⟩ : ∃ c, mkI xs[i].1 = c := ⟨_, rfl⟩
  rw [hit]
  refine G.ownFact (v := vI2) selT (fun h39 _ => ?_)
  refine go [26] ?_
  refine G.twoT hT9 (i := 1) (j := 5) (rem' := 480) (rem'' := 450) kr kr kr ?_ ?_
  ·refine go [25,4,26,24,5,448] ?_
   refine G.turnOp rfl rfl (G.buildSlice (z := .agg #[.string ⟨#[]⟩, .int .i64 0, .int .i64 0, .int .i64 0, .string ⟨#[]⟩, .slice none 0 0]) (sz := 6) (cs := itC (it, vI2)) rfl Try.underlying22 kr (by decide) (by decide) rfl kr ?_)
   intro b46
   refine go [26,24,6,384] ?_
   refine G.turnOp rfl rfl (G.append (k := ys.length) (j := 1) (cs := ys.flatMap itC) (news := itC (it, vI2)) (b := b46) (off := 0) rfl Try.underlying22 Try.infoIt rfl rfl rfl selT (fun _ => rfl) (fun h => by cases h) rfl (blk_news (k := 6) selT rfl) (itC_one h39) (by omega) (by omega) ?_)
   intro vn
   rw [itC_snoc ys (it, vI2), show ys.length + 1 = (ys ++ [(it, vI2)]).length from by rw [List.length_append]; rfl]
   refine G.datISnoc (ys := ys) (x := (it, vI2)) selT selT ?_
   refine G.ownFact (v := vn) selT (fun hvn _ => ?_)
   refine go [26,22,7,256,3,4,24,8,0,30,26,27,16,8,10,2,6,0,7] ?_
   exact G.next ((i + 1, (vk2, ck2, vn, ys ++ [(it, vI2)]))) Y16 (by (try dsimp only); omega) (.consE rfl veqT (.cons rfl (.cons rfl (.cons rfl (.cons rfl (.cons rfl (.cons rfl (.cons rfl .nil)))))))) subT
  refine G.turnOp rfl rfl (G.buildSlice (z := .agg #[.string ⟨#[]⟩, .int .i64 0, .int .i64 0, .int .i64 0, .string ⟨#[]⟩, .slice none 0 0]) (sz := 6) (cs := itC (it, vI2)) rfl Try.underlying22 kr (by decide) (by decide) rfl kr ?_)
  intro b46
  refine go [26,24,1,448,25,4,26,24,6,384] ?_
  refine G.turnOp rfl rfl (G.append (k := ys.length) (j := 1) (cs := ys.flatMap itC) (news := itC (it, vI2)) (b := b46) (off := 0) rfl Try.underlying22 Try.infoIt rfl rfl rfl selT (fun _ => rfl) (fun h => by cases h) rfl (blk_news (k := 6) selT rfl) (itC_one h39) (by omega) (by omega) ?_)
  intro vn
  rw [itC_snoc ys (it, vI2), show ys.length + 1 = (ys ++ [(it, vI2)]).length from by rw [List.length_append]; rfl]
  refine G.datISnoc (ys := ys) (x := (it, vI2)) selT selT ?_
  refine G.ownFact (v := vn) selT (fun hvn _ => ?_)
  refine go [26,22,7,256,3,4,24,8,0,30,26,27,16,8,10,2,6,0,7] ?_
  exact G.next ((i + 1, (vk2, ck2, vn, ys ++ [(it, vI2)]))) Y16 (by (try dsimp only); omega) (.consE rfl veqT (.cons rfl (.cons rfl (.cons rfl (.cons rfl (.cons rfl (.cons rfl (.cons rfl .nil)))))))) subT
 obtain rfl : i = xs.length := by omega
 rw [← hel', List.take_length] at hck hys
 refine G.ownFact (v := vw) selT (fun hvw _ => ?_)
 refine G.ownFact (v := vk) selT (fun hvk _ => ?_)
 have hok : ∀ x ∈ ys, ItOk x.1 ∧ all16 x.1.ids := fun x hx => by have h1 : x.1 ∈ its ys := List.mem_map.2 ⟨x, hx, rfl⟩; rw [hys] at h1; obtain ⟨e, he, h2⟩ := List.mem_map.1 h1; rw [← h2]; exact ⟨mkI_ok (hEn e he).1 (hEn e he).2, mkI_16 e⟩
 refine go [18,14,14,19,8,9,9,10,2,50,0] ?_
 refine G.op rfl (G.cS rfl rfl rfl rfl Try.func7 rfl rfl subT (may1 (may_items selT selT hok)) (mbytes_tr (⟨c, k, 0, t⟩ : Mh) _ ys) apT ?_)
 intro x52 hJ
 try dsimp only at hJ
 try dsimp only
 refine go [0,2,7,2,7,1,1,7,8,9,10,0,2,14,7,8] ?_
 refine G.condP rfl (fun h56 => ?_) (fun h56 => ?_)
 ·refine go [9,10,2,50,4,0,20,1,1,7,8,11,12] ?_
  rw [mkM_no hz0 (by rw [← hys]; assumption), ← hys]
  refine G.ownNil 36 6 ?_
  refine G.datINil 40 ?_
  refine G.ownNil 42 17 ?_
  refine G.datDNil 5 ?_
  exact G.doneG (((.slice none 0 0, []), .slice none 0 0, [])) (by first | exact trivial | ((try dsimp only) <;> exact ⟨rfl, rfl⟩)) rfl (Rv.cellN (cs := [_, _, _, _, _]) rfl Try.underlying24 rfl kr Y19 (Rv.tmp rfl (Rv.tmp rfl Rv.nil))) rfl subT
 refine go [13,8,9] ?_
 refine G.drawT (nn := 8) (p := [blk b8 _ _]) (rem := 255) [0, 0, 2, 4, 8, 1, 63, 127] [0, 0, 2, 4, 8, 1, 16, 0] kr ⟨rfl, by kernel_rfl, by kernel_rfl⟩ subT kr (fun hT14 => ?_)
 refine go [22,1,253,0,22,2,249,8,22,3,241,3,1,22,0,240,50,0,22,4,224,4,24,5,192,29,26,22,6,128,1,22,7,0,1,27,8,11] ?_
 rw [mkM_ok hz0 (by rw [← hys]; omega)]
 exact G.doneG (((vw, ys), vk, cks')) (by first | exact trivial | ((try dsimp only) <;> exact ⟨hys, hck⟩)) rfl (Rv.cellN (cs := [_, _, _, _, _]) rfl Try.underlying24 rfl kr Y19 (Rv.tmp rfl (Rv.tmp rfl Rv.nil))) rfl subT
def foundM (cs : List (List UInt8 × List UInt8)) (id : List UInt8) : List UInt8 × Int := match cs.find? (fun p => decide (p.1 = id)) with
 | none => ([], 6)
 | some p => if nameM p.2 = id then (p.2, 0) else ([], 11)
def foundV (xs : List CT) (id : List UInt8) : Value := match xs.find? (fun x => decide (x.1.1 = id)) with
 | none => .slice none 0 0
 | some x => if nameM x.1.2 = id then x.2 else .slice none 0 0
def firstE (l : List Int) : Int := (l.find? fun e => ! decide (e = 0)).getD 0
def datOf (cs : List (List UInt8 × List UInt8)) (ids : List (List UInt8)) : List UInt8 := ids.flatMap fun id => (foundM cs id).1
def errB (cs : List (List UInt8 × List UInt8)) (ids : List (List UInt8)) : Int := firstE (ids.map fun id => (foundM cs id).2)
def errIt (cs : List (List UInt8 × List UInt8)) (x : It) : Int := if errB cs x.ids ≠ 0 then errB cs x.ids else if ((datOf cs x.ids).length : Int) ≠ x.size then 4 else 0
def mkE (cs : List (List UInt8 × List UInt8)) (x : It) : En := ⟨x.path, x.kind, x.mode, datOf cs x.ids, x.to⟩
def buildM (a : Mh) (ms : List It) (cs : List (List UInt8 × List UInt8)) : List En × Int := if (checkI a ms).1 ≠ 0 then ([], (checkI a ms).1) else if firstE (ms.map (errIt cs)) ≠ 0 then ([], firstE (ms.map (errIt cs))) else (ms.map (mkE cs), 0)
theorem firstE_bad {l : List Int} {i : Nat} (hi : i < l.length) (h : ∀ q (hq : q < l.length), q < i → l[q] = 0) (he : l[i] ≠ 0) : firstE l = l[i] := by
 unfold firstE
 rw [(List.find?_eq_some_iff_getElem (p := fun e : Int => ! decide (e = 0)) (b := l[i])).2 ⟨by simpa using he, i, hi, rfl, fun j hj => by simpa using h j (by omega) hj⟩]
 rfl
theorem firstE_ok {l : List Int} (h : ∀ q (hq : q < l.length), l[q] = 0) : firstE l = 0 := by
 unfold firstE
 rw [List.find?_eq_none.2 fun x hx => by
  obtain ⟨q, hq, rfl⟩ := List.getElem_of_mem hx
  simpa using h q hq]
 rfl
theorem buildM_check {a : Mh} {ms : List It} {cs : List (List UInt8 × List UInt8)} (h : (checkI a ms).1 ≠ 0) : buildM a ms cs = ([], (checkI a ms).1) := if_pos h
theorem buildM_bad {a : Mh} {ms : List It} {cs : List (List UInt8 × List UInt8)} {i : Nat} {e : Int} (h0 : (checkI a ms).1 = 0) (hi : i < ms.length) (h : ∀ q (hq : q < ms.length), q < i → errIt cs ms[q] = 0) (he : errIt cs ms[i] = e) (hn : e ≠ 0) : buildM a ms cs = ([], e) := by
 have h1 : firstE (ms.map (errIt cs)) = e := by
  rw [firstE_bad (i := i) (by rw [List.length_map]; exact hi) (fun q hq hqi => by rw [List.getElem_map]; exact h q (by rw [List.length_map] at hq; exact hq) hqi) (by rw [List.getElem_map, he]; exact hn), List.getElem_map, he]
 unfold buildM
 rw [if_neg (not_not_intro h0), h1, if_pos hn]
theorem buildM_ok {a : Mh} {ms : List It} {cs : List (List UInt8 × List UInt8)} (h0 : (checkI a ms).1 = 0) (h : ∀ q (hq : q < ms.length), errIt cs ms[q] = 0) : buildM a ms cs = (ms.map (mkE cs), 0) := by
 have h1 : firstE (ms.map (errIt cs)) = 0 := firstE_ok fun q hq => by rw [List.getElem_map]; exact h q (by rw [List.length_map] at hq; exact hq)
 unfold buildM
 rw [if_neg (not_not_intro h0), if_neg (not_not_intro h1)]
theorem errIt_bad {cs : List (List UInt8 × List UInt8)} {x : It} {q : Nat} (hq : q < x.ids.length) (h : ∀ r (hr : r < x.ids.length), r < q → (foundM cs x.ids[r]).2 = 0) (he : (foundM cs x.ids[q]).2 ≠ 0) : errIt cs x = (foundM cs x.ids[q]).2 := by
 have h1 : errB cs x.ids = (foundM cs x.ids[q]).2 := by
  unfold errB
  rw [firstE_bad (i := q) (by rw [List.length_map]; exact hq) (fun r hr hrq => by rw [List.getElem_map]; exact h r (by rw [List.length_map] at hr; exact hr) hrq) (by rw [List.getElem_map]; exact he), List.getElem_map]
 unfold errIt
 rw [h1, if_pos he]
theorem errB_ok {cs : List (List UInt8 × List UInt8)} {x : It} (h : ∀ r (hr : r < x.ids.length), (foundM cs x.ids[r]).2 = 0) : errB cs x.ids = 0 := firstE_ok fun r hr => by rw [List.getElem_map]; exact h r (by rw [List.length_map] at hr; exact hr)
theorem errIt_size {cs : List (List UInt8 × List UInt8)} {x : It} (h : ∀ r (hr : r < x.ids.length), (foundM cs x.ids[r]).2 = 0) (h2 : ((datOf cs x.ids).length : Int) ≠ x.size) : errIt cs x = 4 := by
 unfold errIt
 rw [if_neg (not_not_intro (errB_ok h)), if_pos h2]
theorem errIt_ok {cs : List (List UInt8 × List UInt8)} {x : It} (h : ∀ r (hr : r < x.ids.length), (foundM cs x.ids[r]).2 = 0) (h2 : ((datOf cs x.ids).length : Int) = x.size) : errIt cs x = 0 := by
 unfold errIt
 rw [if_neg (not_not_intro (errB_ok h)), if_neg (not_not_intro h2)]
theorem datOf_take (cs : List (List UInt8 × List UInt8)) {ids : List (List UInt8)} {q : Nat} (h : q < ids.length) : datOf cs (ids.take (q + 1)) = datOf cs (ids.take q) ++ (foundM cs ids[q]).1 := by
 unfold datOf
 rw [List.take_succ_eq_append_getElem h, List.flatMap_append]
 simp
theorem found_none {xs : List CT} {id : List UInt8} (h : ∀ q (hq : q < xs.length), ¬ xs[q].1.1 = id) : foundM (cks xs) id = ([], 6) ∧ foundV xs id = .slice none 0 0 := by
 have h1 : (cks xs).find? (fun p => decide (p.1 = id)) = none := List.find?_eq_none.2 fun p hp => by
  obtain ⟨x, hx, rfl⟩ := List.mem_map.1 hp
  obtain ⟨q, hq, rfl⟩ := List.getElem_of_mem hx
  simpa using h q hq
 have h2 : xs.find? (fun x => decide (x.1.1 = id)) = none := List.find?_eq_none.2 fun x hx => by
  obtain ⟨q, hq, rfl⟩ := List.getElem_of_mem hx
  simpa using h q hq
 unfold foundM foundV
 rw [h1, h2]
 exact ⟨rfl, rfl⟩
theorem found_at {xs : List CT} {id : List UInt8} {i : Nat} (hi : i < xs.length) (h : ∀ q (hq : q < xs.length), q < i → ¬ xs[q].1.1 = id) (he : xs[i].1.1 = id) : foundM (cks xs) id = (if nameM xs[i].1.2 = id then (xs[i].1.2, 0) else ([], 11)) ∧ foundV xs id = (if nameM xs[i].1.2 = id then xs[i].2 else .slice none 0 0) := by
 have h2 : xs.find? (fun x => decide (x.1.1 = id)) = some xs[i] := (List.find?_eq_some_iff_getElem).2 ⟨by simpa using he, i, hi, rfl, fun j hj => by simpa using h j (by omega) hj⟩
 have h1 : (cks xs).find? (fun p => decide (p.1 = id)) = some xs[i].1 := by
  unfold cks
  rw [List.find?_map]
  show Option.map _ (xs.find? fun x => decide (x.1.1 = id)) = _
  rw [h2]
  rfl
 unfold foundM foundV
 rw [h1, h2]
 exact ⟨rfl, rfl⟩
theorem found_zero {xs : List CT} {id : List UInt8} (h : (foundM (cks xs) id).2 = 0) : ∃ i, ∃ hi : i < xs.length, (foundM (cks xs) id).1 = xs[i].1.2 ∧ foundV xs id = xs[i].2 := by
 by_cases h1 : ∀ q (hq : q < xs.length), ¬ xs[q].1.1 = id
 ·rw [(found_none h1).1] at h
  cases h
 obtain ⟨i, hi, hp, hlt⟩ : ∃ i, ∃ hi : i < xs.length, xs[i].1.1 = id ∧ ∀ q (hq : q < xs.length), q < i → ¬ xs[q].1.1 = id := by
  have hex : ∃ i, ∃ hi : i < xs.length, xs[i].1.1 = id := Classical.byContradiction fun k => h1 fun q hq e => k ⟨q, hq, e⟩
  have hk : xs.findIdx (fun x => decide (x.1.1 = id)) < xs.length := List.findIdx_lt_length.2 (by
   obtain ⟨i, hi, e⟩ := hex
   exact ⟨xs[i], List.getElem_mem hi, by simpa using e⟩)
  exact ⟨_, hk, by simpa using List.findIdx_getElem (w := hk), fun q hq hqk => by simpa using List.not_of_lt_findIdx hqk⟩
 obtain ⟨e1, e2⟩ := found_at hi hlt hp
 rw [e1] at h
 split at h
 ·rename_i hn
  exact ⟨i, hi, by rw [e1, if_pos hn], by rw [e2, if_pos hn]⟩
 cases h
theorem evC_one9 {x : ET} (h : x.2.oneCell' = true) : ∀ u ∈ evC x, u.oneCell' = true := fun u hu => by
 simp only [evC, List.mem_cons, List.not_mem_nil, or_false] at hu
 rcases hu with rfl | rfl | rfl | rfl | rfl
 ·rfl
 ·rfl
 ·rfl
 ·exact h
 rfl
theorem ens_snoc9 (ys : List ET) (x : ET) : ens (ys ++ [x]) = ens ys ++ [x.1] := by simp [ens]
theorem found_len {zs : List CT} (hd : ∀ x ∈ zs, x.1.2.length ≤ 100000) (id : List UInt8) : (foundM (cks zs) id).1.length ≤ 100000 := by
 by_cases h : (foundM (cks zs) id).2 = 0
 ·obtain ⟨i, hi, h1, _⟩ := found_zero h
  rw [h1]
  exact hd _ (List.getElem_mem hi)
 unfold foundM at h ⊢
 split
 ·exact Nat.zero_le _
 rename_i p hp
 rw [hp] at h
 simp only at h
 split
 ·rename_i hn
  rw [if_pos hn] at h
  exact absurd rfl h
 exact Nat.zero_le _
theorem datOf_len (cs : List (List UInt8 × List UInt8)) (h : ∀ id, (foundM cs id).1.length ≤ 100000) : ∀ ids : List (List UInt8), (datOf cs ids).length ≤ ids.length * 100000
 | [] => Nat.le_refl _
 | id :: l => by
  have h1 := h id
  have h2 := datOf_len cs h l
  show ((foundM cs id).1 ++ datOf cs l).length ≤ _
  rw [List.length_append, List.length_cons]
  omega
set_option maxRecDepth 100000
section
variable {P : Program} {n : Nat} {w0 : World} {S : Nat → Prop} {l : Fr} {m : List Ck} {Q : Exit → Act → World → Prop} {K : Act → World → Prop} {r : Option Nat} {ds : List Deferred}
theorem I.asgA {Z : Type} {L : Z → Fr} {M2 : Z → List Ck} {m1 : List Ck} {Q' : Exit → Act → World → Prop} (z : Z) (hl : Fw l (L z)) (hm : m = M2 z ++ m1) : G n w0 S l m (dq [] (Exit.then (fun a w => ∃ z, At a n (L z) ∧ Hp w0 S w (M2 z ++ m1)) Q' .normal)) := fun a w ha hw => by
 unfold dq
 rw [da_nil ha]
 exact ⟨z, ha.weak hl, hm ▸ hw⟩
theorem I.round2A {X Z : Type} {fnx p1 p2 D lp i : Nat} {a : Act} {assign body : Code} {v1 v2 : Value} {l2 : Z → Fr} {M2 : Z → List Ck} {J : Bool → Nat → X → Prop} {B : Bool → Nat → X → List Ck} {jmp : X → Code} {x : X} {rr : List Ck} (ha : At a n l) (hp1 : Nat.blt p1 n = true) (hp2 : Nat.blt p2 n = true)
 (hassign : ∀ w1 S1 m1, G n w1 S1 ((p2, v2) :: (p1, v1) :: l) m1 (dq [] (assign.wpIn (fR (some lp)) 0 P (Exit.then (fun a w => ∃ z, At a n (l2 z) ∧ Hp w1 S1 w (M2 z ++ m1)) (fun _ _ _ => False)))))
 (hbody : ∀ w1 S1 c z, (∀ c ∈ rr, Ro w1 S1 c) → G n w1 S1 (l2 z) (c :: (B true i x ++ M2 z)) (dq [] (body.wpIn (fR (some lp)) 0 P (rnd w1 S1 J B jmp c i)))) :
 TrYr P lp [v1, v2].toArray rr [cL (recL fnx a.tmps p1 p2 assign body D) lp D B jmp true i x] (TX (fun z : Bool × X => J z.1 (i + 1) z.2) (fun z => .bool z.1) (fun z => [cL (recL fnx a.tmps p1 p2 assign body D) lp D B jmp z.1 (i + 1) z.2])) := by
 intro w1 hrr hw1
 have hds : a.defers = [] := ha.defs
 obtain ⟨S1, hS1⟩ : ∃ S1, U [cL (recL fnx a.tmps p1 p2 assign body D) lp D B jmp true i x] = S1 := ⟨_, rfl⟩
 rw [hS1] at hw1 hrr ⊢
 have hu : Hp w1 S1 w1 (obc lp (.loop (recL fnx a.tmps p1 p2 assign body D .ready none)) :: dfr D :: B true i x) := by
  have := Hp.unstar hw1
  rw [List.append_nil] at this
  exact this
 have hl : w1.heap[lp]? = some (.loop (recL fnx a.tmps p1 p2 assign body D .ready none)) := hu.holds _ (List.mem_cons_self ..)
 have hy := run_yield (P := P) (args := #[v1, v2]) hl rfl
 refine ⟨_, _, _, _, hy, roundIn_of_wpIn (F := Fence.wide) trivial ?_⟩
 have hA : At (n := n) { tmps := (a.tmps.setIfInBounds p1 v1).setIfInBounds p2 v2, defers := [] } ((p2, v2) :: (p1, v1) :: l) := by
  have h2 := (ha.put hp1 v1).put hp2 v2
  have e : ((a.put (some p1) v1).put (some p2) v2) = { tmps := (a.tmps.setIfInBounds p1 v1).setIfInBounds p2 v2, defers := [] } := by
   simp [Act.put, hds]
  rwa [e] at h2
 have h3 := hassign w1 S1 _ _ w1 hA hu
 unfold dq at h3
 rw [da_nil hA] at h3
 have eT : ((#[p1, p2] : Array Nat).zip #[v1, v2]).foldl (fun t (x : Nat × Value) => t.setIfInBounds x.1 x.2) a.tmps = (a.tmps.setIfInBounds p1 v1).setIfInBounds p2 v2 := by simp
 show assign.wpIn (fR (some lp)) 0 P _ { tmps := ((#[p1, p2] : Array Nat).zip #[v1, v2]).foldl (fun t (x : Nat × Value) => t.setIfInBounds x.1 x.2) a.tmps, defers := [] } w1
 rw [eT]
 refine wpIn_mono h3 ?_
 intro e a1 w2 hq
 cases e with
 | exit id => exact hq.elim
 | goto t => exact hq.elim
 | ret => exact hq.elim
 | panic ch => exact hq.elim
 | outgrown => exact hq.elim
 | normal =>
  obtain ⟨z, hA1, hH0⟩ := hq
  have hH1 : Hp w1 S1 w2 (obc lp (.loop (recL fnx a.tmps p1 p2 assign body D .ready none)) :: dfr D :: (B true i x ++ M2 z)) := hH0.perm List.perm_append_comm
  have hl1 : w2.heap[lp]? = some (.loop (recL fnx a.tmps p1 p2 assign body D .ready none)) := hH1.holds _ (List.mem_cons_self ..)
  have hbr := run_beginRound (P := P) hl1 rfl
  refine ⟨_, hbr, ?_⟩
  have hH2 := Hp.putO (.loop (recL fnx a.tmps p1 p2 assign body D .busy none)) hH1
  have hH3 := Hp.star (m := [_, _]) (r := B true i x ++ M2 z) hH2
  have h4 := hbody w1 S1 _ z hrr a1 _ hA1 hH3
  unfold dq at h4
  rw [da_nil hA1] at h4
  refine wpIn_mono h4 ?_
  intro e a2 w4 hq
  cases e with
  | normal =>
   obtain ⟨y, hJy, hH4⟩ := hq
   exact I.fin (b := true) hJy rfl hH4
  | ret =>
   obtain ⟨y, hJy, hj, hH4⟩ := hq
   exact I.fin (b := false) hJy (by rw [← hj]; rfl) hH4
  | exit k =>
   obtain ⟨y, hJy, hj, hH4⟩ := hq
   exact I.fin (b := false) hJy (by rw [← hj]; rfl) hH4
  | goto t => exact hq.elim
  | panic ch => exact hq.elim
  | outgrown => exact hq.elim
theorem I.rangeF2A {X Z : Type} {gf nn p1 p2 : Nat} {lb : Array Value} {rr ro pre q : List Ck} {encs : Nat → Value × Value} {g : Operand} {assign body : Code} {fn : Func} {c : Code}
 (J : Bool → Nat → X → Prop) (B : Bool → Nat → X → List Ck) (jmp : X → Code) (M2 : Nat → Z → List Ck) (L2 : Nat × Z → Fr) {x0 : X}
 (hg : ev l g = some (.func (.func gf) #[] lb)) (hf : P.funcs[gf]? = some fn) (hb : fn.body = some c) (hnm : (fn.name == "runtime.NumGoroutine") = false)
 (hseq : SeqR P gf lb ro pre nn (fun i => [(encs i).1, (encs i).2]))
 (hm : Sub m (B true 0 x0 ++ pre) q) (hro : ∀ c ∈ rr ++ ro, May w0 S q c) (h0 : J true 0 x0)
 (hp1 : Nat.blt p1 n = true) (hp2 : Nat.blt p2 n = true)
 (hassign : ∀ w1 S1 lp m1 i, i < nn → G n w1 S1 ((p2, (encs i).2) :: (p1, (encs i).1) :: l) m1 (dq [] (assign.wpIn (fR (some lp)) 0 P (Exit.then (fun a w => ∃ z, At a n (L2 (i, z)) ∧ Hp w1 S1 w (M2 i z ++ m1)) (fun _ _ _ => False)))))
 (hbody : ∀ w1 S1 lp c i x z, i < nn → J true i x → (∀ c ∈ rr, Ro w1 S1 c) → G n w1 S1 (L2 (i, z)) (c :: (B true i x ++ M2 i z)) (dq [] (body.wpIn (fR (some lp)) 0 P (rnd w1 S1 J B jmp c i))))
 (hdone : ∀ D x, J true nn x → G n w0 S l (dfr D :: (B true nn x ++ q)) (dq (mark D) (Q .normal)))
 (hstop : ∀ D i x, i ≤ nn → J false i x → G n w0 S l (dfr D :: (B false i x ++ q)) (dq (mark D) ((jmp x).wpIn (fR none) 0 P Q))) :
 G n w0 S l m (dq [] ((Code.rangeFunc g #[p1, p2] assign body).wpIn (fR none) 0 P Q)) := fun a w ha hw => by
 unfold dq
 rw [da_nil ha]
 have hds : a.defers = [] := ha.defs
 have hw' := hw.perm hm.perm
 refine wpIn_rangeFunc (F := fR none) (n := 0) ?_
 intro fnx _
 obtain ⟨W1, hW1⟩ : ∃ W1, (w.alloc (.deferred (some []))).alloc (.loop (recL fnx a.tmps p1 p2 assign body w.heap.size .ready none)) = W1 := ⟨_, rfl⟩
 have hp1W : Hp w0 S W1 (cL (recL fnx a.tmps p1 p2 assign body w.heap.size) (w.heap.size + 1) w.heap.size B jmp true 0 x0 :: pre ++ q) := by
  rw [← hW1]
  have h2 := (hw'.allocO (.deferred (some []))).allocO (.loop (recL fnx a.tmps p1 p2 assign body w.heap.size .ready none))
  rw [World.size_alloc, List.append_assoc] at h2
  exact Hp.star (m := _ :: _ :: B true 0 x0) (r := pre ++ q) h2
 have hT := hseq rr (w.heap.size + 1) X J (cL (recL fnx a.tmps p1 p2 assign body w.heap.size) (w.heap.size + 1) w.heap.size B jmp) x0 h0 fun i x hi hJ => I.round2A (l2 := fun z => L2 (i, z)) (M2 := M2 i) ha hp1 hp2 (fun w1 S1 m1 => hassign w1 S1 _ m1 i hi) (fun w1 S1 c z hr => hbody w1 S1 _ c i x z hi hJ hr)
 have hpp : Hp W1 (U (cL (recL fnx a.tmps p1 p2 assign body w.heap.size) (w.heap.size + 1) w.heap.size B jmp true 0 x0 :: pre)) W1 (cL (recL fnx a.tmps p1 p2 assign body w.heap.size) (w.heap.size + 1) w.heap.size B jmp true 0 x0 :: pre) := ⟨Chg.refl _ _, fun c hc => hp1W.holds c (List.mem_append_left _ hc), fun c hc b hb => ⟨.inl ⟨c, hc, hb⟩, (hp1W.own c (List.mem_append_left _ hc) b hb).2⟩, (List.pairwise_append.1 hp1W.dis).1⟩
 have hcall := hT W1 (fun c hc => (hro c hc).ro hp1W) hpp
 have henter : (Instr.enterLoop fnx a.tmps #[p1, p2] assign body (fR none).round).run P w = .ok (w.heap.size + 1, mark w.heap.size) W1 := by
  rw [← hW1]
  exact run_enterLoop_outer _ _ _ _ _
 have hres : (resolve a.eval (rangeCall g (w.heap.size + 1)) 0).run P W1 = .ok { target := .fn (.func gf) lb, args := #[.func (.yield (w.heap.size + 1)) #[] #[]] } W1 := by
  simp only [resolve, rangeCall, ha.eval hg]
  simp [Deferred.ofValue, Sem.run_bind, Sem.run_pure, Result.andThen, Act.eval, Sem.run]
 have hinv := run_invokeF (P := P) (args := #[.func (.yield (w.heap.size + 1)) #[] #[]]) (cap := lb) hf hb hnm W1
 have hz : (fR none).depth.isSome = true → 1 ≤ 0 := fun h => by simp [fR, Fence.wide] at h
 suffices hfin : CallsIn (fR none) 0 P gf (#[.func (.yield (w.heap.size + 1)) #[] #[]] ++ lb) W1 (rangePost (fR none) 0 P (w.heap.size + 1) Q { a with defers := mark w.heap.size ++ a.defers }) from
  ⟨w.heap.size + 1, mark w.heap.size, W1, _, W1, gf, _, W1, henter, hres, fun _ _ => trivial, hinv, hz, hfin⟩
 refine calls_fR (callsIn_wide.2 (hcall.mono ?_))
 rintro e w3 ⟨v, m', rfl, ⟨⟨b, i, y⟩, ⟨hJ, hle, hall⟩, rfl, rfl⟩, hm'⟩
 have hu2 := Hp.unstar (m := _ :: _ :: B b i y) (r := q) (hp1W.turn hm')
 have hl3 : w3.heap[w.heap.size + 1]? = some (.loop (recL fnx a.tmps p1 p2 assign body w.heap.size (stL b) (peL jmp b y))) := hu2.holds _ (List.mem_cons_self ..)
 have hend := run_endLoop (P := P) hl3 (by cases b <;> simp [recL, stL])
 have hu3 := (Hp.putO (.loop { recL fnx a.tmps p1 p2 assign body w.heap.size (stL b) (peL jmp b y) with state := .exhausted }) hu2).tail
 have eD : ({ a with defers := mark w.heap.size ++ a.defers } : Act) = da (mark w.heap.size) a := by
  unfold da
  rw [hds]
  rfl
 refine ⟨_, _, hend, ?_⟩
 rw [eD]
 cases b with
 | true =>
  have hJ' : i = nn := hall rfl
  subst hJ'
  exact hdone _ y hJ a _ ha hu3
 | false => exact hstop _ i y hle hJ a _ ha hu3
theorem I.rangeK2A {X Z : Type} {gf nn p1 p2 : Nat} {lb : Array Value} {rr ro pre q : List Ck} {encs : Nat → Value × Value} {g : Operand} {assign body : Code} {fn : Func} {c : Code}
 (J : Bool → Nat → X → Prop) (B : Bool → Nat → X → List Ck) (jmp : X → Code) (M2 : Nat → Z → List Ck) (A : Nat × Z → Fr) {x0 : X} {ts : List Nat} {l1 : Fr} {L2 : Nat × Z → Fr}
 (hg : ev l g = some (.func (.func gf) #[] lb)) (hf : P.funcs[gf]? = some fn) (hb : fn.body = some c) (hnm : (fn.name == "runtime.NumGoroutine") = false)
 (hseq : SeqR P gf lb ro pre nn (fun i => [(encs i).1, (encs i).2]))
 (hm : Sub m (B true 0 x0 ++ pre) q) (hro : ∀ c ∈ rr ++ ro, May w0 S q c) (h0 : J true 0 x0)
 (hp1 : Nat.blt p1 n = true) (hp2 : Nat.blt p2 n = true) (hk : Kp l ts l1) (hL : Ap A l1 L2)
 (hassign : ∀ w1 S1 lp m1 i, i < nn → G n w1 S1 ((p2, (encs i).2) :: (p1, (encs i).1) :: l) m1 (dq [] (assign.wpIn (fR (some lp)) 0 P (Exit.then (fun a w => ∃ z, At a n (L2 (i, z)) ∧ Hp w1 S1 w (M2 i z ++ m1)) (fun _ _ _ => False)))))
 (hbody : ∀ w1 S1 lp c i x z, i < nn → J true i x → (∀ c ∈ rr, Ro w1 S1 c) → G n w1 S1 (L2 (i, z)) (c :: (B true i x ++ M2 i z)) (dq [] (body.wpIn (fR (some lp)) 0 P (rnd w1 S1 J B jmp c i))))
 (hdone : ∀ D x, J true nn x → G n w0 S l (dfr D :: (B true nn x ++ q)) (dq (mark D) (Q .normal)))
 (hstop : ∀ D i x, i ≤ nn → J false i x → G n w0 S l (dfr D :: (B false i x ++ q)) (dq (mark D) ((jmp x).wpIn (fR none) 0 P Q))) :
 G n w0 S l m (dq [] ((Code.rangeFunc g #[p1, p2] assign body).wpIn (fR none) 0 P Q)) :=
 I.rangeF2A J B jmp M2 L2 hg hf hb hnm hseq hm hro h0 hp1 hp2 hassign hbody hdone hstop
end
def bk (xs : List CT) (k : Nat) : CT := (xs[xs.length - 1 - k]?).getD (([], []), .slice none 0 0)
theorem bk_eq {xs : List CT} {k : Nat} (h : k < xs.length) : bk xs k = xs[xs.length - 1 - k]'(by omega) := by
 unfold bk
 rw [List.getElem?_eq_getElem (show xs.length - 1 - k < xs.length by omega)]
 rfl
def AllAt (l : List (List UInt8 × Value)) (ys : List CT) : Prop := ∀ id, mget l id = (ys.find? fun x => decide (x.1.1 = id)).map (·.2)
theorem all_nil : AllAt [] [] := fun id => rfl
theorem AllAt.put {l : List (List UInt8 × Value)} {ys : List CT} (h : AllAt l ys) (x : CT) : AllAt (mset l x.1.1 x.2) (x :: ys) := fun id => by
 rw [mget_mset, List.find?_cons]
 by_cases h1 : x.1.1 = id
 ·rw [if_pos h1, decide_eq_true h1]
  rfl
 rw [if_neg h1, decide_eq_false h1]
 exact h id
theorem drop_bk {xs : List CT} {k : Nat} (h : k < xs.length) : xs.drop (xs.length - (k + 1)) = bk xs k :: xs.drop (xs.length - k) := by
 rw [bk_eq h, List.drop_eq_getElem_cons (show xs.length - (k + 1) < xs.length by omega)]
 congr 1
 ·congr 1
  omega
 congr 1
 omega
def gotV (xs : List CT) (id : List UInt8) : Value := ((xs.find? fun x => decide (x.1.1 = id)).map (·.2)).getD (.slice none 0 0)
def gotB (xs : List CT) (id : List UInt8) : Bool := (xs.find? fun x => decide (x.1.1 = id)).isSome
theorem got_look {l : List (List UInt8 × Value)} {xs : List CT} (h : AllAt l xs) (id : List UInt8) : (if true = true then Value.tuple #[(mget l id).getD (.slice none 0 0), .bool (mget l id).isSome] else (mget l id).getD (.slice none 0 0)) = .tuple #[gotV xs id, .bool (gotB xs id)] := by
 rw [if_pos rfl, h id]
 unfold gotV gotB
 rw [Option.isSome_map]
theorem got_none {xs : List CT} {id : List UInt8} (h : gotB xs id = false) : foundM (cks xs) id = ([], 6) := by
 refine (found_none fun q hq e => ?_).1
 unfold gotB at h
 rw [Option.isSome_eq_false_iff, Option.isNone_iff_eq_none, List.find?_eq_none] at h
 exact h _ (List.getElem_mem hq) (by simpa using e)
theorem got_some {xs : List CT} {id : List UInt8} (h : gotB xs id = true) : ∃ j, ∃ hj : j < xs.length, gotV xs id = xs[j].2 ∧ foundM (cks xs) id = (if nameM xs[j].1.2 = id then (xs[j].1.2, 0) else ([], 11)) := by
 unfold gotB at h
 obtain ⟨x, hx⟩ := Option.isSome_iff_exists.1 h
 obtain ⟨hp, j, hj, he, hlt⟩ := List.find?_eq_some_iff_getElem.1 hx
 subst he
 refine ⟨j, hj, by unfold gotV; rw [hx]; rfl, (found_at hj (fun q hq hqj => by simpa using hlt q hqj) (by simpa using hp)).1⟩
set_option maxRecDepth 20000 in
set_option maxHeartbeats 4000000 in
theorem back_tr (v : Value) (hv : v.oneCell' = true) : Tr Try.prog 24 #[v] [] [] (TX (fun _ : Nat => True) (fun b => .func (.func 39) #[] #[.pointer (some ⟨b, 0, none⟩)]) (fun b => [blk b 25 [v]])) := by
 refine Tr.of (l := [(0, v)]) Try.func24 rfl (n := 4) rfl (.cons rfl .nil) (fun w0 hro => ?_)
 refine go [9,10] ?_
 refine G.op rfl (G.box rfl rfl (cs := [v]) (cells_of hv) ?_)
 intro b1
 refine go [1,7,8,9,10,2,26,1,7,8,11] ?_
 exact G.doneX1 (b1) trT rfl rfl Y6 subT
set_option maxRecDepth 20000 in
set_option maxHeartbeats 4000000 in
theorem back_seq {Pv : Nat → Prop} (v : Value) (xs : List CT) (bb : Nat) : SeqR Try.prog 39 #[.pointer (some ⟨bb, 0, none⟩)] [slc rCT Pv v xs] [blk bb 25 [v]] xs.length (fun k => [.int .i64 ((xs.length : Int) - 1 - (k : Int)), .agg (chC (bk xs k)).toArray]) := by
 intro rr lp X J C x0 h0 hY
 show Tr _ _ #[.func (.yield lp) #[] #[], .pointer (some ⟨bb, 0, none⟩)] _ _ _
 refine Tr.ofI (l := [(0, .func (.yield lp) #[] #[]), (1, .pointer (some ⟨bb, 0, none⟩))]) Try.func39 rfl (n := 19) rfl (.cons rfl (.cons rfl .nil)) (fun w0 hro => ?_)
 have hv := hro _ (List.mem_append_right _ (List.mem_cons_self ..))
 have hrr : ∀ c ∈ rr, Ro w0 _ c := fun c hc => hro c (List.mem_append_left _ hc)
 obtain ⟨av, cv, bv, fv, rfl, hcapv, hmaxv, hnilv, hadv, helv⟩ := Ro.open hv
 refine go [32,33,2,4,2,5,2,19,1,34,31,38] ?_
 refine I.loopK (X := Nat × X) (ts := [0, 1]) (fun st => st.1 ≤ xs.length ∧ J true st.1 st.2) (fun st => [(3, .int .i64 ((xs.length : Int) - 1 - (st.1 : Int)))]) (fun st => [C true st.1 st.2]) (fun st => xs.length - st.1) (x0 := (0, x0)) (.cons rfl (.cons rfl .nil)) subT (.cons .nil) apT (by first | exact trivial | ((try dsimp only) <;> exact ⟨Nat.zero_le _, h0⟩)) (.consE rfl veqT .nil) (fun st hJ => ?_)
 obtain ⟨i, x⟩ := st
 try dsimp only at hJ
 try dsimp only
 obtain ⟨hki, hJx⟩ := hJ
 refine go [32,32,33,0,2,12,34,31] ?_
 refine I.condP rfl (fun h8 => ?_) (fun h8 => ?_)
 ·have hlt : i < xs.length := by omega
  obtain ⟨j, hj⟩ : ∃ j, xs.length - 1 - i = j := ⟨_, rfl⟩
  have hjl : j < xs.length := by omega
  have hbk : bk xs i = xs[j] := by rw [bk_eq hlt]; congr 1
  have hE := helv j hjl
  have hR := Ro.ckRng hE
  refine go [39,31,32,38,32] ?_
  refine IL.region ?_
  refine go [60,6,60,6] ?_
  refine IL.op rfl (IL.lift kr (G.val rfl rfl (pv_load Try.underlying25 rfl rfl celT) ?_))
  refine go [60,6] ?_
  refine IL.op rfl (IL.lift kr (G.val rfl rfl (pv_ixSl (sz := 17) (k := j) Try.underlying25 kr rfl rfl hadv (by omega) (by omega)) ?_))
  refine IL.op rfl (IL.lift kr (G.val rfl rfl (pv_loadN (cs := chC (bk xs i)) Try.underlying42 rfl (by rw [chC_len]; kernel_rfl) rfl (by rw [hbk]; exact fun w hw => hR.at hw)) ?_))
  refine IL.op rfl (IL.yieldR rfl rfl rfl rfl rfl subT (fun c hc => .old (hrr c hc)) (hY i x hlt hJx) apT ?_)
  intro x17 hJ
  obtain ⟨v, y⟩ := x17
  try dsimp only at hJ
  try dsimp only
  have hJ2 := hJ
  refine go [60,14] ?_
  refine IL.nil ?_
  refine I.nThen ?_
  refine I.cond rfl (fun h18 => ?_) (fun h18 => ?_)
  ·obtain rfl : v = false := by cases v <;> simp_all
   refine go [37,36,35,35,36] ?_
   exact I.doneIr ((false, i + 1, y)) (by first | exact trivial | ((try dsimp only) <;> exact ⟨hJ2, by omega, fun h => by cases h⟩)) rfl rfl subT
  obtain rfl : v = true := by cases v <;> simp_all
  refine go [39,40,31,33,0,2,19,1,34] ?_
  exact I.next ((i + 1, y)) (by first | exact trivial | ((try dsimp only) <;> exact ⟨by omega, hJ2⟩)) (by (try dsimp only); omega) (.consE rfl veqT (.cons rfl (.cons rfl .nil))) subT
 obtain rfl : i = xs.length := by omega
 refine go [42,41,41,43] ?_
 exact I.doneI ((true, xs.length, x)) (by first | exact trivial | ((try dsimp only) <;> exact ⟨hJx, Nat.le_refl _, fun _ => rfl⟩)) rfl rfl subT
set_option maxRecDepth 20000 in
set_option maxHeartbeats 4000000 in
theorem mbuild_tr {Ps Pz : Nat → Prop} (a : Mh) (v vz : Value) (xs : List IT) (zs : List CT) (hm2 : ∀ x ∈ xs, x.1.ids.length ≤ 100000) (hd : ∀ x ∈ zs, x.1.2.length ≤ 100000) : Tr Try.prog 8 #[.agg #[.int .i64 a.c, .int .i64 a.k, .int .i64 a.n, .int .i64 a.t, v], vz] [slc rIT Ps v xs, slc rCT Pz vz zs] []
 (TX (fun z : Value × List ET => ens z.2 = (buildM a (its xs) (cks zs)).1) (fun z => .tuple #[z.1, .int .i64 (buildM a (its xs) (cks zs)).2]) (fun z => [ownT 53 z.1 z.2, datC 5 z.2])) := by
 refine Tr.ofM (l := [(0, .agg #[.int .i64 a.c, .int .i64 a.k, .int .i64 a.n, .int .i64 a.t, v]), (1, vz)]) Try.func8 rfl (n := 92) rfl (.cons rfl (.cons rfl .nil)) (fun w0 hro => ?_)
 obtain ⟨hx0, hz0⟩ := ro2 hro
 have hv := hx0
 have hv' := hv
 obtain ⟨av, cv, bv, fv, rfl, hcapv, hmaxv, hnilv, hadv, helv⟩ := Ro.open hv
 have hel' := its_length xs
 have hzv := hz0
 obtain ⟨az, cz, bz, fz, rfl, -, -, -, -, helz⟩ := Ro.open hzv
 have hbk1 : ∀ k, (bk zs k).2.oneCell' = true := fun k => by unfold bk; cases h : zs[zs.length - 1 - k]? with | none => rfl | some x => exact (Ro.allCk helz x (List.mem_of_getElem? h)).2.2
 have hbk16 : ∀ k, k < zs.length → (bk zs k).1.1.length = 16 := fun k hk => by rw [bk_eq hk]; exact Ro.ckID (helz _ (by omega))
 refine go [32,33,60,7] ?_
 intro b2
 refine go [1,1,34,31,32,32,33,2,50,0] ?_
 refine G.op rfl (G.cR rfl rfl rfl rfl Try.func15 rfl rfl (may1 (.old hv)) (mcheck_tr a _ xs) ?_)
 refine go [0,2,7,2,7,1,1,34,31,32,33,0,2,14,34,31] ?_
 refine I.condP rfl (fun h25 => ?_) (fun h25 => ?_)
 ·refine go [32,33,0,1,1,34,31,37,35] ?_
  rw [buildM_check (by assumption)]
  refine G.ownNil 53 5 ?_
  refine G.datNil 5 ?_
  exact I.doneM0 ((.slice none 0 0, [])) Y9 rfl (Rv.tmp rfl (Rv.tmp rfl Rv.nil)) rfl subT
 have hc0 : (checkI a (its xs)).1 = 0 := by omega
 obtain ⟨-, h200, -, -⟩ := checkI_zero hc0
 refine go [39,31,32,33] ?_
 refine G.op rfl (G.mapNew vID ok16 rfl ?_)
 intro bm
 refine G.op rfl (G.alloc (z := .map none) (cs := [.map none]) rfl kr rfl ?_)
 intro b8
 refine go [21,34,31,32,32,33,0] ?_
 refine G.op rfl (G.cS rfl rfl rfl rfl Try.func24 rfl rfl subT may0 (back_tr _ rfl) apT ?_)
 intro x29 hJ
 try dsimp only at hJ
 try dsimp only
 refine go [34,31,38] ?_
 refine I.rangeK2A (X := (List (List UInt8 × Value))) (rr := [slc rCT Pz (.slice az zs.length cz) zs]) (encs := fun i => (.int .i64 ((zs.length : Int) - 1 - (i : Int)), .agg (chC (bk zs i)).toArray)) (ts := [8]) (fun b i l => b = true ∧ AllAt l (zs.drop (zs.length - i))) (fun b i l => [blk b8 68 [.map (some bm)], mpc vID ok16 bm l]) (fun l => .ret) (fun i (zb : Nat) => [blk zb 42 (chC (bk zs i))]) (fun p => [(10, .pointer (some ⟨p.2, 0, none⟩))]) (x0 := []) rfl Try.func39 rfl rfl (back_seq (Pv := Pz) (.slice az zs.length cz) zs x29) (by show Sub _ [blk b8 68 [.map (some bm)], mpc vID ok16 bm [], blk x29 25 [.slice az zs.length cz]] _; repeat (first | exact Sub.nil | (apply Sub.cons; (repeat (first | with_reducible exact Sel.here | exact Sel.here | apply Sel.there))))) (may2 (.old hz0) (.old hz0)) (by first | exact trivial | (exact ⟨rfl, by rw [Nat.sub_zero, List.drop_length]; exact all_nil⟩)) rfl rfl (.cons rfl .nil) (.cons .nil) ?_ ?_ ?_ ?_
 ·intro w1 S1 lp m1 i hi
  try dsimp only at hJ
  try dsimp only
  refine go [33] ?_
  refine G.op rfl (G.alloc (z := .agg #[.int .u8 0, .int .u8 0, .int .u8 0, .int .u8 0, .int .u8 0, .int .u8 0, .int .u8 0, .int .u8 0, .int .u8 0, .int .u8 0, .int .u8 0, .int .u8 0, .int .u8 0, .int .u8 0, .int .u8 0, .int .u8 0, .slice none 0 0]) (cs := [.int .u8 0, .int .u8 0, .int .u8 0, .int .u8 0, .int .u8 0, .int .u8 0, .int .u8 0, .int .u8 0, .int .u8 0, .int .u8 0, .int .u8 0, .int .u8 0, .int .u8 0, .int .u8 0, .int .u8 0, .int .u8 0, .slice none 0 0]) rfl kr rfl ?_)
  intro b10
  refine G.op rfl (G.storeN (vs := chC (bk zs i)) (by rw [chC_len]; kernel_rfl) rfl rfl (List.all_eq_true.2 (chC_one (hbk1 i))) selT (by rw [chC_len]; exact Nat.le_of_ble_eq_true rfl) ?_)
  rw [putN_whole _ _ (by rw [chC_len]; rfl)]
  refine I.nil ?_
  exact I.asgA (Z := Nat) b10 (.consE rfl veqT (.cons rfl .nil)) rfl
 ·intro w1 S1 lp c i l zb hi hJ hrr
  try dsimp only at hJ
  try dsimp only
  obtain ⟨hbt, hal⟩ := hJ
  have hk16 := hbk16 i hi
  refine go [38,33,2,4,2,3,0] ?_
  refine G.op rfl (G.val rfl rfl (pv_loadN (cs := (bk zs i).1.1.map vByte) Try.underlying40 rfl (by rw [List.length_map, hk16]; kernel_rfl) rfl (blk_range (k := 16) selT (chC_id hk16))) ?_)
  refine go [2,3,16] ?_
  refine G.op rfl (G.val rfl rfl (pv_load (v := (bk zs i).2) Try.underlying31 rfl rfl (blk_cell selD (chC_dat _))) ?_)
  refine G.op rfl (G.mapSet (f := vID) (ok := ok16) (x := (bk zs i).1.1) (v := (bk zs i).2) (xs := l) keyI Try.underlying68 rfl rfl rfl hk16 selT ?_)
  refine go [34,40] ?_
  exact I.rN (mset l (bk zs i).1.1 (bk zs i).2) (by first | exact trivial | ((try dsimp only) <;> exact ⟨rfl, by rw [drop_bk hi]; exact hal.put (bk zs i)⟩)) subT
 ·intro D l hJ
  try dsimp only at hJ
  try dsimp only
  obtain ⟨hbt, hal⟩ := hJ
  rw [Nat.sub_self, List.drop_zero] at hal
  refine go [40,31,32,33,1,34,31,32,32,33,2,3,4,2,4,2,5,0,34,31,38] ?_
  refine G.ownNil 53 5 ?_
  refine G.datNil 5 ?_
  refine I.loopK (X := Nat × Value × (List ET)) (ts := [8, 38, 39]) (fun st => st.1 ≤ xs.length ∧ (ens st.2.2 = ((its xs).take st.1).map (mkE (cks zs)) ∧ (∀ q (hq : q < (its xs).length), q < st.1 → errIt (cks zs) (its xs)[q] = 0) ∧ st.2.2.length = st.1)) (fun st => [(40, .int .i64 (st.1 : Int)), (11, st.2.1)]) (fun st => [ownT 53 st.2.1 st.2.2, datC 5 st.2.2]) (fun st => xs.length - st.1) (x0 := (0, .slice none 0 0, [])) (.cons rfl (.cons rfl (.cons rfl .nil))) subT (.cons (.cons .nil)) apT (by first | exact trivial | ((try dsimp only) <;> exact ⟨Nat.zero_le _, ⟨rfl, fun q hq h => absurd h (by omega), rfl⟩⟩)) (.consE rfl veqT (.consE rfl veqT .nil)) (fun st hJ => ?_)
  obtain ⟨i, vw, ys⟩ := st
  try dsimp only at hJ
  try dsimp only
  obtain ⟨hki, hJ⟩ := hJ
  obtain ⟨hys, herr, hyl⟩ := hJ
  refine go [32,33,2,9,34,31,32] ?_
  refine I.condP rfl (fun h41 => ?_) (fun h41 => ?_)
  ·have hlt : i < xs.length := by omega
   have hlt' : i < (its xs).length := by omega
   have hg := its_get hlt
   have hEv := helv i hlt
   have hRv := Ro.itRng hEv
   have hDv := Ro.itIds hEv
   have hOv := Ro.itOk hEv
   obtain ⟨hk1v, hk2v, hk3v, hlpv, hltv, hlnv⟩ := hOv
   have hCv := Ro.one1I hDv
   obtain ⟨aD, cD, bD, oD, hx2, hcD, hmD, -, hadD, helD⟩ := Ro.open hDv
   rw [hx2] at hRv hCv
   have hil := hm2 _ (List.getElem_mem hlt)
   have hmk : ((its xs).take (i + 1)).map (mkE (cks zs)) = ((its xs).take i).map (mkE (cks zs)) ++ [mkE (cks zs) xs[i].1] := by rw [List.take_succ_eq_append_getElem hlt', List.map_append, hg]; rfl
   refine go [39,31,32,38,32,33] ?_
   refine G.op rfl (G.val rfl rfl (pv_ixSl (sz := 6) (k := i) Try.underlying22 kr rfl rfl adT (by omega) (by omega)) ?_)
   refine go [2,50,3,60,9] ?_
   intro b13
   refine go [20,34,31,32,33,2,3,0,2,4,2,3,1,2,4,2,3,2,2,4,2,3,4,2,4,2,50,7,60,15] ?_
   intro b14
   refine go [20,34,31,32,32,33,2,3,5,2,4,2,5,0,34,31,38] ?_
   refine G.ownBNil 5 ?_
   refine I.loopK (X := Nat × Value) (ts := [8, 11, 13, 14, 38, 39, 40, 54, 55]) (fun st => st.1 ≤ xs[i].1.ids.length ∧ (∀ r (hr : r < xs[i].1.ids.length), r < st.1 → (foundM (cks zs) xs[i].1.ids[r]).2 = 0)) (fun st => [(56, .int .i64 (st.1 : Int))]) (fun st => [blk b14 53 [.string (sB xs[i].1.path), .int .i64 xs[i].1.kind, .int .i64 xs[i].1.mode, st.2, .string (sB xs[i].1.to)], ownB 5 st.2 (datOf (cks zs) (xs[i].1.ids.take st.1))]) (fun st => xs[i].1.ids.length - st.1) (x0 := (0, .slice none 0 0)) (.cons rfl (.cons rfl (.cons rfl (.cons rfl (.cons rfl (.cons rfl (.cons rfl (.cons rfl (.cons rfl .nil))))))))) subT (.cons .nil) apT (by first | exact trivial | ((try dsimp only) <;> exact ⟨Nat.zero_le _, fun r hr h => absurd h (by omega)⟩)) (.consE rfl veqT .nil) (fun st hJ => ?_)
   obtain ⟨q, vD⟩ := st
   try dsimp only at hJ
   try dsimp only
   obtain ⟨hkq, hJ⟩ := hJ
   have hJq := hJ
   refine go [32,33,2,9,34,31,32] ?_
   refine I.condP rfl (fun h57 => ?_) (fun h57 => ?_)
   ·have hlq : q < xs[i].1.ids.length := by omega
    obtain ⟨lq, rq⟩ := Ro.arr8 (helD q hlq)
    have hdt := datOf_take (cks zs) hlq
    have hdl := datOf_len (cks zs) (fun id => found_len hd id) (xs[i].1.ids.take q)
    have hqt : (xs[i].1.ids.take q).length ≤ q := List.length_take_le _ _
    refine go [39,31,32,38,32,33] ?_
    refine G.op rfl (G.val rfl rfl (pv_ixSl (sz := 16) (k := q) Try.underlying34 kr rfl rfl hadD rfl (by omega)) ?_)
    refine G.op rfl (G.val rfl rfl (pv_loadN (cs := xs[i].1.ids[q].map vByte) Try.underlying40 rfl Y10 rfl rq) ?_)
    refine go [60,11] ?_
    intro b16
    refine G.op rfl (G.storeN Y10 rfl rfl (List.all_eq_true.2 (vByte_one _)) selT (by simp [lq]) ?_)
    rw [putN_whole _ _ (by rw [List.length_map, lq]; rfl)]
    refine go [34,31,32,33,2,4] ?_
    refine G.op rfl (G.val rfl rfl (pv_loadN (cs := xs[i].1.ids[q].map vByte) Try.underlying40 rfl Y10 rfl (blk_range (k := 16) selT (List.take_of_length_le Y8))) ?_)
    refine G.op rfl (G.val rfl rfl ((pv_mapGet (f := vID) (ok := ok16) (x := xs[i].1.ids[q]) (z := .slice none 0 0) (xs := l) keyI Try.underlying68 (fun w => by kernel_rfl) rfl rfl lq (sel_map selT)).cast (got_look hal _)) ?_)
    refine go [0,2,7,2,7,1,1,34,31,32,38,32,33,0,2,25,1,34,31] ?_
    refine I.cond rfl (fun h66 => ?_) (fun h66 => ?_)
    ·have hfm := got_none (show gotB zs xs[i].1.ids[q] = false by simpa using h66)
     refine go [32,33,1,1,34,31,37,36,35,36,35,35,36,35,36,35,35,36,35] ?_
     rw [buildM_bad (e := 6) hc0 hlt' herr (by rw [hg]; exact (errIt_bad hlq (fun r hr hrq => hJq r hr hrq) (by rw [hfm]; decide)).trans (by rw [hfm])) (by decide)]
     refine G.ownNil 53 5 ?_
     refine G.datNil 5 ?_
     exact I.doneM ((.slice none 0 0, [])) Y9 rfl Y11 (Rv.tmp rfl (Rv.tmp rfl Rv.nil)) rfl subT
    obtain ⟨j, hj, hgv, hfm⟩ := got_some (show gotB zs xs[i].1.ids[q] = true by simpa using h66)
    rw [hgv]
    have hDz := Ro.ckDat (helz j hj)
    have hdz := hd _ (List.getElem_mem hj)
    have hnl := nameM_len zs[j].1.2
    refine I.seq ?_
    refine I.drawN (nn := 5) (p := []) (rem := 31) [0, 1, 0, 6, 10] [0, 1, 0, 6, 8] kr kr ⟨rfl, by kernel_rfl, by kernel_rfl⟩ subT kr (fun hT19 => ?_)
    refine go [22,0,30,0] ?_
    refine G.takeT hT19 (i := 2) (rem' := 26) rfl rfl rfl kr (fun _ _ _ h => h) rfl (pv_loadN (cs := xs[i].1.ids[q].map vByte) Try.underlying40 rfl Y10 rfl (blk_range (k := 16) selT (List.take_of_length_le Y8))) subT ?_
    refine go [24,1,24] ?_
    refine G.turnOp rfl rfl (G.cR rfl rfl rfl rfl Try.func18 rfl rfl (may1 (.old hDz)) (name_tr _ zs[j].1.2 (by omega)) ?_)
    refine go [26] ?_
    refine G.takeT hT19 (i := 3) (rem' := 16) rfl rfl rfl kr (fun _ _ _ h => h) rfl ((pv_neqAr8 (a := nameM zs[j].1.2) (b := xs[i].1.ids[q]) Try.underlying40 rfl kr Try.underlying5 kr rfl rfl hnl lq).cast (v' := .bool (decide (nameM zs[j].1.2 ≠ xs[i].1.ids[q]))) (neq_list _ _)) subT ?_
    refine go [22,4,0,1] ?_
    refine I.overN hT19 kr ?_
    refine I.nThen ?_
    refine I.condP rfl (fun h69 => ?_) (fun h69 => ?_)
    ·rw [if_neg (by assumption)] at hfm
     refine go [32,33,1,1,34,31,37,36,35,36,35,35,36,35,36,35,35,36,35] ?_
     rw [buildM_bad (e := 11) hc0 hlt' herr (by rw [hg]; exact (errIt_bad hlq (fun r hr hrq => hJq r hr hrq) (by rw [hfm]; decide)).trans (by rw [hfm])) (by decide)]
     refine G.ownNil 53 5 ?_
     refine G.datNil 5 ?_
     exact I.doneM ((.slice none 0 0, [])) Y9 rfl Y11 (Rv.tmp rfl (Rv.tmp rfl Rv.nil)) rfl subT
    rw [if_pos (Decidable.of_not_not (by assumption))] at hfm
    have hfz : (foundM (cks zs) xs[i].1.ids[q]).2 = 0 := by rw [hfm]
    have hff : (foundM (cks zs) xs[i].1.ids[q]).1 = zs[j].1.2 := by rw [hfm]
    rw [hff] at hdt
    refine G.ownBFact (v := vD) selT (fun hvD1 => ?_)
    refine go [39,40,31,33,2,3,3,2,4,0] ?_
    refine G.op rfl (G.appendB (xs := (datOf (cks zs) (xs[i].1.ids.take q))) (ys := zs[j].1.2) (Ps := Pz) rfl Try.underlying31 Try.infoByte rfl rfl selT (ro_sl hDz) (by omega) (by omega) ?_)
    intro x77
    rw [← hdt]
    refine G.ownBFact (v := x77) selT (fun hx77 => ?_)
    refine go [2,3,3,21,34,40,31,33,2,6,0,34] ?_
    exact I.next ((q + 1, x77)) (by first | exact trivial | ((try dsimp only) <;> exact ⟨by omega, fun r hr hrq => by rcases Nat.lt_or_ge r q with h1 | h1; exact hJq r hr h1; obtain rfl : r = q := (by omega); exact hfz⟩)) (by (try dsimp only); omega) (.consE rfl veqT (.cons rfl (.cons rfl (.cons rfl (.cons rfl (.cons rfl (.cons rfl (.cons rfl (.cons rfl (.cons rfl .nil)))))))))) subT
   obtain rfl : q = xs[i].1.ids.length := by omega
   have hall := hJq
   rw [List.take_length]
   have hdl := datOf_len (cks zs) (fun id => found_len hd id) xs[i].1.ids
   refine G.ownBSl (v := vD) selT (fun adD capD hvD => ?_)
   subst hvD
   refine go [42,41,41,43,31,32,32,33,2,3,3,2,4,2,5,2,3,3,2,4,2,14,34,31] ?_
   refine I.condP rfl (fun h85 => ?_) (fun h85 => ?_)
   ·refine go [32,33,1,1,34,31,37,35,36,35,35,36,35] ?_
    rw [buildM_bad (e := 4) hc0 hlt' herr (by rw [hg]; exact errIt_size (fun r hr => hall r hr (by omega)) (by assumption)) (by decide)]
    refine G.ownNil 53 5 ?_
    refine G.datNil 5 ?_
    exact I.doneM ((.slice none 0 0, [])) Y9 rfl Y11 (Rv.tmp rfl (Rv.tmp rfl Rv.nil)) rfl subT
   have hok1 : errIt (cks zs) (its xs)[i] = 0 := by rw [hg]; exact errIt_ok (fun r hr => hall r hr (by omega)) (by omega)
   obtain ⟨en, hen⟩ : ∃ c, mkE (cks zs) xs[i].1 = c := ⟨_, rfl⟩
   rw [show blk b14 53 [.string (sB xs[i].1.path), .int .i64 xs[i].1.kind, .int .i64 xs[i].1.mode, (.slice adD (datOf (cks zs) xs[i].1.ids).length capD), .string (sB xs[i].1.to)] = blk b14 53 (evC (en, .slice adD (datOf (cks zs) xs[i].1.ids).length capD)) from by rw [← hen]; rfl, show ownB 5 (.slice adD (datOf (cks zs) xs[i].1.ids).length capD) (datOf (cks zs) xs[i].1.ids) = ownB 5 (.slice adD (datOf (cks zs) xs[i].1.ids).length capD) en.data from by rw [← hen]; rfl]
   obtain ⟨dv, hdv⟩ : ∃ c, Value.slice adD (datOf (cks zs) xs[i].1.ids).length capD = c := ⟨_, rfl⟩
   have hone : dv.oneCell' = true := by rw [← hdv]; rfl
   rw [hdv]
   refine go [39,31,33,0] ?_
   refine G.op rfl (G.val rfl rfl (pv_loadN (cs := evC (en, dv)) Try.underlying53 rfl kr rfl (blk_range (k := 5) selT rfl)) ?_)
   refine G.op rfl (G.buildSlice (z := .agg #[.string ⟨#[]⟩, .int .i64 0, .int .i64 0, .slice none 0 0, .string ⟨#[]⟩]) (sz := 5) (cs := evC (en, dv)) rfl Try.underlying29 kr (by decide) (by decide) rfl kr ?_)
   intro b88
   rw [show ownT 53 vw ys = own 53 5 vw ys.length (flatT ys) from rfl]
   refine G.op rfl (G.append (k := ys.length) (j := 1) (cs := flatT ys) (news := evC (en, dv)) (b := b88) (off := 0) rfl Try.underlying29 Try.infoEn' rfl rfl rfl selT (fun _ => rfl) (fun h => by cases h) rfl (blk_news (k := 5) selT rfl) (evC_one9 hone) (by omega) (by omega) ?_)
   intro vn
   rw [show flatT ys ++ evC (en, dv) = flatT (ys ++ [(en, dv)]) from by rw [flatT_app, flatT_one], show ys.length + 1 = (ys ++ [(en, dv)]).length from by rw [List.length_append]; rfl]
   refine G.datSnoc (ys := ys) (x := (en, dv)) selT selT ?_
   refine G.ownFact (v := vn) selT (fun hvn _ => ?_)
   refine go [1,34,40,31,33,2,6,0,34] ?_
   exact I.next ((i + 1, (vn, ys ++ [(en, dv)]))) (by first | exact trivial | ((try dsimp only) <;> exact ⟨by omega, ⟨by rw [ens_snoc9, hys, hmk, hen], fun r hr hri => by rcases Nat.lt_or_ge r i with h1 | h1; exact herr r hr h1; obtain rfl : r = i := (by omega); exact hok1, by rw [List.length_append, hyl]; rfl⟩⟩)) (by (try dsimp only); omega) (.consE rfl veqT (.consE rfl veqT (.cons rfl (.cons rfl (.cons rfl .nil))))) subT
  obtain rfl : i = xs.length := by omega
  rw [← hel', List.take_length] at hys
  refine go [42,41,41,43,31,32,33,0,1,1,34,31,37] ?_
  rw [buildM_ok hc0 (fun q hq => herr q hq (by omega))]
  exact I.doneM ((vw, ys)) (by first | exact trivial | ((try dsimp only) <;> exact hys)) rfl Y11 (Rv.tmp rfl (Rv.tmp rfl Rv.nil)) rfl subT
 intro D i l hle hJ
 try dsimp only at hJ
 try dsimp only
 obtain ⟨h, _⟩ := hJ
 cases h
def nA : En := ⟨[97], 1, 0, [], []⟩
def nB : En := ⟨[97, 47, 98], 2, 0, [120], []⟩
def sam9E : List En := [nA, nB]
def sam9T (b : Nat) : List ET := [(nA, .slice none 0 0), (nB, .slice (some ⟨b, 0, none⟩) 1 1)]
def sam9B (b : Nat) : Ck := slc rByte (· = b) (.slice (some ⟨b, 0, none⟩) 1 1) [120]
theorem nil_sl9 {α : Type} (E : Rdr α) (Ps : Nat → Prop) (w : World) : IsSl E Ps w (.slice none 0 0) [] := ⟨none, 0, 0, 0, rfl, Nat.le_refl _, by omega, fun _ => rfl, fun h => by simp at h, fun i hi => by simp at hi⟩
theorem sam9_dat {b : Nat} {w : World} (h : (sam9B b).φ w) : ∀ x ∈ sam9T b, IsSl rByte (sam9B b).S w x.2 x.1.data := fun x hx => by
 have : x = (nA, .slice none 0 0) ∨ x = (nB, .slice (some ⟨b, 0, none⟩) 1 1) := by simpa [sam9T] using hx
 rcases this with rfl | rfl
 ·exact nil_sl9 _ _ _
 exact h
theorem sam9_ok {b : Nat} : ∀ x ∈ sam9T b, EnOk x.1 := fun x hx => by
 have : x = (nA, .slice none 0 0) ∨ x = (nB, .slice (some ⟨b, 0, none⟩) 1 1) := by simpa [sam9T] using hx
 rcases this with rfl | rfl
 ·exact (show EnOk nA from ⟨⟨by decide, by decide⟩, ⟨by decide, by decide⟩, by decide, by decide, by decide⟩)
 exact (show EnOk nB from ⟨⟨by decide, by decide⟩, ⟨by decide, by decide⟩, by decide, by decide, by decide⟩)
theorem sam9_small (b : Nat) : ∀ x ∈ sam9T b, x.1.data.length ≤ 10000 := fun x hx => by
 have : x = (nA, .slice none 0 0) ∨ x = (nB, .slice (some ⟨b, 0, none⟩) 1 1) := by simpa [sam9T] using hx
 rcases this with rfl | rfl
 ·exact Nat.zero_le _
 show 1 ≤ 10000
 decide
section
variable {P : Program} {n : Nat} {w0 : World} {S : Nat → Prop} {l : Fr} {m : List Ck} {Q : Exit → Act → World → Prop} {K : Act → World → Prop}
theorem may_tree9 {e : TypeId} {c : Ck} {v : Value} {xs : List ET} {r r' : List Ck} (h : Sel m (ownT e v xs) r) (h' : Sel m c r') (hok : ∀ x ∈ xs, EnOk x.1) (hd : ∀ w, c.φ w → ∀ x ∈ xs, IsSl rByte c.S w x.2 x.1.data) : May w0 S m (slc rEV (fun b => v.ownBlock = some b ∨ c.S b) v xs) :=
 .mix (fun w hw => ownT_sl (hw.holds _ h.mem) (fun b hb => .inl hb) hok fun x hx => (hd w (hw.holds _ h'.mem) x hx).mono fun k hk => .inr hk) fun b hb => .inr (by
  rcases hb with hb | hb
  ·exact ⟨_, h.mem, hb⟩
  exact ⟨_, h'.mem, hb⟩)
theorem may_datD {e : TypeId} {xs : List CT} {r : List Ck} (h : Sel m (datD e xs) r) {x : CT} (hx : x ∈ xs) : May w0 S m (slc rByte (datD e xs).S x.2 x.1.2) :=
 .view h.mem (fun w hw => datD_sl hw _ hx) fun b hb => hb
end
def a9 : Mh := ⟨1, 2, 0, 3⟩
def n9 : List UInt8 := nameM [120]
def sam9M : List It := [⟨[97], 1, 0, 0, [], []⟩, ⟨[97, 47, 98], 2, 0, 1, [], [n9]⟩]
theorem mk9 : mkM a9 sam9E = ((a9, sam9M), [(n9, [120])], 0) := by kernel_rfl
theorem bd9 : buildM a9 sam9M [(n9, [120])] = (sam9E, 0) := by kernel_rfl
def small9 (x : UInt8) : List UInt8 := [1, 2, 0, 3, 1, 1, x, 1, 0, 0, 0, 0]
theorem rd9 : rdM ((small9 97).take 11) = ((mh0, []), (4, 11)) := by kernel_rfl
theorem n9_len : n9.length = 16 := nameM_len _
theorem it9_ok {ms : List IT} (h : its ms = sam9M) : ∀ x ∈ ms, (ItOk x.1 ∧ all16 x.1.ids) ∧ x.1.ids.length ≤ 100000 := fun x hx => by
 have h1 : x.1 ∈ its ms := List.mem_map.2 ⟨x, hx, rfl⟩
 rw [h] at h1
 simp only [sam9M, List.mem_cons, List.not_mem_nil, or_false] at h1
 rcases h1 with h1 | h1
 ·rw [h1]
  exact ⟨⟨⟨⟨by decide, by decide⟩, ⟨by decide, by decide⟩, ⟨by decide, by decide⟩, by decide, by decide, by decide⟩, fun y hy => by cases hy⟩, by decide⟩
 rw [h1]
 refine ⟨⟨⟨⟨by decide, by decide⟩, ⟨by decide, by decide⟩, ⟨by decide, by decide⟩, by decide, by decide, by decide⟩, fun y hy => ?_⟩, by decide⟩
 obtain rfl : y = n9 := by simpa using hy
 exact n9_len
theorem ck9 {ks : List CT} (h : cks ks = [(n9, [120])]) : ∃ u, ks = [((n9, [120]), u)] := by
 have hl : ks.length = 1 := by have := congrArg List.length h; simpa [cks] using this
 obtain ⟨x, rfl⟩ := List.length_eq_one_iff.1 hl
 have h2 : x.1 = (n9, [120]) := by simpa [cks] using h
 exact ⟨x.2, by rw [← h2]⟩
theorem ok_ens9 {xs ys : List ET} (h : ens xs = ens ys) (hy : ∀ x ∈ ys, EnOk x.1) : ∀ x ∈ xs, EnOk x.1 := fun x hx => by
 have h1 : x.1 ∈ ens xs := List.mem_map.2 ⟨x, hx, rfl⟩
 rw [h] at h1
 obtain ⟨y, hy2, e⟩ := List.mem_map.1 h1
 rw [← e]
 exact hy y hy2
theorem sameT9 {Ps Pu : Nat → Prop} (v u : Value) (xs ys : List ET) (h : ens xs = ens ys) : Tr Try.prog 25 #[v, u] [slc rEV Ps v xs, slc rEV Pu u ys] [] (T0 (.bool true)) := by
 have := sameTree_tr (Ps := Ps) (Pu := Pu) v u xs ys
 rwa [decide_eq_true h] at this
set_option maxRecDepth 20000 in
set_option maxHeartbeats 4000000 in
theorem sample9_tr : Tr Try.prog 6 #[] [] [] (TX (fun _ : Nat × Nat => True) (fun z => .slice (some ⟨z.1, 0, none⟩) 2 2) (fun z => [ownT 53 (.slice (some ⟨z.1, 0, none⟩) 2 2) (sam9T z.2), sam9B z.2])) := by
 refine Tr.of (l := []) Try.func6 rfl (n := 6) rfl Fa.nil (fun w0 hro => ?_)
 refine go [9,10,1,7,8,9,10,2,50,7] ?_
 refine G.op rfl (G.lit1 (vs := [.int .u8 120]) rfl Try.underlying31 kr rfl (by decide) (by decide) rfl rfl ?_)
 intro b2
 refine G.op rfl (G.constB (b := b2) (xs := [120]) rfl Try.underlying31 Try.underlying5 rfl (by decide) selT ?_)
 refine go [2,50,7] ?_
 refine G.op rfl (G.buildSlice (z := .agg #[.string ⟨#[]⟩, .int .i64 0, .int .i64 0, .slice none 0 0, .string ⟨#[]⟩]) (sz := 5) (cs := flatT (sam9T b2)) rfl Try.underlying29 kr (by decide) (by decide) rfl kr ?_)
 intro b5
 refine G.ownBlk (b := b5) (k := 2) (sz := 5) selT rfl (by omega) ?_
 refine go [1,7,8,11] ?_
 exact G.doneX1 ((b5, b2)) trT rfl rfl rfl subT
set_option maxRecDepth 20000 in
set_option maxHeartbeats 4000000 in
theorem small9_tr (x : UInt8) : Tr Try.prog 11 #[.int .u8 (x.toNat : Int)] [] [] (TX (fun _ : Nat => True) (fun b => .slice (some ⟨b, 0, none⟩) 12 12) (fun b => [blk b 5 ((small9 x).map vByte)])) := by
 refine Tr.of (l := [(0, .int .u8 (x.toNat : Int))]) Try.func11 rfl (n := 5) rfl (.cons rfl .nil) (fun w0 hro => ?_)
 refine go [9,10,1,7,8,9,10,0] ?_
 refine G.op rfl (G.lit1 (vs := (small9 x).map vByte) rfl Try.underlying31 kr rfl (by decide) (by decide) rfl rfl ?_)
 intro b4
 refine go [1,7,8,11] ?_
 exact G.doneX1 (b4) trT rfl rfl Y6 subT
set_option maxRecDepth 20000 in
set_option maxHeartbeats 4000000 in
theorem fails9 {Pv : Nat → Prop} (v : Value) (b : List UInt8) (e p : Int) (hb : b.length ≤ 1000000000) (h : (rdM b).2 = (e, p)) : Tr Try.prog 12 #[v, .int .i64 e, .int .i64 p] [slc rByte Pv v b] [] (T0 (.bool true)) := by
 refine Tr.of (l := [(0, v), (1, .int .i64 e), (2, .int .i64 p)]) Try.func12 rfl (n := 19) rfl (.cons rfl (.cons rfl (.cons rfl .nil))) (fun w0 hro => ?_)
 have hv := ro1 hro
 refine go [9,10,1,7,8,9,10,0] ?_
 refine G.op rfl (G.cS rfl rfl rfl rfl Try.func26 rfl rfl subT (may1 (.old hv)) (mread_tr _ b hb) apT ?_)
 intro x11 hJ
 obtain ⟨mv, ms⟩ := x11
 try dsimp only at hJ
 try dsimp only
 rw [h]
 refine G.ownFact (v := mv) selT (fun hmv _ => ?_)
 refine go [0,2,7,2,7,60,10] ?_
 intro b7
 refine go [60,5] ?_
 intro b8
 refine go [20,20,7,8,9,10] ?_
 refine G.op rfl (G.val rfl rfl (pv_loadN (cs := [_, _]) Try.underlying75 rfl kr rfl Y18) ?_)
 refine go [0,0,2,50,2] ?_
 refine G.op rfl (G.val rfl rfl ((pv_eqlSt (xs := [.int .i64 e, .int .i64 p]) (ys := [.int .i64 e, .int .i64 p]) (r := decide ((e : Int) = e) && (decide ((p : Int) = p) && true)) Try.underlying75 kr kr rfl rfl kr).cast (v' := .bool true) (congrArg Value.bool (by simp))) ?_)
 refine go [1,7,8,11] ?_
 exact G.done0G rfl (Rv.tmp rfl Rv.nil) Y6
set_option maxRecDepth 20000 in
set_option maxHeartbeats 4000000 in
theorem awake9_tr : Tr Try.prog 9 #[] [] [] (T0 (.bool true)) := by
 refine Tr.of (l := []) Try.func9 rfl (n := 48) rfl Fa.nil (fun w0 hro => ?_)
 refine go [9,10,1,7,8,9,10] ?_
 refine G.op rfl (G.cS rfl rfl rfl rfl Try.func6 rfl rfl subT may0 (sample9_tr) apT ?_)
 intro x7 hJ
 obtain ⟨g7, b7⟩ := x7
 try dsimp only at hJ
 try dsimp only
 refine G.op rfl (G.cS rfl rfl rfl rfl Try.func5 rfl rfl subT (may1 (may_tree9 (c := sam9B b7) selT selT sam9_ok (fun w h => sam9_dat h))) (mmake_tr 1 2 3 _ (sam9T b7) (sam9_small b7)) apT ?_)
 intro x8 hJ
 obtain ⟨⟨mv, ms⟩, kv, ks⟩ := x8
 try dsimp only at hJ
 try dsimp only
 rw [show mkM (⟨1, 2, 0, 3⟩ : Mh) (ens (sam9T b7)) = ((a9, sam9M), [(n9, [120])], 0) from mk9] at hJ ⊢
 obtain ⟨hms, hks⟩ := hJ
 have hms : its ms = sam9M := hms
 have hks : cks ks = [(n9, [120])] := hks
 obtain ⟨u, rfl⟩ := ck9 hks
 have hio := it9_ok hms
 refine G.ownFact (v := mv) selT (fun hmv _ => ?_)
 refine G.ownNews (v := kv) selT (fun ad9 cp9 bk9 hsv hks9 hms9 hads hnils hnews => ?_)
 subst hsv
 refine go [0,2,7,2,7,2,7,60,10] ?_
 intro b1
 refine go [20,1,1,7,8,9,10,2,50,0,0] ?_
 refine G.op rfl (G.cS rfl rfl rfl rfl Try.func8 rfl rfl subT (may2 (may_items selT selT (fun x hx => (hio x hx).1)) (may_chunks selT selT (fun x hx => by obtain rfl : x = _ := (by simpa using hx); exact ⟨n9_len, by show 1 ≤ 140737488355328; decide⟩))) (mbuild_tr a9 _ _ ms [((n9, [120]), u)] (fun x hx => (hio x hx).2) (fun x hx => by obtain rfl : x = _ := (by simpa using hx); show 1 ≤ 100000; decide)) apT ?_)
 intro x15 hJ
 obtain ⟨tv, ts⟩ := x15
 try dsimp only at hJ
 try dsimp only
 rw [show buildM a9 (its ms) (cks [((n9, [120]), u)]) = (sam9E, 0) from by rw [hms]; exact bd9] at hJ ⊢
 have hts : ens ts = ens (sam9T 0) := hJ
 refine G.ownFact (v := tv) selT (fun htv _ => ?_)
 refine go [0,2,7,2,7,1,1,7,8,9,10,0] ?_
 refine G.op rfl (G.val rfl rfl ((pv_eql rfl rfl).cast (v' := .bool true) (congrArg Value.bool (by exact decide_eq_true rfl))) ?_)
 refine go [0,3,0,3,5] ?_
 refine G.want rfl rfl rfl (G.val rfl rfl ((pv_eql rfl rfl).cast (v' := .bool true) (congrArg Value.bool (by exact decide_eq_true rfl))) ?_)
 refine go [2,2,0,3,0] ?_
 refine G.want rfl rfl rfl (G.val rfl rfl (pv_ixSl (sz := 17) (k := 0) Try.underlying25 kr rfl rfl hads rfl (by show 0 < 1; decide)) ?_)
 refine go [3,3,16] ?_
 refine G.want rfl rfl rfl (G.val rfl rfl (pv_load (v := u) Try.underlying31 rfl rfl (fun w hw => by have h := hnews selT w hw 16 u (by rw [List.flatMap_cons, List.flatMap_nil, List.append_nil]; exact chC_dat _); simpa using h)) ?_)
 refine G.want rfl rfl rfl (G.lit1 (vs := [.int .u8 120]) rfl Try.underlying31 kr rfl (by decide) (by decide) rfl rfl ?_)
 intro b30
 refine G.want rfl rfl rfl (G.constB (b := b30) (xs := [120]) rfl Try.underlying31 Try.underlying5 rfl (by decide) selT ?_)
 refine G.want rfl rfl rfl (G.cR rfl rfl rfl rfl Try.func10 rfl rfl (may2 (may_datD selT (x := ((n9, [120]), u)) (List.mem_cons_self ..)) (Sel.may selT)) (same_self _ _ [120]) ?_)
 refine go [2,2,0,3,0] ?_
 refine G.want rfl rfl rfl (G.val rfl rfl ((pv_eql rfl rfl).cast (v' := .bool true) (congrArg Value.bool (by exact decide_eq_true rfl))) ?_)
 refine go [2,2,0,3,0] ?_
 refine G.want rfl rfl rfl (G.cS rfl rfl rfl rfl Try.func6 rfl rfl subT may0 (sample9_tr) apT ?_)
 intro x40 hJ
 obtain ⟨g40, b40⟩ := x40
 try dsimp only at hJ
 try dsimp only
 refine G.want rfl rfl rfl (G.cR rfl rfl rfl rfl Try.func25 rfl rfl (may2 (may_tree selT selT (ok_ens9 hts sam9_ok)) (may_tree9 (c := sam9B b40) selT selT sam9_ok (fun w h => sam9_dat h))) (sameT9 _ _ ts (sam9T b40) hts) ?_)
 refine go [2,2,0] ?_
 refine G.want rfl rfl rfl (G.cS rfl rfl rfl rfl Try.func11 rfl rfl subT may0 (small9_tr 97) apT ?_)
 intro x44 hJ
 try dsimp only at hJ
 try dsimp only
 refine G.want rfl rfl rfl (G.val rfl rfl (pv_subH (sz := 1) (k := 11) Try.underlying31 kr rfl rfl rfl (by decide)) ?_)
 refine G.want rfl rfl rfl (G.cR rfl rfl rfl rfl Try.func12 rfl rfl (may1 (may_pre (f := vByte) (p := fun _ => True) (xs := small9 97) selT rfl (fun _ _ => trivial) (by decide) (by decide) (by decide))) (fails9 _ ((small9 97).take 11) 4 11 (by decide) (by rw [rd9])) ?_)
 refine go [2,2,1,7,8,11] ?_
 exact G.done0G rfl (Rv.tmp rfl Rv.nil) Y6
section
variable {P : Program} {n : Nat} {w0 : World} {S : Nat → Prop} {l : Fr} {m : List Ck} {K : Act → World → Prop}
theorem G.datINews {e : TypeId} {xs : List IT} {x : IT} {r : List Ck} (hs : Sel m (datI e xs) r) (hx : x ∈ xs) (h : ∀ ad cap bb, x.2 = .slice ad x.1.ids.length cap → (0 < x.1.ids.length → ad = some ⟨bb, 0, none⟩) → (∀ {m' r' : List Ck}, Sel m' (datI e xs) r' → ∀ w, Hp w0 S w m' → News w bb 0 (flatI x.1.ids)) → G n w0 S l m K) : G n w0 S l m K := fun a w ha hw => by
 have key : ∀ {m' r' : List Ck}, Sel m' (datI e xs) r' → ∀ w, Hp w0 S w m' → w.ownsRow 0 e 16 x.2 x.1.ids.length (flatI x.1.ids) := fun hs' w' hw' => (hw'.holds _ hs'.mem : (datI e xs).φ w').1 _ (List.mem_map.2 ⟨x, hx, rfl⟩)
 have ho := key hs w hw
 obtain ⟨ad, cap, b, hv, had, hnil, hnw⟩ := own_news ho
 refine h ad cap b hv had (fun {m' r'} hs' w' hw' => ?_) a w ha hw
 have ho2 := key hs' w' hw'
 obtain ⟨ad2, cap2, b2, hv2, had2, _, hnw2⟩ := own_news ho2
 rw [hv] at hv2
 injection hv2 with e3 e4 e5
 intro i y hy
 have hj : 0 < x.1.ids.length := by
  rcases Nat.eq_zero_or_pos x.1.ids.length with h0 | h0
  ·have : flatI x.1.ids = [] := List.eq_nil_of_length_eq_zero (by have := ho.1; rw [h0] at this; simpa using this)
   rw [this] at hy
   simp at hy
  exact h0
 have := (had hj).symm.trans (e3.trans (had2 hj))
 injection this with this
 injection this with e6
 subst e6
 exact hnw2 i y hy
end
theorem ro_nil9 {α : Type} {E : Rdr α} {w0 : World} {S : Nat → Prop} : Ro w0 S (slc E (fun _ => False) (.slice none 0 0) []) := ⟨nil_sl9 _ _ _, fun b hb => hb.elim⟩
section
variable {P : Program} {n : Nat} {w0 : World} {S : Nat → Prop} {l : Fr} {m : List Ck} {K : Act → World → Prop}
theorem may_chunks9 {e : TypeId} {c : Ck} {v : Value} {xs : List CT} {r r' : List Ck} (h : Sel m (own e 17 v xs.length (xs.flatMap chC)) r) (h' : Sel m c r') (hok : ∀ x ∈ xs, x.1.1.length = 16 ∧ x.1.2.length ≤ 140737488355328) (hd : ∀ w, c.φ w → ∀ x ∈ xs, IsSl rByte c.S w x.2 x.1.2) : May w0 S m (slc rCT (fun b => v.ownBlock = some b ∨ c.S b) v xs) :=
 .mix (fun w hw => rows_sl chC_len rfl (hw.holds _ h.mem) (fun b hb => .inl hb) fun b o x hx hP hr => ⟨hP, hr, (hd w (hw.holds _ h'.mem) x hx).mono fun k hk => .inr hk, (hok x hx).1, (hok x hx).2⟩) fun b hb => .inr (by
  rcases hb with hb | hb
  ·exact ⟨_, h.mem, hb⟩
  exact ⟨_, h'.mem, hb⟩)
end
def iA9 : It := ⟨[97], 1, 0, 0, [], []⟩
def iB9 : It := ⟨[97, 47, 98], 2, 0, 1, [], [n9]⟩
theorem it9 {ms : List IT} (h : its ms = sam9M) : ∃ u0 u1, ms = [(iA9, u0), (iB9, u1)] := by
 have hl : ms.length = 2 := by have := congrArg List.length h; simpa [its, sam9M] using this
 obtain ⟨x, y, rfl⟩ : ∃ x y, ms = [x, y] := by
  match ms, hl with
  | [x, y], _ => exact ⟨x, y, rfl⟩
 have h2 : [x.1, y.1] = [iA9, iB9] := h
 injection h2 with e1 e2
 injection e2 with e2 _
 exact ⟨x.2, y.2, by rw [← e1, ← e2]⟩
theorem iA9_ok : ItOk iA9 ∧ all16 iA9.ids := ⟨⟨⟨by decide, by decide⟩, ⟨by decide, by decide⟩, ⟨by decide, by decide⟩, by decide, by decide, by decide⟩, fun y hy => by cases hy⟩
theorem by9 : bytesE a9 [iA9] = 0 ∧ bytesO a9 [iA9] = small9 97 := ⟨by kernel_rfl, by kernel_rfl⟩
theorem bd9n : buildM a9 sam9M [] = ([], 6) := by kernel_rfl
theorem bd9y : buildM a9 sam9M [(n9, [121])] = ([], 11) := by decide +kernel
theorem rd9b : rdM [0, 2, 0, 3, 0] = ((mh0, []), (5, 0)) := by kernel_rfl
theorem rd9c : rdM (small9 47) = ((mh0, []), (4, 12)) := by kernel_rfl
theorem id_at {x : CT} (h : x.1.1.length = 16) {j : Nat} {v : Value} (hj : (x.1.1.map vByte)[j]? = some v) : ([x].flatMap chC)[j]? = some v := by
 rw [List.flatMap_cons, List.flatMap_nil, List.append_nil]
 have := (List.getElem?_eq_some_iff.1 hj).1
 rw [List.length_map] at this
 rw [← hj, ← chC_id h, List.drop_zero, List.getElem?_take_of_lt (by omega)]
theorem flat9 : flatI [n9] = n9.map vByte := by simp [flatI]
set_option maxRecDepth 20000 in
set_option maxHeartbeats 4000000 in
theorem known9_tr : Tr Try.prog 3 #[] [] [] (T0 (.bool true)) := by
 refine Tr.of (l := []) Try.func3 rfl (n := 150) rfl Fa.nil (fun w0 hro => ?_)
 refine go [9,10,1,7,8,9,10] ?_
 refine G.op rfl (G.cS rfl rfl rfl rfl Try.func6 rfl rfl subT may0 (sample9_tr) apT ?_)
 intro x12 hJ
 obtain ⟨g7, b7⟩ := x12
 try dsimp only at hJ
 try dsimp only
 refine G.op rfl (G.cS rfl rfl rfl rfl Try.func5 rfl rfl subT (may1 (may_tree9 (c := sam9B b7) selT selT sam9_ok (fun w h => sam9_dat h))) (mmake_tr 1 2 3 _ (sam9T b7) (sam9_small b7)) apT ?_)
 intro x13 hJ
 obtain ⟨⟨mv, ms⟩, kv, ks⟩ := x13
 try dsimp only at hJ
 try dsimp only
 rw [show mkM (⟨1, 2, 0, 3⟩ : Mh) (ens (sam9T b7)) = ((a9, sam9M), [(n9, [120])], 0) from mk9] at hJ ⊢
 obtain ⟨hms, hks⟩ := hJ
 have hms : its ms = sam9M := hms
 have hks : cks ks = [(n9, [120])] := hks
 obtain ⟨u, rfl⟩ := ck9 hks
 have hio := it9_ok hms
 obtain ⟨u0, u1, rfl⟩ := it9 hms
 refine G.ownFact (v := mv) selT (fun hmv _ => ?_)
 refine G.ownNews (v := mv) selT (fun adm cpm bkm hmv' hkm hmm hadm hnilm hnewm => ?_)
 subst hmv'
 refine G.ownNews (v := kv) selT (fun ad9 cp9 bk9 hsv hks9 hms9 hads hnils hnews => ?_)
 subst hsv
 refine G.datINews (x := (iA9, u0)) selT (by simp) (fun ad0 cp0 bk0 hv0 _ _ => ?_)
 have hv0 : u0 = .slice ad0 0 cp0 := hv0
 subst hv0
 refine G.datINews (x := (iB9, u1)) selT (by simp) (fun ad1 cp1 bk1 hv1 had1 hnew1 => ?_)
 have hv1 : u1 = .slice ad1 1 cp1 := hv1
 subst hv1
 refine go [0,2,7,2,7,2,7,60,10] ?_
 intro b1
 refine go [20,1,1,7,8,9,9,10,0] ?_
 refine G.op rfl (G.val rfl rfl ((pv_neq rfl rfl).cast (v' := .bool false) (congrArg Value.bool (by exact decide_eq_false (by decide)))) ?_)
 refine go [0,3,0,3,5] ?_
 refine G.want rfl rfl rfl (G.val rfl rfl ((pv_neq rfl rfl).cast (v' := .bool false) (congrArg Value.bool (by exact decide_eq_false (by show ¬ (((1 : Nat) : Int) ≠ 1); decide)))) ?_)
 refine go [2,2,0,3,3,4,3,4,3,5] ?_
 refine G.want rfl rfl rfl (G.val rfl rfl ((pv_neq rfl rfl).cast (v' := .bool false) (congrArg Value.bool (by exact decide_eq_false (by show ¬ (((2 : Nat) : Int) ≠ 2); decide)))) ?_)
 refine go [2,2,7,8,60,0,13,8,9,10] ?_
 refine G.op rfl (G.val rfl rfl (pv_buildSt (z := [.string ⟨#[]⟩, .int .i64 0, .int .i64 0, .int .i64 0, .string ⟨#[]⟩, .slice none 0 0]) (pl := [(0, 1), (1, 1), (2, 1), (3, 1), (4, 1), (5, 1)]) Try.underlying36 kr kr rfl flT) ?_)
 refine G.op rfl (G.buildSlice (z := .agg #[.string ⟨#[]⟩, .int .i64 0, .int .i64 0, .int .i64 0, .string ⟨#[]⟩, .slice none 0 0]) (sz := 6) (cs := itC (iA9, .slice none 0 0)) rfl Try.underlying22 kr (by decide) (by decide) rfl kr ?_)
 intro b32
 refine G.ownBlk (b := b32) (k := 1) (sz := 6) selT rfl (by omega) ?_
 refine G.ownNil 40 16 ?_
 refine G.datINil 40 ?_
 refine G.datISnoc (ys := []) (x := (iA9, .slice none 0 0)) selT selT ?_
 refine go [2,50,4] ?_
 refine G.op rfl (G.cS rfl rfl rfl rfl Try.func7 rfl rfl subT (may1 (may_items selT selT (fun x hx => by obtain rfl : x = _ := (by simpa using hx); exact iA9_ok))) (mbytes_tr a9 _ [(iA9, .slice none 0 0)]) apT ?_)
 intro x34 hJ
 try dsimp only at hJ
 try dsimp only
 rw [show bytesE a9 (its [(iA9, Value.slice none 0 0)]) = 0 from by9.1, show bytesO a9 (its [(iA9, Value.slice none 0 0)]) = small9 97 from by9.2]
 refine go [0,2,7,2,7,1,1,7,8,9,10,2,50,0] ?_
 refine G.op rfl (G.cS rfl rfl rfl rfl Try.func8 rfl rfl subT (may2 (may_items selT selT (fun x hx => (hio x hx).1)) (.old ro_nil9)) (mbuild_tr a9 _ (.slice none 0 0) _ [] (fun x hx => (hio x hx).2) (fun x hx => by cases hx)) apT ?_)
 intro x39 hJ
 obtain ⟨tv, ts⟩ := x39
 try dsimp only at hJ
 try dsimp only
 rw [show buildM a9 (its [(iA9, Value.slice ad0 0 cp0), (iB9, Value.slice ad1 1 cp1)]) (cks []) = ([], 6) from bd9n] at hJ ⊢
 refine G.ownFact (v := tv) selT (fun htv _ => ?_)
 refine go [0,2,7,2,7,1,1,7,8,9] ?_
 refine G.drawT (nn := 15) (p := []) (rem := 32767) [0, 0, 2, 4, 8, 0, 32, 80, 128, 257, 512, 1024, 1024, 4095, 16383] [0, 0, 2, 4, 8, 0, 32, 80, 128, 257, 512, 1024, 1024, 2048, 4096] kr ⟨rfl, by kernel_rfl, by kernel_rfl⟩ subT kr (fun hT6 => ?_)
 refine go [22,1,32765,0] ?_
 refine G.takeT hT6 (i := 2) (rem' := 32761) rfl rfl rfl kr (fun _ _ _ h => h) rfl (pv_ixSl (sz := 17) (k := 0) Try.underlying25 kr rfl rfl hads rfl (by show 0 < 1; decide)) subT ?_
 refine go [22,3,32753,3,0,22,0,32752,50,0] ?_
 refine G.takeT hT6 (i := 4) (rem' := 32736) rfl rfl rfl kr (fun _ _ _ h => h) rfl (pv_loadN (cs := n9.map vByte) Try.underlying40 rfl (by rw [List.length_map, n9_len]; kernel_rfl) rfl (fun w hw j v hj => by have h := hnews selT w hw j v (id_at (x := ((n9, [120]), u)) n9_len hj); simpa using h)) subT ?_
 refine go [24,5,32704] ?_
 refine G.turnOp rfl rfl (G.lit1 (vs := [.int .u8 121]) rfl Try.underlying31 kr rfl (by decide) (by decide) rfl rfl ?_)
 intro b48
 refine go [26,24,6,32640] ?_
 refine G.turnOp rfl rfl (G.constB (b := b48) (xs := [121]) rfl Try.underlying31 Try.underlying5 rfl (by decide) selT ?_)
 refine go [26] ?_
 refine G.takeT hT6 (i := 7) (rem' := 32512) rfl rfl rfl kr (fun _ _ _ h => h) rfl (pv_build (cells := (chC ((n9, [121]), .slice (some ⟨b48, 0, none⟩) 1 1)).toArray) (fun a ha => ha.pevs rfl) (builtCk n9_len rfl)) subT ?_
 refine go [24,8,32256] ?_
 refine G.turnOp rfl rfl (G.buildSlice (sz := 17) (cs := chC ((n9, [121]), .slice (some ⟨b48, 0, none⟩) 1 1)) rfl Try.underlying25 Try.infoCkfill (by decide) (by decide) rfl (fillCk _ (chC_len _)) ?_)
 intro b51
 refine G.ownBlk (b := b51) (k := 1) (sz := 17) selT (chC_len _) (by omega) ?_
 rw [show own 42 17 (.slice (some ⟨b51, 0, none⟩) 1 1) 1 (chC ((n9, [121]), .slice (some ⟨b48, 0, none⟩) 1 1)) = own 42 17 (.slice (some ⟨b51, 0, none⟩) 1 1) [(((n9, [121]), .slice (some ⟨b48, 0, none⟩) 1 1) : CT)].length ([(((n9, [121]), .slice (some ⟨b48, 0, none⟩) 1 1) : CT)].flatMap chC) from (by rw [List.flatMap_cons, List.flatMap_nil, List.append_nil]; rfl)]
 refine go [26,24,9,31744] ?_
 refine G.turnOp rfl rfl (G.cS rfl rfl rfl rfl Try.func8 rfl rfl subT (may2 (may_items selT selT (fun x hx => (hio x hx).1)) (may_chunks9 (c := slc rByte (· = b48) (.slice (some ⟨b48, 0, none⟩) 1 1) [121]) selT selT (fun x hx => by obtain rfl : x = _ := (by simpa using hx); exact ⟨n9_len, by show 1 ≤ 140737488355328; decide⟩) (fun w h x hx => by obtain rfl : x = _ := (by simpa using hx); exact h))) (mbuild_tr a9 _ _ [(iA9, .slice ad0 0 cp0), (iB9, .slice ad1 1 cp1)] [((n9, [121]), .slice (some ⟨b48, 0, none⟩) 1 1)] (fun x hx => (hio x hx).2) (fun x hx => by obtain rfl : x = _ := (by simpa using hx); show 1 ≤ 100000; decide)) apT ?_)
 intro x52 hJ
 obtain ⟨sv, ss⟩ := x52
 try dsimp only at hJ
 try dsimp only
 rw [show buildM a9 (its [(iA9, Value.slice ad0 0 cp0), (iB9, Value.slice ad1 1 cp1)]) (cks [((n9, [121]), Value.slice (some ⟨b48, 0, none⟩) 1 1)]) = ([], 11) from bd9y] at hJ ⊢
 refine G.ownFact (v := sv) selT (fun hsv _ => ?_)
 refine go [26,22,10,30720,0,22,11,28672,7,22,12,24576,7,22,13,16384,1,22,14,0,1,27,8,9] ?_
 refine G.drawT (nn := 67) (p := []) (rem := 147573952589676412927) [0, 1, 2, 4, 8, 24, 40, 72, 136, 256, 768, 1280, 2304, 4352, 8192, 24576, 40960, 73728, 139264, 262144, 786432, 1310720, 2359296, 4456448, 8650752, 17039360, 33816576, 67108864, 201326592, 335544320, 603979776, 1140850688, 2214592512, 4362076160, 8657043456, 17246978048, 34359738368, 103079215104, 171798691840, 309237645312, 584115552256, 1133871366144, 2233382993920, 4432406249472, 8796093022208, 26388279066624, 43980465111040, 79164837199872, 149533581377536, 290271069732864, 571746046443520, 1134695999864832, 2260595906707456, 4503599627370496, 13510798882111488, 22517998136852480, 40532396646334464, 76561193665298432, 148618787703226368, 292733975779082240, 4503599627370496, 1157425104234217472, 2310346608841064448, 4616189618054758400, 9804336388785569792, 18451247673336922112, 73786976294838206463] [0, 1, 2, 4, 8, 24, 40, 72, 128, 256, 768, 1280, 2304, 4096, 8192, 24576, 40960, 73728, 131072, 262144, 786432, 1310720, 2359296, 4456448, 8650752, 17039360, 33554432, 67108864, 201326592, 335544320, 603979776, 1140850688, 2214592512, 4362076160, 8657043456, 17179869184, 34359738368, 103079215104, 171798691840, 309237645312, 584115552256, 1133871366144, 2233382993920, 4398046511104, 8796093022208, 26388279066624, 43980465111040, 79164837199872, 149533581377536, 290271069732864, 571746046443520, 1134695999864832, 2251799813685248, 4503599627370496, 13510798882111488, 22517998136852480, 40532396646334464, 76561193665298432, 148618787703226368, 292733975779082240, 4503599627370496, 1157425104234217472, 2310346608841064448, 4616189618054758400, 9804336388785569792, 18451247673336922112, 36893488147419103232] kr ⟨rfl, by kernel_rfl, by kernel_rfl⟩ subT kr (fun hT7 => ?_)
 refine go [22,0,147573952589676412926,3,0,24,1,147573952589676412924,25,4,26] ?_
 refine G.takeT hT7 (i := 2) (rem' := 147573952589676412920) rfl rfl rfl kr (fun _ _ _ h => h) rfl ((pv_eql rfl rfl).cast (v' := .bool true) (congrArg Value.bool (by exact decide_eq_true rfl))) subT ?_
 refine go [22,3,147573952589676412912,0,22,4,147573952589676412896,3,1,24,5,147573952589676412864,25,4,26] ?_
 refine G.takeT hT7 (i := 6) (rem' := 147573952589676412800) rfl rfl rfl kr (fun _ _ _ h => h) rfl ((pv_eql rfl rfl).cast (v' := .bool true) (congrArg Value.bool (by exact decide_eq_true rfl))) subT ?_
 refine go [22,7,147573952589676412672,2,22,8,147573952589676412416,0,22,9,147573952589676411904,3,2,24,10,147573952589676410880,25,4,26] ?_
 refine G.takeT hT7 (i := 11) (rem' := 147573952589676408832) rfl rfl rfl kr (fun _ _ _ h => h) rfl ((pv_eql rfl rfl).cast (v' := .bool true) (congrArg Value.bool (by exact decide_eq_true rfl))) subT ?_
 refine go [22,12,147573952589676404736,2,22,13,147573952589676396544,0,22,14,147573952589676380160,3,3,24,15,147573952589676347392,25,4,26] ?_
 refine G.takeT hT7 (i := 16) (rem' := 147573952589676281856) rfl rfl rfl kr (fun _ _ _ h => h) rfl ((pv_eql rfl rfl).cast (v' := .bool true) (congrArg Value.bool (by exact decide_eq_true rfl))) subT ?_
 refine go [22,17,147573952589676150784,2,22,18,147573952589675888640,0,22,19,147573952589675364352,3,4,24,20,147573952589674315776,25,4,26] ?_
 refine G.takeT hT7 (i := 21) (rem' := 147573952589672218624) rfl rfl rfl kr (fun _ _ _ h => h) rfl (pv_ixSl (sz := 6) (k := 0) Try.underlying22 kr rfl rfl hadm rfl (by show 0 < 2; decide)) subT ?_
 refine go [22,22,147573952589668024320,3,0,24,23,147573952589659635712] ?_
 refine G.turnOp rfl rfl (G.val rfl rfl (pv_load (v := .string (sB [97])) Try.underlying9 rfl rfl (fun w hw => by have h := hnewm selT w hw 0 (.string (sB [97])) rfl; simpa using h)) ?_)
 refine go [26] ?_
 refine G.takeT hT7 (i := 24) (rem' := 147573952589642858496) rfl rfl rfl kr (fun _ _ _ h => h) rfl ((pv_eqlS (b := [97]) rfl rfl).cast (v' := .bool true) (congrArg Value.bool (by exact decide_eq_true rfl))) subT ?_
 refine go [22,25,147573952589609304064,2,22,26,147573952589542195200,0,22,27,147573952589407977472,3,4,24,28,147573952589139542016,25,4,26] ?_
 refine G.takeT hT7 (i := 29) (rem' := 147573952588602671104) rfl rfl rfl kr (fun _ _ _ h => h) rfl (pv_ixSl (sz := 6) (k := 0) Try.underlying22 kr rfl rfl hadm rfl (by show 0 < 2; decide)) subT ?_
 refine go [22,30,147573952587528929280,3,5,24,31,147573952585381445632] ?_
 refine G.turnOp rfl rfl (G.val rfl rfl (pv_load (v := .slice ad0 0 cp0) Try.underlying34 rfl rfl (fun w hw => by have h := hnewm selT w hw 5 (.slice ad0 0 cp0) rfl; simpa using h)) ?_)
 refine go [26,22,32,147573952581086478336,5] ?_
 refine G.takeT hT7 (i := 33) (rem' := 147573952572496543744) rfl rfl rfl kr (fun _ _ _ h => h) rfl ((pv_eql rfl rfl).cast (v' := .bool true) (congrArg Value.bool (by exact decide_eq_true rfl))) subT ?_
 refine go [22,34,147573952555316674560,2,22,35,147573952520956936192,0,22,36,147573952452237459456,3,4,24,37,147573952314798505984,25,4,26] ?_
 refine G.takeT hT7 (i := 38) (rem' := 147573952039920599040) rfl rfl rfl kr (fun _ _ _ h => h) rfl (pv_ixSl (sz := 6) (k := 1) Try.underlying22 kr rfl rfl hadm rfl (by show 1 < 2; decide)) subT ?_
 refine go [22,39,147573951490164785152,3,3,24,40,147573950390653157376] ?_
 refine G.turnOp rfl rfl (G.val rfl rfl (pv_load (v := .int .i64 1) Try.underlying3 rfl rfl (fun w hw => by have h := hnewm selT w hw 9 (.int .i64 1) rfl; simpa using h)) ?_)
 refine go [26] ?_
 refine G.takeT hT7 (i := 41) (rem' := 147573948191629901824) rfl rfl rfl kr (fun _ _ _ h => h) rfl ((pv_eql rfl rfl).cast (v' := .bool true) (congrArg Value.bool (by exact decide_eq_true rfl))) subT ?_
 refine go [22,42,147573943793583390720,2,22,43,147573934997490368512,0,22,44,147573917405304324096,3,4,24,45,147573882220932235264,25,4,26] ?_
 refine G.takeT hT7 (i := 46) (rem' := 147573811852188057600) rfl rfl rfl kr (fun _ _ _ h => h) rfl (pv_ixSl (sz := 6) (k := 1) Try.underlying22 kr rfl rfl hadm rfl (by show 1 < 2; decide)) subT ?_
 refine go [22,47,147573671114699702272,3,5,24,48,147573389639722991616] ?_
 refine G.turnOp rfl rfl (G.val rfl rfl (pv_load (v := .slice ad1 1 cp1) Try.underlying34 rfl rfl (fun w hw => by have h := hnewm selT w hw 11 (.slice ad1 1 cp1) rfl; simpa using h)) ?_)
 refine go [26,22,49,147572826689769570304,5] ?_
 refine G.takeT hT7 (i := 50) (rem' := 147571700789862727680) rfl rfl rfl kr (fun _ _ _ h => h) rfl ((pv_eql rfl rfl).cast (v' := .bool true) (congrArg Value.bool (by exact decide_eq_true rfl))) subT ?_
 refine go [22,51,147569448990049042432,2,22,52,147564945390421671936,0,22,53,147555938191166930944,3,4,22,54,147537923792657448960,4] ?_
 refine G.takeT hT7 (i := 55) (rem' := 147501894995638484992) rfl rfl rfl kr (fun _ _ _ h => h) rfl (pv_ixSl (sz := 6) (k := 1) Try.underlying22 kr rfl rfl hadm rfl (by show 1 < 2; decide)) subT ?_
 refine go [22,56,147429837401600557056,3,5] ?_
 refine G.takeT hT7 (i := 57) (rem' := 147285722213524701184) rfl rfl rfl kr (fun _ _ _ h => h) rfl (pv_load (v := .slice ad1 1 cp1) Try.underlying34 rfl rfl (fun w hw => by have h := hnewm selT w hw 11 (.slice ad1 1 cp1) rfl; simpa using h)) subT ?_
 refine G.takeT hT7 (i := 58) (rem' := 146997491837372989440) rfl rfl rfl kr (fun _ _ _ h => h) rfl (pv_ixSl (sz := 16) (k := 0) Try.underlying34 kr rfl rfl had1 rfl (by decide)) subT ?_
 refine G.takeT hT7 (i := 59) (rem' := 146421031085069565952) rfl rfl rfl kr (fun _ _ _ h => h) rfl (pv_loadN (cs := n9.map vByte) Try.underlying40 rfl (by rw [List.length_map, n9_len]; kernel_rfl) rfl (fun w hw j v hj => by have h := hnew1 selT w hw j v (by show (flatI [n9])[j]? = _; rw [flat9]; exact hj); simpa using h)) subT ?_
 refine go [22,60,145268109580462718976,0] ?_
 refine G.takeT hT7 (i := 61) (rem' := 142962266571249025024) rfl rfl rfl kr (fun _ _ _ h => h) rfl (pv_ixSl (sz := 17) (k := 0) Try.underlying25 kr rfl rfl hads rfl (by show 0 < 1; decide)) subT ?_
 refine go [22,62,138350580552821637120,3,0,24,63,129127208515966861312] ?_
 refine G.turnOp rfl rfl (G.val rfl rfl (pv_loadN (cs := n9.map vByte) Try.underlying40 rfl (by rw [List.length_map, n9_len]; kernel_rfl) rfl (fun w hw j v hj => by have h := hnews selT w hw j v (id_at (x := ((n9, [120]), u)) n9_len hj); simpa using h)) ?_)
 refine go [26] ?_
 refine G.takeT hT7 (i := 64) (rem' := 110680464442257309696) rfl rfl rfl kr (fun _ _ _ h => h) rfl ((pv_eqlAr8 (a := n9) (b := n9) Try.underlying40 rfl kr Try.underlying5 kr rfl rfl n9_len n9_len).cast (v' := .bool true) (congrArg Value.bool (by exact decide_eq_true rfl))) subT ?_
 refine go [22,65,73786976294838206464,2,22,66,0,1,27,8,9,10] ?_
 refine G.op rfl (G.cR rfl rfl rfl rfl Try.func9 rfl rfl may0 (awake9_tr) ?_)
 refine go [0,3,0,2,2,0,3,0] ?_
 refine G.want rfl rfl rfl (G.val rfl rfl ((pv_eql rfl rfl).cast (v' := .bool true) (congrArg Value.bool (by exact decide_eq_true rfl))) ?_)
 refine go [2,2,0,3,0] ?_
 refine G.want rfl rfl rfl (G.cS rfl rfl rfl rfl Try.func11 rfl rfl subT may0 (small9_tr 97) apT ?_)
 intro x131 hJ
 try dsimp only at hJ
 try dsimp only
 refine G.want rfl rfl rfl (G.cR rfl rfl rfl rfl Try.func10 rfl rfl (may2 (may_ownB selT) (may_all (f := vByte) (p := fun _ => True) (xs := (small9 97)) (b := x131) selT (fun _ _ => trivial) rfl (by decide) (by decide))) (same_self _ _ (small9 97)) ?_)
 refine go [2,2,0] ?_
 refine G.want rfl rfl rfl (G.lit1 (vs := [.int .u8 0, .int .u8 2, .int .u8 0, .int .u8 3, .int .u8 0]) rfl Try.underlying31 kr rfl (by decide) (by decide) rfl rfl ?_)
 intro b135
 rw [show blk b135 5 [.int .u8 0, .int .u8 2, .int .u8 0, .int .u8 3, .int .u8 0] = blk b135 5 (([0, 2, 0, 3, 0] : List UInt8).map vByte) from rfl]
 refine G.want rfl rfl rfl (G.cR rfl rfl rfl rfl Try.func12 rfl rfl (may1 (may_all (f := vByte) (p := fun _ => True) (xs := ([0, 2, 0, 3, 0] : List UInt8)) (b := b135) selT (fun _ _ => trivial) rfl (by decide) (by decide))) (fails9 _ [0, 2, 0, 3, 0] 5 0 (by decide) (by rw [rd9b])) ?_)
 refine go [2,2,0] ?_
 refine G.want rfl rfl rfl (G.cS rfl rfl rfl rfl Try.func11 rfl rfl subT may0 (small9_tr 47) apT ?_)
 intro x139 hJ
 try dsimp only at hJ
 try dsimp only
 refine G.want rfl rfl rfl (G.cR rfl rfl rfl rfl Try.func12 rfl rfl (may1 (may_all (f := vByte) (p := fun _ => True) (xs := (small9 47)) (b := x139) selT (fun _ _ => trivial) rfl (by decide) (by decide))) (fails9 _ (small9 47) 4 12 (by decide) (by rw [rd9c])) ?_)
 refine go [2,2,0,3,0] ?_
 refine G.want rfl rfl rfl (G.val rfl rfl ((pv_eql rfl rfl).cast (v' := .bool true) (congrArg Value.bool (by exact decide_eq_true rfl))) ?_)
 refine go [2,2,0,3,0] ?_
 refine G.want rfl rfl rfl (G.val rfl rfl ((pv_eql rfl rfl).cast (v' := .bool true) (congrArg Value.bool (by exact decide_eq_true rfl))) ?_)
 refine go [2,2,1,7,8,11] ?_
 exact G.done0G rfl (Rv.tmp rfl Rv.nil) Y6
theorem nid_ge {ms : List It} {x : It} (h : x ∈ ms) : x.ids.length ≤ nidM ms := by
 induction ms with
 | nil => cases h
 | cons y ms ih =>
  have e1 : nidM (y :: ms) = y.ids.length + nidM ms := by simp [nidM]
  rcases List.mem_cons.1 h with rfl | h
  ·omega
  have := ih h
  omega
theorem nid_few {xs : List IT} (h : nidM (its xs) ≤ 400) : ∀ x ∈ xs, x.1.ids.length ≤ 400 := fun x hx => Nat.le_trans (nid_ge (List.mem_map.2 ⟨x, hx, rfl⟩)) h
theorem ndat_ge {ms : List (List UInt8 × List UInt8)} {x : List UInt8 × List UInt8} (h : x ∈ ms) : x.2.length ≤ ndatM ms := by
 induction ms with
 | nil => cases h
 | cons y ms ih =>
  have e1 : ndatM (y :: ms) = y.2.length + ndatM ms := by simp [ndatM]
  rcases List.mem_cons.1 h with rfl | h
  ·omega
  have := ih h
  omega
theorem cks_small {zs : List CT} {k r : Int} (h : ¬ bigC (cks zs) k r) : ∀ x ∈ zs, (x.1.2.length : Int) ≤ r := fun x hx => by
 have h1 := ndat_ge (ms := cks zs) (List.mem_map.2 ⟨x, hx, rfl⟩)
 unfold bigC at h
 omega
theorem buildM_en {a : Mh} {ms : List It} {cs : List (List UInt8 × List UInt8)} (hI : ∀ x ∈ ms, ItOk x ∧ all16 x.ids) (hf : ∀ x ∈ ms, x.ids.length ≤ 400) (hd : ∀ id, (foundM cs id).1.length ≤ 100000) : (∀ e ∈ (buildM a ms cs).1, EnOk e) ∧ (buildM a ms cs).1.length ≤ ms.length := by
 unfold buildM
 split
 ·exact ⟨fun e he => (by cases he), Nat.zero_le _⟩
 split
 ·exact ⟨fun e he => (by cases he), Nat.zero_le _⟩
 refine ⟨fun e he => ?_, by show (ms.map (mkE cs)).length ≤ _; rw [List.length_map]; exact Nat.le_refl _⟩
 obtain ⟨x, hx, rfl⟩ := List.mem_map.1 he
 obtain ⟨⟨h1, h2, h3, h4, h5, h6⟩, -⟩ := hI x hx
 have h7 := datOf_len cs hd x.ids
 have h8 := hf x hx
 exact ⟨h1, h2, h4, by show (datOf cs x.ids).length ≤ _; omega, h5⟩
def lenM (cs : List (List UInt8 × List UInt8)) (id : List UInt8) : Int := match cs.find? (fun p => decide (p.1 = id)) with
 | none => -1
 | some p => (p.2.length : Int)
theorem lenM_none {xs : List CT} {id : List UInt8} (h : ∀ q (hq : q < xs.length), ¬ xs[q].1.1 = id) : lenM (cks xs) id = -1 := by
 have h1 : (cks xs).find? (fun p => decide (p.1 = id)) = none := List.find?_eq_none.2 fun p hp => by
  obtain ⟨x, hx, rfl⟩ := List.mem_map.1 hp
  obtain ⟨q, hq, rfl⟩ := List.getElem_of_mem hx
  simpa using h q hq
 unfold lenM
 rw [h1]
theorem lenM_at {xs : List CT} {id : List UInt8} {i : Nat} (hi : i < xs.length) (h : ∀ q (hq : q < xs.length), q < i → ¬ xs[q].1.1 = id) (he : xs[i].1.1 = id) : lenM (cks xs) id = (xs[i].1.2.length : Int) := by
 have h2 : xs.find? (fun x => decide (x.1.1 = id)) = some xs[i] := (List.find?_eq_some_iff_getElem).2 ⟨by simpa using he, i, hi, rfl, fun j hj => by simpa using h j (by omega) hj⟩
 have h1 : (cks xs).find? (fun p => decide (p.1 = id)) = some xs[i].1 := by
  unfold cks
  rw [List.find?_map]
  show Option.map _ (xs.find? fun x => decide (x.1.1 = id)) = _
  rw [h2]
  rfl
 unfold lenM
 rw [h1]
theorem lenM_found {cs : List (List UInt8 × List UInt8)} {id : List UInt8} (h : (foundM cs id).2 = 0) : lenM cs id = ((foundM cs id).1.length : Int) ∧ nameM (foundM cs id).1 = id := by
 unfold foundM at h ⊢
 unfold lenM
 cases hf : cs.find? (fun p => decide (p.1 = id)) with
 | none => rw [hf] at h; cases h
 | some p =>
  rw [hf] at h
  simp only at h ⊢
  split at h
  ·rename_i hn
   rw [if_pos hn]
   exact ⟨rfl, hn⟩
  cases h
theorem foundM_err (cs : List (List UInt8 × List UInt8)) (id : List UInt8) : (foundM cs id).2 = 0 ∨ (foundM cs id).2 = 6 ∨ (foundM cs id).2 = 11 := by
 unfold foundM
 split
 ·exact .inr (.inl rfl)
 split
 ·exact .inl rfl
 exact .inr (.inr rfl)
theorem firstE_of {l : List Int} : firstE l = 0 ∧ (∀ x ∈ l, x = 0) ∨ firstE l ≠ 0 ∧ firstE l ∈ l := by
 unfold firstE
 cases h : l.find? (fun e => ! decide (e = 0)) with
 | none =>
  refine .inl ⟨rfl, fun x hx => ?_⟩
  simpa using List.find?_eq_none.1 h x hx
 | some e =>
  have h1 := List.find?_some h
  exact .inr ⟨by simpa using h1, List.mem_of_find?_eq_some h⟩
theorem errIt_err (cs : List (List UInt8 × List UInt8)) (x : It) : errIt cs x = 0 ∨ errIt cs x = 6 ∨ errIt cs x = 11 ∨ errIt cs x = 4 := by
 unfold errIt
 split
 ·rename_i h
  unfold errB at h ⊢
  rcases firstE_of (l := x.ids.map fun id => (foundM cs id).2) with ⟨h1, _⟩ | ⟨_, h1⟩
  ·exact absurd h1 h
  obtain ⟨id, _, e⟩ := List.mem_map.1 h1
  rw [← e]
  rcases foundM_err cs id with h2 | h2 | h2
  ·exact .inl h2
  ·exact .inr (.inl h2)
  exact .inr (.inr (.inl h2))
 split
 ·exact .inr (.inr (.inr rfl))
 exact .inl rfl
theorem errIt_zero {cs : List (List UInt8 × List UInt8)} {x : It} (h : errIt cs x = 0) : (∀ r (hr : r < x.ids.length), (foundM cs x.ids[r]).2 = 0) ∧ ((datOf cs x.ids).length : Int) = x.size := by
 unfold errIt at h
 split at h
 ·rename_i h1
  exact absurd h h1
 rename_i h1
 split at h
 ·cases h
 rename_i h2
 refine ⟨fun r hr => ?_, Decidable.of_not_not h2⟩
 have h1 : errB cs x.ids = 0 := Decidable.of_not_not h1
 unfold errB at h1
 rcases firstE_of (l := x.ids.map fun id => (foundM cs id).2) with ⟨_, h3⟩ | ⟨h3, _⟩
 ·exact h3 _ (List.mem_map.2 ⟨_, List.getElem_mem hr, rfl⟩)
 exact absurd h1 h3
theorem buildM_err {a : Mh} {ms : List It} {cs : List (List UInt8 × List UInt8)} (h : (buildM a ms cs).2 ≠ 0) : (buildM a ms cs).1 = [] ∧ (¬ (checkI a ms).1 = 0 → (buildM a ms cs).2 = (checkI a ms).1) ∧ ((checkI a ms).1 = 0 → ¬ (buildM a ms cs).2 = 6 → ¬ (buildM a ms cs).2 = 11 → (buildM a ms cs).2 = 4) := by
 by_cases hc : (checkI a ms).1 = 0
 ·unfold buildM at h ⊢
  rw [if_neg (not_not_intro hc)] at h ⊢
  split at h
  ·rename_i h1
   rw [if_pos h1]
   refine ⟨rfl, fun k => absurd hc k, fun _ h2 h3 => ?_⟩
   rcases firstE_of (l := ms.map (errIt cs)) with ⟨h4, _⟩ | ⟨_, h4⟩
   ·exact absurd h4 h1
   obtain ⟨x, _, e⟩ := List.mem_map.1 h4
   simp only at h2 h3 ⊢
   rw [← e] at h1 h2 h3 ⊢
   rcases errIt_err cs x with h5 | h5 | h5 | h5
   ·exact absurd h5 h1
   ·exact absurd h5 h2
   ·exact absurd h5 h3
   exact h5
  exact absurd rfl h
 rw [buildM_check hc]
 exact ⟨rfl, fun _ => rfl, fun k => absurd k hc⟩
theorem buildM_fine {a : Mh} {ms : List It} {cs : List (List UInt8 × List UInt8)} (h : (buildM a ms cs).2 = 0) : (checkI a ms).1 = 0 ∧ (buildM a ms cs).1 = ms.map (mkE cs) ∧ ∀ q (hq : q < ms.length), errIt cs ms[q] = 0 := by
 by_cases hc : (checkI a ms).1 = 0
 ·unfold buildM at h ⊢
  rw [if_neg (not_not_intro hc)] at h ⊢
  split at h
  ·rename_i h1
   exact absurd h h1
  rename_i h1
  rw [if_neg h1]
  refine ⟨hc, rfl, fun q hq => ?_⟩
  rcases firstE_of (l := ms.map (errIt cs)) with ⟨_, h3⟩ | ⟨h3, _⟩
  ·exact h3 _ (List.mem_map.2 ⟨_, List.getElem_mem hq, rfl⟩)
  exact absurd h3 h1
 rw [buildM_check hc] at h
 exact absurd h hc
theorem prev_same {ms : List It} {cs : List (List UInt8 × List UInt8)} {i : Nat} : prevBad (ms.map (mkE cs)) i ↔ prevBad (toEs ms) i := by
 unfold prevBad toEs
 rw [List.getElem?_map, List.getElem?_map, List.getElem?_map, List.getElem?_map]
 cases ms[i - 1]? <;> cases ms[i]? <;> exact Iff.rfl
theorem held_same {ms : List It} {cs : List (List UInt8 × List UInt8)} {x : It} (h : heldM (toEs ms) (toE x)) : heldM (ms.map (mkE cs)) (mkE cs x) := by
 rcases h with h | ⟨y, hy, h1, h2⟩
 ·exact .inl h
 obtain ⟨z, hz, rfl⟩ := List.mem_map.1 hy
 exact .inr ⟨_, List.mem_map.2 ⟨z, hz, rfl⟩, h1, h2⟩
theorem built_check {a : Mh} {ms : List It} {cs : List (List UInt8 × List UInt8)} (h : (checkI a ms).1 = 0) (he : ∀ q (hq : q < ms.length), errIt cs ms[q] = 0) : checkT (ms.map (mkE cs)) = (0, 0) := by
 obtain ⟨_, h200, hz, _⟩ := checkI_zero h
 refine checkT_ok (by rw [List.length_map]; omega) fun q hq => ?_
 rw [List.length_map] at hq
 obtain ⟨z1, z2, z3⟩ := errI_zero hq (hz q hq)
 obtain ⟨f1, f2⟩ := errIt_zero (he q hq)
 have hg : (ms.map (mkE cs))[q]'(by rw [List.length_map]; exact hq) = mkE cs ms[q] := List.getElem_map ..
 refine err_ok (by rw [List.length_map]; exact hq) ?_ (fun k => z2 (prev_same.1 k)) ?_
 ·rw [hg]
  obtain ⟨o1, o2, o3⟩ := oneI_zero z1
  unfold numI at o2
  unfold rngI at o3
  have e1 : (mkE cs ms[q]).data.length = (datOf cs ms[q].ids).length := rfl
  refine one_ok o1 (fun k => ?_) (by rw [e1]; omega)
  unfold argP at k
  rw [e1] at k
  simp only [mkE] at k
  omega
 rw [hg, ← List.map_take]
 exact held_same z3
theorem ev_at {ys : List ET} {i : Nat} (h : i < ys.length) {e : En} (he : ys[i].1 = e) : (flatT ys)[i * 5 + 0]? = some (.string (sB e.path)) ∧ (flatT ys)[i * 5 + 1]? = some (.int .i64 e.kind) ∧ (flatT ys)[i * 5 + 2]? = some (.int .i64 e.mode) ∧ (flatT ys)[i * 5 + 3]? = some ys[i].2 ∧ (flatT ys)[i * 5 + 4]? = some (.string (sB e.to)) := by
 subst he
 exact ⟨flatT_get h (by omega), flatT_get h (by omega), flatT_get h (by omega), flatT_get h (by omega), flatT_get h (by omega)⟩
theorem datOf_drop (cs : List (List UInt8 × List UInt8)) {ids : List (List UInt8)} {q : Nat} (h : q < ids.length) : datOf cs (ids.drop q) = (foundM cs ids[q]).1 ++ datOf cs (ids.drop (q + 1)) := by
 unfold datOf
 rw [← List.getElem_cons_drop h, List.flatMap_cons]
theorem IsSl.pre {α : Type} {E : Rdr α} {Ps : Nat → Prop} {w : World} {ad : Option Addr} {n cap : Nat} {d r : List α} (h : IsSl E Ps w (.slice ad n cap) (d ++ r)) : IsSl E Ps w (.slice ad d.length cap) d := by
 obtain ⟨ad2, cap2, b, off, e, hs⟩ := h
 injection e with e1 e2 e3
 subst e1
 subst e3
 refine ⟨ad, cap, b, off, rfl, ?_, hs.hmax, hs.hnil, fun h0 => hs.had (by rw [List.length_append]; omega), fun i hi => ?_⟩
 ·have := hs.hcap
  rw [List.length_append] at this
  omega
 have := hs.cell i (by rw [List.length_append]; omega)
 rwa [List.getElem_append_left hi] at this
theorem IsSl.rest {Ps : Nat → Prop} {w : World} {ad : Option Addr} {n cap : Nat} {d r : List UInt8} (h : IsSl rByte Ps w (.slice ad n cap) (d ++ r)) : IsSl rByte Ps w (.slice (if cap = d.length then ad else ad.map (·.add (d.length * 1))) r.length (cap - d.length)) r := by
 have h1 := h.sub (i := d.length) (j := (d ++ r).length) (by rw [List.length_append]; omega) (Nat.le_refl _)
 rw [List.take_length, List.drop_left] at h1
 have e : subV rByte.sz ad d.length (d ++ r).length cap = .slice (if cap = d.length then ad else ad.map (·.add (d.length * 1))) r.length (cap - d.length) := by
  unfold subV
  rw [List.length_append, Nat.add_sub_cancel_left]
  rfl
 rwa [e] at h1
section
variable {P : Program} {n : Nat} {w0 : World} {S : Nat → Prop} {l : Fr} {m : List Ck} {K : Act → World → Prop}
theorem G.datCOpen {e : TypeId} {xs : List ET} {x : ET} {d : List UInt8} {r : List Ck} (hs : Sel m (datC e xs) r) (hx : x ∈ xs) (hd : x.1.data = d) (h : ∀ ad cap, x.2 = .slice ad d.length cap → d.length ≤ cap → (∀ w, (datC e xs).φ w → IsSl rByte (datC e xs).S w (.slice ad d.length cap) d) → G n w0 S l m K) : G n w0 S l m K := fun a w ha hw => by
 subst hd
 obtain ⟨ad, cap, b, off, e1, hs1⟩ := datC_dat (hw.holds _ hs.mem) x hx
 refine h ad cap e1 hs1.hcap (fun w' hw' => ?_) a w ha hw
 have := datC_dat hw' x hx
 rwa [e1] at this
end
set_option maxRecDepth 20000 in
set_option maxHeartbeats 4000000 in
theorem length_tr {Ps : Nat → Prop} (v : Value) (xs : List CT) (id : List UInt8) (lq : id.length = 16) : Tr Try.prog 17 #[v, vID id] [slc rCT Ps v xs] [] (T0 (.int .i64 (lenM (cks xs) id))) := by
 refine Tr.of (l := [(0, v), (1, vID id)]) Try.func17 rfl (n := 25) rfl (.cons rfl (.cons rfl .nil)) (fun w0 hro => ?_)
 have hv := ro1 hro
 have hv' := hv
 obtain ⟨av, cv, bv, fv, rfl, hcapv, hmaxv, hnilv, hadv, helv⟩ := Ro.open hv
 refine go [9,10] ?_
 refine G.op rfl (G.box (cs := id.map vByte) rfl rfl rfl ?_)
 intro b3
 refine go [1,7,8,9,9,10,1,7,8,15] ?_
 refine G.loopK (X := Nat) (ts := [0, 3]) (fun i => i ≤ xs.length ∧ (∀ q (hq : q < xs.length), q < i → ¬ xs[q].1.1 = id)) (fun i => [(5, .int .i64 (i : Int))]) (fun i => []) (fun i => xs.length - i) (x0 := 0) (.cons rfl (.cons rfl .nil)) subT (.cons .nil) apT (by first | exact trivial | ((try dsimp only) <;> exact ⟨Nat.zero_le _, fun q _ h => absurd h (by omega)⟩)) (.consE rfl veqT .nil) (fun i hJ => ?_)
 try dsimp only at hJ
 try dsimp only
 obtain ⟨hki, hJ⟩ := hJ
 have hJ0 := hJ
 refine go [9,9,10,0,0,2,5,2,9,7,8] ?_
 refine G.condP rfl (fun h9 => ?_) (fun h9 => ?_)
 ·have hlt : i < xs.length := by omega
  have hEv := helv i hlt
  have hRv := Ro.ckRng hEv
  have hDv := Ro.ckDat hEv
  have hIv := Ro.ckID hEv
  have hdlv := Ro.ckLen hEv
  have hCv := Ro.one1 hDv
  refine go [13,8,9,15,9] ?_
  refine G.drawT (nn := 7) (p := []) (rem := 127) [0, 0, 3, 4, 8, 0, 48] [0, 0, 3, 4, 8, 0, 48] kr ⟨rfl, by kernel_rfl, by kernel_rfl⟩ subT kr (fun hT4 => ?_)
  refine go [22,0,126,0,22,1,124,0] ?_
  refine G.takeT hT4 (i := 2) (rem' := 120) rfl rfl rfl kr (fun _ _ _ h => h) rfl (pv_ixSl (sz := 17) (k := i) Try.underlying25 kr rfl rfl adT (by omega) (by omega)) subT ?_
  refine go [22,3,112,3,0] ?_
  refine G.takeT hT4 (i := 4) (rem' := 96) rfl rfl rfl kr (fun _ _ _ h => h) rfl (pv_loadN (cs := xs[i].1.1.map vByte) Try.underlying40 rfl (by rw [List.length_map, hIv]; kernel_rfl) rfl (ro_rng16 hRv hIv)) subT ?_
  refine go [24,5,64] ?_
  refine G.turnOp rfl rfl (G.val rfl rfl (pv_loadN (cs := id.map vByte) Try.underlying40 rfl Y10 rfl (blk_range (k := 16) selT (List.take_of_length_le Y8))) ?_)
  refine go [26] ?_
  refine G.takeT hT4 (i := 6) (rem' := 0) rfl rfl rfl kr (fun _ _ _ h => h) rfl (pv_eqlAr8 (a := xs[i].1.1) (b := id) Try.underlying40 rfl kr Try.underlying5 kr rfl rfl hIv lq) subT ?_
  refine go [27,8] ?_
  refine G.condP rfl (fun h18 => ?_) (fun h18 => ?_)
  ·have hye : xs[i].1.1 = id := by assumption
   have hfa := lenM_at hlt hJ0 hye
   obtain ⟨aD, cD, hx2⟩ := Ro.slv hDv
   refine go [9,10,0,0] ?_
   refine G.op rfl (G.val rfl rfl (pv_ixSl (sz := 17) (k := i) Try.underlying25 kr rfl rfl adT (by omega) (by omega)) ?_)
   refine go [2,3,16] ?_
   refine G.op rfl (G.val rfl rfl (pv_load (v := .slice aD xs[i].1.2.length cD) Try.underlying31 rfl rfl (by rw [← hx2]; exact ro_rngD hRv)) ?_)
   refine go [2,5,1,7,8,11,17,12,12,17,12] ?_
   exact G.done0G rfl (Rv.tmp rfl Rv.nil) (by rw [hfa]; rfl)
  have hne : ¬ xs[i].1.1 = id := by assumption
  refine go [13,16,8,10,0,2,6,1,7] ?_
  exact G.next (i + 1) (by first | exact trivial | ((try dsimp only) <;> exact ⟨by omega, fun q hq hqi => by rcases Nat.lt_or_ge q i with h1 | h1; exact hJ0 q hq h1; obtain rfl : q = i := (by omega); exact hne⟩)) (by (try dsimp only); omega) (.consE rfl veqT (.cons rfl (.cons rfl .nil))) subT
 have hfn := lenM_none (id := id) (fun q hq => hJ0 q hq (by omega))
 refine go [18,14,14,19,8,9,10,1,7,8,11] ?_
 exact G.done0G rfl (Rv.tmp rfl Rv.nil) (by rw [hfn]; rfl)
set_option maxRecDepth 20000 in
set_option maxHeartbeats 4000000 in
theorem mholds {Ps Pz : Nat → Prop} (a : Mh) (v vz : Value) (xs : List IT) (zs : List CT) : Tr Try.prog 4 #[.agg #[.int .i64 a.c, .int .i64 a.k, .int .i64 a.n, .int .i64 a.t, v], vz] [slc rIT Ps v xs, slc rCT Pz vz zs] [] (T0 (.bool true)) := by
 refine Tr.of (l := [(0, .agg #[.int .i64 a.c, .int .i64 a.k, .int .i64 a.n, .int .i64 a.t, v]), (1, vz)]) Try.func4 rfl (n := 190) rfl (.cons rfl (.cons rfl .nil)) (fun w0 hro => ?_)
 obtain ⟨hx0, hz0⟩ := ro2 hro
 have hv := hx0
 have hv' := hv
 obtain ⟨av, cv, bv, fv, rfl, hcapv, hmaxv, hnilv, hadv, helv⟩ := Ro.open hv
 have hel' := its_length xs
 have hI := Ro.allI helv
 have hall : ∀ x ∈ its xs, ItOk x ∧ all16 x.ids := fun x hx => by obtain ⟨y, hy, rfl⟩ := List.mem_map.1 hx; exact ⟨(hI y hy).1, (hI y hy).2.1⟩
 have hzv := hz0
 obtain ⟨az, cz, bz, fz, rfl, -, -, -, -, helz⟩ := Ro.open hzv
 refine go [9,10,60,7] ?_
 intro b2
 refine go [1,7,8,9,10] ?_
 refine G.op rfl (G.cR rfl rfl rfl rfl Try.func9 rfl rfl may0 (awake9_tr) ?_)
 refine go [1,7,8,9,9] ?_
 refine G.cutK (X := Unit) (ts := [1, 2, 4, 5]) (p := []) (fun _ => True) (fun _ => [(23, .bool (decide (bigI (its xs) 40 ∨ bigC (cks zs) 60 20000)))]) (fun _ => []) (.cons rfl (.cons rfl (.cons rfl (.cons rfl .nil)))) subT (.cons .nil) apT ?_ ?_
 ·refine go [10,2,50,0] ?_
  refine G.op rfl (G.cR rfl rfl rfl rfl Try.func13 rfl rfl (may1 (.old hv)) (bigM_tr a _ xs 40 (by omega)) ?_)
  refine go [0] ?_
  refine G.partP (t := 20) rfl (fun h20 => ?_) (fun h20 => ?_)
  ·refine go [4,4,2,2,7] ?_
   exact G.meet (()) trT (.consE rfl (by first | exact dec_t (.inl (by assumption)) | exact dec_e ⟨fun h => .inr h, fun h => h.resolve_left (by assumption)⟩) (.cons rfl (.cons rfl (.cons rfl (.cons rfl .nil))))) subT
  refine go [3,0] ?_
  refine G.want rfl rfl rfl (G.cR rfl rfl rfl rfl Try.func14 rfl rfl (may1 (.old hz0)) (bigC_tr _ zs 60 20000 (by omega)) ?_)
  refine go [2,2,7] ?_
  exact G.meet (()) trT (.consE rfl (by first | exact dec_t (.inl (by assumption)) | exact dec_e ⟨fun h => .inr h, fun h => h.resolve_left (by assumption)⟩) (.cons rfl (.cons rfl (.cons rfl (.cons rfl .nil))))) subT
 intro _ hJ
 try dsimp only at hJ
 try dsimp only
 refine G.condP rfl (fun h23 => ?_) (fun h23 => ?_)
 ·refine go [9,10,0,1,7,8,11,12] ?_
  exact G.done0G rfl (Rv.tmp rfl Rv.nil) Y6
 obtain ⟨hnb, hnc⟩ := not_or.1 h23
 have hxl : xs.length ≤ 40 := by unfold bigI at hnb; omega
 have hzl : zs.length ≤ 60 := by have := cks_length zs; unfold bigC at hnc; omega
 have hnid : nidM (its xs) ≤ 400 := by unfold bigI at hnb; omega
 have hfe := nid_few hnid
 have hds := cks_small hnc
 have hfm : ∀ x ∈ its xs, x.ids.length ≤ 400 := fun x hx => by obtain ⟨y, hy, rfl⟩ := List.mem_map.1 hx; exact hfe y hy
 have hbd : ∀ x ∈ zs, x.1.2.length ≤ 100000 := fun x hx => by have := hds x hx; omega
 obtain ⟨hen, hel40⟩ := buildM_en (a := a) hall hfm (fun id => found_len hbd id)
 have hbe := buildM_err (a := a) (ms := its xs) (cs := cks zs)
 have hbf := buildM_fine (a := a) (ms := its xs) (cs := cks zs)
 obtain ⟨R, hR⟩ : ∃ R, buildM a (its xs) (cks zs) = R := ⟨_, rfl⟩
 rw [hR] at hen hel40 hbe hbf
 refine go [13,8,9,10,2,50,0,0] ?_
 refine G.op rfl (G.cS rfl rfl rfl rfl Try.func8 rfl rfl subT (may2 (.old hv) (.old hz0)) (mbuild_tr a _ _ xs zs (fun x hx => by have := hfe x hx; omega) hbd) apT ?_)
 intro x28 hJ
 obtain ⟨tv, ys⟩ := x28
 try dsimp only at hJ
 try dsimp only
 rw [hR] at hJ
 rw [hR]
 have hys : ens ys = R.1 := hJ
 have hyok : ∀ x ∈ ys, EnOk x.1 := fun x hx => hen _ (by rw [← hys]; exact List.mem_map.2 ⟨x, hx, rfl⟩)
 refine G.ownFact (v := tv) selT (fun htv _ => ?_)
 refine go [0,2,7,2,7,1,1,7,8,9,10,2,50,0] ?_
 refine G.op rfl (G.cR rfl rfl rfl rfl Try.func15 rfl rfl (may1 (.old hv)) (mcheck_tr a _ xs) ?_)
 refine go [0,2,7,2,7,1,1,7,8,9,9,10,0,2,14,7,8] ?_
 refine G.condP rfl (fun h37 => ?_) (fun h37 => ?_)
 ·obtain ⟨hb0, hb1, hb2⟩ := hbe (by assumption)
  have hys0 : ens ys = [] := by rw [hys, hb0]
  have hyn : ys = [] := by have := congrArg List.length hys0; rw [ens_length] at this; exact List.eq_nil_of_length_eq_zero this
  subst hyn
  refine G.ownOpen (v := tv) selT (fun a9 c9 h9 _ _ => ?_)
  subst h9
  refine go [9,10,0,0,3,0,3,5] ?_
  refine G.want rfl rfl rfl (G.val rfl rfl ((pv_eql rfl rfl).cast (v' := .bool true) (congrArg Value.bool (by exact decide_eq_true rfl))) ?_)
  refine go [2,2,0,3,0,3,14,3,0] ?_
  refine G.partP (t := 47) rfl (fun h47 => ?_) (fun h47 => ?_)
  ·refine go [3,0,3,0] ?_
   refine G.want rfl rfl rfl (G.val rfl rfl ((pv_eql rfl rfl).cast (v' := .bool true) (congrArg Value.bool (by exact decide_eq_true (hb1 (by assumption))))) ?_)
   refine go [3,2,3,0,4,4,4,6,6,6,6,6,6,6,6,6,6,4,3,2,2,2,1,7,8,11,12] ?_
   exact G.done0G rfl (Rv.tmp rfl Rv.nil) Y6
  refine go [4,4,4,3,2,3,0,3,0] ?_
  refine G.want rfl rfl rfl (G.val rfl rfl ((pv_eql rfl rfl).cast (v' := .bool true) (congrArg Value.bool (by exact decide_eq_true (Decidable.of_not_not (by assumption))))) ?_)
  refine go [3,0,3,0,3,13,3,0] ?_
  refine G.partP (t := 58) rfl (fun h58 => ?_) (fun h58 => ?_)
  ·refine go [4,4,3,2,3,0,4,4,3,2,3,2,3,2,2,2,1,7,8,11,12] ?_
   exact G.done0G rfl (Rv.tmp rfl Rv.nil) Y6
  refine go [3,0,3,13,3,2,3,0] ?_
  refine G.partP (t := 62) rfl (fun h62 => ?_) (fun h62 => ?_)
  ·refine go [4,4,3,2,3,2,3,2,2,2,1,7,8,11,12] ?_
   exact G.done0G rfl (Rv.tmp rfl Rv.nil) Y6
  refine go [3,0] ?_
  refine G.want rfl rfl rfl (G.val rfl rfl ((pv_eql rfl rfl).cast (v' := .bool true) (congrArg Value.bool (by exact decide_eq_true (hb2 (Decidable.of_not_not (by assumption)) (by assumption) (by assumption))))) ?_)
  refine go [3,2,3,2,3,2,2,2,1,7,8,11,12] ?_
  exact G.done0G rfl (Rv.tmp rfl Rv.nil) Y6
 obtain ⟨hc0, hbm, herr⟩ := hbf (Decidable.of_not_not (by assumption))
 have hyl : ys.length = xs.length := by rw [← ens_length, hys, hbm, List.length_map, hel']
 have hchk : checkT (ens ys) = (0, 0) := by rw [hys, hbm]; exact built_check hc0 herr
 refine G.ownNews (v := tv) selT (fun adx cpx bkx hvx hkx hmx hadx hnilx hnewx => ?_)
 subst hvx
 refine go [13,8,9,10,0] ?_
 refine G.op rfl (G.cR rfl rfl rfl rfl Try.func16 rfl rfl (may1 (may_tree selT selT hyok)) (tcheck_tr _ ys) ?_)
 rw [hchk]
 refine go [0,2,7,2,7,1,1,7,8,9,9,10,0] ?_
 refine G.op rfl (G.val rfl rfl ((pv_neq rfl rfl).cast (v' := .bool false) (congrArg Value.bool (by exact decide_eq_false (fun h => h hc0)))) ?_)
 refine go [0,3,0] ?_
 refine G.want rfl rfl rfl (G.val rfl rfl ((pv_neq rfl rfl).cast (v' := .bool false) (congrArg Value.bool (by exact decide_eq_false (fun h => h rfl)))) ?_)
 refine go [2,2,0,3,0,3,5,3,3,4,3,4,3,5] ?_
 refine G.want rfl rfl rfl (G.val rfl rfl ((pv_neq rfl rfl).cast (v' := .bool false) (congrArg Value.bool (by exact decide_eq_false (fun h => h (by rw [hyl]))))) ?_)
 refine go [2,2,7,8,60,0,13,8,9,9,10,1,7,8,15] ?_
 refine G.loopK (X := Nat) (ts := [1, 2, 5, 6]) (fun i => i ≤ ys.length) (fun i => [(12, .int .i64 (i : Int))]) (fun i => []) (fun i => ys.length - i) (x0 := 0) (.cons rfl (.cons rfl (.cons rfl (.cons rfl .nil)))) subT (.cons .nil) apT Y30 (.consE rfl veqT .nil) (fun i hJ => ?_)
 try dsimp only at hJ
 try dsimp only
 have hki := hJ
 refine go [9,9,10,0,0,2,5,2,9,7,8] ?_
 refine G.condP rfl (fun h91 => ?_) (fun h91 => ?_)
 ·have hly : i < ys.length := by omega
  have hlt : i < xs.length := by omega
  have hlt' : i < (its xs).length := by omega
  have hEv := helv i hlt
  have hRv := Ro.itRng hEv
  have hDv := Ro.itIds hEv
  have hOv := Ro.itOk hEv
  obtain ⟨hk1v, hk2v, hk3v, hlpv, hltv, hlnv⟩ := hOv
  have hCv := Ro.one1I hDv
  obtain ⟨aI, cI, bI, oI, hx2, hcI, hmI, -, hadI, helI⟩ := Ro.open hDv
  rw [hx2] at hRv hCv
  have hg := its_get hlt
  have hyi : ys[i].1 = mkE (cks zs) xs[i].1 := by have h1 : (ys.map (·.1))[i]? = ((its xs).map (mkE (cks zs)))[i]? := (by rw [show ys.map (·.1) = ens ys from rfl, hys, hbm]); rw [List.getElem?_map, List.getElem?_map, List.getElem?_eq_getElem hly, List.getElem?_eq_getElem hlt'] at h1; rw [← hg]; exact Option.some.inj h1
  obtain ⟨he0, he1, he2, he3, he4⟩ := ev_at hly hyi
  have heri := herr i hlt'
  rw [hg] at heri
  obtain ⟨hfz, hsz⟩ := errIt_zero heri
  refine G.datCOpen (x := ys[i]) (d := datOf (cks zs) xs[i].1.ids) selT (List.getElem_mem hly) (by rw [hyi]; rfl) (fun aD cD hxD hcD hslD => ?_)
  rw [hxD] at he3
  refine go [13,8,9,15,9] ?_
  refine G.drawT (nn := 13) (p := []) (rem := 8191) [0, 1, 0, 6, 8, 0, 0, 96, 128, 256, 0, 1055, 4095] [0, 1, 0, 6, 8, 0, 0, 96, 128, 256, 0, 1040, 512] kr ⟨rfl, by kernel_rfl, by kernel_rfl⟩ subT kr (fun hT14 => ?_)
  refine go [22,0,8190,3,4,22,2,8186,0,22,5,8154,0,22,6,8090,0] ?_
  refine G.takeT hT14 (i := 7) (rem' := 7962) rfl rfl rfl kr (fun _ _ _ h => h) rfl (pv_ixSl (sz := 5) (k := i) Try.underlying29 kr rfl rfl hadx rfl (by omega)) subT ?_
  refine go [22,8,7706,3,3,22,1,7704,4] ?_
  refine G.takeT hT14 (i := 3) (rem' := 7696) rfl rfl rfl kr (fun _ _ _ h => h) rfl (pv_ixSl (sz := 6) (k := i) Try.underlying22 kr rfl rfl adT (by omega) (by omega)) subT ?_
  refine go [22,4,7680,50,3] ?_
  refine G.takeT hT14 (i := 9) (rem' := 7168) rfl rfl rfl kr (fun _ _ _ h => h) rfl (pv_load (v := .slice aD (datOf (cks zs) xs[i].1.ids).length cD) Try.underlying31 rfl rfl (fun w hw => by have h := hnewx selT w hw (i * 5 + 3) (.slice aD (datOf (cks zs) xs[i].1.ids).length cD) he3; simpa using h)) subT ?_
  refine go [24,10,6144] ?_
  refine G.turnOp rfl rfl (G.alloc (z := .agg #[.string ⟨#[]⟩, .int .i64 0, .int .i64 0, .int .i64 0, .string ⟨#[]⟩, .slice none 0 0]) (cs := [.string ⟨#[]⟩, .int .i64 0, .int .i64 0, .int .i64 0, .string ⟨#[]⟩, .slice none 0 0]) rfl kr rfl ?_)
  intro b13
  refine go [26,24,11,4096,29,26,22,12,0,1,27,8,9,9] ?_
  refine G.drawT (nn := 45) (p := []) (rem := 35184372088831) [0, 0, 3, 4, 8, 0, 32, 80, 128, 256, 256, 1792, 2304, 4352, 256, 16640, 41216, 65792, 131328, 262144, 262144, 1835008, 2359296, 4456448, 262144, 17039360, 42205184, 67371008, 134479872, 268435456, 268435456, 1879048192, 2415919104, 4563402752, 268435456, 17448304640, 43218108416, 68987912192, 137707388928, 274877906944, 824633720832, 274877906944, 2473901162496, 5772436045824, 9070970929152] [0, 0, 3, 4, 8, 0, 32, 80, 128, 256, 256, 1792, 2304, 4352, 256, 16640, 41216, 65792, 131072, 262144, 262144, 1835008, 2359296, 4456448, 262144, 17039360, 42205184, 67371008, 134217728, 268435456, 268435456, 1879048192, 2415919104, 4563402752, 268435456, 17448304640, 43218108416, 68987912192, 137438953472, 274877906944, 824633720832, 274877906944, 2473901162496, 5772436045824, 9070970929152] kr ⟨rfl, by kernel_rfl, by kernel_rfl⟩ subT kr (fun hT15 => ?_)
  refine go [22,0,35184372088830,0,22,1,35184372088828,0] ?_
  refine G.takeT hT15 (i := 2) (rem' := 35184372088824) rfl rfl rfl kr (fun _ _ _ h => h) rfl (pv_ixSl (sz := 5) (k := i) Try.underlying29 kr rfl rfl hadx rfl (by omega)) subT ?_
  refine go [22,3,35184372088816,3,0,22,5,35184372088784,3,0] ?_
  refine G.takeT hT15 (i := 4) (rem' := 35184372088768) rfl rfl rfl kr (fun _ _ _ h => h) rfl (pv_load (v := .string (sB xs[i].1.path)) Try.underlying9 rfl rfl (fun w hw => by have h := hnewx selT w hw (i * 5 + 0) (.string (sB xs[i].1.path)) he0; simpa using h)) subT ?_
  refine go [24,6,35184372088704,25,4,26] ?_
  refine G.takeT hT15 (i := 7) (rem' := 35184372088576) rfl rfl rfl kr (fun _ _ _ h => h) rfl ((pv_neqS rfl rfl).cast (v' := .bool false) (congrArg Value.bool (by exact decide_eq_false (fun h => h rfl)))) subT ?_
  refine go [22,8,35184372088320,0,22,9,35184372087808,0,22,10,35184372086784,0] ?_
  refine G.takeT hT15 (i := 11) (rem' := 35184372084736) rfl rfl rfl kr (fun _ _ _ h => h) rfl (pv_ixSl (sz := 5) (k := i) Try.underlying29 kr rfl rfl hadx rfl (by omega)) subT ?_
  refine go [22,12,35184372080640,3,1] ?_
  refine G.takeT hT15 (i := 13) (rem' := 35184372072448) rfl rfl rfl kr (fun _ _ _ h => h) rfl (pv_load (v := .int .i64 xs[i].1.kind) Try.underlying3 rfl rfl (fun w hw => by have h := hnewx selT w hw (i * 5 + 1) (.int .i64 xs[i].1.kind) he1; simpa using h)) subT ?_
  refine go [22,14,35184372056064,3,1,24,15,35184372023296,25,4,26] ?_
  refine G.takeT hT15 (i := 16) (rem' := 35184371957760) rfl rfl rfl kr (fun _ _ _ h => h) rfl ((pv_neq rfl rfl).cast (v' := .bool false) (congrArg Value.bool (by exact decide_eq_false (fun h => h rfl)))) subT ?_
  refine go [22,17,35184371826688,2,22,18,35184371564544,0,22,19,35184371040256,0,22,20,35184369991680,0] ?_
  refine G.takeT hT15 (i := 21) (rem' := 35184367894528) rfl rfl rfl kr (fun _ _ _ h => h) rfl (pv_ixSl (sz := 5) (k := i) Try.underlying29 kr rfl rfl hadx rfl (by omega)) subT ?_
  refine go [22,22,35184363700224,3,2] ?_
  refine G.takeT hT15 (i := 23) (rem' := 35184355311616) rfl rfl rfl kr (fun _ _ _ h => h) rfl (pv_load (v := .int .i64 xs[i].1.mode) Try.underlying3 rfl rfl (fun w hw => by have h := hnewx selT w hw (i * 5 + 2) (.int .i64 xs[i].1.mode) he2; simpa using h)) subT ?_
  refine go [22,24,35184338534400,3,2,24,25,35184304979968,25,4,26] ?_
  refine G.takeT hT15 (i := 26) (rem' := 35184237871104) rfl rfl rfl kr (fun _ _ _ h => h) rfl ((pv_neq rfl rfl).cast (v' := .bool false) (congrArg Value.bool (by exact decide_eq_false (fun h => h rfl)))) subT ?_
  refine go [22,27,35184103653376,2,22,28,35183835217920,0,22,29,35183298347008,0,22,30,35182224605184,0] ?_
  refine G.takeT hT15 (i := 31) (rem' := 35180077121536) rfl rfl rfl kr (fun _ _ _ h => h) rfl (pv_ixSl (sz := 5) (k := i) Try.underlying29 kr rfl rfl hadx rfl (by omega)) subT ?_
  refine go [22,32,35175782154240,3,4] ?_
  refine G.takeT hT15 (i := 33) (rem' := 35167192219648) rfl rfl rfl kr (fun _ _ _ h => h) rfl (pv_load (v := .string (sB xs[i].1.to)) Try.underlying9 rfl rfl (fun w hw => by have h := hnewx selT w hw (i * 5 + 4) (.string (sB xs[i].1.to)) he4; simpa using h)) subT ?_
  refine go [22,34,35150012350464,3,4,24,35,35115652612096,25,4,26] ?_
  refine G.takeT hT15 (i := 36) (rem' := 35046933135360) rfl rfl rfl kr (fun _ _ _ h => h) rfl ((pv_neqS rfl rfl).cast (v' := .bool false) (congrArg Value.bool (by exact decide_eq_false (fun h => h rfl)))) subT ?_
  refine go [22,37,34909494181888,2,22,38,34634616274944,0,22,39,34084860461056,0,22,40,32985348833280,5,22,41,30786325577728,3,3,24,42,26388279066624,25,4,26] ?_
  refine G.takeT hT15 (i := 43) (rem' := 17592186044416) rfl rfl rfl kr (fun _ _ _ h => h) rfl ((pv_neq rfl rfl).cast (v' := .bool false) (congrArg Value.bool (by exact decide_eq_false (fun h => h hsz)))) subT ?_
  refine go [22,44,0,2,27,8,60,0,13,8,9,9,10,1,7,8,15] ?_
  refine G.loopK (X := Nat × (Option Addr) × Nat) (ts := [1, 2, 5, 6, 12, 13]) (fun st => st.1 ≤ xs[i].1.ids.length ∧ ((∀ w, (datC 5 ys).φ w → IsSl rByte (datC 5 ys).S w (.slice st.2.1 (datOf (cks zs) (xs[i].1.ids.drop st.1)).length st.2.2) (datOf (cks zs) (xs[i].1.ids.drop st.1))) ∧ (datOf (cks zs) (xs[i].1.ids.drop st.1)).length ≤ st.2.2)) (fun st => [(15, .int .i64 (st.1 : Int)), (14, .slice st.2.1 (datOf (cks zs) (xs[i].1.ids.drop st.1)).length st.2.2)]) (fun st => []) (fun st => xs[i].1.ids.length - st.1) (x0 := (0, aD, cD)) (.cons rfl (.cons rfl (.cons rfl (.cons rfl (.cons rfl (.cons rfl .nil)))))) subT (.cons (.cons .nil)) apT (by first | exact trivial | ((try dsimp only) <;> exact ⟨Nat.zero_le _, ⟨hslD, hcD⟩⟩)) (.consE rfl veqT (.consE rfl veqT .nil)) (fun st hJ => ?_)
  obtain ⟨q, ar, cr⟩ := st
  try dsimp only at hJ
  try dsimp only
  obtain ⟨hkq, hJ⟩ := hJ
  obtain ⟨hsl, hcr⟩ := hJ
  refine go [9,9,10,0,2,3,5,2,4,2,5,2,9,7,8] ?_
  refine G.condP rfl (fun h153 => ?_) (fun h153 => ?_)
  ·have hlq : q < xs[i].1.ids.length := by omega
   obtain ⟨lq, rq⟩ := Ro.arr8 (helI q hlq)
   have hfq := hfz q hlq
   obtain ⟨hlen, hnm⟩ := lenM_found hfq
   have hdr := datOf_drop (cks zs) hlq
   have hdl := found_len hbd xs[i].1.ids[q]
   obtain ⟨d, hd⟩ : ∃ d, (foundM (cks zs) xs[i].1.ids[q]).1 = d := ⟨_, rfl⟩
   rw [hd] at hlen hnm hdr hdl
   have hdrl := congrArg List.length hdr
   rw [List.length_append] at hdrl
   refine go [13,8,9,15,9,10,0,2,3,5,2,4,0] ?_
   refine G.op rfl (G.val rfl rfl (pv_ixSl (sz := 16) (k := q) Try.underlying34 kr rfl rfl hadI rfl (by omega)) ?_)
   refine G.op rfl (G.val rfl rfl (pv_loadN (cs := xs[i].1.ids[q].map vByte) Try.underlying40 rfl Y10 rfl rq) ?_)
   refine G.op rfl (G.cR rfl rfl rfl rfl Try.func17 rfl rfl (may1 (.old hz0)) (length_tr _ zs xs[i].1.ids[q] lq) ?_)
   rw [hlen]
   refine go [1,7,8,9,9] ?_
   refine G.drawT (nn := 20) (p := []) (rem := 1048575) [0, 1, 2, 4, 4, 20, 44, 68, 132, 256, 256, 1792, 2304, 256, 8448, 256, 49408, 65792, 135424, 262400] [0, 1, 2, 4, 4, 20, 44, 68, 128, 256, 256, 1792, 2304, 256, 8448, 256, 49408, 65792, 135424, 262400] kr ⟨rfl, by kernel_rfl, by kernel_rfl⟩ subT kr (fun hT21 => ?_)
   refine go [22,0,1048574,0] ?_
   refine G.takeT hT21 (i := 1) (rem' := 1048572) rfl rfl rfl kr (fun _ _ _ h => h) rfl ((pv_lss rfl rfl).cast (v' := .bool false) (congrArg Value.bool (by exact decide_eq_false (by omega)))) subT ?_
   refine go [22,2,1048568,0,22,3,1048560,0,22,4,1048544,0,22,5,1048512,5] ?_
   refine G.takeT hT21 (i := 6) (rem' := 1048448) rfl rfl rfl kr (fun _ _ _ h => h) rfl ((pv_gtr rfl rfl).cast (v' := .bool false) (congrArg Value.bool (by exact decide_eq_false (by omega)))) subT ?_
   refine go [22,7,1048320,2,22,8,1048064,0,22,9,1047552,0,22,10,1046528,0] ?_
   refine G.takeT hT21 (i := 11) (rem' := 1044480) rfl rfl rfl kr (fun _ _ _ h => h) rfl (pv_subH (sz := 1) (k := d.length) Try.underlying31 kr rfl rfl rfl (by omega)) subT ?_
   refine go [22,13,1036288,3,5,22,14,1019904,4,22,15,987136,0] ?_
   refine G.takeT hT21 (i := 16) (rem' := 921600) rfl rfl rfl kr (fun _ _ _ h => h) rfl (pv_ixSl (sz := 16) (k := q) Try.underlying34 kr rfl rfl hadI rfl (by omega)) subT ?_
   refine G.takeT hT21 (i := 17) (rem' := 790528) rfl rfl rfl kr (fun _ _ _ h => h) rfl (pv_loadN (cs := xs[i].1.ids[q].map vByte) Try.underlying40 rfl Y10 rfl rq) subT ?_
   refine go [24,12,786432] ?_
   refine G.turnOp rfl rfl (G.cR rfl rfl rfl rfl Try.func18 rfl rfl (may1 (May.view (c := slc rByte (datC 5 ys).S (.slice ar d.length cr) d) (d := datC 5 ys) (Sel.mem selT) (fun w h => by have h := hsl w h; rw [hdr] at h; exact h.pre) (fun b hb => hb))) (name_tr _ d (by omega)) ?_)
   rw [hnm]
   refine go [26] ?_
   refine G.takeT hT21 (i := 18) (rem' := 524288) rfl rfl rfl kr (fun _ _ _ h => h) rfl ((pv_neqAr8 (a := xs[i].1.ids[q]) (b := xs[i].1.ids[q]) Try.underlying40 rfl kr Try.underlying5 kr rfl rfl lq lq).cast (v' := .bool false) (congrArg Value.bool (by simp))) subT ?_
   refine go [22,19,0,2,27,8,60,0,13,8,10,0,0] ?_
   refine G.op rfl (G.val rfl rfl ((pv_subL (sz := 1) (k := d.length) Try.underlying31 kr rfl rfl rfl (by omega)).cast (v' := .slice (if cr = d.length then ar else ar.map (·.add (d.length * 1))) (datOf (cks zs) (xs[i].1.ids.drop (q + 1))).length (cr - d.length)) (by unfold subV; rw [hdrl, Nat.add_sub_cancel_left])) ?_)
   refine go [1,7,16,8,10,0,2,6,1,7] ?_
   exact G.next ((q + 1, (if cr = d.length then ar else ar.map (·.add (d.length * 1)), cr - d.length))) (by first | exact trivial | ((try dsimp only) <;> exact ⟨by omega, ⟨fun w hw => by have h := hsl w hw; rw [hdr] at h; exact h.rest, by rw [hdr, List.length_append] at hcr; omega⟩⟩)) (by (try dsimp only); omega) (.consE rfl veqT (.consE rfl veqT (.cons rfl (.cons rfl (.cons rfl (.cons rfl (.cons rfl (.cons rfl .nil)))))))) subT
  obtain rfl : q = xs[i].1.ids.length := by omega
  refine go [18,14,14,19,8,9,10,0,2,5] ?_
  refine G.op rfl (G.val rfl rfl ((pv_neq rfl rfl).cast (v' := .bool false) (congrArg Value.bool (by exact decide_eq_false (fun h => h (by rw [List.drop_length]; rfl))))) ?_)
  refine go [7,8,60,0,13,16,8,10,0,2,6,1,7] ?_
  exact G.next (i + 1) Y23 (by (try dsimp only); omega) (.consE rfl veqT (.cons rfl (.cons rfl (.cons rfl (.cons rfl .nil))))) subT
 refine go [18,14,14,19,8,9,10,0,1,7,8,11] ?_
 exact G.done0G rfl (Rv.tmp rfl Rv.nil) Y6
end Go.Proofs.Ytbfpbibkklfnfaa
set_option maxRecDepth 100000
set_option linter.unusedVariables false
set_option linter.unusedSimpArgs false
namespace Go.Proofs.Ytbfpbibkklfnfaa
open Go.ChangeShapes Go.WideShapes Go.ChangeAt Go.RowKit Go.Deep
theorem in1 {p : Ck → Prop} {a : Ck} (h : p a) : ∀ x ∈ [a], p x := fun x hx => by obtain rfl : x = a := (by simpa using hx); exact h
theorem inC {p : Ck → Prop} {a : Ck} {l : List Ck} (h : p a) (r : ∀ x ∈ l, p x) : ∀ x ∈ a :: l, p x := fun x hx => by
 rcases List.mem_cons.1 hx with rfl | hx
 ·exact h
 exact r x hx
section
variable {H : Type} {enc : TypeId × Value → H} {W : World}
theorem opn_weak {P : Program} {α β : Type} {t : TypeId} {E : Rdr α} {F : Rdr β} (h : Opn H enc P W t E) (hs : E.sz = F.sz) (hf : ∀ Ps w b o a, E.R Ps w b o a → ∃ a', F.R Ps w b o a') : Opn H enc P W t F := ⟨h.sz.trans hs, fun fuel cs x b o hx hwt hA hb => by
 obtain ⟨a, ha⟩ := h.mem fuel cs x b o hx hwt hA hb
 exact hf _ _ _ _ _ ha⟩
end
end Go.Proofs.Ytbfpbibkklfnfaa
set_option maxRecDepth 100000
set_option linter.unusedVariables false
set_option linter.unusedSimpArgs false
namespace Go.Proofs.Ytbfpbibkklfnfaa
open Go.ChangeShapes Go.WideShapes Go.ChangeAt Go.RowKit Go.Deep
section
variable {H : Type} {enc : TypeId × Value → H} {W : World}
theorem opn_rID : Opn H enc Try.prog W 40 rID := opn_arr Try.underlying40 kr (opn_byte Try.underlying5 kr)
theorem opn_item : Opn H enc Try.prog W 36 rIT := by
 refine opn_weak (opn_struct Try.underlying36 (F := rProd rStrB (rProd rInt (rProd rInt (rProd rInt (rProd rStrB (rProd (rSlB rID) rUnit)))))) kr
  (.cons (opn_str Try.underlying9 kr) rfl (.cons (opn_int Try.underlying3 kr) rfl (.cons (opn_int Try.underlying3 kr) rfl (.cons (opn_int Try.underlying3 kr) rfl (.cons (opn_str Try.underlying9 kr) rfl
   (.cons (opn_rSl Try.underlying34 kr (of_decide_eq_true kr) opn_rID (by decide)) rfl .nil))))))) rfl ?_
 rintro Ps w b o ⟨a0, a1, a2, a3, a4, a5, _⟩ ⟨⟨hb, h0, l0⟩, ⟨_, h1, l1⟩, ⟨_, h2, l2⟩, ⟨_, h3, l3⟩, ⟨_, h4, l4⟩, ⟨⟨_, d, h5, hd⟩, l5⟩, _⟩
 refine ⟨(⟨a0, a1, a2, a3, a4, a5⟩, d), hb, fun j v hj => ?_, hd, l1, l2, l3, l0, l4, l5⟩
 have hlt : j < 6 := by
  have := (List.getElem?_eq_some_iff.1 hj).1
  exact this
 rcases (by omega : j = 0 ∨ j = 1 ∨ j = 2 ∨ j = 3 ∨ j = 4 ∨ j = 5) with rfl | rfl | rfl | rfl | rfl | rfl
 ·obtain rfl : _ = v := Option.some.inj hj
  exact h0
 ·obtain rfl : _ = v := Option.some.inj hj
  exact h1
 ·obtain rfl : _ = v := Option.some.inj hj
  exact h2
 ·obtain rfl : _ = v := Option.some.inj hj
  exact h3
 ·obtain rfl : _ = v := Option.some.inj hj
  exact h4
 obtain rfl : _ = v := Option.some.inj hj
 exact h5
theorem opn_chunk : Opn H enc Try.prog W 42 rCT := by
 refine opn_weak (opn_struct Try.underlying42 (F := rProd rID (rProd (rSlB rByte) rUnit)) kr
  (.cons opn_rID rfl (.cons (opn_rSl Try.underlying31 kr (of_decide_eq_true kr) (opn_byte Try.underlying5 kr) (by decide)) rfl .nil))) rfl ?_
 rintro Ps w b o ⟨a0, a1, _⟩ ⟨⟨e0, h0⟩, ⟨⟨hb, d, h1, hd⟩, l1⟩, _⟩
 refine ⟨((a0, a1), d), hb, fun j v hj => ?_, hd, e0, l1⟩
 have e0 : a0.length = 16 := e0
 have hlt : j < 17 := by
  have := (List.getElem?_eq_some_iff.1 hj).1
  rwa [chC_len] at this
 unfold chC at hj
 simp only [pad16_eq e0] at hj
 by_cases hj16 : j < 16
 ·rw [List.getElem?_append_left (by rw [List.length_map]; omega), List.getElem?_map, List.getElem?_eq_getElem (by omega)] at hj
  obtain rfl : _ = v := Option.some.inj hj
  have h2 := (h0 j (by omega)).2.1
  rwa [show o + j * rByte.sz = o + j from by show o + j * 1 = _; omega] at h2
 obtain rfl : j = 16 := by omega
 rw [List.getElem?_append_right (by rw [List.length_map]; omega), List.length_map, e0] at hj
 obtain rfl : _ = v := Option.some.inj hj
 exact h1
theorem opn_chunks {v : Value} {d : DataW H} {p : List MemPlace} {r : Reach} {base : Nat} (hok : Value.okWide Try.prog W r base 25 v) (h : DataW.Trod enc Try.prog W 0 (fun _ => true) true 25 v d p)
 {ts : List TypeId} {ds : List (DataW H)} {j : Nat} (hsz : (DataW.weightsEach Try.prog ts ds).all (· ≤ reachBytes) = true) (hts : ts[j]? = some 25) (hds : ds[j]? = some d) :
 ∃ xs : List CT, Ro W (fun _ => False) (slc rCT (· < W.heap.size) v xs) ∧ xs.length ≤ 140737488355328 :=
 opn_arg Try.underlying25 (of_decide_eq_true kr) opn_chunk (by decide) hok h hsz hts hds
theorem open_man {v : Value} {d : DataW H} {p : List MemPlace} {r : Reach} {base : Nat} (hok : Value.okWide Try.prog W r base 24 v) (h : DataW.Trod enc Try.prog W 0 (fun _ => true) true 24 v d p)
 {ts : List TypeId} {ds : List (DataW H)} {j : Nat} (hsz : (DataW.weightsEach Try.prog ts ds).all (· ≤ reachBytes) = true) (hts : ts[j]? = some 24) (hds : ds[j]? = some d) :
 ∃ (a : Mh) (u : Value) (xs : List IT), v = .agg #[.int .i64 a.c, .int .i64 a.k, .int .i64 a.n, .int .i64 a.t, u] ∧ (I64 a.c ∧ I64 a.k ∧ I64 a.n ∧ I64 a.t) ∧ Ro W (fun _ => False) (slc rIT (· < W.heap.size) u xs) ∧ xs.length ≤ 140737488355328 := by
 obtain ⟨cs, rfl, hcs⟩ := okWide_struct Try.underlying24 hok
 rw [show Try.prog.cellsOf 24 = 5 by kernel_rfl] at hcs
 obtain ⟨fuel, hf⟩ := h
 obtain ⟨xs, n, rfl, hx, hl, hxl, hxx⟩ := DataW.trod_struct Try.underlying24 hf
 have hw : ∀ k ∈ DataW.weights Try.prog 24 d, k ≤ reachBytes := fun k hk => of_decide_eq_true (List.all_eq_true.1 hsz k (DataW.weights_mem_each hts hds k hk))
 have hd : d = .agg (xs.map (·.1)) := congrArg Prod.fst hx
 subst hd
 simp only [DataW.weights, Try.underlying24] at hw
 obtain ⟨c0, c1, c2, c3, c4, rfl⟩ : ∃ c0 c1 c2 c3 c4, cs = #[c0, c1, c2, c3, c4] := by
  obtain ⟨l⟩ := cs
  match l, hcs with
  | [c0, c1, c2, c3, c4], _ => exact ⟨c0, c1, c2, c3, c4, rfl⟩
 obtain ⟨y0, y1, y2, y3, y4, rfl⟩ : ∃ y0 y1 y2 y3 y4, xs = [y0, y1, y2, y3, y4] := by
  match xs, hxl with
  | [y0, y1, y2, y3, y4], _ => exact ⟨y0, y1, y2, y3, y4, rfl⟩
 have f0 : DataW.trod enc Try.prog W 0 (fun _ => true) true n 3 (([c0, c1, c2, c3, c4].drop 0).take (Try.prog.cellsOf 3)) = some y0 := hxx 0 _ rfl
 have f1 : DataW.trod enc Try.prog W 0 (fun _ => true) true n 3 (([c0, c1, c2, c3, c4].drop 1).take (Try.prog.cellsOf 3)) = some y1 := hxx 1 _ rfl
 have f2 : DataW.trod enc Try.prog W 0 (fun _ => true) true n 3 (([c0, c1, c2, c3, c4].drop 2).take (Try.prog.cellsOf 3)) = some y2 := hxx 2 _ rfl
 have f3 : DataW.trod enc Try.prog W 0 (fun _ => true) true n 3 (([c0, c1, c2, c3, c4].drop 3).take (Try.prog.cellsOf 3)) = some y3 := hxx 3 _ rfl
 have f4 : DataW.trod enc Try.prog W 0 (fun _ => true) true n 22 (([c0, c1, c2, c3, c4].drop 4).take (Try.prog.cellsOf 22)) = some y4 := hxx 4 _ rfl
 rw [show Try.prog.cellsOf 3 = 1 by kernel_rfl] at f0 f1 f2 f3
 rw [show Try.prog.cellsOf 22 = 1 by kernel_rfl] at f4
 obtain ⟨k0, e0, _, w0⟩ := DataW.trod_int Try.underlying3 f0
 obtain ⟨k1, e1, _, w1⟩ := DataW.trod_int Try.underlying3 f1
 obtain ⟨k2, e2, _, w2⟩ := DataW.trod_int Try.underlying3 f2
 obtain ⟨k3, e3, _, w3⟩ := DataW.trod_int Try.underlying3 f3
 obtain ⟨u4, ms, e4, h4, l4⟩ := opn_slice (E := rIT) Try.underlying22 (of_decide_eq_true kr) opn_item (by decide) n _ _ f4 (fun q hq => hw q (DataW.weights_mem_each (j := 4) rfl rfl q hq))
 have g0 : c0 = .int .i64 k0 := by simpa [Value.cells] using e0
 have g1 : c1 = .int .i64 k1 := by simpa [Value.cells] using e1
 have g2 : c2 = .int .i64 k2 := by simpa [Value.cells] using e2
 have g3 : c3 = .int .i64 k3 := by simpa [Value.cells] using e3
 have g4 : c4 = u4 := by simpa [Value.cells] using e4
 subst g0 g1 g2 g3 g4
 exact ⟨⟨k0, k1, k2, k3⟩, _, ms, rfl, ⟨wf_I64 w0, wf_I64 w1, wf_I64 w2, wf_I64 w3⟩, ro_new h4 fun b hb => hb, l4⟩
end
end Go.Proofs.Ytbfpbibkklfnfaa
