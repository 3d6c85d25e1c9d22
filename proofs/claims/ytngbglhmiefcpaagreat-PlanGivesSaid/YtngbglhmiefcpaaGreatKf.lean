/- Merged of Z2, NoteOpn, TreeOpn. Conditions: none. -/
import Derived.Test.YtngbglhmiefcpaaGreatKe
import Derived.ChangeMaps5
namespace Go.Proofs.YtngbglhmiefcpaaGreat
open Go.RowKit
set_option linter.unusedVariables false
set_option linter.unusedSimpArgs false
theorem ck_rng {w : World} {b i : Nat} {ck : List CT} (h : News w b 0 (ck.flatMap chC)) (hi : i < ck.length) (h16 : ck[i].1.1.length = 16) : w.rangeAt b (0 + i * 17) (ck[i].1.1.map vByte) := fun j v hj => by
 have h1 := news_row chC_len h hi
 have hj16 : j < 16 := by
  have := (List.getElem?_eq_some_iff.1 hj).1
  rwa [List.length_map, h16] at this
 refine h1 j v ?_
 have h2 := chC_id h16
 rw [List.drop_zero] at h2
 rw [← List.getElem?_take_of_lt hj16, h2]
 exact hj
structure GvOk (b : List UInt8) (l : List (List UInt8 × List UInt8)) (h0 : List (List UInt8)) (F : Nat → Prop) (W : World) (Fa : Nat → Prop) (Wa : World) (z : PZ) (s : SK) (ws : List NV) : Prop where
 ok : PvOk F W z
 pm : PmOk z.pm
 pn : PnOk z.pm
 inv : Inv b l h0 z.pm s
 wq : nvs ws = z.pm.wait
 nv : ∀ y ∈ ws, NvOk Fa Wa y
 had : all16 s.had
 giv : all16 s.given
 l1 : s.had.length ≤ 10000000
 l2 : s.came.length ≤ 100000000
 l3 : s.given.length ≤ 10000000
theorem GvOk.wlen {b : List UInt8} {l : List (List UInt8 × List UInt8)} {h0 : List (List UInt8)} {F Fa : Nat → Prop} {W Wa : World} {z : PZ} {s : SK} {ws : List NV} (h : GvOk b l h0 F W Fa Wa z s ws) : ws.length = z.wait.length := by
 have := congrArg List.length h.wq
 rw [pm_wait] at this
 simpa [nvs] using this
theorem sk_bound {b : List UInt8} {l : List (List UInt8 × List UInt8)} {h0 : List (List UInt8)} {p : PM} {s : SK} (h : Inv b l h0 p s) (h0l : h0.length ≤ 1000000) (hl : l.length ≤ 1000000) (hb : b.length ≤ 1000000) (h16 : all16 h0) (hc : ∀ c ∈ l, c.1.length = 16) : all16 s.had ∧ all16 s.given ∧ s.had.length ≤ 10000000 ∧ s.came.length ≤ 100000000 ∧ s.given.length ≤ 10000000 := by
 have hf : (l.filter (noP h0)).length ≤ l.length := List.length_filter_le ..
 have hcf : ∀ c ∈ l.filter (noP h0), c.1.length = 16 := fun c hm => hc c (List.mem_filter.1 hm).1
 have hm : ∀ j, all16 (((l.filter (noP h0)).take j).map (·.1)) := fun j x hx => by
  obtain ⟨c, hm, rfl⟩ := List.mem_map.1 hx
  exact hcf c (List.mem_of_mem_take hm)
 have hma : all16 ((l.filter (noP h0)).map (·.1)) := fun x hx => by
  obtain ⟨c, hm, rfl⟩ := List.mem_map.1 hx
  exact hcf c hm
 have happ : ∀ {u : List (List UInt8)}, all16 u → all16 (h0 ++ u) := fun hu x hx => by
  rcases List.mem_append.1 hx with h | h
  ·exact h16 x h
  exact hu x h
 have hn : all16 ([] : List (List UInt8)) := fun x hx => by cases hx
 cases h with
 | c1 => exact ⟨h16, hn, Nat.le_trans h0l (by omega), Nat.zero_le _, Nat.zero_le _⟩
 | c2 ho hph hb' hl' hr j hj hw => exact ⟨h16, hn, Nat.le_trans h0l (by omega), by show (b.take _).length ≤ _; rw [List.length_take]; omega, Nat.zero_le _⟩
 | c3 => exact ⟨h16, hn, Nat.le_trans h0l (by omega), Nat.le_trans hb (by omega), Nat.zero_le _⟩
 | c4 ho hph hb' hl' j hj hw => exact ⟨happ (hm j), hm j, by show (h0 ++ _).length ≤ _; rw [List.length_append, List.length_map, List.length_take]; omega, Nat.le_trans hb (by omega), by show (List.map _ _).length ≤ _; rw [List.length_map, List.length_take]; omega⟩
 | c5 => exact ⟨happ hma, hma, by show (h0 ++ _).length ≤ _; rw [List.length_append, List.length_map]; omega, Nat.le_trans hb (by omega), by show (List.map _ _).length ≤ _; rw [List.length_map]; omega⟩
 | c6 => exact ⟨happ hma, hma, by show (h0 ++ _).length ≤ _; rw [List.length_append, List.length_map]; omega, Nat.le_trans hb (by omega), by show (List.map _ _).length ≤ _; rw [List.length_map]; omega⟩
theorem gv_new {b : List UInt8} {l : List (List UInt8 × List UInt8)} {h0 : List (List UInt8)} {F : Nat → Prop} {W Wa : World} {z : PZ} {n : Nat} (hz : PvOk F W z) (hm : PmOk z.pm) (hn : PnOk z.pm) (hI : Inv b l h0 z.pm ⟨h0, [], [], 0⟩) (hw : z.pm.wait = []) (h0l : h0.length ≤ 1000000) (hl : n ≤ 1000000) (hb : b.length ≤ 1000000) (h16 : all16 h0) (hc : ∀ c ∈ l, c.1.length = 16) (hln : l.length = n) : GvOk b l h0 F W (fun _ => False) Wa z ⟨h0, [], [], 0⟩ [] := by
 obtain ⟨h1, h2, h3, h4, h5⟩ := sk_bound hI h0l (by omega) hb h16 hc
 exact ⟨hz, hm, hn, hI, hw.symm, (fun y hy => by cases hy), h1, h2, h3, h4, h5⟩
theorem pick9 (n : Int) : 0 ≤ pickM n 9 ∧ pickM n 9 < 9 := by
 unfold pickM
 rw [if_neg (by omega)]
 exact ⟨Int.emod_nonneg _ (by omega), Int.emod_lt_of_pos _ (by omega)⟩
theorem send_wq (p : PM) : (sendP p).2.wait = p.wait ++ if (sendP p).1.isSome = true then [sentN p] else [] := by
 unfold sentN sendP
 by_cases hn : p.left = [] ∨ 8 ≤ p.wait.length
 ·rw [if_pos hn]
  exact (List.append_nil _).symm
 rw [if_neg hn]
 cases e : p.left with
 | nil => exact absurd (.inl e) hn
 | cons x t => rfl
theorem nvs_one (ws : List NV) (x : NV) : nvs (ws ++ [x]) = nvs ws ++ [x.n] := nvs_app ws x
set_option maxRecDepth 20000 in
set_option maxHeartbeats 4000000 in
theorem gives27_tr {Pv Pb Pn : Nat → Prop} (c k t : Int) (v ub ua : Value) (xs : List ET) (fl : List Bool) (ah : List Int) (hk : I64 k) (ht : I64 t) : Tr Tryz.prog 4 #[.int .i64 c, .int .i64 k, .int .i64 t, v, ub, ua] [slc rEV Pv v xs, slc rBool Pb ub fl, slc rInt Pn ua ah] [] (T0 (.bool true)) := by
 refine Tr.of (l := [(0, .int .i64 c), (1, .int .i64 k), (2, .int .i64 t), (3, v), (4, ub), (5, ua)]) Tryz.func4 rfl (n := 224) rfl (.cons rfl (.cons rfl (.cons rfl (.cons rfl (.cons rfl (.cons rfl .nil)))))) (fun w0 hro => ?_)
 obtain ⟨hv, hb, ha⟩ := ro3 hro
 have hel' := ens_length xs
 have hb0 := hb
 obtain ⟨abz, cbz, bbz, fbz, rfl, hcapb, hmaxb, hnilb, hadb, helb⟩ := Ro.open hb0
 have ha0 := ha
 obtain ⟨aaz, caz, baz, faz, rfl, hcapa, hmaxa, hnila, hada, hela⟩ := Ro.open ha0
 have hv0 := hv
 obtain ⟨av, cv, bv, fv, rfl, _, _, _, _, hel⟩ := Ro.openT hv0
 have hEn : ∀ e ∈ ens xs, EnOk e := fun e he => by obtain ⟨x, hx, rfl⟩ := List.mem_map.1 he; obtain ⟨q, hq, rfl⟩ := List.getElem_of_mem hx; exact Ro.evOk (hel q hq)
 refine go [9,10,1,7,8,9,10] ?_
 refine G.op rfl (G.cR rfl rfl rfl rfl Tryz.func3 rfl rfl may0 (known27_tr) ?_)
 refine go [1,7,8,9,10,0,0,0,0] ?_
 refine G.op rfl (G.cS rfl rfl rfl rfl Tryz.func16 rfl rfl subT (may1 (.old hv)) (mmakeA_tr c k t _ xs) apT ?_)
 intro x39 hJ
 obtain ⟨⟨vz, ys⟩, vk, ck⟩ := x39
 try dsimp only at hJ
 try dsimp only
 obtain ⟨hys, hck⟩ := hJ
 refine G.ownFact (v := vz) selT (fun hvz _ => ?_)
 refine G.ownNews (v := vk) selT (fun ka kc kb hkv hkk hkm hkd hkn hknews => ?_)
 subst hkv
 have hok : ∀ x ∈ ys, ItOk x.1 ∧ all16 x.1.ids := fun x hx => mkM_okX hEn x.1 (by have h1 : x.1 ∈ its ys := List.mem_map.2 ⟨x, hx, rfl⟩; rwa [hys] at h1)
 have hckl : ck.length = (mkM (⟨c, k, 0, t⟩ : Mh) (ens xs)).2.1.length := by rw [← hck]; simp [cks]
 have hcl2 : (cks ck).length = ck.length := by simp [cks]
 refine go [0] ?_
 refine G.op rfl (G.val rfl rfl (pv_extract (v := .agg #[.int .i64 (mkM (⟨c, k, 0, t⟩ : Mh) (ens xs)).1.1.c, .int .i64 (mkM (⟨c, k, 0, t⟩ : Mh) (ens xs)).1.1.k, .int .i64 (mkM (⟨c, k, 0, t⟩ : Mh) (ens xs)).1.1.n, .int .i64 (mkM (⟨c, k, 0, t⟩ : Mh) (ens xs)).1.1.t, vz]) rfl rfl) ?_)
 refine G.op rfl (G.val rfl rfl (pv_extract (v := .slice ka ck.length kc) rfl rfl) ?_)
 refine G.op rfl (G.val rfl rfl (pv_extract (v := .int .i64 (mkM (⟨c, k, 0, t⟩ : Mh) (ens xs)).2.2) rfl rfl) ?_)
 refine go [60,6] ?_
 intro b14
 refine go [20,1,1,7,8,9,10,2,50,4] ?_
 refine G.op rfl (G.cS rfl rfl rfl rfl Tryz.func17 rfl rfl subT (may1 (may_items selT selT hok)) (mbytes_tr (mkM (⟨c, k, 0, t⟩ : Mh) (ens xs)).1.1 _ ys) apT ?_)
 intro x45 hJ
 try dsimp only at hJ
 try dsimp only
 obtain ⟨bb, hbb⟩ : ∃ n, bytesO (mkM (⟨c, k, 0, t⟩ : Mh) (ens xs)).1.1 (its ys) = n := ⟨_, rfl⟩
 rw [hbb]
 refine G.ownBSl (v := x45) selT (fun ab cb hxb => ?_)
 subst hxb
 refine go [0] ?_
 refine G.op rfl (G.val rfl rfl (pv_extract (v := .slice ab bb.length cb) rfl rfl) ?_)
 refine G.op rfl (G.val rfl rfl (pv_extract (v := .int .i64 (bytesE (mkM (⟨c, k, 0, t⟩ : Mh) (ens xs)).1.1 (its ys))) rfl rfl) ?_)
 refine go [1,1,7,8,9,9,10,0] ?_
 refine G.op rfl (G.cR rfl rfl rfl rfl Tryz.func18 rfl rfl (may1 (.old hv)) (big_tr _ xs 30 12000 (by omega)) ?_)
 refine go [0] ?_
 refine G.partP (t := 50) rfl (fun h50 => ?_) (fun h50 => ?_)
 ·refine go [4,4,2,2,0,4,4,2,2,0,4,4,4,2,2,7,8,60,1,9,10,0,1,7,8,11,12] ?_
  exact G.done0G rfl (Rv.tmp rfl Rv.nil) Y7
 refine go [3,0,3,14,2,2,0] ?_
 refine G.partP (t := 54) rfl (fun h54 => ?_) (fun h54 => ?_)
 ·refine go [4,4,2,2,0,4,4,4,2,2,7,8,60,1,9,10,0,1,7,8,11,12] ?_
  exact G.done0G rfl (Rv.tmp rfl Rv.nil) Y7
 refine go [3,0,3,14,2,2,0] ?_
 refine G.partP (t := 58) rfl (fun h58 => ?_) (fun h58 => ?_)
 ·refine go [4,4,4,2,2,7,8,60,1,9,10,0,1,7,8,11,12] ?_
  exact G.done0G rfl (Rv.tmp rfl Rv.nil) Y7
 refine go [3,0,3,5,3,10,2,2,7,8] ?_
 refine G.condP rfl (fun h62 => ?_) (fun h62 => ?_)
 ·refine go [9,10,0,1,7,8,11,12] ?_
  exact G.done0G rfl (Rv.tmp rfl Rv.nil) Y7
 have hnb : ¬ bigM (ens xs) 30 12000 := by assumption
 have he0 : (mkM (⟨c, k, 0, t⟩ : Mh) (ens xs)).2.2 = 0 := by omega
 have hx30 : xs.length ≤ 30 := by unfold bigM at hnb; omega
 have hds : ∀ x ∈ xs, x.1.data.length ≤ 12000 := fun x hx => by have := data_smallZ hnb x hx; omega
 have hde : ∀ e ∈ ens xs, e.data.length ≤ 12000 := fun e he => by obtain ⟨x, hx, rfl⟩ := List.mem_map.1 he; exact hds x hx
 have hah : ah.length ≤ 200 := by omega
 have hpn0 := (new_pn hk ht hde (by omega) he0).2
 have hpm0 := new_ok hk ht hde (by omega) he0
 have hH := hyp_new he0 hde
 have hI := newP_inv he0 (selF true fl (cks ck) ck.length)
 have hsiz := new_size (a := (⟨c, k, 0, t⟩ : Mh)) rfl hde he0
 rw [← hys, hbb, ← hck] at hH hI hsiz
 have hsz1 : bb.length ≤ 1000000 := Nat.le_trans hsiz.1 (by omega)
 have hsz2 : ck.length ≤ 1000000 := by have := hsiz.2; rw [hcl2, hel'] at this; omega
 have h16c : ∀ d ∈ cks ck, d.1.length = 16 := fun d hd => by rw [hH.nm d hd]; exact nameM_len _
 refine go [13,8,9,10,0,0,0,0] ?_
 refine G.op rfl (G.cS rfl rfl rfl rfl Tryz.func19 rfl rfl subT (may1 (.old hv)) (pnew_ok c k t _ xs hds (by omega) hk ht he0) apT ?_)
 intro x69 hJ
 obtain ⟨z0, D, F0, W0⟩ := x69
 try dsimp only at hJ
 try dsimp only
 obtain ⟨hz0, hp0⟩ := hJ
 rw [← hp0] at hpn0 hpm0 hI
 refine go [0] ?_
 refine G.op rfl (G.val rfl rfl (pv_extract (v := .pointer (some ⟨D, 0, none⟩)) rfl rfl) ?_)
 refine go [2,50,9,1,1,7,8,9,9,10,0,2,14,0,3,0,3,50,3,2,2,7,8,60,0,13,8,9,10] ?_
 refine G.op rfl (G.val rfl rfl (pv_buildSt (z := [.slice none 0 0, .slice none 0 0, .slice none 0 0, .int .i64 0]) (pl := [(0, 1), (1, 1), (2, 1), (3, 1)]) Tryz.underlying50 kr kr rfl flT) ?_)
 refine go [60,2] ?_
 intro b79
 refine go [1,7,8,9,10,1,7,8,9,9,10,1,7,8,15,60,5,60,5] ?_
 refine G.loopK (X := Nat × Value × Value) (ts := [4, 5, 12, 13, 15, 17, 19, 21]) (fun st => st.1 ≤ ck.length) (fun st => [(23, .int .i64 (st.1 : Int)), (22, st.2.2)]) (fun st => [blk b79 50 [st.2.1, .slice none 0 0, .slice none 0 0, .int .i64 ((0 : Nat) : Int)], own 52 16 st.2.1 (selF true fl (cks ck) st.1).length (flatI (selF true fl (cks ck) st.1)), own 52 16 st.2.2 (selF false fl (cks ck) st.1).length (flatI (selF false fl (cks ck) st.1))]) (fun st => ck.length - st.1) (x0 := (0, .slice none 0 0, .slice none 0 0)) (.cons rfl (.cons rfl (.cons rfl (.cons rfl (.cons rfl (.cons rfl (.cons rfl (.cons rfl .nil)))))))) subT (.cons (.cons .nil)) apT Y30 (.consE rfl veqT (.consE rfl veqT .nil)) (fun st hJ => ?_)
 obtain ⟨i, hvL, lv⟩ := st
 try dsimp only at hJ
 try dsimp only
 have hki := hJ
 have hs1 := selF_len true fl (cks ck) i
 have hs2 := selF_len false fl (cks ck) i
 refine go [9,9,10,0,0,2,5,2,9,7,8] ?_
 refine G.condP rfl (fun h83 => ?_) (fun h83 => ?_)
 ·have hlt : i < ck.length := by omega
  have hltc : i < (cks ck).length := by omega
  have hcki : (cks ck)[i].1 = ck[i].1.1 := by simp [cks]
  have lq : ck[i].1.1.length = 16 := by rw [← hcki]; exact h16c _ (List.getElem_mem hltc)
  refine go [13,8,9,15,9] ?_
  refine G.cutK (X := Unit) (ts := [4, 5, 12, 13, 15, 17, 19, 21, 22, 23]) (p := []) (fun _ => True) (fun _ => [(95, .bool (decide (fl[i]? = some true)))]) (fun _ => []) (.cons rfl (.cons rfl (.cons rfl (.cons rfl (.cons rfl (.cons rfl (.cons rfl (.cons rfl (.cons rfl (.cons rfl .nil)))))))))) subT (.cons .nil) apT ?_ ?_
  ·refine go [10,0,0,2,5,2,9,0] ?_
   refine G.partP (t := 90) rfl (fun h90 => ?_) (fun h90 => ?_)
   ·have hlf : i < fl.length := by omega
    have hEf := helb i hlf
    refine go [3,0,3,0] ?_
    refine G.want rfl rfl rfl (G.val rfl rfl (pv_ixSl (sz := 1) (k := i) Tryz.underlying36 kr rfl rfl hadb rfl (by omega)) ?_)
    refine G.want rfl rfl rfl (G.val rfl rfl (pv_load (v := .bool fl[i]) Tryz.underlying4 rfl rfl (ro_cell (f := vBool) hEf)) ?_)
    refine go [2,2,7] ?_
    exact G.meet (()) trT (.consE rfl (congrArg Value.bool (by rw [List.getElem?_eq_getElem hlf]; cases fl[i] <;> rfl)) (.cons rfl (.cons rfl (.cons rfl (.cons rfl (.cons rfl (.cons rfl (.cons rfl (.cons rfl (.cons rfl (.cons rfl .nil))))))))))) subT
   refine go [4,4,4,4,2,2,7] ?_
   exact G.meet (()) trT (.consE rfl (congrArg Value.bool (by rw [List.getElem?_eq_none (by omega)]; rfl)) (.cons rfl (.cons rfl (.cons rfl (.cons rfl (.cons rfl (.cons rfl (.cons rfl (.cons rfl (.cons rfl (.cons rfl .nil))))))))))) subT
  intro _ hJ
  try dsimp only at hJ
  try dsimp only
  refine G.condP rfl (fun h95 => ?_) (fun h95 => ?_)
  ·have hsy := selF_yes (w := true) (fl := fl) hltc (decide_eq_true (by assumption))
   rw [hcki] at hsy
   have hsn := selF_no (w := false) (fl := fl) (L := cks ck) (i := i) (by rw [decide_eq_true (by assumption)]; simp)
   refine G.drawE (nn := 15) (p := [own 52 16 hvL _ _]) (rem := 4095) [0, 0, 2, 4, 8, 0, 0, 96, 128, 256, 512, 1040, 4095, 8191, 12287] [0, 0, 2, 4, 8, 0, 0, 96, 128, 256, 512, 1040, 1, 4096, 10240] [14, 13, 12] [16383, 8191, 4095] 12 kr ⟨rfl, by kernel_rfl, by kernel_rfl⟩ kr kr kr subT (fun hT15 => ?_)
   refine go [22,0,4094,0,22,1,4092,0,22,2,4088,8,22,3,4080,3,0,22,5,4048,0,22,6,3984,0] ?_
   refine G.takeT hT15 (i := 7) (rem' := 3856) rfl rfl rfl kr (fun _ _ _ h => h) rfl (pv_ixSl (sz := 17) (k := i) Tryz.underlying40 kr rfl rfl hkd rfl (by omega)) subT ?_
   refine go [22,8,3600,3,0,22,4,3584,50,0,24,9,3072] ?_
   refine G.turnOp rfl rfl (G.val rfl rfl (pv_loadN (cs := ck[i].1.1.map vByte) Tryz.underlying52 rfl Y12 rfl (fun w hw => ck_rng (hknews selD w hw) hlt lq)) ?_)
   refine go [26,24,10,2048] ?_
   refine G.turnOp rfl rfl (G.buildSlice (sz := 16) (cs := ck[i].1.1.map vByte) rfl Tryz.underlying30 Tryz.infoIDfill (by decide) (by decide) rfl (fillID _ (by rw [List.length_map, lq])) ?_)
   intro b106
   refine go [26,24,11,0] ?_
   refine G.turnOp rfl rfl (G.append (k := (selF true fl (cks ck) i).length) (j := 1) (cs := flatI (selF true fl (cks ck) i)) (news := ck[i].1.1.map vByte) (b := b106) (off := 0) rfl Tryz.underlying30 Tryz.infoID' rfl rfl rfl selT (fun _ => rfl) (fun h => by cases h) (by rw [List.length_map, lq]) (blk_news (k := 16) selT (List.take_of_length_le Y11)) (vByte_one _) (by omega) (by omega) ?_)
   intro vh
   rw [own_oneI, ← hsy, ← hsn]
   refine G.ownFact (v := vh) selT (fun hvh1 _ => ?_)
   refine go [26,27] ?_
   refine G.tailS [14, 13] 12 rfl ?_
   refine go [25,8] ?_
   refine G.tailS [14] 13 rfl ?_
   refine go [25,3,0] ?_
   refine G.tailS [] 14 rfl ?_
   refine go [30] ?_
   refine G.tailD ?_
   refine go [16,8,10,0,2,6,1,7] ?_
   exact G.next ((i + 1, vh, lv)) Y22 (by (try dsimp only); omega) (.consE rfl veqT (.consE rfl veqT (.cons rfl (.cons rfl (.cons rfl (.cons rfl (.cons rfl (.cons rfl (.cons rfl (.cons rfl .nil)))))))))) subT
  have hsy := selF_yes (w := false) (fl := fl) hltc (decide_eq_false (by assumption))
  rw [hcki] at hsy
  have hsn := selF_no (w := true) (fl := fl) (L := cks ck) (i := i) (by rw [decide_eq_false (by assumption)]; simp)
  refine go [10,0,0,0] ?_
  refine G.op rfl (G.val rfl rfl (pv_ixSl (sz := 17) (k := i) Tryz.underlying40 kr rfl rfl hkd rfl (by omega)) ?_)
  refine go [2,3,0] ?_
  refine G.op rfl (G.val rfl rfl (pv_loadN (cs := ck[i].1.1.map vByte) Tryz.underlying52 rfl Y12 rfl (fun w hw => ck_rng (hknews selD w hw) hlt lq)) ?_)
  refine G.op rfl (G.buildSlice (sz := 16) (cs := ck[i].1.1.map vByte) rfl Tryz.underlying30 Tryz.infoIDfill (by decide) (by decide) rfl (fillID _ (by rw [List.length_map, lq])) ?_)
  intro b116
  refine G.op rfl (G.append (k := (selF false fl (cks ck) i).length) (j := 1) (cs := flatI (selF false fl (cks ck) i)) (news := ck[i].1.1.map vByte) (b := b116) (off := 0) rfl Tryz.underlying30 Tryz.infoID' rfl rfl rfl selT (fun _ => rfl) (fun h => by cases h) (by rw [List.length_map, lq]) (blk_news (k := 16) selT (List.take_of_length_le Y11)) (vByte_one _) (by omega) (by omega) ?_)
  intro vl
  rw [own_oneI, ← hsy, ← hsn]
  refine G.ownFact (v := vl) selT (fun hvl1 _ => ?_)
  refine go [1,7,16,8,10,0,2,6,1,7] ?_
  exact G.next ((i + 1, hvL, vl)) Y22 (by (try dsimp only); omega) (.consE rfl veqT (.consE rfl veqT (.cons rfl (.cons rfl (.cons rfl (.cons rfl (.cons rfl (.cons rfl (.cons rfl (.cons rfl .nil)))))))))) subT
 obtain rfl : i = ck.length := by omega
 refine G.ownOpen (v := lv) selT (fun la lc hlv9 _ _ => ?_)
 subst hlv9
 refine go [18,14,14,19,8,9] ?_
 refine G.cutK (X := Nat) (ts := [5, 12, 13, 17, 19, 21, 22]) (p := []) (fun WN => WN = (bb.length + 999) / 1000 + (ck.length + 15) / 16 + (selF false fl (cks ck) ck.length).length + 2) (fun WN => [(24, .int .i64 (WN : Int))]) (fun WN => []) (.cons rfl (.cons rfl (.cons rfl (.cons rfl (.cons rfl (.cons rfl (.cons rfl .nil))))))) subT (.cons .nil) apT ?_ ?_
 ·refine go [10,0,2,5,2,6,2,19] ?_
  refine G.op rfl (G.val rfl rfl (pv_quo64 rfl rfl (by omega) (by omega)) ?_)
  refine go [0,2,5,2,6,2,19] ?_
  refine G.op rfl (G.val rfl rfl (pv_quo64 rfl rfl (by omega) (by omega)) ?_)
  refine go [2,6,0,2,5,2,6,2,6,1,7] ?_
  exact G.meet ((bb.length + 999) / 1000 + (ck.length + 15) / 16 + (selF false fl (cks ck) ck.length).length + 2) Y35 (.consE rfl veqT (.cons rfl (.cons rfl (.cons rfl (.cons rfl (.cons rfl (.cons rfl (.cons rfl .nil)))))))) subT
 intro WN hJ
 try dsimp only at hJ
 try dsimp only
 have hWN := hJ
 have hNG := selF_filter (fl := fl) hH.nd (cks ck).length (Nat.le_refl _)
 rw [List.take_of_length_le (Nat.le_refl _), hcl2] at hNG
 obtain ⟨h0, hh0⟩ : ∃ h, (selF true fl (cks ck) ck.length) = h := ⟨_, rfl⟩
 have hh16 : all16 h0 := by rw [← hh0]; exact selF_16 h16c
 have hh0l : h0.length ≤ 1000000 := by rw [← hh0]; exact Nat.le_trans (selF_len _ _ _ _) hsz2
 obtain ⟨lk, hlk⟩ : ∃ h, (selF false fl (cks ck) ck.length) = h := ⟨_, rfl⟩
 rw [hh0] at hNG hI
 rw [hlk] at hNG hWN
 rw [hh0, hlk]
 have hlkl : lk.length = ((cks ck).filter (noP h0)).length := by rw [hNG, List.length_map]
 refine go [9,10,1,7,8,9,9,10,1,7,8,15] ?_
 refine G.frz0 (fun W9 => ?_)
 refine G.queNil 33 4 ?_
 refine G.ownNil 5 1 ?_
 refine go [60,5] ?_
 refine G.loopK (X := Nat × PZ × (Nat → Prop) × World × Value × Value × Value × SK × Value × (List NV) × (Nat → Prop) × World) (ts := [5, 13, 17, 19, 21, 22, 24]) (fun st => GvOk bb (cks ck) h0 st.2.2.1 st.2.2.2.1 st.2.2.2.2.2.2.2.2.2.2.1 st.2.2.2.2.2.2.2.2.2.2.2 st.2.1 st.2.2.2.2.2.2.2.1 st.2.2.2.2.2.2.2.2.2.1 ∧ st.2.2.2.2.2.2.2.1.notes = st.1) (fun st => [(26, .int .i64 (st.1 : Int)), (25, st.2.2.2.2.2.2.2.2.1)]) (fun st => [blk D 85 [.bool st.2.1.made, st.2.1.bv, st.2.1.lv, .int .i64 st.2.1.cm, .int .i64 st.2.1.tk, .int .i64 (st.2.1.ph : Nat), st.2.1.leftv, st.2.1.waitv, .int .i64 (st.2.1.asked : Nat), st.2.1.lacksv, .int .i64 (st.2.1.rounds : Nat), .bool st.2.1.over, .int .i64 st.2.1.num, .int .i64 st.2.1.e], frz st.2.2.1 st.2.2.2.1, que 92 5 st.2.1.waitv st.2.1.wait.length (st.2.1.wait.flatMap awC), own 54 17 st.2.1.lacksv st.2.1.lacks.length (st.2.1.lacks.flatMap chC), blk b79 50 [st.2.2.2.2.1, st.2.2.2.2.2.1, st.2.2.2.2.2.2.1, .int .i64 (st.2.2.2.2.2.2.2.1.notes : Int)], own 52 16 st.2.2.2.2.1 st.2.2.2.2.2.2.2.1.had.length (flatI st.2.2.2.2.2.2.2.1.had), own 5 1 st.2.2.2.2.2.1 st.2.2.2.2.2.2.2.1.came.length (st.2.2.2.2.2.2.2.1.came.map vByte), own 52 16 st.2.2.2.2.2.2.1 st.2.2.2.2.2.2.2.1.given.length (flatI st.2.2.2.2.2.2.2.1.given), que 33 4 st.2.2.2.2.2.2.2.2.1 st.2.2.2.2.2.2.2.2.2.1.length (st.2.2.2.2.2.2.2.2.2.1.flatMap nvC), frz st.2.2.2.2.2.2.2.2.2.2.1 st.2.2.2.2.2.2.2.2.2.2.2]) (fun st => 2 * WN + 1 - st.1) (x0 := (0, z0, F0, W0, hvL, .slice none 0 0, .slice none 0 0, ⟨h0, [], [], 0⟩, .slice none 0 0, [], fun _ => False, W9)) (.cons rfl (.cons rfl (.cons rfl (.cons rfl (.cons rfl (.cons rfl (.cons rfl .nil))))))) subT (.cons (.cons .nil)) apT (by first | exact trivial | ((try dsimp only) <;> exact ⟨gv_new hz0 hpm0 hpn0 hI (by rw [hp0]; unfold newP; exact ent_wait _ _) hh0l hsz2 hsz1 hh16 h16c hcl2, rfl⟩)) (.consE rfl veqT (.consE rfl veqT .nil)) (fun st hJ => ?_)
 obtain ⟨i, z, F1, W1, hv, cv, gv, s, vw, ws, Fa, Wa⟩ := st
 try dsimp only at hJ
 try dsimp only
 obtain ⟨hG, hni⟩ := hJ
 have hin := inv_notes hG.inv
 rw [hcl2, ← hlkl] at hin
 refine go [9,9,10,0,0] ?_
 refine G.op rfl (G.val rfl rfl (pv_mul64 rfl rfl (by omega)) ?_)
 refine go [2,11,7,8] ?_
 refine G.condP rfl (fun h136 => ?_) (fun h136 => ?_)
 ·refine go [13,8,9,15,9,10,1,7,8,9] ?_
  refine G.cutK (X := Nat) (ts := [5, 13, 17, 19, 21, 22, 24, 25, 26]) (p := []) (fun nn => 1 ≤ nn ∧ nn ≤ 9) (fun nn => [(27, .int .i64 (nn : Int))]) (fun nn => []) (.cons rfl (.cons rfl (.cons rfl (.cons rfl (.cons rfl (.cons rfl (.cons rfl (.cons rfl (.cons rfl .nil))))))))) subT (.cons .nil) apT ?_ ?_
  ·refine go [9,10,0,0,2,5,2,9,7,8] ?_
   refine G.condP rfl (fun h142 => ?_) (fun h142 => ?_)
   ·have hlia : i < ah.length := by omega
    have hEa := hela i hlia
    refine go [10,0,0] ?_
    refine G.op rfl (G.val rfl rfl (pv_ixSl (sz := 1) (k := i) Tryz.underlying29 kr rfl rfl hada rfl (by omega)) ?_)
    refine G.op rfl (G.val rfl rfl (pv_load (v := .int .i64 ah[i]) Tryz.underlying3 rfl rfl (ro_int hEa)) ?_)
    refine G.op rfl (G.cR rfl rfl rfl rfl Tryz.func20 rfl rfl may0 (pick_tr ah[i] 9 hEa.1.2.2 ⟨by decide, by decide⟩) ?_)
    have hpk9 := pick9 ah[i]
    obtain ⟨pk, hpk⟩ : ∃ x, pickM ah[i] 9 = x := ⟨_, rfl⟩
    rw [hpk] at hpk9
    rw [hpk]
    refine go [2,6,1,7] ?_
    exact G.meet ((1 + pk).toNat) (by first | exact trivial | ((try dsimp only) <;> exact ⟨by omega, by omega⟩)) (.consE rfl veqT (.cons rfl (.cons rfl (.cons rfl (.cons rfl (.cons rfl (.cons rfl (.cons rfl (.cons rfl (.cons rfl .nil)))))))))) subT
   refine G.skip ?_
   exact G.meet (1) (by first | exact trivial | ((try dsimp only) <;> exact ⟨by omega, by omega⟩)) (.consE rfl veqT (.cons rfl (.cons rfl (.cons rfl (.cons rfl (.cons rfl (.cons rfl (.cons rfl (.cons rfl (.cons rfl .nil)))))))))) subT
  intro nn hJ
  try dsimp only at hJ
  try dsimp only
  obtain ⟨hn1, hn9⟩ := hJ
  refine go [9,9,10,1,7,8,15] ?_
  refine G.loopK (X := Nat × PZ × Value × (List NV) × (Nat → Prop) × World) (ts := [5, 13, 17, 19, 21, 22, 24, 26, 27]) (fun st => st.1 ≤ nn ∧ (GvOk bb (cks ck) h0 F1 W1 st.2.2.2.2.1 st.2.2.2.2.2 st.2.1 s st.2.2.2.1 ∧ (st.1 = 0 ∨ (st.2.1.pm.wait ≠ [] ∨ st.2.1.pm.over = true)))) (fun st => [(28, .int .i64 (st.1 : Int)), (25, st.2.2.1)]) (fun st => [blk D 85 [.bool st.2.1.made, st.2.1.bv, st.2.1.lv, .int .i64 st.2.1.cm, .int .i64 st.2.1.tk, .int .i64 (st.2.1.ph : Nat), st.2.1.leftv, st.2.1.waitv, .int .i64 (st.2.1.asked : Nat), st.2.1.lacksv, .int .i64 (st.2.1.rounds : Nat), .bool st.2.1.over, .int .i64 st.2.1.num, .int .i64 st.2.1.e], que 92 5 st.2.1.waitv st.2.1.wait.length (st.2.1.wait.flatMap awC), own 54 17 st.2.1.lacksv st.2.1.lacks.length (st.2.1.lacks.flatMap chC), que 33 4 st.2.2.1 st.2.2.2.1.length (st.2.2.2.1.flatMap nvC), frz st.2.2.2.2.1 st.2.2.2.2.2]) (fun st => nn - st.1) (x0 := (0, z, vw, ws, Fa, Wa)) (.cons rfl (.cons rfl (.cons rfl (.cons rfl (.cons rfl (.cons rfl (.cons rfl (.cons rfl (.cons rfl .nil))))))))) subT (.cons (.cons .nil)) apT (by first | exact trivial | ((try dsimp only) <;> exact ⟨Nat.zero_le _, ⟨hG, Or.inl rfl⟩⟩)) (.consE rfl veqT (.consE rfl veqT .nil)) (fun st hJ => ?_)
  obtain ⟨kk, y, vx, wx, Fb, Wb⟩ := st
  try dsimp only at hJ
  try dsimp only
  obtain ⟨hkkk, hJ⟩ := hJ
  obtain ⟨hGy, hkk2⟩ := hJ
  have hyw := hGy.wlen
  have hy8 : y.wait.length ≤ 8 := by have := hGy.pn.eight; rwa [pm_wait] at this
  refine go [9,9,10,0,0,2,9,7,8] ?_
  refine G.condP rfl (fun h151 => ?_) (fun h151 => ?_)
  ·refine go [13,8,9,15,9,10,0] ?_
   refine G.op rfl (G.cS rfl rfl rfl rfl Tryz.func21 rfl rfl subT may0 (send_tr (F := F1) (W := W1) D y hGy.ok) apT ?_)
   intro x156 hJ
   obtain ⟨y2, uN, uI, uB⟩ := x156
   try dsimp only at hJ
   try dsimp only
   obtain ⟨hz2, hp2⟩ := hJ
   have h16s := sent_16 hGy.ok
   have h64s := sent_i64 hGy.ok
   have hsv := sent_nv hGy.ok
   have hpm2 : PmOk y2.pm := by rw [hp2]; exact send_ok hGy.pm
   have sn1 : PnOk y2.pm := by rw [hp2]; exact (send_pn hGy.pm hGy.pn).1
   have hiv : Inv bb (cks ck) h0 y2.pm s := by rw [hp2]; exact inv_send hGy.inv
   have hsh : y2.pm.wait ≠ [] ∨ y2.pm.over = true := by rw [hp2]; exact send_has hGy.inv
   have hwq := send_wq y.pm
   rw [← hp2] at hwq
   obtain ⟨sb, hsb⟩ : ∃ b, (sendP y.pm).1.isSome = b := ⟨_, rfl⟩
   rw [hsb] at hwq hsv
   rw [hsb]
   refine G.ownFact (v := uN) selT (fun huN _ => ?_)
   refine G.ownFact (v := uI) selT (fun huI _ => ?_)
   refine G.ownFact (v := uB) selT (fun huB _ => ?_)
   refine go [0] ?_
   refine G.op rfl (G.val rfl rfl (pv_extract (v := .agg #[.int .i64 (sentN y.pm).k, uN, uI, uB]) rfl rfl) ?_)
   refine G.op rfl (G.val rfl rfl (pv_extract (v := .bool sb) rfl rfl) ?_)
   refine go [60,3] ?_
   intro b29
   refine go [20,1,7,8,9,10,0,7,8] ?_
   refine G.cond rfl (fun h159 => ?_) (fun h159 => ?_)
   ·have hst : sb = true := by assumption
    obtain ⟨X9, hX9, hXn, hXok⟩ := hsv hst
    obtain ⟨_, _, _, hq4, hq5, hq6, hq7⟩ := hXok
    rw [← hXn] at hq4 hq5 hq6 hq7
    refine G.freeze (F := Fb) (W := Wb) (p := [own 3 1 uN _ _, own 52 16 uI _ _, own 5 1 uB _ _]) selT subT (fun F9 W9 hU9 hC9 => ?_)
    have hok9 : NvOk F9 W9 (⟨sentN y.pm, uN, uI, uB⟩ : NV) := ⟨frz_own1 _ (hC9 _ (List.mem_cons_self ..)) rfl h64s, frz_ownI _ (hC9 _ (List.mem_cons_of_mem _ (List.mem_cons_self ..))) rfl h16s, frz_own1 (p := fun _ => True) _ (hC9 _ (List.mem_cons_of_mem _ (List.mem_cons_of_mem _ (List.mem_cons_self ..)))) rfl (fun _ _ => trivial), hq4, hq5, hq6, hq7⟩
    refine go [10,0] ?_
    refine G.op rfl (G.val rfl rfl (pv_loadN (cs := [_, _, _, _]) Tryz.underlying33 rfl kr rfl Y21) ?_)
    refine G.op rfl (G.buildSlice (z := .agg #[.int .i64 0, .slice none 0 0, .slice none 0 0, .slice none 0 0]) (sz := 4) (cs := nvC (⟨sentN y.pm, uN, uI, uB⟩ : NV)) rfl Tryz.underlying55 kr (by decide) (by decide) rfl kr ?_)
    intro b162
    refine G.op rfl (G.appendQ (k := wx.length) (j := 1) (cs := wx.flatMap nvC) (news := nvC (⟨sentN y.pm, uN, uI, uB⟩ : NV)) (b := b162) (off := 0) rfl Tryz.underlying55 Tryz.infoNo rfl rfl rfl selT (by omega) rfl (blk_news (k := 4) selT rfl) (fun u hu => by simp only [nvC, List.mem_cons, List.not_mem_nil, or_false] at hu; rcases hu with rfl | rfl | rfl | rfl <;> first | rfl | assumption) (by omega) (by omega) ?_)
    intro vq
    rw [nvC_app, show wx.length + 1 = (wx ++ [(⟨sentN y.pm, uN, uI, uB⟩ : NV)]).length from by rw [List.length_append]; rfl]
    refine go [1,7,16,8,10,0,2,6,1,7] ?_
    exact G.next ((kk + 1, y2, vq, wx ++ [(⟨sentN y.pm, uN, uI, uB⟩ : NV)], F9, W9)) (by first | exact trivial | ((try dsimp only) <;> exact ⟨by omega, ⟨⟨hz2, hpm2, sn1, hiv, (by rw [nvs_one, hGy.wq, hwq, hst]; rfl), nv_all hU9 hGy.nv hok9, hGy.had, hGy.giv, hGy.l1, hGy.l2, hGy.l3⟩, Or.inr hsh⟩⟩)) (by (try dsimp only); omega) (.consE rfl veqT (.consE rfl veqT (.cons rfl (.cons rfl (.cons rfl (.cons rfl (.cons rfl (.cons rfl (.cons rfl (.cons rfl (.cons rfl .nil))))))))))) subT
   have hsf : sb = false := by first | assumption | (simpa using (by assumption : ¬ sb = true))
   refine go [13,16,8,10,0,2,6,1,7] ?_
   exact G.next ((kk + 1, y2, vx, wx, Fb, Wb)) (by first | exact trivial | ((try dsimp only) <;> exact ⟨by omega, ⟨⟨hz2, hpm2, sn1, hiv, (by rw [hGy.wq, hwq, hsf]; simp), hGy.nv, hGy.had, hGy.giv, hGy.l1, hGy.l2, hGy.l3⟩, Or.inr hsh⟩⟩)) (by (try dsimp only); omega) (.consE rfl veqT (.consE rfl veqT (.cons rfl (.cons rfl (.cons rfl (.cons rfl (.cons rfl (.cons rfl (.cons rfl (.cons rfl (.cons rfl .nil))))))))))) subT
  obtain rfl : kk = nn := by omega
  refine G.queFact (v := vx) selT (fun _ _ qa9 qc9 hvx => ?_)
  subst hvx
  have hhs : y.pm.wait ≠ [] ∨ y.pm.over = true := hkk2.resolve_left (by omega)
  refine go [18,14,14,19,8,9,9,10,0,2,5] ?_
  refine G.op rfl (G.val rfl rfl ((pv_gtr rfl rfl).cast (v' := .bool false) (congrArg Value.bool (by exact decide_eq_false (by omega)))) ?_)
  refine go [0,3,0] ?_
  refine G.want rfl rfl rfl (G.cR rfl rfl rfl rfl Tryz.func22 rfl rfl (may2 (Sel.may selD) (Sel.may selD)) (open_tr D y) ?_)
  refine go [3,0,3,5] ?_
  refine G.want rfl rfl rfl (G.val rfl rfl ((pv_neq rfl rfl).cast (v' := .bool false) (congrArg Value.bool (by exact decide_eq_false (by omega)))) ?_)
  refine go [2,2,7,8,60,0,13,8,9,9,10,0,2,5,2,13,7,8] ?_
  refine G.condP rfl (fun h176 => ?_) (fun h176 => ?_)
  ·have hw0 : wx.length = 0 := by omega
   have hov : y.pm.over = true := by rcases hhs with h | h; exact absurd (List.eq_nil_of_length_eq_zero (by rw [pm_wait]; omega)) h; exact h
   obtain ⟨hfin, hsE⟩ := inv_over hGy.inv hov
   have hsc : s.came = bb := by rw [hsE]
   have hsg : s.given = lk := by rw [hsE]; exact hNG.symm
   have hsn : s.notes = WN := by rw [hsE]; show 1 + _ + _ + _ + 1 = WN; rw [hcl2, ← hlkl]; omega
   have h16k : all16 lk := by rw [← hsg]; exact hGy.giv
   refine go [18,14,44,14,14,19,8,9,10,0,0,3,0] ?_
   refine G.want rfl rfl rfl (G.cR rfl rfl rfl rfl Tryz.func13 rfl rfl (may1 (Sel.may selT)) (over27_tr D y 5 0) ?_)
   rw [hfin]
   refine go [2,2,0,3,0,3,8,3,3,1,3,50,0,3,0] ?_
   refine G.want rfl rfl rfl (G.cR rfl rfl rfl rfl Tryz.func24 rfl rfl (may2 (may_own selT rfl (fun _ _ => trivial)) (may_ownB selT)) (same_tr _ _ s.came bb) ?_)
   rw [decide_eq_true hsc]
   refine go [2,2,0,3,0,3,8,3,3,2,3,50,0,3,0] ?_
   refine G.want rfl rfl rfl (G.cR rfl rfl rfl rfl Tryz.func25 rfl rfl (may2 (may_ownI selT hGy.giv) (may_ownI selT h16k)) (sameIDs_tr _ _ s.given lk) ?_)
   rw [decide_eq_true hsg]
   refine go [2,2,0,3,0,3,8,3,3,3,3,50,0,3,0] ?_
   refine G.want rfl rfl rfl (G.val rfl rfl ((pv_eql rfl rfl).cast (v' := .bool true) (congrArg Value.bool (decide_eq_true (by omega)))) ?_)
   refine go [2,2,1,7,8,11] ?_
   exact G.done0G rfl (Rv.tmp rfl Rv.nil) Y7
  have hw0 : 0 < wx.length := by omega
  obtain ⟨y0, wt, rfl⟩ : ∃ y0 wt, wx = y0 :: wt := by cases e : wx with | nil => (exfalso; rw [e] at hw0; exact Nat.lt_irrefl 0 hw0) | cons y0 wt => exact ⟨y0, wt, rfl⟩
  refine G.queTo (v := .slice qa9 (y0 :: wt).length qc9) selT hw0 (fun wg wc wp wsp hwv hq1 hq2 hq3 hq4 => ?_)
  injection hwv with hwv1 hwv2 hwv3
  subst hwv1
  subst hwv3
  have hy0 := hGy.nv y0 (List.mem_cons_self ..)
  have hyq : y.pm.wait = y0.n :: nvs wt := hGy.wq.symm
  obtain ⟨yy, s2, p2, e1, e2, ⟨e3, e4⟩, e5⟩ := inv_step hH hGy.inv hyq
  have hlen := inv_len hGy.inv hyq
  refine go [13,8,9,10,0,0] ?_
  refine G.op rfl (G.val rfl rfl (pv_ixSl (sz := 4) (k := 0) Tryz.underlying55 kr rfl rfl (fun _ => rfl) rfl (by omega)) ?_)
  refine G.op rfl (G.val rfl rfl (pv_loadN (cs := nvC y0) Tryz.underlying33 rfl kr rfl (blk_range (k := 4) selT (mid_row4 rfl wp wsp))) ?_)
  refine G.op rfl (G.cS rfl rfl rfl rfl Tryz.func23 rfl rfl subT (may3 (may_frz selT hy0.1) (may_frz selT hy0.2.1) (may_frz selT hy0.2.2.1)) (answer27_tr (Pv1 := Fb) (Pv2 := Fb) (Pv3 := Fb) b79 hv cv gv _ _ _ s y0.n hGy.had hGy.giv (by omega) hGy.l1 hGy.l2 hGy.l3 hy0.2.2.2.2.2.1 hy0.2.2.2.2.2.2 hlen) apT ?_)
  intro x182 hJ
  obtain ⟨⟨hv2, cv2, gv2⟩, u1, u2⟩ := x182
  try dsimp only at hJ
  try dsimp only
  rw [e1] at hJ
  rw [e1]
  try dsimp only at hJ
  try dsimp only
  refine G.ownFact (v := u1) selT (fun hu1 _ => ?_)
  have hI2 : IsSl rID Fb Wb u2 yy.ids := by rcases hJ with ⟨h1, h2⟩ | ⟨h1, h2⟩; (rw [h1, h2]; exact IsSl.nil _ _ _); (rw [h1, h2]; exact hy0.2.1)
  have hu2 := hI2.one
  have hybs : yy.bs = [] := by have := ans_bs s y0.n; rw [e1] at this; exact this
  have hy64 : ∀ n ∈ yy.ns, I64 n := by have := ans_i64 (x := y0.n) hGy.l2 hy0.2.2.2.2.2.2; rw [e1] at this; exact this
  refine go [0] ?_
  refine G.op rfl (G.val rfl rfl (pv_extract (v := .agg #[.int .i64 yy.k, u1, u2, .slice none 0 0]) rfl rfl) ?_)
  refine G.op rfl (G.val rfl rfl (pv_extract (v := .bool true) rfl rfl) ?_)
  refine go [60,3] ?_
  intro b31
  refine go [20,1,7,8,9,10,0] ?_
  refine G.op rfl (G.val rfl rfl (pv_subL (sz := 4) (k := 1) Tryz.underlying55 kr rfl rfl rfl (by omega)) ?_)
  refine G.queTail (e := 33) (sz := 4) (k := wt.length) (c1 := nvC y0) (cs := wt.flatMap nvC) selT rfl hq4 hq1 hq2 hq3 ?_
  refine go [1,7,8,9,10,0] ?_
  refine G.op rfl (G.val rfl rfl ((pv_not rfl).cast (v' := .bool false) (congrArg Value.bool (by rfl))) ?_)
  refine go [0,3,0] ?_
  refine G.want rfl rfl rfl (G.val rfl rfl (pv_loadN (cs := [_, _, _, _]) Tryz.underlying33 rfl kr rfl Y21) ?_)
  refine G.want rfl rfl rfl (G.cS rfl rfl rfl rfl Tryz.func14 rfl rfl subT (may3 (may_ownN selT hy64) (may_frz selT hI2) may_nilZ) (ptake_tr (F := F1) (W := W1) yy.k _ _ _ yy.ns yy.ids [] D y hGy.ok hGy.pm (by have := hGy.pm.l; rwa [pm_l] at this)) apT ?_)
  intro x192 hJ
  obtain ⟨z3, F3, W3⟩ := x192
  try dsimp only at hJ
  try dsimp only
  have hyE : (⟨yy.k, yy.ns, yy.ids, []⟩ : Nt) = yy := by rw [← hybs]
  rw [hyE, e2] at hJ
  rw [hyE, e2]
  obtain ⟨hU3, hz3, hp3⟩ := hJ
  replace hp3 : z3.pm = p2 := hp3
  have hpm3 : PmOk z3.pm := by have := take_ok yy hGy.pm; rw [e2] at this; rw [hp3]; exact this
  have hpn3 : PnOk z3.pm := by have := (take_pn yy hGy.pm hGy.pn).1; rw [e2] at this; rw [hp3]; exact this
  have hiv3 : Inv bb (cks ck) h0 z3.pm s2 := by rw [hp3]; exact e3
  have hsk := sk_bound hiv3 hh0l (by rw [hcl2]; exact hsz2) hsz1 hh16 h16c
  refine G.want rfl rfl rfl (G.val rfl rfl ((pv_neq rfl rfl).cast (v' := .bool false) (congrArg Value.bool (by exact decide_eq_false (fun h => h rfl)))) ?_)
  refine go [2,2,7,8,60,0,13,16,8,10,0,2,6,1,7] ?_
  exact G.next (i + 1, z3, F3, W3, hv2, cv2, gv2, s2, subV 4 (some ⟨wg, wp.length, none⟩) 1 (wt.length + 1) qc9, wt, Fb, Wb) (by first | exact trivial | ((try dsimp only) <;> exact ⟨⟨hz3, hpm3, hpn3, hiv3, (by rw [hp3, e4]), (fun q hq => hGy.nv q (List.mem_cons_of_mem _ hq)), hsk.1, hsk.2.1, hsk.2.2.1, hsk.2.2.2.1, hsk.2.2.2.2⟩, by omega⟩)) (by (try dsimp only); omega) (.consE rfl veqT (.consE rfl veqT (.cons rfl (.cons rfl (.cons rfl (.cons rfl (.cons rfl (.cons rfl (.cons rfl .nil))))))))) subT
 exfalso; omega
end Go.Proofs.YtngbglhmiefcpaaGreat
set_option maxRecDepth 100000
set_option linter.unusedVariables false
set_option linter.unusedSimpArgs false
namespace Go.Proofs.YtngbglhmiefcpaaGreat
open Go.ChangeShapes Go.WideShapes Go.ChangeAt Go.RowKit Go.Deep
theorem in1 {p : Ck → Prop} {a : Ck} (h : p a) : ∀ x ∈ [a], p x := fun x hx => by obtain rfl : x = a := (by simpa using hx); exact h
theorem inC {p : Ck → Prop} {a : Ck} {l : List Ck} (h : p a) (r : ∀ x ∈ l, p x) : ∀ x ∈ a :: l, p x := fun x hx => by
 rcases List.mem_cons.1 hx with rfl | hx
 ·exact h
 exact r x hx
section
variable {H : Type} {enc : TypeId × Value → H} {W : World}
end
end Go.Proofs.YtngbglhmiefcpaaGreat
set_option maxRecDepth 100000
set_option linter.unusedVariables false
set_option linter.unusedSimpArgs false
namespace Go.Proofs.YtngbglhmiefcpaaGreat
open Go.ChangeShapes Go.WideShapes Go.ChangeAt Go.RowKit Go.Deep
section
variable {H : Type} {enc : TypeId × Value → H} {W : World}
theorem opn_weak {P : Program} {α β : Type} {t : TypeId} {E : Rdr α} {F : Rdr β} (h : Opn H enc P W t E) (hs : E.sz = F.sz) (hf : ∀ Ps w b o a, E.R Ps w b o a → ∃ a', F.R Ps w b o a') : Opn H enc P W t F := ⟨h.sz.trans hs, fun fuel cs x b o hx hwt hA hb => by
 obtain ⟨a, ha⟩ := h.mem fuel cs x b o hx hwt hA hb
 exact hf _ _ _ _ _ ha⟩
theorem opn_entry : Opn H enc Tryz.prog W 102 rEV := by
 refine opn_weak (opn_struct Tryz.underlying102 (F := rProd rStrB (rProd rInt (rProd rInt (rProd (rSlB rByte) (rProd rStrB rUnit))))) kr
  (.cons (opn_str Tryz.underlying9 kr) rfl (.cons (opn_int Tryz.underlying3 kr) rfl (.cons (opn_int Tryz.underlying3 kr) rfl
   (.cons (opn_rSl Tryz.underlying31 kr (of_decide_eq_true kr) (opn_byte Tryz.underlying5 kr) (by decide)) rfl (.cons (opn_str Tryz.underlying9 kr) rfl .nil)))))) rfl ?_
 rintro Ps w b o ⟨a0, a1, a2, a3, a4, _⟩ ⟨⟨hb, h0, l0⟩, ⟨_, h1, l1⟩, ⟨_, h2, l2⟩, ⟨⟨_, d, h3, hd⟩, l3⟩, ⟨_, h4, l4⟩, _⟩
 refine ⟨(⟨a0, a1, a2, a3, a4⟩, d), hb, fun j v hj => ?_, hd, l1, l2, l0, l3, l4⟩
 have hlt : j < 5 := by
  have := (List.getElem?_eq_some_iff.1 hj).1
  exact this
 rcases (by omega : j = 0 ∨ j = 1 ∨ j = 2 ∨ j = 3 ∨ j = 4) with rfl | rfl | rfl | rfl | rfl
 ·obtain rfl : _ = v := Option.some.inj hj
  exact h0
 ·obtain rfl : _ = v := Option.some.inj hj
  exact h1
 ·obtain rfl : _ = v := Option.some.inj hj
  exact h2
 ·obtain rfl : _ = v := Option.some.inj hj
  exact h3
 obtain rfl : _ = v := Option.some.inj hj
 exact h4
theorem opn_tree {v : Value} {d : DataW H} {p : List MemPlace} {r : Reach} {base : Nat} (hok : Value.okWide Tryz.prog W r base 35 v) (h : DataW.Trod enc Tryz.prog W 0 (fun _ => true) true 35 v d p)
 {ts : List TypeId} {ds : List (DataW H)} {j : Nat} (hsz : (DataW.weightsEach Tryz.prog ts ds).all (· ≤ reachBytes) = true) (hts : ts[j]? = some 35) (hds : ds[j]? = some d) :
 ∃ xs : List ET, Ro W (fun _ => False) (slc rEV (· < W.heap.size) v xs) ∧ xs.length ≤ 140737488355328 :=
 opn_arg Tryz.underlying35 (of_decide_eq_true kr) opn_entry (by decide) hok h hsz hts hds
end
end Go.Proofs.YtngbglhmiefcpaaGreat
