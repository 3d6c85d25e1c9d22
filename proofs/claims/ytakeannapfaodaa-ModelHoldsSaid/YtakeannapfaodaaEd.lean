/- Merged of XP, TreeOpn, ModOpn. Conditions: none. -/
import Derived.Test.YtakeannapfaodaaEc
import Derived.ChangeMaps5
namespace Go.Proofs.Ytakeannapfaodaa
open Go.RowKit
set_option linter.unusedVariables false
set_option linter.unusedSimpArgs false
theorem tsame_yes9 {Ps Pu : Nat → Prop} (v u : Value) (xs ys : List ET) (h : ens xs = ens ys) : Tr Try.prog 22 #[v, u] [slc rEV Ps v xs, slc rEV Pu u ys] [] (T0 (.bool true)) := by
 have := tsame_tr (Ps := Ps) (Pu := Pu) v u xs ys
 rwa [decide_eq_true h] at this
theorem tree_yes9 {Ps Pu : Nat → Prop} (v u : Value) (xs ys : List ET) (h : ens xs = ens ys) : Tr Try.prog 23 #[v, u] [slc rEV Ps v xs, slc rEV Pu u ys] [] (T0 (.bool true)) := by
 have := sameTree_tr (Ps := Ps) (Pu := Pu) v u xs ys
 rwa [decide_eq_true h] at this
theorem held_i64 {pm : PM} (hok : okM pm) {x : HP} (h : x ∈ flatM pm) : I64 x.1.1 := by
 obtain ⟨p, hp, h1, -⟩ := flat_key h
 have := (hok p hp).1
 rw [← h1]
 exact ⟨by omega, by omega⟩
theorem expM_i64 {pm : PM} (hok : okM pm) (c a b d : Int) : ∀ x ∈ (expM pm c a b d).1.1, I64 x := by
 have h : ∀ s ∈ snM (plGet pm c).2, I64 s.1 := fun s hs => by
  obtain ⟨t, ht, rfl⟩ := List.mem_map.1 hs
  obtain ⟨h1, h2, h3⟩ := hok.get c
  have := (h3 t ht).1
  exact ⟨by show -9223372036854775808 ≤ t.n; omega, by show t.n ≤ 9223372036854775807; omega⟩
 unfold expM
 split
 ·show ∀ x ∈ toldM _ _ _ _ _, I64 x
  unfold toldM
  split
  ·split
   ·exact toldTo_mem (Nat.le_refl _) h
   exact fun x hx => by cases hx
  exact fun x hx => by cases hx
 exact fun x hx => by cases hx
theorem one_i64 {n : Int} (h : I64 n) : ∀ x ∈ [n], I64 x := fun x hx => by
 obtain rfl : x = n := by simpa using hx
 exact h
set_option maxRecDepth 20000 in
set_option maxHeartbeats 4000000 in
theorem mholds {Ps : Nat → Prop} (v : Value) (xs : List AT) : Tr Try.prog 6 #[v] [slc rAT Ps v xs] [] (T0 (.bool true)) := by
 refine Tr.of (l := [(0, v)]) Try.func6 rfl (n := 217) rfl (.cons rfl .nil) (fun w0 hro => ?_)
 have hv0 := ro1 hro
 obtain ⟨av, cv, bv, fv, rfl, hcapv, hmaxv, hnilv, hadv, helv⟩ := Ro.open hv0
 refine go [9,10,1,7,8,9,10] ?_
 refine G.op rfl (G.cR rfl rfl rfl rfl Try.func7 rfl rfl may0 (awake30_tr) ?_)
 refine go [1,7,8,9,10] ?_
 refine G.op rfl (G.cS rfl rfl rfl rfl Try.func8 rfl rfl subT may0 (mnew_tr) apT ?_)
 intro x18 hJ
 obtain ⟨Dm, bm⟩ := x18
 try dsimp only at hJ
 try dsimp only
 refine go [1,7,8,9,9] ?_
 refine G.cutK (X := Unit) (ts := [0, 2, 3, 4]) (p := []) (fun _ => True) (fun _ => [(24, .bool (decide (longP xs)))]) (fun _ => []) (.cons rfl (.cons rfl (.cons rfl (.cons rfl .nil)))) subT (.cons .nil) apT ?_ ?_
 ·refine go [10,0] ?_
  refine G.op rfl (G.cR rfl rfl rfl rfl Try.func9 rfl rfl (may1 (.old hv0)) (long_tr _ xs) ?_)
  refine go [0] ?_
  refine G.partP (t := 21) rfl (fun h21 => ?_) (fun h21 => ?_)
  ·refine go [4,4,2,2,7] ?_
   exact G.meet (()) trT (.consE rfl (by first | rfl | exact dec_t (by assumption) | exact dec_f (by assumption)) (.cons rfl (.cons rfl (.cons rfl (.cons rfl .nil))))) subT
  refine go [3,0] ?_
  refine G.want rfl rfl rfl (G.val rfl rfl (pv_eqlP0 Try.underlying24 rfl rfl) ?_)
  refine go [2,2,7] ?_
  exact G.meet (()) trT (.consE rfl (by first | rfl | exact dec_t (by assumption) | exact dec_f (by assumption)) (.cons rfl (.cons rfl (.cons rfl (.cons rfl .nil))))) subT
 intro _ hJ
 try dsimp only at hJ
 try dsimp only
 refine G.condP rfl (fun h24 => ?_) (fun h24 => ?_)
 ·refine go [9,10,0,0,3,0] ?_
  refine G.want rfl rfl rfl (G.val rfl rfl (pv_neqP0 Try.underlying24 rfl rfl) ?_)
  refine go [2,2,1,7,8,11,12] ?_
  exact G.done0G rfl (Rv.tmp rfl Rv.nil) Y4
 have hnl : ¬ longP xs := by assumption
 obtain ⟨hx40, -⟩ := long_all hnl
 refine go [13,8,9,10,1,7,8,9,9,10,1,7,8,15] ?_
 refine G.ownNil 57 3 ?_
 refine G.loopK (X := Nat × MS × Value × (List HT)) (ts := [0, 3, 4]) (fun st => st.1 ≤ xs.length ∧ (okM (plM st.2.1) ∧ InvM (plM st.2.1) ∧ (st.2.2.2.map HT.pl).Perm (flatM (plM st.2.1)) ∧ (∀ h ∈ st.2.2.2, Ro w0 (U []) (slc rEV Ps h.2.1 h.2.2)) ∧ st.2.2.2.length ≤ st.1 ∧ st.2.1.length ≤ st.1)) (fun st => [(6, .int .i64 (st.1 : Int)), (5, st.2.2.1)]) (fun st => [blk Dm 40 [.map (some bm)], mpc vInt I64 bm (ptrs st.2.1), clis st.2.1, own 57 3 st.2.2.1 st.2.2.2.length (st.2.2.2.flatMap heC)]) (fun st => xs.length - st.1) (x0 := (0, ([] : MS), .slice none 0 0, [])) (.cons rfl (.cons rfl (.cons rfl .nil))) subT (.cons (.cons .nil)) apT (by first | exact trivial | ((try dsimp only) <;> exact ⟨Nat.zero_le _, ⟨ok0M, ⟨List.nodup_nil, fun p hp => by cases hp⟩, List.Perm.refl _, (fun h hh => by cases hh), Nat.le_refl _, Nat.le_refl _⟩⟩)) (.consE rfl veqT (.consE rfl veqT .nil)) (fun st hJ => ?_)
 obtain ⟨i, ms, hv, hs⟩ := st
 try dsimp only at hJ
 try dsimp only
 obtain ⟨hki, hJ⟩ := hJ
 obtain ⟨hok, hinv, hperm, hro2, hhl, hml⟩ := hJ
 have hone : ∀ h ∈ hs, h.2.1.oneCell' = true := fun h hh => by obtain ⟨a, c, e⟩ := Ro.slv (hro2 h hh); rw [e]; rfl
 refine go [9,9,10,0,0,2,5,2,9,7,8] ?_
 refine G.condP rfl (fun h33 => ?_) (fun h33 => ?_)
 ·have hlt : i < xs.length := by omega
  have hE := helv i hlt
  have hR := Ro.atRng hE
  have hD := Ro.atTree hE
  have hO := Ro.atOk hE
  obtain ⟨aD, cD, bD, oD, hx2, hcD, hmD, -, -, helD⟩ := Ro.openT hD
  rw [hx2] at hR
  obtain ⟨o1, o2, o3, o4, o5, o6⟩ := hO
  have hen : ∀ e ∈ ens xs[i].2.2, EnOk e := fun e he => by obtain ⟨y, hy, rfl⟩ := List.mem_map.1 he; obtain ⟨q, hq, rfl⟩ := List.getElem_of_mem hy; exact Ro.evOk (helD q hq)
  obtain ⟨hcw1, hcw2⟩ := wrap_next o2
  obtain ⟨cw, hcw⟩ : ∃ cw, IntKind.i64.wrap (xs[i].1.cl + 1) = cw := ⟨_, rfl⟩
  rw [hcw] at hcw1 hcw2
  refine go [13,8,9,15,9,10,0,0] ?_
  refine G.op rfl (G.val rfl rfl (pv_ixSl (sz := 9) (k := i) Try.underlying22 kr rfl rfl Y20 rfl (by omega)) ?_)
  refine G.op rfl (G.val rfl rfl (pv_loadN (cs := [.int .i64 xs[i].1.kd, .int .i64 xs[i].1.cl, .int .i64 xs[i].1.n, .int .i64 xs[i].1.cm, .int .i64 xs[i].1.tk, .slice aD xs[i].2.2.length cD, .int .i64 xs[i].1.pa, .int .i64 xs[i].1.pb, .int .i64 xs[i].1.pc]) Try.underlying31 rfl kr rfl (fun w hw => hR.at hw)) ?_)
  refine G.op rfl (G.alloc (z := .agg #[.int .i64 0, .int .i64 0, .int .i64 0, .int .i64 0, .int .i64 0, .slice none 0 0, .int .i64 0, .int .i64 0, .int .i64 0]) (cs := [.int .i64 0, .int .i64 0, .int .i64 0, .int .i64 0, .int .i64 0, .slice none 0 0, .int .i64 0, .int .i64 0, .int .i64 0]) rfl kr rfl ?_)
  intro b7
  refine go [20,7,8,9] ?_
  refine G.cutK (X := Value) (ts := [0, 3, 4, 5, 6, 7]) (p := [blk Dm 40 _, mpc vInt I64 bm _, clis _]) (fun ov => True) (fun ov => [(8, .int .i64 (plGet (plM ms) xs[i].1.cl).1), (9, ov)]) (fun ov => [own 61 4 ov (lsM (plGet (plM ms) cw).2).length ((lsM (plGet (plM ms) cw).2).flatMap liC), blk Dm 40 [.map (some bm)], mpc vInt I64 bm (ptrs ms), clis ms]) (.cons rfl (.cons rfl (.cons rfl (.cons rfl (.cons rfl (.cons rfl .nil)))))) subT (.cons (.cons .nil)) apT ?_ ?_
  ·refine G.drawT (nn := 11) (p := [blk Dm 40 _, mpc vInt I64 bm _, clis _]) (rem := 2047) [0, 0, 2, 5, 0, 0, 32, 64, 152, 271, 1023] [0, 0, 2, 5, 0, 0, 32, 64, 144, 8, 256] kr ⟨rfl, by kernel_rfl, by kernel_rfl⟩ subT kr (fun hT10 => ?_)
   refine go [22,0,2046,0,22,1,2044,3,1,22,4,2028,0,22,5,1996,3,1] ?_
   refine G.twoT hT10 (i := 2) (j := 6) (rem' := 1992) (rem'' := 1932) kr kr kr ?_ ?_
   ·refine go [25,4,26] ?_
    refine G.twoT hT10 (i := 3) (j := 6) (rem' := 1984) (rem'' := 1928) kr kr kr ?_ ?_
    ·refine G.turnOp rfl rfl (G.cS rfl rfl rfl rfl Try.func17 rfl rfl subT may0 (great_tr Dm bm ms xs[i].1.cl hok o2) apT ?_)
     intro x43 hJ
     try dsimp only at hJ
     try dsimp only
     refine go [26,24,6,1920,25,4,26] ?_
     refine G.takeT hT10 (i := 7) (rem' := 1792) rfl rfl rfl kr (fun _ _ _ h => h) rfl (pv_addk rfl rfl) subT ?_
     rw [hcw]
     refine go [24,8,1536] ?_
     refine G.turnOp rfl rfl (G.cS rfl rfl rfl rfl Try.func11 rfl rfl subT may0 (list_tr Dm bm ms cw hok hcw1) apT ?_)
     intro x48 hJ
     try dsimp only at hJ
     try dsimp only
     refine G.ownFact (v := x48) selT (fun hx48 _ => ?_)
     refine go [26,22,9,1024,1,22,10,0,1,27] ?_
     exact G.meet (x48) trT (.consE rfl veqT (.consE rfl veqT (.cons rfl (.cons rfl (.cons rfl (.cons rfl (.cons rfl (.cons rfl .nil)))))))) subT
    refine go [25,4,26] ?_
    refine G.takeT hT10 (i := 7) (rem' := 1800) rfl rfl rfl kr (fun _ _ _ h => h) rfl (pv_addk rfl rfl) subT ?_
    rw [hcw]
    refine go [24,3,1792] ?_
    refine G.turnOp rfl rfl (G.cS rfl rfl rfl rfl Try.func17 rfl rfl subT may0 (great_tr Dm bm ms xs[i].1.cl hok o2) apT ?_)
    intro x43 hJ
    try dsimp only at hJ
    try dsimp only
    refine go [26,24,8,1536] ?_
    refine G.turnOp rfl rfl (G.cS rfl rfl rfl rfl Try.func11 rfl rfl subT may0 (list_tr Dm bm ms cw hok hcw1) apT ?_)
    intro x48 hJ
    try dsimp only at hJ
    try dsimp only
    refine G.ownFact (v := x48) selT (fun hx48 _ => ?_)
    refine go [26,22,9,1024,1,22,10,0,1,27] ?_
    exact G.meet (x48) trT (.consE rfl veqT (.consE rfl veqT (.cons rfl (.cons rfl (.cons rfl (.cons rfl (.cons rfl (.cons rfl .nil)))))))) subT
   refine go [25,4,26] ?_
   refine G.takeT hT10 (i := 7) (rem' := 1804) rfl rfl rfl kr (fun _ _ _ h => h) rfl (pv_addk rfl rfl) subT ?_
   rw [hcw]
   refine go [24,2,1800,25,4,26,24,3,1792] ?_
   refine G.turnOp rfl rfl (G.cS rfl rfl rfl rfl Try.func17 rfl rfl subT may0 (great_tr Dm bm ms xs[i].1.cl hok o2) apT ?_)
   intro x43 hJ
   try dsimp only at hJ
   try dsimp only
   refine go [26,24,8,1536] ?_
   refine G.turnOp rfl rfl (G.cS rfl rfl rfl rfl Try.func11 rfl rfl subT may0 (list_tr Dm bm ms cw hok hcw1) apT ?_)
   intro x48 hJ
   try dsimp only at hJ
   try dsimp only
   refine G.ownFact (v := x48) selT (fun hx48 _ => ?_)
   refine go [26,22,9,1024,1,22,10,0,1,27] ?_
   exact G.meet (x48) trT (.consE rfl veqT (.consE rfl veqT (.cons rfl (.cons rfl (.cons rfl (.cons rfl (.cons rfl (.cons rfl .nil)))))))) subT
  intro ov hJ
  try dsimp only at hJ
  try dsimp only
  refine go [9,10,2,3,2,2,4,1,1,7,8,9] ?_
  refine G.cutK (X := Int × Int × Value × (List HT) × MS) (ts := [0, 3, 4, 6, 7, 8, 9]) (p := [blk Dm 40 _, mpc vInt I64 bm _, clis _, own 57 3 _ _ _]) (fun st => StepOk (plM ms) (plM st.2.2.2.2) xs[i].1.cl cw xs[i].1.kd st.1 st.2.1 (ens xs[i].2.2) (st.2.2.2.1.map HT.pl) ∧ (∀ h ∈ st.2.2.2.1, Ro w0 (U []) (slc rEV Ps h.2.1 h.2.2)) ∧ st.2.2.2.1.length ≤ i) (fun st => [(10, .int .i64 st.1), (11, .int .i64 st.2.1), (5, st.2.2.1)]) (fun st => [blk Dm 40 [.map (some bm)], mpc vInt I64 bm (ptrs st.2.2.2.2), clis st.2.2.2.2, own 57 3 st.2.2.1 st.2.2.2.1.length (st.2.2.2.1.flatMap heC)]) (.cons rfl (.cons rfl (.cons rfl (.cons rfl (.cons rfl (.cons rfl (.cons rfl .nil))))))) subT (.cons (.cons (.cons .nil))) apT ?_ ?_
  ·refine go [9,10,2,3,0,2,4,7,8,15,9,10,2,13,1,7,8] ?_
   refine G.condP rfl (fun h53 => ?_) (fun h53 => ?_)
   ·refine go [10,0,2,3,1,2,4,2,3,2,2,4,2,3,3,2,4,2,3,4,2,4,2,3,5,2,4] ?_
    refine G.op rfl (G.cS rfl rfl rfl rfl Try.func15 rfl rfl subT (may1 (.old (hx2 ▸ hD))) (mtake_tr Dm bm ms xs[i].1.cl xs[i].1.n xs[i].1.cm xs[i].1.tk _ xs[i].2.2 hok o2) apT ?_)
    intro x66 hJ
    try dsimp only at hJ
    try dsimp only
    have hst := step_take (kd := xs[i].1.kd) (cm := xs[i].1.cm) (tk := xs[i].1.tk) (nn := xs[i].1.n) hok hinv hperm hcw2 hen rfl
    rw [← hJ] at hst
    obtain ⟨ee, hee⟩ : ∃ ee, (takeM (plM ms) xs[i].1.cl xs[i].1.n xs[i].1.cm xs[i].1.tk (ens xs[i].2.2)).1 = ee := ⟨_, rfl⟩
    rw [hee] at hst ⊢
    refine go [1,7,16] ?_
    exact G.meet ((xs[i].1.n, ee, hv, hs, x66)) Y17 (.consE rfl veqT (.consE rfl veqT (.consE rfl veqT (.cons rfl (.cons rfl (.cons rfl (.cons rfl (.cons rfl (.cons rfl (.cons rfl .nil)))))))))) subT
   refine G.seq ?_
   refine G.cutK (X := Unit) (ts := [0, 3, 4, 5, 6, 7, 8, 9, 10, 11, 52]) (p := []) (fun _ => True) (fun _ => [(67, .bool (decide (xs[i].1.kd = 1 ∨ xs[i].1.kd = 2 ∨ xs[i].1.kd = 3)))]) (fun _ => []) (.cons rfl (.cons rfl (.cons rfl (.cons rfl (.cons rfl (.cons rfl (.cons rfl (.cons rfl (.cons rfl (.cons rfl (.cons rfl .nil))))))))))) subT (.cons .nil) apT ?_ ?_
   ·refine go [9,10,2,13,1,7,8] ?_
    refine G.condP rfl (fun h67 => ?_) (fun h67 => ?_)
    ·refine G.skip ?_
     exact G.meet (()) trT (.consE rfl (by exact dec_e (by omega)) (.cons rfl (.cons rfl (.cons rfl (.cons rfl (.cons rfl (.cons rfl (.cons rfl (.cons rfl (.cons rfl (.cons rfl (.cons rfl .nil)))))))))))) subT
    refine go [9,10,2,13,1,7,8] ?_
    refine G.condP rfl (fun h67 => ?_) (fun h67 => ?_)
    ·refine G.skip ?_
     exact G.meet (()) trT (.consE rfl (by exact dec_e (by omega)) (.cons rfl (.cons rfl (.cons rfl (.cons rfl (.cons rfl (.cons rfl (.cons rfl (.cons rfl (.cons rfl (.cons rfl (.cons rfl .nil)))))))))))) subT
    refine go [10,2,13,1,7] ?_
    exact G.meet (()) trT (.consE rfl (by exact dec_e (by omega)) (.cons rfl (.cons rfl (.cons rfl (.cons rfl (.cons rfl (.cons rfl (.cons rfl (.cons rfl (.cons rfl (.cons rfl (.cons rfl .nil)))))))))))) subT
   intro _ hJ
   try dsimp only at hJ
   try dsimp only
   refine G.condP rfl (fun h67 => ?_) (fun h67 => ?_)
   ·refine go [10,0,2,3,1,2,4,2,3,3,2,4,2,3,4,2,4,2,3,5,2,4] ?_
    refine G.op rfl (G.cS rfl rfl rfl rfl Try.func10 rfl rfl subT (may1 (.old (hx2 ▸ hD))) (mback_tr Dm bm ms xs[i].1.cl xs[i].1.cm xs[i].1.tk _ xs[i].2.2 hok o2) apT ?_)
    intro x81 hJ
    try dsimp only at hJ
    try dsimp only
    have hst := step_back (kd := xs[i].1.kd) (cm := xs[i].1.cm) (tk := xs[i].1.tk) hok hinv hperm hcw2 (show ¬ xs[i].1.kd = 0 by omega) hen rfl rfl
    obtain ⟨R, hR9⟩ : ∃ R, backM (plM ms) xs[i].1.cl xs[i].1.cm xs[i].1.tk (ens xs[i].2.2) = R := ⟨_, rfl⟩
    rw [hR9] at hJ hst ⊢
    rw [← hJ] at hst
    refine go [0,2,7,2,7,1,1,7,16] ?_
    exact G.meet ((R.1.1, R.1.2, hv, hs, x81)) Y17 (.consE rfl veqT (.consE rfl veqT (.consE rfl veqT (.cons rfl (.cons rfl (.cons rfl (.cons rfl (.cons rfl (.cons rfl (.cons rfl .nil)))))))))) subT
   refine go [9,10,2,13,1,7,8] ?_
   refine G.condP rfl (fun h84 => ?_) (fun h84 => ?_)
   ·refine go [9,10,0,2,3,1,2,4,2,3,2,2,4] ?_
    refine G.op rfl (G.cS rfl rfl rfl rfl Try.func16 rfl rfl subT may0 (mforget_tr Dm bm ms xs[i].1.cl xs[i].1.n hok o2) apT ?_)
    intro x91 hJ
    try dsimp only at hJ
    try dsimp only
    have hf1 := forM_cut (pm := plM ms) (cl := xs[i].1.cl) (n := xs[i].1.n)
    have hf2 := forM_no0 (pm := plM ms) (cl := xs[i].1.cl) (n := xs[i].1.n)
    obtain ⟨R, hR9⟩ : ∃ R, forM (plM ms) xs[i].1.cl xs[i].1.n = R := ⟨_, rfl⟩
    rw [hR9] at hJ hf1 hf2 ⊢
    refine go [2,13,7,8] ?_
    refine G.condP rfl (fun h92 => ?_) (fun h92 => ?_)
    ·have hst := step_cut (kd := xs[i].1.kd) (nn := xs[i].1.n) (es := ens xs[i].2.2) hok hinv hperm [xs[i].1.n] hcw2
     rw [← hf1 (by assumption), ← hJ, ← cutH_pl] at hst
     refine go [10,0,2,3,1,2,4,2,3,2,2,4] ?_
     refine G.op rfl (G.lit1 (vs := [.int .i64 xs[i].1.n]) rfl Try.underlying42 kr rfl (by decide) (by decide) rfl rfl ?_)
     intro b98
     refine G.ownBlk (b := b98) (k := 1) (sz := 1) selT rfl (by omega) ?_
     rw [show own 3 1 (.slice (some ⟨b98, 0, none⟩) 1 1) 1 [.int .i64 xs[i].1.n] = own 3 1 (.slice (some ⟨b98, 0, none⟩) 1 1) ([xs[i].1.n] : List Int).length (([xs[i].1.n] : List Int).map vInt) from rfl]
     refine G.op rfl (G.cS rfl rfl rfl rfl Try.func21 rfl rfl subT (may2 (may_held selT) (may_own selT rfl (one_i64 o3))) (without_tr hv _ hs [xs[i].1.n] xs[i].1.cl hone (by omega)) apT ?_)
     intro x99 hJ
     try dsimp only at hJ
     try dsimp only
     refine go [1,7,16] ?_
     exact G.meet ((xs[i].1.n, 9, x99, (cutH xs[i].1.cl [xs[i].1.n] hs), x91)) (by first | exact trivial | ((try dsimp only) <;> exact ⟨hst, fun h hh => hro2 h (cutH_mem hh), Nat.le_trans (cutH_le _ _ _) hhl⟩)) (.consE rfl veqT (.consE rfl veqT (.consE rfl veqT (.cons rfl (.cons rfl (.cons rfl (.cons rfl (.cons rfl (.cons rfl (.cons rfl .nil)))))))))) subT
    have e9 : plM x91 = plM ms := hJ.trans (hf2 (by assumption))
    have hst : StepOk (plM ms) (plM x91) xs[i].1.cl cw xs[i].1.kd xs[i].1.n 9 (ens xs[i].2.2) (hs.map HT.pl) := by rw [e9]; exact step_same hok hinv hperm (fun e => by cases e)
    refine go [13,16] ?_
    exact G.meet ((xs[i].1.n, 9, hv, hs, x91)) Y17 (.consE rfl veqT (.consE rfl veqT (.consE rfl veqT (.cons rfl (.cons rfl (.cons rfl (.cons rfl (.cons rfl (.cons rfl (.cons rfl .nil)))))))))) subT
   refine go [9,10,2,13,1,7,8] ?_
   refine G.condP rfl (fun h100 => ?_) (fun h100 => ?_)
   ·refine go [9,10,0,2,3,1,2,4,2,3,6] ?_
    refine G.op rfl (G.val rfl rfl (pv_loadN (cs := [_, _, _]) Try.underlying29 rfl kr rfl (by first | exact blk_range (k := 3) selD (by rfl) | exact ro_rng0 (by assumption) | exact rng_range (k := 3) selD (by rfl) | exact ro_range (k := 3) (by assumption) (by rfl) | exact ro_rngR (k := 3) (by assumption) (by rfl))) ?_)
    refine G.op rfl (G.cS rfl rfl rfl rfl Try.func13 rfl rfl subT may0 (mexpire_tr Dm bm ms xs[i].1.cl xs[i].1.pa xs[i].1.pb xs[i].1.pc hok o2) apT ?_)
    intro x108 hJ
    obtain ⟨y108, x108⟩ := x108
    try dsimp only at hJ
    try dsimp only
    have hf1 := expM_cut (pm := plM ms) (cl := xs[i].1.cl) (a := xs[i].1.pa) (b := xs[i].1.pb) (c := xs[i].1.pc)
    have hf2 := expM_no0 (pm := plM ms) (cl := xs[i].1.cl) (a := xs[i].1.pa) (b := xs[i].1.pb) (c := xs[i].1.pc)
    have hfi := expM_i64 hok xs[i].1.cl xs[i].1.pa xs[i].1.pb xs[i].1.pc
    obtain ⟨R, hR9⟩ : ∃ R, expM (plM ms) xs[i].1.cl xs[i].1.pa xs[i].1.pb xs[i].1.pc = R := ⟨_, rfl⟩
    rw [hR9] at hJ hf1 hf2 hfi ⊢
    refine G.ownFact (v := y108) selT (fun hy108 _ => ?_)
    refine go [0,2,7,2,7,1,1,7,8,9,10,0,2,13,7,8] ?_
    refine G.condP rfl (fun h112 => ?_) (fun h112 => ?_)
    ·have hst := step_cut (kd := xs[i].1.kd) (nn := xs[i].1.n) (es := ens xs[i].2.2) hok hinv hperm R.1.1 hcw2
     rw [← hf1 (by assumption), ← hJ, ← cutH_pl] at hst
     refine go [10,0,2,3,1,2,4,0] ?_
     refine G.op rfl (G.cS rfl rfl rfl rfl Try.func21 rfl rfl subT (may2 (may_held selT) (may_own selT rfl hfi)) (without_tr hv _ hs R.1.1 xs[i].1.cl hone (by omega)) apT ?_)
     intro x117 hJ
     try dsimp only at hJ
     try dsimp only
     refine go [1,7,16] ?_
     exact G.meet ((xs[i].1.n, 9, x117, (cutH xs[i].1.cl R.1.1 hs), x108)) (by first | exact trivial | ((try dsimp only) <;> exact ⟨hst, fun h hh => hro2 h (cutH_mem hh), Nat.le_trans (cutH_le _ _ _) hhl⟩)) (.consE rfl veqT (.consE rfl veqT (.consE rfl veqT (.cons rfl (.cons rfl (.cons rfl (.cons rfl (.cons rfl (.cons rfl (.cons rfl .nil)))))))))) subT
    have e9 : plM x108 = plM ms := hJ.trans (hf2 (by assumption))
    have hst : StepOk (plM ms) (plM x108) xs[i].1.cl cw xs[i].1.kd xs[i].1.n 9 (ens xs[i].2.2) (hs.map HT.pl) := by rw [e9]; exact step_same hok hinv hperm (fun e => by cases e)
    refine go [13,16] ?_
    exact G.meet ((xs[i].1.n, 9, hv, hs, x108)) Y17 (.consE rfl veqT (.consE rfl veqT (.consE rfl veqT (.cons rfl (.cons rfl (.cons rfl (.cons rfl (.cons rfl (.cons rfl (.cons rfl .nil)))))))))) subT
   have hst : StepOk (plM ms) (plM ms) xs[i].1.cl cw xs[i].1.kd xs[i].1.n 9 (ens xs[i].2.2) (hs.map HT.pl) := step_same hok hinv hperm (fun e => by cases e)
   refine go [13,16] ?_
   exact G.meet ((xs[i].1.n, 9, hv, hs, ms)) Y17 (.consE rfl veqT (.consE rfl veqT (.consE rfl veqT (.cons rfl (.cons rfl (.cons rfl (.cons rfl (.cons rfl (.cons rfl (.cons rfl .nil)))))))))) subT
  intro st hJ
  obtain ⟨nn, ee, hv2, hs2, ms2⟩ := st
  try dsimp only at hJ
  try dsimp only
  obtain ⟨hst, hro4, hhl2⟩ := hJ
  have hok2 := hst.ok
  refine G.seq ?_
  refine G.cutK (X := Value × (List HT)) (ts := [0, 3, 4, 6, 7, 8, 9, 10, 11]) (p := [own 57 3 _ _ _]) (fun st => (st.2.map HT.pl).Perm (flatM (plM ms2)) ∧ (∀ h ∈ st.2, Ro w0 (U []) (slc rEV Ps h.2.1 h.2.2)) ∧ st.2.length ≤ i + 1) (fun st => [(5, st.1)]) (fun st => [own 57 3 st.1 st.2.length (st.2.flatMap heC)]) (.cons rfl (.cons rfl (.cons rfl (.cons rfl (.cons rfl (.cons rfl (.cons rfl (.cons rfl (.cons rfl .nil))))))))) subT (.cons .nil) apT ?_ ?_
  ·refine G.seq ?_
   refine G.cutK (X := Unit) (ts := [0, 3, 4, 5, 6, 7, 8, 9, 10, 11]) (p := []) (fun _ => True) (fun _ => [(124, .bool (decide (ee = 0 ∧ (plGet (plM ms) xs[i].1.cl).1 < nn)))]) (fun _ => []) (.cons rfl (.cons rfl (.cons rfl (.cons rfl (.cons rfl (.cons rfl (.cons rfl (.cons rfl (.cons rfl (.cons rfl .nil)))))))))) subT (.cons .nil) apT ?_ ?_
   ·refine go [10,0,2,13,0] ?_
    refine G.partP (t := 120) rfl (fun h120 => ?_) (fun h120 => ?_)
    ·refine go [3,0,3,0,3,10,2,2,7] ?_
     exact G.meet (()) trT (.consE rfl (by first | exact dec_e ⟨fun h => ⟨by assumption, h⟩, fun h => h.2⟩ | exact dec_f (fun h => absurd h.1 (by assumption))) (.cons rfl (.cons rfl (.cons rfl (.cons rfl (.cons rfl (.cons rfl (.cons rfl (.cons rfl (.cons rfl (.cons rfl .nil))))))))))) subT
    refine go [4,4,4,2,2,7] ?_
    exact G.meet (()) trT (.consE rfl (by first | exact dec_e ⟨fun h => ⟨by assumption, h⟩, fun h => h.2⟩ | exact dec_f (fun h => absurd h.1 (by assumption))) (.cons rfl (.cons rfl (.cons rfl (.cons rfl (.cons rfl (.cons rfl (.cons rfl (.cons rfl (.cons rfl (.cons rfl .nil))))))))))) subT
   intro _ hJ
   try dsimp only at hJ
   try dsimp only
   refine G.condP rfl (fun h124 => ?_) (fun h124 => ?_)
   ·have hp2 := hst.perm
    rw [if_pos (by assumption)] at hp2
    refine go [10,0,2,3,1,2,4,0,2,3,5,2,4] ?_
    refine G.op rfl (G.val rfl rfl (pv_buildSt (z := [.int .i64 0, .int .i64 0, .slice none 0 0]) (pl := [(0, 1), (1, 1), (2, 1)]) Try.underlying57 kr kr rfl flT) ?_)
    refine G.op rfl (G.buildSlice (z := .agg #[.int .i64 0, .int .i64 0, .slice none 0 0]) (sz := 3) (cs := heC ((xs[i].1.cl, nn), (Value.slice aD xs[i].2.2.length cD), xs[i].2.2)) rfl Try.underlying54 kr (by decide) (by decide) rfl kr ?_)
    intro b132
    refine G.op rfl (G.append (k := hs2.length) (j := 1) (cs := hs2.flatMap heC) (news := heC ((xs[i].1.cl, nn), (Value.slice aD xs[i].2.2.length cD), xs[i].2.2)) (b := b132) (off := 0) rfl Try.underlying54 Try.infoHe rfl rfl rfl selT (fun _ => rfl) (fun h => by cases h) rfl (blk_news (k := 3) selT rfl) (heC_one (x := ((xs[i].1.cl, nn), (Value.slice aD xs[i].2.2.length cD), xs[i].2.2)) rfl) (by omega) (by omega) ?_)
    intro vn
    rw [he_app]
    refine go [1,7] ?_
    exact G.meet ((vn, hs2 ++ [((xs[i].1.cl, nn), (Value.slice aD xs[i].2.2.length cD), xs[i].2.2)])) (by first | exact trivial | ((try dsimp only) <;> exact ⟨by rw [List.map_append]; exact hp2, (fun h hh => by rcases List.mem_append.1 hh with hh | hh; exact hro4 h hh; obtain rfl : h = _ := (by simpa using hh); exact hx2 ▸ hD), by rw [List.length_append]; exact Nat.succ_le_succ hhl2⟩)) (.consE rfl veqT (.cons rfl (.cons rfl (.cons rfl (.cons rfl (.cons rfl (.cons rfl (.cons rfl (.cons rfl (.cons rfl .nil)))))))))) subT
   have hp2 := hst.perm
   rw [if_neg (by assumption)] at hp2
   refine G.skip ?_
   exact G.meet ((hv2, hs2)) (by first | exact trivial | ((try dsimp only) <;> exact ⟨hp2, hro4, Nat.le_succ_of_le hhl2⟩)) (.consE rfl veqT (.cons rfl (.cons rfl (.cons rfl (.cons rfl (.cons rfl (.cons rfl (.cons rfl (.cons rfl (.cons rfl .nil)))))))))) subT
  intro st hJ
  obtain ⟨hv3, hs3⟩ := st
  try dsimp only at hJ
  try dsimp only
  obtain ⟨hp3, hro3, hhl3⟩ := hJ
  refine go [9,10,0,2,13,0] ?_
  refine G.partP (t := 136) rfl (fun h136 => ?_) (fun h136 => ?_)
  ·have hgr := hst.great (by assumption)
   have hz0 := hst.no0 (by assumption)
   refine go [3,0,3,3,1,3,4] ?_
   refine G.want rfl rfl rfl (G.cS rfl rfl rfl rfl Try.func17 rfl rfl subT may0 (great_tr Dm bm ms2 xs[i].1.cl hok2 o2) apT ?_)
   intro x140 hJ
   try dsimp only at hJ
   try dsimp only
   rw [hgr]
   refine go [3,0,3,0] ?_
   refine G.want rfl rfl rfl (G.val rfl rfl (pv_max rfl rfl) ?_)
   refine G.want rfl rfl rfl (G.val rfl rfl ((pv_neq rfl rfl).cast (v' := .bool false) (congrArg Value.bool (decide_eq_false (fun h => h rfl)))) ?_)
   refine go [3,0,3,3,0,3,4,3,13,3,0] ?_
   refine G.partP (t := 149) rfl (fun h149 => ?_) (fun h149 => ?_)
   ·refine go [3,0,3,0] ?_
    refine G.want rfl rfl rfl (G.val rfl rfl ((pv_leq rfl rfl).cast (v' := .bool false) (congrArg Value.bool (decide_eq_false (hz0 (by assumption))))) ?_)
    refine go [3,2,3,2,2,2,0,3,0,3,3,1,3,4] ?_
    refine G.want rfl rfl rfl (G.val rfl rfl (pv_addk rfl rfl) ?_)
    rw [hcw]
    refine G.want rfl rfl rfl (G.cS rfl rfl rfl rfl Try.func11 rfl rfl subT may0 (list_tr Dm bm ms2 cw hok2 hcw1) apT ?_)
    intro x161 hJ
    try dsimp only at hJ
    try dsimp only
    rw [hst.other]
    refine go [3,0] ?_
    refine G.want rfl rfl rfl (G.cR rfl rfl rfl rfl Try.func12 rfl rfl (may2 (may_ls selT) (may_ls selT)) (slist_self _ _ (lsM (plGet (plM ms) cw).2)) ?_)
    refine go [3,25,2,2,7,8,60,0,13,16,8,10,0,2,6,1,7] ?_
    exact G.next ((i + 1, (ms2, hv3, hs3))) Y19 (by (try dsimp only); omega) (.consE rfl veqT (.consE rfl veqT (.cons rfl (.cons rfl (.cons rfl .nil))))) subT
   refine go [4,4,4,3,2,3,2,2,2,0,3,0,3,3,1,3,4] ?_
   refine G.want rfl rfl rfl (G.val rfl rfl (pv_addk rfl rfl) ?_)
   rw [hcw]
   refine G.want rfl rfl rfl (G.cS rfl rfl rfl rfl Try.func11 rfl rfl subT may0 (list_tr Dm bm ms2 cw hok2 hcw1) apT ?_)
   intro x161 hJ
   try dsimp only at hJ
   try dsimp only
   rw [hst.other]
   refine go [3,0] ?_
   refine G.want rfl rfl rfl (G.cR rfl rfl rfl rfl Try.func12 rfl rfl (may2 (may_ls selT) (may_ls selT)) (slist_self _ _ (lsM (plGet (plM ms) cw).2)) ?_)
   refine go [3,25,2,2,7,8,60,0,13,16,8,10,0,2,6,1,7] ?_
   exact G.next ((i + 1, (ms2, hv3, hs3))) Y19 (by (try dsimp only); omega) (.consE rfl veqT (.consE rfl veqT (.cons rfl (.cons rfl (.cons rfl .nil))))) subT
  refine go [4,4,4,4,4,4,4,4,4,6,6,6,6,6,6,6,6,4,2,2,0,3,0,3,3,1,3,4] ?_
  refine G.want rfl rfl rfl (G.val rfl rfl (pv_addk rfl rfl) ?_)
  rw [hcw]
  refine G.want rfl rfl rfl (G.cS rfl rfl rfl rfl Try.func11 rfl rfl subT may0 (list_tr Dm bm ms2 cw hok2 hcw1) apT ?_)
  intro x161 hJ
  try dsimp only at hJ
  try dsimp only
  rw [hst.other]
  refine go [3,0] ?_
  refine G.want rfl rfl rfl (G.cR rfl rfl rfl rfl Try.func12 rfl rfl (may2 (may_ls selT) (may_ls selT)) (slist_self _ _ (lsM (plGet (plM ms) cw).2)) ?_)
  refine go [3,25,2,2,7,8,60,0,13,16,8,10,0,2,6,1,7] ?_
  exact G.next ((i + 1, (ms2, hv3, hs3))) Y19 (by (try dsimp only); omega) (.consE rfl veqT (.consE rfl veqT (.cons rfl (.cons rfl (.cons rfl .nil))))) subT
 obtain rfl : i = xs.length := by omega
 refine G.ownNews (v := hv) selT (fun za zc zk hzv hkz hmz hadz hnilz hnewz => ?_)
 subst hzv
 refine go [18,14,14,19,8,9,9,10,1,7,8,15] ?_
 refine G.loopK (X := Nat) (ts := [3, 4, 5]) (fun j => j ≤ hs.length) (fun j => [(14, .int .i64 (j : Int))]) (fun j => [blk Dm 40 [.map (some bm)], mpc vInt I64 bm (ptrs ms), clis ms]) (fun j => hs.length - j) (x0 := 0) (.cons rfl (.cons rfl (.cons rfl .nil))) subT (.cons .nil) apT Y13 (.consE rfl veqT .nil) (fun j hJ => ?_)
 try dsimp only at hJ
 try dsimp only
 have hkj := hJ
 refine go [9,9,10,0,0,2,5,2,9,7,8] ?_
 refine G.condP rfl (fun h169 => ?_) (fun h169 => ?_)
 ·have hlj : j < hs.length := by omega
  have hD := hro2 _ (List.getElem_mem hlj)
  obtain ⟨aD, cD, bD, oD, hx2, hcD, hmD, -, -, helD⟩ := Ro.openT hD
  have hmem : hs[j].pl ∈ flatM (plM ms) := hperm.mem_iff.1 (List.mem_map_of_mem (List.getElem_mem hlj))
  have hgt : getM (plM ms) hs[j].1.1 hs[j].1.2 = (ens hs[j].2.2, 0) := get_held hinv hmem
  have hci : I64 hs[j].1.1 := held_i64 hok hmem
  have hen : ∀ e ∈ ens hs[j].2.2, EnOk e := fun e he => by obtain ⟨y, hy, rfl⟩ := List.mem_map.1 he; obtain ⟨q, hq, rfl⟩ := List.getElem_of_mem hy; exact Ro.evOk (helD q hq)
  have hjo := hone _ (List.getElem_mem hlj)
  refine go [13,8,9,15,9] ?_
  refine G.cutK (X := Value × (List ET)) (ts := [3, 4, 5, 14]) (p := [blk Dm 40 _, mpc vInt I64 bm _, clis _]) (fun st => ens st.2 = ens hs[j].2.2) (fun st => [(15, st.1), (16, .int .i64 0)]) (fun st => [ownT 89 st.1 st.2, datC 5 st.2, blk Dm 40 [.map (some bm)], mpc vInt I64 bm (ptrs ms), clis ms]) (.cons rfl (.cons rfl (.cons rfl (.cons rfl .nil)))) subT (.cons (.cons .nil)) apT ?_ ?_
  ·refine G.drawT (nn := 17) (p := [blk Dm 40 _, mpc vInt I64 bm _, clis _]) (rem := 131071) [0, 0, 0, 6, 8, 16, 0, 0, 192, 256, 512, 1057, 2048, 4096, 4096, 16383, 65535] [0, 0, 0, 6, 8, 16, 0, 0, 192, 256, 512, 1057, 2048, 4096, 4096, 8192, 16384] kr ⟨rfl, by kernel_rfl, by kernel_rfl⟩ subT kr (fun hT33 => ?_)
   refine go [22,0,131070,0,22,1,131068,0,22,2,131064,0] ?_
   refine G.takeT hT33 (i := 3) (rem' := 131056) rfl rfl rfl kr (fun _ _ _ h => h) rfl (pv_ixSl (sz := 3) (k := j) Try.underlying54 kr rfl rfl hadz rfl (by omega)) subT ?_
   refine go [22,4,131040,3,0,22,6,130976,0,22,7,130848,0] ?_
   refine G.takeT hT33 (i := 8) (rem' := 130592) rfl rfl rfl kr (fun _ _ _ h => h) rfl (pv_ixSl (sz := 3) (k := j) Try.underlying54 kr rfl rfl hadz rfl (by omega)) subT ?_
   refine go [22,9,130080,3,1] ?_
   refine G.twoT hT33 (i := 5) (j := 10) (rem' := 130048) (rem'' := 129056) kr kr kr ?_ ?_
   ·refine G.turnOp rfl rfl (G.val rfl rfl (pv_load (v := .int .i64 hs[j].1.1) Try.underlying3 rfl rfl (fun w hw => news_row heC_len (hnewz selT w hw) hlj 0 _ rfl)) ?_)
    refine go [26,24,10,129024] ?_
    refine G.turnOp rfl rfl (G.val rfl rfl (pv_load (v := .int .i64 hs[j].1.2) Try.underlying3 rfl rfl (fun w hw => news_row heC_len (hnewz selT w hw) hlj 1 _ rfl)) ?_)
    refine go [26,24,11,126976] ?_
    refine G.turnOp rfl rfl (G.cS rfl rfl rfl rfl Try.func14 rfl rfl subT may0 (mget_tr Dm bm ms hs[j].1.1 hs[j].1.2 hok hci) apT ?_)
    intro x184 hJ
    obtain ⟨y184, ys⟩ := x184
    try dsimp only at hJ
    try dsimp only
    rw [hgt] at hJ ⊢
    have hys : ens ys = ens hs[j].2.2 := hJ
    refine G.ownFact (v := y184) selT (fun hy184 _ => ?_)
    refine go [26,22,12,122880,0,22,13,114688,7,22,14,98304,7,22,15,65536,1,22,16,0,1,27] ?_
    exact G.meet ((y184, ys)) (by first | exact trivial | ((try dsimp only) <;> exact hys)) (.consE rfl veqT (.consE rfl veqT (.cons rfl (.cons rfl (.cons rfl (.cons rfl .nil)))))) subT
   refine G.turnOp rfl rfl (G.val rfl rfl (pv_load (v := .int .i64 hs[j].1.2) Try.underlying3 rfl rfl (fun w hw => news_row heC_len (hnewz selT w hw) hlj 1 _ rfl)) ?_)
   refine go [26,24,5,129024] ?_
   refine G.turnOp rfl rfl (G.val rfl rfl (pv_load (v := .int .i64 hs[j].1.1) Try.underlying3 rfl rfl (fun w hw => news_row heC_len (hnewz selT w hw) hlj 0 _ rfl)) ?_)
   refine go [26,24,11,126976] ?_
   refine G.turnOp rfl rfl (G.cS rfl rfl rfl rfl Try.func14 rfl rfl subT may0 (mget_tr Dm bm ms hs[j].1.1 hs[j].1.2 hok hci) apT ?_)
   intro x184 hJ
   obtain ⟨y184, ys⟩ := x184
   try dsimp only at hJ
   try dsimp only
   rw [hgt] at hJ ⊢
   have hys : ens ys = ens hs[j].2.2 := hJ
   refine G.ownFact (v := y184) selT (fun hy184 _ => ?_)
   refine go [26,22,12,122880,0,22,13,114688,7,22,14,98304,7,22,15,65536,1,22,16,0,1,27] ?_
   exact G.meet ((y184, ys)) (by first | exact trivial | ((try dsimp only) <;> exact hys)) (.consE rfl veqT (.consE rfl veqT (.cons rfl (.cons rfl (.cons rfl (.cons rfl .nil)))))) subT
  intro st hJ
  obtain ⟨y, ys⟩ := st
  try dsimp only at hJ
  try dsimp only
  have hys := hJ
  have hyok : ∀ x ∈ ys, EnOk x.1 := fun x hx => hen _ (hys ▸ List.mem_map_of_mem hx)
  refine go [9,10,0] ?_
  refine G.op rfl (G.val rfl rfl ((pv_neq rfl rfl).cast (v' := .bool false) (congrArg Value.bool (decide_eq_false (fun h => h rfl)))) ?_)
  refine go [0,3,0,3,0,3,0] ?_
  refine G.want rfl rfl rfl (G.val rfl rfl (pv_ixSl (sz := 3) (k := j) Try.underlying54 kr rfl rfl hadz rfl (by omega)) ?_)
  refine go [3,3,2] ?_
  refine G.want rfl rfl rfl (G.val rfl rfl (pv_load (v := hs[j].2.1) Try.underlying27 rfl rfl (fun w hw => news_row heC_len (hnewz selT w hw) hlj 2 _ rfl)) ?_)
  refine G.want rfl rfl rfl (G.cR rfl rfl rfl rfl Try.func22 rfl rfl (may2 (may_tree selT selT hyok) (.old hD)) (tsame_yes9 _ _ ys hs[j].2.2 hys) ?_)
  refine go [3,25,2,2,0,3,0,3,0,3,0] ?_
  refine G.want rfl rfl rfl (G.val rfl rfl (pv_ixSl (sz := 3) (k := j) Try.underlying54 kr rfl rfl hadz rfl (by omega)) ?_)
  refine go [3,3,2] ?_
  refine G.want rfl rfl rfl (G.val rfl rfl (pv_load (v := hs[j].2.1) Try.underlying27 rfl rfl (fun w hw => news_row heC_len (hnewz selT w hw) hlj 2 _ rfl)) ?_)
  refine G.want rfl rfl rfl (G.cR rfl rfl rfl rfl Try.func23 rfl rfl (may2 (may_tree selT selT hyok) (.old hD)) (tree_yes9 _ _ ys hs[j].2.2 hys) ?_)
  refine go [3,25,2,2,7,8,60,0,13,16,8,10,0,2,6,1,7] ?_
  exact G.next (j + 1) Y7 (by (try dsimp only); omega) (.consE rfl veqT (.cons rfl (.cons rfl (.cons rfl .nil)))) subT
 obtain rfl : j = hs.length := by omega
 refine go [18,14,14,19,8,9,10,0,0,3,0] ?_
 refine G.want rfl rfl rfl (G.cS rfl rfl rfl rfl Try.func24 rfl rfl subT may0 (listed_tr Dm bm ms hok (by omega)) apT ?_)
 intro x212 hJ
 try dsimp only at hJ
 try dsimp only
 rw [cnt_flat hinv, ← hperm.length_eq, List.length_map]
 refine go [3,0,3,5] ?_
 refine G.want rfl rfl rfl (G.val rfl rfl ((pv_eql rfl rfl).cast (v' := .bool true) (congrArg Value.bool (decide_eq_true rfl))) ?_)
 refine go [2,2,1,7,8,11] ?_
 exact G.done0G rfl (Rv.tmp rfl Rv.nil) Y4
end Go.Proofs.Ytakeannapfaodaa
set_option maxRecDepth 100000
set_option linter.unusedVariables false
set_option linter.unusedSimpArgs false
namespace Go.Proofs.Ytakeannapfaodaa
open Go.ChangeShapes Go.WideShapes Go.ChangeAt Go.RowKit Go.Deep
section
variable {H : Type} {enc : TypeId × Value → H} {W : World}
theorem opn_weak {P : Program} {α β : Type} {t : TypeId} {E : Rdr α} {F : Rdr β} (h : Opn H enc P W t E) (hs : E.sz = F.sz) (hf : ∀ Ps w b o a, E.R Ps w b o a → ∃ a', F.R Ps w b o a') : Opn H enc P W t F := ⟨h.sz.trans hs, fun fuel cs x b o hx hwt hA hb => by
 obtain ⟨a, ha⟩ := h.mem fuel cs x b o hx hwt hA hb
 exact hf _ _ _ _ _ ha⟩
theorem opn_entry : Opn H enc Try.prog W 89 rEV := by
 refine opn_weak (opn_struct Try.underlying89 (F := rProd rStrB (rProd rInt (rProd rInt (rProd (rSlB rByte) (rProd rStrB rUnit))))) kr
  (.cons (opn_str Try.underlying9 kr) rfl (.cons (opn_int Try.underlying3 kr) rfl (.cons (opn_int Try.underlying3 kr) rfl
   (.cons (opn_rSl Try.underlying87 kr (of_decide_eq_true kr) (opn_byte Try.underlying5 kr) (by decide)) rfl (.cons (opn_str Try.underlying9 kr) rfl .nil)))))) rfl ?_
 rintro Ps w b o ⟨a0, a1, a2, a3, a4, _⟩ ⟨⟨hb, h0, l0⟩, ⟨_, h1, l1⟩, ⟨_, h2, l2⟩, ⟨⟨_, d, h3, hd⟩, l3⟩, ⟨_, h4, l4⟩, _⟩
 refine ⟨(⟨a0, a1, a2, a3, a4⟩, d), hb, fun j v hj => ?_, hd, l1, l2, l0, l3, l4⟩
 have hlt : j < 5 := by
  have := (List.getElem?_eq_some_iff.1 hj).1
  exact this
 rcases (by omega : j = 0 ∨ j = 1 ∨ j = 2 ∨ j = 3 ∨ j = 4) with rfl | rfl | rfl | rfl | rfl
 ·obtain rfl : _ = v := Option.some.inj hj
  exact h0
 ·obtain rfl : _ = v := Option.some.inj hj
  exact h1
 ·obtain rfl : _ = v := Option.some.inj hj
  exact h2
 ·obtain rfl : _ = v := Option.some.inj hj
  exact h3
 obtain rfl : _ = v := Option.some.inj hj
 exact h4
end
end Go.Proofs.Ytakeannapfaodaa
set_option maxRecDepth 100000
set_option linter.unusedVariables false
set_option linter.unusedSimpArgs false
namespace Go.Proofs.Ytakeannapfaodaa
open Go.ChangeShapes Go.WideShapes Go.ChangeAt Go.RowKit Go.Deep
section
variable {H : Type} {enc : TypeId × Value → H} {W : World}
theorem opn_i : Opn H enc Try.prog W 3 rInt := opn_int Try.underlying3 kr
theorem opn_act : Opn H enc Try.prog W 31 rAT := by
 refine opn_weak (opn_struct Try.underlying31 (F := rProd rInt (rProd rInt (rProd rInt (rProd rInt (rProd rInt (rProd (rSlB rEV) (rProd (rProd rInt (rProd rInt (rProd rInt rUnit))) rUnit))))))) kr
  (.cons opn_i rfl (.cons opn_i rfl (.cons opn_i rfl (.cons opn_i rfl (.cons opn_i rfl
   (.cons (opn_rSl Try.underlying27 kr (of_decide_eq_true kr) opn_entry (by decide)) rfl
    (.cons (opn_struct Try.underlying29 (F := rProd rInt (rProd rInt (rProd rInt rUnit))) kr (.cons opn_i rfl (.cons opn_i rfl (.cons opn_i rfl .nil)))) rfl .nil)))))))) rfl ?_
 rintro Ps w b o ⟨a0, a1, a2, a3, a4, a5, ⟨a6, a7, a8, _⟩, _⟩ ⟨⟨hb, h0, l0⟩, ⟨_, h1, l1⟩, ⟨_, h2, l2⟩, ⟨_, h3, l3⟩, ⟨_, h4, l4⟩, ⟨⟨_, d, h5, hd⟩, l5⟩, ⟨⟨_, h6, l6⟩, ⟨_, h7, l7⟩, ⟨_, h8, l8⟩, _⟩, _⟩
 refine ⟨(⟨a0, a1, a2, a3, a4, a6, a7, a8⟩, d, a5), hb, fun j v hj => ?_, hd, ⟨l0, l1, l2, l3, l4, l6, l7, l8⟩, l5⟩
 have hlt : j < 9 := by
  have := (List.getElem?_eq_some_iff.1 hj).1
  exact this
 rcases (by omega : j = 0 ∨ j = 1 ∨ j = 2 ∨ j = 3 ∨ j = 4 ∨ j = 5 ∨ j = 6 ∨ j = 7 ∨ j = 8) with rfl | rfl | rfl | rfl | rfl | rfl | rfl | rfl | rfl
 ·obtain rfl : _ = v := Option.some.inj hj
  exact h0
 ·obtain rfl : _ = v := Option.some.inj hj
  exact h1
 ·obtain rfl : _ = v := Option.some.inj hj
  exact h2
 ·obtain rfl : _ = v := Option.some.inj hj
  exact h3
 ·obtain rfl : _ = v := Option.some.inj hj
  exact h4
 ·obtain rfl : _ = v := Option.some.inj hj
  exact h5
 ·obtain rfl : _ = v := Option.some.inj hj
  exact h6
 ·obtain rfl : _ = v := Option.some.inj hj
  exact h7
 obtain rfl : _ = v := Option.some.inj hj
 exact h8
theorem opn_acts {v : Value} {d : DataW H} {p : List MemPlace} {r : Reach} {base : Nat} (hok : Value.okWide Try.prog W r base 22 v) (h : DataW.Trod enc Try.prog W 0 (fun _ => true) true 22 v d p)
 {ts : List TypeId} {ds : List (DataW H)} {j : Nat} (hsz : (DataW.weightsEach Try.prog ts ds).all (· ≤ reachBytes) = true) (hts : ts[j]? = some 22) (hds : ds[j]? = some d) :
 ∃ xs : List AT, Ro W (fun _ => False) (slc rAT (· < W.heap.size) v xs) ∧ xs.length ≤ 140737488355328 :=
 opn_arg Try.underlying22 (of_decide_eq_true kr) opn_act (by decide) hok h hsz hts hds
end
end Go.Proofs.Ytakeannapfaodaa
