/- Merged of XG, TreeOpn, ModOpn. Conditions: none. -/
import Derived.Test.YtakeannapfaodaaAb
import Derived.ChangeMaps5
namespace Go.Proofs.Ytakeannapfaodaa
open Go.RowKit
set_option linter.unusedVariables false
set_option linter.unusedSimpArgs false
structure Ac where
 kd : Int
 cl : Int
 n : Int
 cm : Int
 tk : Int
 pa : Int
 pb : Int
 pc : Int
abbrev AT := Ac × Value × List ET
def acC (x : AT) : List Value := [vInt x.1.kd, vInt x.1.cl, vInt x.1.n, vInt x.1.cm, vInt x.1.tk, x.2.1, vInt x.1.pa, vInt x.1.pb, vInt x.1.pc]
def AcOk (x : Ac) : Prop := I64 x.kd ∧ I64 x.cl ∧ I64 x.n ∧ I64 x.cm ∧ I64 x.tk ∧ I64 x.pa ∧ I64 x.pb ∧ I64 x.pc
def rAT : Rdr AT where
 sz := 9
 R := fun Ps w b o x => Ps b ∧ w.rangeAt b o (acC x) ∧ IsSl rEV Ps w x.2.1 x.2.2 ∧ AcOk x.1 ∧ x.2.2.length ≤ 140737488355328
 loc := fun h ⟨h1, h2, h3, h4⟩ => ⟨h1, rangeAt_loc (h _ h1) h2, h3.loc h, h4⟩
 mono := fun h ⟨h1, h2, h3, h4⟩ => ⟨h _ h1, h2, h3.mono h, h4⟩
section
variable {n : Nat} {w0 : World} {S : Nat → Prop} {l : Fr} {m : List Ck} {K : Act → World → Prop} {Ps : Nat → Prop} {b o : Nat} {x : AT}
theorem Ro.atRng (h : Ro w0 S (elc rAT Ps b o x)) : Ro w0 S (rng b o [.int .i64 x.1.kd, .int .i64 x.1.cl, .int .i64 x.1.n, .int .i64 x.1.cm, .int .i64 x.1.tk, x.2.1, .int .i64 x.1.pa, .int .i64 x.1.pb, .int .i64 x.1.pc]) := ⟨h.1.2.1, fun k hk => h.2 k (by obtain rfl : k = b := hk; exact h.1.1)⟩
theorem Ro.atTree (h : Ro w0 S (elc rAT Ps b o x)) : Ro w0 S (slc rEV Ps x.2.1 x.2.2) := ⟨h.1.2.2.1, h.2⟩
theorem Ro.atOk (h : Ro w0 S (elc rAT Ps b o x)) : AcOk x.1 := h.1.2.2.2.1
end
def longP (xs : List AT) : Prop := (∃ x ∈ xs.take 41, bigM (ens x.2.2) 20 2000) ∨ 40 < xs.length
instance (xs : List AT) : Decidable (longP xs) := by
 unfold longP
 exact inferInstance
theorem long_all {xs : List AT} (h : ¬ longP xs) : xs.length ≤ 40 ∧ ∀ x ∈ xs, ¬ bigM (ens x.2.2) 20 2000 := by
 obtain ⟨h1, h2⟩ := not_or.1 h
 refine ⟨by omega, fun x hx hb => h1 ⟨x, ?_, hb⟩⟩
 rwa [List.take_of_length_le (by omega)]
theorem plGet_set (pm : PM) (c : Int) (z : Int × List Sp) : plGet (plSet pm c z) c = z := by
 induction pm with
 | nil => simp [plSet, plGet]
 | cons p pm ih =>
  obtain ⟨k, y⟩ := p
  by_cases h : k = c
  ·simp [plSet, plGet, h]
  simp only [plSet, if_neg h, plGet]
  exact ih
theorem lastOf_snoc (l : List Sp) (s : Sp) : lastOf (l ++ [s]) s.c = some s := by
 unfold lastOf
 simp
theorem fit_nil {c k t : Int} {es : List En} (h : fitE c 1 k t es = 0) : fitE c 1 k t [] = 0 := by
 obtain ⟨f1, f2, f3, f4, _⟩ := fitE_zero h
 unfold fitE
 rw [if_neg (by omega)]
 rfl
theorem takeM_zero {pm : PM} {c n k t : Int} {es : List En} (h : (takeM pm c n k t es).1 = 0) : (takeM pm c n k t es).2 = plSet pm c (n, (plGet pm c).2 ++ [⟨n, k, t, es⟩]) := by
 by_cases h0 : fitE c n k t es = 0
 ·by_cases h1 : n ≤ (plGet pm c).1
  ·rw [takeM_there h0 h1] at h
   cases h
  by_cases h2 : 64 ≤ ((plGet pm c).2.length : Int)
  ·rw [takeM_full h0 h1 h2] at h
   cases h
  rw [takeM_new h0 h1 h2]
 rw [takeM_fit h0] at h
 exact absurd h h0
theorem back_again {pm : PM} {c k t : Int} {es : List En} (h : (backM pm c k t es).1.2 = 0) : backM (backM pm c k t es).2 c k t [] = (backM pm c k t es) := by
 by_cases h0 : fitE c 1 k t es = 0
 ·cases h1 : lastOf (plGet pm c).2 k with
  | some s =>
   have e := backM_old (pm := pm) (c := c) (k := k) (t := t) h0 h1
   rw [e]
   exact backM_old (fit_nil h0) h1
  | none =>
   by_cases h2 : (plGet pm c).1 = 2147483647
   ·rw [backM_max h0 h1 h2] at h
    cases h
   by_cases h3 : (takeM pm c ((plGet pm c).1 + 1) k t es).1 = 0
   ·rw [backM_new h0 h1 h2 rfl h3]
    simp only
    rw [takeM_zero h3]
    have h4 := lastOf_snoc (plGet pm c).2 ⟨(plGet pm c).1 + 1, k, t, es⟩
    have h5 : lastOf (plGet (plSet pm c ((plGet pm c).1 + 1, (plGet pm c).2 ++ [⟨(plGet pm c).1 + 1, k, t, es⟩])) c).2 k = some ⟨(plGet pm c).1 + 1, k, t, es⟩ := by rw [plGet_set]; exact h4
    exact backM_old (fit_nil h0) h5
   rw [backM_bad h0 h1 h2 rfl h3] at h
   exact absurd h h3
 rw [backM_fit h0] at h
 exact absurd h h0
theorem back_err {pm : PM} {c k t : Int} {es : List En} (h : ¬ (backM pm c k t es).1.2 = 0) : (backM pm c k t es).1.1 = 0 := by
 by_cases h0 : fitE c 1 k t es = 0
 ·cases h1 : lastOf (plGet pm c).2 k with
  | some s =>
   rw [backM_old h0 h1] at h
   exact absurd rfl h
  | none =>
   by_cases h2 : (plGet pm c).1 = 2147483647
   ·rw [backM_max h0 h1 h2]
   by_cases h3 : (takeM pm c ((plGet pm c).1 + 1) k t es).1 = 0
   ·rw [backM_new h0 h1 h2 rfl h3] at h
    exact absurd rfl h
   rw [backM_bad h0 h1 h2 rfl h3]
 rw [backM_fit h0]
theorem ro_nil30 {α : Type} {E : Rdr α} {w0 : World} {S : Nat → Prop} : Ro w0 S (slc E (fun _ => False) (.slice none 0 0) []) := ⟨⟨none, 0, 0, 0, rfl, Nat.le_refl _, by omega, fun _ => rfl, fun h => by simp at h, fun i hi => by simp at hi⟩, fun b hb => hb.elim⟩
set_option maxRecDepth 20000 in
set_option maxHeartbeats 4000000 in
theorem long_tr {Ps : Nat → Prop} (v : Value) (xs : List AT) : Tr Try.prog 9 #[v] [slc rAT Ps v xs] [] (T0 (.bool (decide (longP xs)))) := by
 refine Tr.of (l := [(0, v)]) Try.func9 rfl (n := 23) rfl (.cons rfl .nil) (fun w0 hro => ?_)
 have hv0 := ro1 hro
 obtain ⟨av, cv, bv, fv, rfl, hcapv, hmaxv, hnilv, hadv, helv⟩ := Ro.open hv0
 refine go [9,10,1,7,8,9,9,10,1,7,8,15] ?_
 refine G.loopK (X := Nat) (ts := [0]) (fun i => i ≤ xs.length ∧ i ≤ 41 ∧ ∀ q (hq : q < xs.length), q < i → ¬ bigM (ens xs[q].2.2) 20 2000) (fun i => [(3, .int .i64 (i : Int))]) (fun i => []) (fun i => xs.length - i) (x0 := 0) (.cons rfl .nil) subT (.cons .nil) apT (by first | exact trivial | ((try dsimp only) <;> exact ⟨Nat.zero_le _, Nat.zero_le _, fun q _ h => absurd h (by omega)⟩)) (.consE rfl veqT .nil) (fun i hJ => ?_)
 try dsimp only at hJ
 try dsimp only
 obtain ⟨hi1, hi2, hJ0⟩ := hJ
 refine go [9,9] ?_
 refine G.cutK (X := Unit) (ts := [0, 3]) (p := []) (fun _ => True) (fun _ => [(11, .bool (decide (i < xs.length ∧ i < 41)))]) (fun _ => []) (.cons rfl (.cons rfl .nil)) subT (.cons .nil) apT ?_ ?_
 ·refine go [10,0,0,2,5,2,9,0] ?_
  refine G.partP (t := 8) rfl (fun h8 => ?_) (fun h8 => ?_)
  ·refine go [3,0,3,9,2,2,7] ?_
   exact G.meet (()) trT (.consE rfl Y7 (.cons rfl (.cons rfl .nil))) subT
  refine go [4,4,2,2,7] ?_
  exact G.meet (()) trT (.consE rfl Y7 (.cons rfl (.cons rfl .nil))) subT
 intro _ hJ
 try dsimp only at hJ
 try dsimp only
 refine G.condP rfl (fun h11 => ?_) (fun h11 => ?_)
 ·obtain ⟨hlt0, h41⟩ : i < xs.length ∧ i < 41 := by assumption
  have hlt : i < xs.length := by omega
  have hE := helv i hlt
  have hR := Ro.atRng hE
  have hD := Ro.atTree hE
  have hO := Ro.atOk hE
  obtain ⟨aD, cD, bD, oD, hx2, hcD, hmD, -, -, helD⟩ := Ro.openT hD
  rw [hx2] at hR
  refine go [13,8,9,15,9,10,0,0] ?_
  refine G.op rfl (G.val rfl rfl (pv_ixSl (sz := 9) (k := i) Try.underlying22 kr rfl rfl Y11 rfl (by omega)) ?_)
  refine go [2,3,5] ?_
  refine G.op rfl (G.val rfl rfl (pv_load (v := .slice aD xs[i].2.2.length cD) Try.underlying27 rfl rfl (ro_rngC hR rfl)) ?_)
  refine G.op rfl (G.cR rfl rfl rfl rfl Try.func25 rfl rfl (may1 (.old (hx2 ▸ hD))) (big_tr _ xs[i].2.2 20 2000 (by omega)) ?_)
  refine go [7,8] ?_
  refine G.condP rfl (fun h19 => ?_) (fun h19 => ?_)
  ·have hbt : longP xs := .inl ⟨xs[i], List.mem_iff_getElem.2 ⟨i, by rw [List.length_take]; omega, by rw [List.getElem_take]⟩, by assumption⟩
   refine go [9,10,1,7,8,11,17,12,12,17,12] ?_
   exact G.done0G rfl (Rv.tmp rfl Rv.nil) (by rw [decide_eq_true hbt]; rfl)
  have hnb : ¬ bigM (ens xs[i].2.2) 20 2000 := by assumption
  refine go [13,16,8,10,0,2,6,1,7] ?_
  exact G.next (i + 1) (by first | exact trivial | ((try dsimp only) <;> exact ⟨by omega, by omega, fun q hq hqi => by rcases Nat.lt_or_ge q i with h1 | h1; exact hJ0 q hq h1; obtain rfl : q = i := (by omega); exact hnb⟩)) (by (try dsimp only); omega) (.consE rfl veqT (.cons rfl .nil)) subT
 have hend : ¬ (i < xs.length ∧ i < 41) := by assumption
 refine go [18,14,14,19,8,9,10,0,2,5,2,10,1,7,8,11] ?_
 exact G.done0G rfl (Rv.tmp rfl Rv.nil) (by exact dec_e ⟨fun h => .inr (by omega), fun h => by rcases h with ⟨x, hx, hb⟩ | h; exact absurd hb (by obtain ⟨q, hq, rfl⟩ := List.getElem_of_mem hx; rw [List.length_take] at hq; rw [List.getElem_take]; exact hJ0 q (by omega) (by omega)); omega⟩)
set_option maxRecDepth 20000 in
set_option maxHeartbeats 4000000 in
theorem magain {Ps : Nat → Prop} (v : Value) (xs : List AT) : Tr Try.prog 3 #[v] [slc rAT Ps v xs] [] (T0 (.bool true)) := by
 refine Tr.of (l := [(0, v)]) Try.func3 rfl (n := 89) rfl (.cons rfl .nil) (fun w0 hro => ?_)
 have hv0 := ro1 hro
 obtain ⟨av, cv, bv, fv, rfl, hcapv, hmaxv, hnilv, hadv, helv⟩ := Ro.open hv0
 refine go [9,10,1,7,8,9,10] ?_
 refine G.op rfl (G.cR rfl rfl rfl rfl Try.func7 rfl rfl may0 (awake30_tr) ?_)
 refine go [1,7,8,9,10] ?_
 refine G.op rfl (G.cS rfl rfl rfl rfl Try.func8 rfl rfl subT may0 (mnew_tr) apT ?_)
 intro x13 hJ
 obtain ⟨Dm, bm⟩ := x13
 try dsimp only at hJ
 try dsimp only
 refine go [1,7,8,9,9] ?_
 refine G.cutK (X := Unit) (ts := [0, 2, 3, 4]) (p := []) (fun _ => True) (fun _ => [(24, .bool (decide (longP xs ∨ 30 < (xs.length : Int))))]) (fun _ => []) (.cons rfl (.cons rfl (.cons rfl (.cons rfl .nil)))) subT (.cons .nil) apT ?_ ?_
 ·refine go [10,0] ?_
  refine G.op rfl (G.cR rfl rfl rfl rfl Try.func9 rfl rfl (may1 (.old hv0)) (long_tr _ xs) ?_)
  refine go [0] ?_
  refine G.partP (t := 16) rfl (fun h16 => ?_) (fun h16 => ?_)
  ·refine go [4,4,4,2,2,0,4,4,2,2,7] ?_
   exact G.meet (()) trT (.consE rfl Y6 (.cons rfl (.cons rfl (.cons rfl (.cons rfl .nil))))) subT
  refine go [3,0,3,5,3,10,2,2,0] ?_
  refine G.partP (t := 21) rfl (fun h21 => ?_) (fun h21 => ?_)
  ·refine go [4,4,2,2,7] ?_
   exact G.meet (()) trT (.consE rfl Y6 (.cons rfl (.cons rfl (.cons rfl (.cons rfl .nil))))) subT
  refine go [3,0] ?_
  refine G.want rfl rfl rfl (G.val rfl rfl (pv_eqlP0 Try.underlying24 rfl rfl) ?_)
  refine go [2,2,7] ?_
  exact G.meet (()) trT (.consE rfl Y6 (.cons rfl (.cons rfl (.cons rfl (.cons rfl .nil))))) subT
 intro _ hJ
 try dsimp only at hJ
 try dsimp only
 refine G.condP rfl (fun h24 => ?_) (fun h24 => ?_)
 ·refine go [9,10,0,0,3,0] ?_
  refine G.want rfl rfl rfl (G.val rfl rfl (pv_neqP0 Try.underlying24 rfl rfl) ?_)
  refine go [2,2,1,7,8,11,12] ?_
  exact G.done0G rfl (Rv.tmp rfl Rv.nil) Y3
 obtain ⟨hnl, hn30⟩ := not_or.1 h24
 obtain ⟨-, hbig⟩ := long_all hnl
 refine go [13,8,9,9,10,1,7,8,15] ?_
 refine G.loopK (X := Nat × MS) (ts := [0, 3, 4]) (fun st => st.1 ≤ xs.length ∧ (okM (plM st.2))) (fun st => [(5, .int .i64 (st.1 : Int))]) (fun st => [blk Dm 40 [.map (some bm)], mpc vInt I64 bm (ptrs st.2), clis st.2]) (fun st => xs.length - st.1) (x0 := (0, ([] : MS))) (.cons rfl (.cons rfl (.cons rfl .nil))) subT (.cons .nil) apT (by first | exact trivial | ((try dsimp only) <;> exact ⟨Nat.zero_le _, ok0M⟩)) (.consE rfl veqT .nil) (fun st hJ => ?_)
 obtain ⟨i, ms⟩ := st
 try dsimp only at hJ
 try dsimp only
 obtain ⟨hki, hJ⟩ := hJ
 have hok := hJ
 refine go [9,9,10,0,0,2,5,2,9,7,8] ?_
 refine G.condP rfl (fun h33 => ?_) (fun h33 => ?_)
 ·have hlt : i < xs.length := by omega
  have hE := helv i hlt
  have hR := Ro.atRng hE
  have hD := Ro.atTree hE
  have hO := Ro.atOk hE
  obtain ⟨aD, cD, bD, oD, hx2, hcD, hmD, -, -, helD⟩ := Ro.openT hD
  rw [hx2] at hR
  obtain ⟨o1, o2, o3, o4, o5, o6⟩ := hO
  have hen : ∀ e ∈ ens xs[i].2.2, EnOk e := fun e he => by obtain ⟨y, hy, rfl⟩ := List.mem_map.1 he; obtain ⟨q, hq, rfl⟩ := List.getElem_of_mem hy; exact Ro.evOk (helD q hq)
  refine go [13,8,9,15,9,10,0,0] ?_
  refine G.op rfl (G.val rfl rfl (pv_ixSl (sz := 9) (k := i) Try.underlying22 kr rfl rfl Y11 rfl (by omega)) ?_)
  refine G.op rfl (G.val rfl rfl (pv_loadN (cs := [.int .i64 xs[i].1.kd, .int .i64 xs[i].1.cl, .int .i64 xs[i].1.n, .int .i64 xs[i].1.cm, .int .i64 xs[i].1.tk, .slice aD xs[i].2.2.length cD, .int .i64 xs[i].1.pa, .int .i64 xs[i].1.pb, .int .i64 xs[i].1.pc]) Try.underlying31 rfl kr rfl (fun w hw => hR.at hw)) ?_)
  refine G.op rfl (G.alloc (z := .agg #[.int .i64 0, .int .i64 0, .int .i64 0, .int .i64 0, .int .i64 0, .slice none 0 0, .int .i64 0, .int .i64 0, .int .i64 0]) (cs := [.int .i64 0, .int .i64 0, .int .i64 0, .int .i64 0, .int .i64 0, .slice none 0 0, .int .i64 0, .int .i64 0, .int .i64 0]) rfl kr rfl ?_)
  intro b6
  refine go [20,7,8,9,10,0,2,3,1,2,4,2,3,3,2,4,2,3,4,2,4,2,3,5,2,4] ?_
  refine G.op rfl (G.cS rfl rfl rfl rfl Try.func10 rfl rfl subT (may1 (.old (hx2 ▸ hD))) (mback_tr Dm bm ms xs[i].1.cl xs[i].1.cm xs[i].1.tk _ xs[i].2.2 hok o2) apT ?_)
  intro x50 hJ
  try dsimp only at hJ
  try dsimp only
  have hp1 : plM x50 = (backM (plM ms) xs[i].1.cl xs[i].1.cm xs[i].1.tk (ens xs[i].2.2)).2 := hJ
  have hok1 : okM (plM x50) := by rw [hp1]; exact backM_ok hok hen
  have her := back_err (pm := plM ms) (c := xs[i].1.cl) (k := xs[i].1.cm) (t := xs[i].1.tk) (es := ens xs[i].2.2)
  have hag := back_again (pm := plM ms) (c := xs[i].1.cl) (k := xs[i].1.cm) (t := xs[i].1.tk) (es := ens xs[i].2.2)
  obtain ⟨R, hR9⟩ : ∃ R, backM (plM ms) xs[i].1.cl xs[i].1.cm xs[i].1.tk (ens xs[i].2.2) = R := ⟨_, rfl⟩
  rw [hR9] at hp1 her hag
  rw [hR9]
  refine go [0,2,7,2,7,1,1,7,8,9,9,10,0,2,14,7,8] ?_
  refine G.condP rfl (fun h54 => ?_) (fun h54 => ?_)
  ·refine go [9,9,10,0] ?_
   refine G.op rfl (G.val rfl rfl ((pv_neq rfl rfl).cast (v' := .bool false) (congrArg Value.bool (by exact decide_eq_false (fun h => h (her (by assumption)))))) ?_)
   refine go [7,8,60,0,13,8,18,14,19,8,10,0,2,6,1,7] ?_
   exact G.next ((i + 1, x50)) (by first | exact trivial | ((try dsimp only) <;> exact ⟨by omega, hok1⟩)) (by (try dsimp only); omega) (.consE rfl veqT (.cons rfl (.cons rfl (.cons rfl .nil)))) subT
  have hag1 := hag (Decidable.of_not_not (by assumption))
  have hz0 : R.1.2 = 0 := Decidable.of_not_not (by assumption)
  refine go [13,8,9,10,0,2,3,1,2,4] ?_
  refine G.op rfl (G.cS rfl rfl rfl rfl Try.func11 rfl rfl subT may0 (list_tr Dm bm x50 xs[i].1.cl hok1 o2) apT ?_)
  intro x60 hJ
  try dsimp only at hJ
  try dsimp only
  obtain ⟨LS, hLS⟩ : ∃ L, lsM (plGet (plM x50) xs[i].1.cl).2 = L := ⟨_, rfl⟩
  rw [hLS]
  refine go [1,7,8,9,10,0,2,3,1,2,4,2,3,3,2,4,2,3,4,2,4] ?_
  refine G.op rfl (G.cS rfl rfl rfl rfl Try.func10 rfl rfl subT (may1 (.old ro_nil30)) (mback_tr Dm bm x50 xs[i].1.cl xs[i].1.cm xs[i].1.tk (.slice none 0 0) [] hok1 o2) apT ?_)
  intro x69 hJ
  try dsimp only at hJ
  try dsimp only
  rw [show ens ([] : List ET) = [] from rfl, hp1, hag1] at hJ ⊢
  have hp2 : plM x69 = plM x50 := hJ.trans hp1.symm
  refine go [0,2,7,2,7,1,1,7,8,9,10,0] ?_
  refine G.op rfl (G.val rfl rfl ((pv_neq rfl rfl).cast (v' := .bool false) (congrArg Value.bool (by exact decide_eq_false (fun h => h hz0)))) ?_)
  refine go [0,3,0,3,0] ?_
  refine G.want rfl rfl rfl (G.val rfl rfl ((pv_neq rfl rfl).cast (v' := .bool false) (congrArg Value.bool (by exact decide_eq_false (fun h => h rfl)))) ?_)
  refine go [2,2,0,3,0,3,3,1,3,4] ?_
  refine G.want rfl rfl rfl (G.cS rfl rfl rfl rfl Try.func11 rfl rfl subT may0 (list_tr Dm bm x69 xs[i].1.cl (by rw [hp2]; exact hok1) o2) apT ?_)
  intro x83 hJ
  try dsimp only at hJ
  try dsimp only
  rw [hp2, hLS]
  refine go [3,0] ?_
  refine G.want rfl rfl rfl (G.cR rfl rfl rfl rfl Try.func12 rfl rfl (may2 (may_ls selT) (may_ls selT)) (slist_self _ _ LS) ?_)
  refine G.want rfl rfl rfl (G.val rfl rfl ((pv_not rfl).cast (v' := .bool false) rfl) ?_)
  refine go [2,2,7,8,60,0,13,16,8,10,0,2,6,1,7] ?_
  exact G.next ((i + 1, x69)) (by first | exact trivial | ((try dsimp only) <;> exact ⟨by omega, (by rw [hp2]; exact hok1)⟩)) (by (try dsimp only); omega) (.consE rfl veqT (.cons rfl (.cons rfl (.cons rfl .nil)))) subT
 refine go [18,14,14,19,8,9,10,0,1,7,8,11] ?_
 exact G.done0G rfl (Rv.tmp rfl Rv.nil) Y3
end Go.Proofs.Ytakeannapfaodaa
set_option maxRecDepth 100000
set_option linter.unusedVariables false
set_option linter.unusedSimpArgs false
namespace Go.Proofs.Ytakeannapfaodaa
open Go.ChangeShapes Go.WideShapes Go.ChangeAt Go.RowKit Go.Deep
section
variable {H : Type} {enc : TypeId × Value → H} {W : World}
theorem opn_weak {P : Program} {α β : Type} {t : TypeId} {E : Rdr α} {F : Rdr β} (h : Opn H enc P W t E) (hs : E.sz = F.sz) (hf : ∀ Ps w b o a, E.R Ps w b o a → ∃ a', F.R Ps w b o a') : Opn H enc P W t F := ⟨h.sz.trans hs, fun fuel cs x b o hx hwt hA hb => by
 obtain ⟨a, ha⟩ := h.mem fuel cs x b o hx hwt hA hb
 exact hf _ _ _ _ _ ha⟩
theorem opn_entry : Opn H enc Try.prog W 89 rEV := by
 refine opn_weak (opn_struct Try.underlying89 (F := rProd rStrB (rProd rInt (rProd rInt (rProd (rSlB rByte) (rProd rStrB rUnit))))) kr
  (.cons (opn_str Try.underlying9 kr) rfl (.cons (opn_int Try.underlying3 kr) rfl (.cons (opn_int Try.underlying3 kr) rfl
   (.cons (opn_rSl Try.underlying87 kr (of_decide_eq_true kr) (opn_byte Try.underlying5 kr) (by decide)) rfl (.cons (opn_str Try.underlying9 kr) rfl .nil)))))) rfl ?_
 rintro Ps w b o ⟨a0, a1, a2, a3, a4, _⟩ ⟨⟨hb, h0, l0⟩, ⟨_, h1, l1⟩, ⟨_, h2, l2⟩, ⟨⟨_, d, h3, hd⟩, l3⟩, ⟨_, h4, l4⟩, _⟩
 refine ⟨(⟨a0, a1, a2, a3, a4⟩, d), hb, fun j v hj => ?_, hd, l1, l2, l0, l3, l4⟩
 have hlt : j < 5 := by
  have := (List.getElem?_eq_some_iff.1 hj).1
  exact this
 rcases (by omega : j = 0 ∨ j = 1 ∨ j = 2 ∨ j = 3 ∨ j = 4) with rfl | rfl | rfl | rfl | rfl
 ·obtain rfl : _ = v := Option.some.inj hj
  exact h0
 ·obtain rfl : _ = v := Option.some.inj hj
  exact h1
 ·obtain rfl : _ = v := Option.some.inj hj
  exact h2
 ·obtain rfl : _ = v := Option.some.inj hj
  exact h3
 obtain rfl : _ = v := Option.some.inj hj
 exact h4
end
end Go.Proofs.Ytakeannapfaodaa
set_option maxRecDepth 100000
set_option linter.unusedVariables false
set_option linter.unusedSimpArgs false
namespace Go.Proofs.Ytakeannapfaodaa
open Go.ChangeShapes Go.WideShapes Go.ChangeAt Go.RowKit Go.Deep
section
variable {H : Type} {enc : TypeId × Value → H} {W : World}
theorem opn_i : Opn H enc Try.prog W 3 rInt := opn_int Try.underlying3 kr
theorem opn_act : Opn H enc Try.prog W 31 rAT := by
 refine opn_weak (opn_struct Try.underlying31 (F := rProd rInt (rProd rInt (rProd rInt (rProd rInt (rProd rInt (rProd (rSlB rEV) (rProd (rProd rInt (rProd rInt (rProd rInt rUnit))) rUnit))))))) kr
  (.cons opn_i rfl (.cons opn_i rfl (.cons opn_i rfl (.cons opn_i rfl (.cons opn_i rfl
   (.cons (opn_rSl Try.underlying27 kr (of_decide_eq_true kr) opn_entry (by decide)) rfl
    (.cons (opn_struct Try.underlying29 (F := rProd rInt (rProd rInt (rProd rInt rUnit))) kr (.cons opn_i rfl (.cons opn_i rfl (.cons opn_i rfl .nil)))) rfl .nil)))))))) rfl ?_
 rintro Ps w b o ⟨a0, a1, a2, a3, a4, a5, ⟨a6, a7, a8, _⟩, _⟩ ⟨⟨hb, h0, l0⟩, ⟨_, h1, l1⟩, ⟨_, h2, l2⟩, ⟨_, h3, l3⟩, ⟨_, h4, l4⟩, ⟨⟨_, d, h5, hd⟩, l5⟩, ⟨⟨_, h6, l6⟩, ⟨_, h7, l7⟩, ⟨_, h8, l8⟩, _⟩, _⟩
 refine ⟨(⟨a0, a1, a2, a3, a4, a6, a7, a8⟩, d, a5), hb, fun j v hj => ?_, hd, ⟨l0, l1, l2, l3, l4, l6, l7, l8⟩, l5⟩
 have hlt : j < 9 := by
  have := (List.getElem?_eq_some_iff.1 hj).1
  exact this
 rcases (by omega : j = 0 ∨ j = 1 ∨ j = 2 ∨ j = 3 ∨ j = 4 ∨ j = 5 ∨ j = 6 ∨ j = 7 ∨ j = 8) with rfl | rfl | rfl | rfl | rfl | rfl | rfl | rfl | rfl
 ·obtain rfl : _ = v := Option.some.inj hj
  exact h0
 ·obtain rfl : _ = v := Option.some.inj hj
  exact h1
 ·obtain rfl : _ = v := Option.some.inj hj
  exact h2
 ·obtain rfl : _ = v := Option.some.inj hj
  exact h3
 ·obtain rfl : _ = v := Option.some.inj hj
  exact h4
 ·obtain rfl : _ = v := Option.some.inj hj
  exact h5
 ·obtain rfl : _ = v := Option.some.inj hj
  exact h6
 ·obtain rfl : _ = v := Option.some.inj hj
  exact h7
 obtain rfl : _ = v := Option.some.inj hj
 exact h8
theorem opn_acts {v : Value} {d : DataW H} {p : List MemPlace} {r : Reach} {base : Nat} (hok : Value.okWide Try.prog W r base 22 v) (h : DataW.Trod enc Try.prog W 0 (fun _ => true) true 22 v d p)
 {ts : List TypeId} {ds : List (DataW H)} {j : Nat} (hsz : (DataW.weightsEach Try.prog ts ds).all (· ≤ reachBytes) = true) (hts : ts[j]? = some 22) (hds : ds[j]? = some d) :
 ∃ xs : List AT, Ro W (fun _ => False) (slc rAT (· < W.heap.size) v xs) ∧ xs.length ≤ 140737488355328 :=
 opn_arg Try.underlying22 (of_decide_eq_true kr) opn_act (by decide) hok h hsz hts hds
end
end Go.Proofs.Ytakeannapfaodaa
