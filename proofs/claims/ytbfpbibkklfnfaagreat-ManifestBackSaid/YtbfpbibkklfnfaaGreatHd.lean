/- Merged of TE, TF, TG, TreeB, TH, WM, VG, VH, TV, VI, VJ, VA, VK, VL. Conditions: none. -/
import Derived.Test.YtbfpbibkklfnfaaGreatHc
import Derived.Maps.Keyed
import Derived.DeepKeys4
namespace Go.Proofs.YtbfpbibkklfnfaaGreat
open Go.RowKit
set_option linter.unusedVariables false
set_option linter.unusedSimpArgs false
def heldM (l : List En) (e : En) : Prop := (parentM e.path).2 = false ∨ ∃ x ∈ l, x.path = (parentM e.path).1 ∧ x.kind = 1
instance (l : List En) (e : En) : Decidable (heldM l e) := inferInstanceAs (Decidable (_ ∨ _))
def prevBad (es : List En) (i : Nat) : Prop := 0 < i ∧ match es[i - 1]?, es[i]? with
 | some p, some e => 0 ≤ compareM p.path e.path
 | _, _ => False
instance (es : List En) (i : Nat) : Decidable (prevBad es i) := by
 unfold prevBad
 cases es[i - 1]? <;> cases es[i]? <;> exact inferInstance
theorem prev_pos {es : List En} {i : Nat} (h0 : 0 < i) (h : i < es.length) : prevBad es i ↔ 0 ≤ compareM (es[i - 1]'(by omega)).path es[i].path := by
 unfold prevBad
 rw [List.getElem?_eq_getElem h, List.getElem?_eq_getElem (show i - 1 < es.length by omega)]
 simp [h0]
theorem prev_zero {es : List En} {i : Nat} (h0 : ¬ 0 < i) : ¬ prevBad es i := fun h => h0 h.1
def errT (es : List En) (i : Nat) : Int := match es[i]? with
 | none => 0
 | some e => if (if oneM e = 0 ∧ prevBad es i then 7 else oneM e) = 0 ∧ ¬ heldM (es.take i) e then 6 else (if oneM e = 0 ∧ prevBad es i then 7 else oneM e)
theorem errT_get {es : List En} {i : Nat} (h : i < es.length) : errT es i = if (if oneM es[i] = 0 ∧ prevBad es i then 7 else oneM es[i]) = 0 ∧ ¬ heldM (es.take i) es[i] then 6 else (if oneM es[i] = 0 ∧ prevBad es i then 7 else oneM es[i]) := by
 unfold errT
 rw [List.getElem?_eq_getElem h]
theorem err_one {es : List En} {i : Nat} (h : i < es.length) (h1 : ¬ oneM es[i] = 0) : errT es i = oneM es[i] := by
 rw [errT_get h, if_neg (fun k => by rw [if_neg (fun k => h1 k.1)] at k; exact h1 k.1), if_neg (fun k => h1 k.1)]
theorem err_prev {es : List En} {i : Nat} (h : i < es.length) (h1 : oneM es[i] = 0) (h2 : prevBad es i) : errT es i = 7 := by
 rw [errT_get h, if_neg (fun k => by rw [if_pos ⟨h1, h2⟩] at k; cases k.1), if_pos ⟨h1, h2⟩]
theorem err_held {es : List En} {i : Nat} (h : i < es.length) (h1 : oneM es[i] = 0) (h2 : ¬ prevBad es i) (h3 : ¬ heldM (es.take i) es[i]) : errT es i = 6 := by
 rw [errT_get h, if_pos ⟨by rw [if_neg (fun k => h2 k.2), h1], h3⟩]
theorem err_ok {es : List En} {i : Nat} (h : i < es.length) (h1 : oneM es[i] = 0) (h2 : ¬ prevBad es i) (h3 : heldM (es.take i) es[i]) : errT es i = 0 := by
 rw [errT_get h, if_neg (fun k => k.2 h3), if_neg (fun k => h2 k.2), h1]
theorem err_zero {es : List En} {i : Nat} (h : i < es.length) (h0 : errT es i = 0) : oneM es[i] = 0 ∧ ¬ prevBad es i ∧ heldM (es.take i) es[i] := by
 have a : oneM es[i] = 0 := Decidable.byContradiction fun k => by rw [err_one h k] at h0; exact k h0
 have b : ¬ prevBad es i := fun k => by rw [err_prev h a k] at h0; cases h0
 exact ⟨a, b, Decidable.byContradiction fun k => by rw [err_held h a b k] at h0; cases h0⟩
def checkT (es : List En) : Int × Int := if 200 < es.length then (3, 0) else
 let k := (List.range es.length).findIdx fun i => ! decide (errT es i = 0)
 (errT es k, if errT es k = 0 then 0 else (k : Int))
theorem checkT_many {es : List En} (h : 200 < es.length) : checkT es = (3, 0) := if_pos h
theorem range_idx {p : Nat → Bool} {n i : Nat} (hi : i < n) (hp : p i = true) (h : ∀ q, q < i → p q = false) : (List.range n).findIdx p = i := by
 refine (List.findIdx_eq (by simpa using hi)).2 ⟨by simpa using hp, fun j hj => ?_⟩
 simpa using h j hj
theorem checkT_bad {es : List En} {i : Nat} {e : Int} (h200 : ¬ 200 < es.length) (hi : i < es.length) (h : ∀ q, q < i → errT es q = 0) (he : errT es i = e) (h0 : ¬ e = 0) : checkT es = (e, (i : Int)) := by
 unfold checkT
 rw [if_neg h200]
 have e1 : (List.range es.length).findIdx (fun i => ! decide (errT es i = 0)) = i := range_idx hi (by simp [he, h0]) (fun q hq => by simp [h q hq])
 simp only [e1, he, if_neg h0]
theorem checkT_ok {es : List En} (h200 : ¬ 200 < es.length) (h : ∀ q, q < es.length → errT es q = 0) : checkT es = (0, 0) := by
 unfold checkT
 rw [if_neg h200]
 have e1 : (List.range es.length).findIdx (fun i => ! decide (errT es i = 0)) = es.length := by
  have := List.findIdx_eq_length_of_false (p := fun i => ! decide (errT es i = 0)) (xs := List.range es.length) (fun x hx => by
   have := h x (by simpa using hx)
   simp [this])
  simpa using this
 have e2 : errT es es.length = 0 := by
  unfold errT
  rw [List.getElem?_eq_none (Nat.le_refl _)]
 simp only [e1, e2, if_true]
theorem checkT_zero {es : List En} (h : (checkT es).1 = 0) : es.length ≤ 200 ∧ (∀ q, q < es.length → errT es q = 0) ∧ checkT es = (0, 0) := by
 by_cases h200 : 200 < es.length
 ·rw [checkT_many h200] at h
  cases h
 have all : ∀ q, q < es.length → errT es q = 0 := by
  intro q
  induction q using Nat.strongRecOn with
  | _ q ih =>
   intro hq
   exact Decidable.byContradiction fun k => by
    rw [checkT_bad h200 hq (fun r hr => ih r hr (by omega)) rfl k] at h
    exact k h
 exact ⟨by omega, all, checkT_ok h200 all⟩
theorem sort_take {es : List En} {i : Nat} (hi : i ≤ es.length) (h : ∀ q, q < i → errT es q = 0) : SortT (es.take i) := by
 have step : ∀ q (hq : q + 1 < i), compareM (es[q]'(by omega)).path (es[q + 1]'(by omega)).path = -1 := fun q hq => by
  have h1 := (err_zero (show q + 1 < es.length by omega) (h (q + 1) hq)).2.1
  rw [prev_pos (by omega) (by omega)] at h1
  have := compareM_ord.rng (es[q]'(by omega)).path (es[q + 1]'(by omega)).path
  simp only [Nat.add_sub_cancel] at h1
  omega
 have all : ∀ r q (hr : r < i) (hqr : q < r), compareM (es[q]'(by omega)).path (es[r]'(by omega)).path = -1 := by
  intro r
  induction r with
  | zero => intro q hr hq; omega
  | succ r ih =>
   intro q hr hq
   rcases Nat.lt_or_ge q r with h1 | h1
   ·exact compareM_ord.trans _ _ _ (ih q (by omega) h1) (step r hr)
   obtain rfl : q = r := by omega
   exact step q hr
 refine List.pairwise_iff_getElem.2 fun q r hq hr hqr => ?_
 simp only [List.length_take] at hq hr
 rw [List.getElem_take, List.getElem_take]
 exact all r q (by omega) hqr
theorem placeK_spec {es : List En} (hs : SortT es) {s : List UInt8} (h : isAt es s) : ∃ hk : placeK es s < es.length, es[placeK es s].path = s := by
 obtain ⟨e, he, rfl⟩ := h
 obtain ⟨j, hj, rfl⟩ := List.getElem_of_mem he
 have hp : placeK es es[j].path = j := placeK_at (by omega) (fun q hq hqj => by rw [cmp_lt_iff]; exact (List.pairwise_iff_getElem.1 hs) q j hq hj hqj) (fun q hq hjq => by
  rcases Nat.lt_or_ge j q with h1 | h1
  ·have h2 := (List.pairwise_iff_getElem.1 hs) j q hj hq h1
   have := compareM_ord.anti es[j].path es[q].path
   omega
  obtain rfl : j = q := by omega
  rw [(compareM_ord.zero _ _).2 rfl]
  omega)
 refine ⟨by omega, ?_⟩
 simp only [hp]
theorem sort_inj {es : List En} (hs : SortT es) {a b : En} (ha : a ∈ es) (hb : b ∈ es) (h : a.path = b.path) : a = b := by
 obtain ⟨i, hi, rfl⟩ := List.getElem_of_mem ha
 obtain ⟨j, hj, rfl⟩ := List.getElem_of_mem hb
 have hz : compareM es[i].path es[j].path = 0 := (compareM_ord.zero _ _).2 h
 rcases Nat.lt_trichotomy i j with h1 | h1 | h1
 ·have := (List.pairwise_iff_getElem.1 hs) i j hi hj h1
  omega
 ·subst h1
  rfl
 have h2 := (List.pairwise_iff_getElem.1 hs) j i hj hi h1
 have := compareM_ord.anti es[i].path es[j].path
 omega
theorem held_none {l : List En} {e : En} (h : (parentM e.path).2 = true) (h2 : ¬ isAt l (parentM e.path).1) : ¬ heldM l e := fun k => by
 rcases k with k | ⟨x, hx, k1, k2⟩
 ·rw [h] at k
  cases k
 exact h2 ⟨x, hx, k1⟩
theorem held_kind {l : List En} {e : En} (hs : SortT l) (h : (parentM e.path).2 = true) (h2 : isAt l (parentM e.path).1) {x : En} (hx : l[placeK l (parentM e.path).1]? = some x) : heldM l e ↔ x.kind = 1 := by
 obtain ⟨hk, hp⟩ := placeK_spec hs h2
 rw [List.getElem?_eq_getElem hk] at hx
 injection hx with hx
 constructor
 ·rintro (k | ⟨y, hy, k1, k2⟩)
  ·rw [h] at k
   cases k
  have : x = y := sort_inj hs (hx ▸ List.getElem_mem hk) hy (by rw [← hx, hp, k1])
  rw [this]
  exact k2
 intro k
 exact .inr ⟨x, hx ▸ List.getElem_mem hk, by rw [← hx, hp], k⟩
theorem Ro.takeT {α : Type} {E : Rdr α} {w0 : World} {S Ps : Nat → Prop} {ad : Option Addr} {len cap i : Nat} {xs : List α} (h : Ro w0 S (slc E Ps (.slice ad len cap) xs)) (hi : i ≤ xs.length) : Ro w0 S (slc E Ps (.slice ad i cap) (xs.take i)) := by
 have := Ro.sub h (Nat.zero_le i) hi
 rwa [subV_zero, List.drop_zero] at this
theorem ens_take (xs : List ET) (i : Nat) : ens (xs.take i) = (ens xs).take i := by simp [ens, List.map_take]
theorem ens_at {xs : List ET} {i : Nat} (h : i < xs.length) : (ens xs)[i]? = some xs[i].1 := by simp [ens, h]
set_option maxRecDepth 20000 in
set_option maxHeartbeats 4000000 in
theorem tcheck_tr {Ps : Nat → Prop} (v : Value) (xs : List ET) : Tr Tryz.prog 45 #[v] [slc rEV Ps v xs] [] (T0 (.tuple #[.int .i64 (checkT (ens xs)).1, .int .i64 (checkT (ens xs)).2])) := by
 refine Tr.of (l := [(0, v)]) Tryz.func45 rfl (n := 69) rfl (.cons rfl .nil) (fun w0 hro => ?_)
 have hv := ro1 hro
 have hv' := hv
 obtain ⟨av, cv, bv, fv, rfl, hcapv, hmaxv, hnilv, hadv, helv⟩ := Ro.openT hv
 have hel' := ens_length xs
 refine go [9,10,1,1,7,8,9,9,10,0,2,5,2,10,7,8] ?_
 refine G.condP rfl (fun h13 => ?_) (fun h13 => ?_)
 ·refine go [9,10,1,1,7,8,11,12] ?_
  exact G.done0G rfl (Rv.tmp rfl (Rv.tmp rfl Rv.nil)) (by rw [checkT_many (by omega)]; rfl)
 refine go [13,8,9,9,10,0,2,5,0,7,8,15] ?_
 refine G.loopK (X := Nat) (ts := [0, 14, 15]) (fun i => i ≤ xs.length ∧ (∀ q, q < i → errT (ens xs) q = 0)) (fun i => [(16, .int .i64 (i : Int))]) (fun i => []) (fun i => xs.length - i) (x0 := 0) (.cons rfl (.cons rfl (.cons rfl .nil))) subT (.cons .nil) apT Y56 (.consE rfl veqT .nil) (fun i hJ => ?_)
 try dsimp only at hJ
 try dsimp only
 obtain ⟨hki, hJ⟩ := hJ
 refine go [9,10,2,9,7,8,9] ?_
 refine G.condP rfl (fun h17 => ?_) (fun h17 => ?_)
 ·have hJ0 := hJ
  have hlt : i < xs.length := by omega
  have hlt' : i < (ens xs).length := by omega
  have hg := ens_get hlt
  have hso := sort_take (es := ens xs) (i := i) (by omega) hJ
  have hTk := Ro.takeT hv' (i := i) (by omega)
  have hEv := helv i hlt
  have hRv := Ro.evRng hEv
  have hDv := Ro.evDat hEv
  obtain ⟨hk1v, hk2v, hlpv, hldv, hltv⟩ := Ro.evOk hEv
  have hCv := Ro.one1 hDv
  refine go [13,8,9,15,9,10,0,2,20,5,2,50,0,60,17] ?_
  intro b5
  refine go [1,20,7,8,9,9,10,2,50,0] ?_
  refine G.op rfl (G.cR rfl rfl rfl rfl Tryz.func79 rfl rfl (may1 Y3) (one_tr _ _ (by omega)) ?_)
  refine go [1,7,8,9,10,0,2,14,7,8] ?_
  refine G.condP rfl (fun h24 => ?_) (fun h24 => ?_)
  ·refine go [9,10,0,0,1,1,7,8,11,12,17,12,12,17,12] ?_
   exact G.done0G rfl (Rv.tmp rfl (Rv.tmp rfl Rv.nil)) (by rw [checkT_bad (by omega) hlt' hJ0 (err_one hlt' (by rw [hg]; assumption)) (by rw [hg]; assumption), hg]; rfl)
  have h1 : oneM (ens xs)[i] = 0 := by rw [hg]; omega
  refine go [13,8,9,9] ?_
  refine G.cutK (X := Unit) (ts := [0, 4, 5, 14, 15, 16]) (p := []) (fun _ => True) (fun _ => [(40, .bool (decide (prevBad (ens xs) i)))]) (fun _ => []) (.cons rfl (.cons rfl (.cons rfl (.cons rfl (.cons rfl (.cons rfl .nil)))))) subT (.cons .nil) apT ?_ ?_
  ·refine G.drawT (nn := 14) (p := []) (rem := 16383) [0, 1, 2, 4, 4, 20, 44, 68, 132, 4, 516, 1284, 2052, 4100] [0, 1, 2, 4, 4, 20, 44, 68, 132, 4, 516, 1284, 2052, 4100] kr ⟨rfl, by kernel_rfl, by kernel_rfl⟩ subT kr (fun hT9 => ?_)
   refine go [22,0,16382,0,22,1,16380,10,22,2,16376,0] ?_
   refine G.partP (t := 29) rfl (fun h29 => ?_) (fun h29 => ?_)
   ·have hi0 : 0 < i := by omega
    have hEp := helv (i - 1) (by omega)
    have hRp := Ro.evRng hEp
    have hDp := Ro.evDat hEp
    obtain ⟨hk1p, hk2p, hlpp, hldp, hltp⟩ := Ro.evOk hEp
    have hCp := Ro.one1 hDp
    have hpv := prev_pos hi0 hlt'
    rw [hg, ens_get (show i - 1 < xs.length by omega)] at hpv
    refine go [22,3,16368,0,22,4,16352,0,22,5,16320,19] ?_
    refine G.takeT hT9 (i := 6) (rem' := 16256) rfl rfl rfl kr (fun _ _ _ h => h) rfl (pv_ixSl (sz := 5) (k := i - 1) Tryz.underlying22 kr rfl rfl Y30 (by omega) (by omega)) subT ?_
    refine go [22,7,16128,3,0,22,8,15872,4,22,9,15360,3,0,24,10,14336,25,4,26,24,11,12288] ?_
    refine G.turnOp rfl rfl (G.cR rfl rfl rfl rfl Tryz.func71 rfl rfl may0 (compare_tr _ _ (by omega) (by omega)) ?_)
    refine go [26,22,12,8192,12,22,13,0,2,27] ?_
    exact G.meet (()) trT (.consE rfl (dec_e hpv.symm) (.cons rfl (.cons rfl (.cons rfl (.cons rfl (.cons rfl (.cons rfl .nil))))))) subT
   refine go [23,3,16368,23,4,16352,23,5,16320,23,6,16256,23,7,16128,23,8,15872,23,9,15360,23,10,14336,23,11,12288,23,12,8192,22,13,0,2,27] ?_
   exact G.meet (()) trT (.consE rfl (dec_f (prev_zero (by omega))) (.cons rfl (.cons rfl (.cons rfl (.cons rfl (.cons rfl (.cons rfl .nil))))))) subT
  intro _ hJ
  try dsimp only at hJ
  try dsimp only
  refine G.condP rfl (fun h40 => ?_) (fun h40 => ?_)
  ·refine go [9,10,0,1,1,7,8,11,12,17,12,12,17,12] ?_
   exact G.done0G rfl (Rv.tmp rfl (Rv.tmp rfl Rv.nil)) (by rw [checkT_bad (by omega) hlt' hJ0 (err_prev hlt' h1 (by assumption)) (by omega)]; rfl)
  refine go [13,8,9,10,2,3,0,2,4] ?_
  refine G.op rfl (G.cR rfl rfl rfl rfl Tryz.func72 rfl rfl may0 (parent_tr _ (by omega)) ?_)
  have hpl := parentM_len xs[i].1.path
  refine go [0,2,7,2,7,1,1,7,8,9,10,0,7,8] ?_
  refine G.cond rfl (fun h48 => ?_) (fun h48 => ?_)
  ·have hpt : (parentM (ens xs)[i].path).2 = true := by rw [hg]; exact h48
   refine go [9,10,0,0] ?_
   refine G.op rfl (G.val rfl rfl (pv_subH (sz := 5) (k := i) Tryz.underlying22 kr rfl rfl rfl (by omega)) ?_)
   refine go [0] ?_
   refine G.op rfl (G.cR rfl rfl rfl rfl Tryz.func80 rfl rfl (may1 Y3) (place_tr _ (xs.take i) _ (by rw [List.length_take]; omega) (by rw [ens_take]; exact hso) (by omega)) ?_)
   rw [ens_take]
   refine go [0,2,7,2,7,1,1,7,8,9] ?_
   refine G.cutK (X := Unit) (ts := [0, 4, 14, 15, 16]) (p := []) (fun _ => True) (fun _ => [(66, .bool (decide (¬ heldM ((ens xs).take i) (ens xs)[i])))]) (fun _ => []) (.cons rfl (.cons rfl (.cons rfl (.cons rfl (.cons rfl .nil))))) subT (.cons .nil) apT ?_ ?_
   ·refine go [10,0,2,15,0] ?_
    refine G.partP (t := 59) rfl (fun h59 => ?_) (fun h59 => ?_)
    ·have hnh : ¬ heldM ((ens xs).take i) (ens xs)[i] := held_none hpt (by rw [hg]; assumption)
     refine go [4,4,4,4,4,4,2,2,7] ?_
     exact G.meet (()) trT (.consE rfl (dec_t hnh) (.cons rfl (.cons rfl (.cons rfl (.cons rfl (.cons rfl .nil)))))) subT
    have hat : isAt ((ens xs).take i) (parentM xs[i].1.path).1 := Decidable.of_not_not (by assumption)
    obtain ⟨hkl, -⟩ := placeK_spec hso hat
    rw [List.length_take] at hkl
    obtain ⟨k, hk⟩ : ∃ k, placeK ((ens xs).take i) (parentM xs[i].1.path).1 = k := ⟨_, rfl⟩
    have hkk := held_kind hso hpt (x := (xs[k]'(by omega)).1) (by rw [hg]; exact hat) (by rw [hg, hk, List.getElem?_take_of_lt (by omega)]; exact ens_at (by omega))
    rw [hk] at hkl ⊢
    have hEk := helv k (by omega)
    have hRk := Ro.evRng hEk
    have hDk := Ro.evDat hEk
    obtain ⟨hk1k, hk2k, hlpk, hldk, hltk⟩ := Ro.evOk hEk
    have hCk := Ro.one1 hDk
    refine go [3,0,3,0] ?_
    refine G.want rfl rfl rfl (G.val rfl rfl (pv_ixSl (sz := 5) (k := k) Tryz.underlying22 kr rfl rfl Y30 (by omega) (by omega)) ?_)
    refine go [3,3,1,3,4,3,14,2,2,7] ?_
    exact G.meet (()) trT (.consE rfl (dec_e (not_congr hkk.symm)) (.cons rfl (.cons rfl (.cons rfl (.cons rfl (.cons rfl .nil)))))) subT
   intro _ hJ
   try dsimp only at hJ
   try dsimp only
   refine G.condP rfl (fun h66 => ?_) (fun h66 => ?_)
   ·refine go [9,10,0,1,1,7,8,11,17,12,12,17,12] ?_
    exact G.done0G rfl (Rv.tmp rfl (Rv.tmp rfl Rv.nil)) (by rw [checkT_bad (by omega) hlt' hJ0 (err_held hlt' h1 (by assumption) (by assumption)) (by omega)]; rfl)
   have hok0 : errT (ens xs) i = 0 := err_ok hlt' h1 (by assumption) (Decidable.of_not_not (by assumption))
   refine go [13,16,8,10,2,6,0,7] ?_
   exact G.next (i + 1) Y29 (by (try dsimp only); omega) (.consE rfl veqT (.cons rfl (.cons rfl (.cons rfl .nil)))) subT
  have hok0 : errT (ens xs) i = 0 := err_ok hlt' h1 (by assumption) (.inl (by rw [hg]; exact h48))
  refine go [13,16,8,10,2,6,0,7] ?_
  exact G.next (i + 1) Y29 (by (try dsimp only); omega) (.consE rfl veqT (.cons rfl (.cons rfl (.cons rfl .nil)))) subT
 refine go [18,14,14,19,8,9,10,1,1,7,8,11] ?_
 exact G.done0G rfl (Rv.tmp rfl (Rv.tmp rfl Rv.nil)) (by rw [checkT_ok (by omega) (fun q hq => hJ q (by omega))]; rfl)
def totM (es : List En) : Nat := (es.map fun e => e.path.length + e.data.length + e.to.length).sum
theorem sum_take_succ (f : En → Nat) {es : List En} {i : Nat} (h : i < es.length) : ((es.take (i + 1)).map f).sum = ((es.take i).map f).sum + f es[i] := by
 rw [List.take_succ_eq_append_getElem h, List.map_append, List.sum_append]
 simp
theorem totM_succ {xs : List ET} {i : Nat} (h : i < xs.length) : totM ((ens xs).take (i + 1)) = totM ((ens xs).take i) + (xs[i].1.path.length + xs[i].1.data.length + xs[i].1.to.length) := by
 unfold totM
 rw [sum_take_succ _ (by rw [ens_length]; exact h), ens_get h]
theorem ens_eq {xs ys : List ET} (hl : xs.length = ys.length) (h : ∀ q (hq : q < xs.length), xs[q].1 = (ys[q]'(by omega)).1) : ens xs = ens ys := by
 apply List.ext_getElem
 ·rw [ens_length, ens_length, hl]
 intro i h1 h2
 rw [ens_length] at h1
 rw [ens_get h1, ens_get (by omega)]
 exact h i h1
theorem ens_ne {xs ys : List ET} {i : Nat} (hx : i < xs.length) (hy : i < ys.length) (h : xs[i].1 ≠ ys[i].1) : ¬ ens xs = ens ys := fun e => by
 have h1 := ens_get hx
 have h2 := ens_get hy
 simp only [e] at h1
 exact h (h1.symm.trans h2)
theorem ens_len_ne {xs ys : List ET} (h : ¬ (xs.length : Int) = ys.length) : ¬ ens xs = ens ys := fun e => h (by
 have := congrArg List.length e
 rw [ens_length, ens_length] at this
 omega)
theorem heldNo {es : List En} {e : En} (h : (parentM e.path).2 = true) (h2 : ∀ q (hq : q < es.length), ¬ (es[q].path = (parentM e.path).1 ∧ es[q].kind = 1)) : ¬ heldM es e := by
 rintro (k | ⟨x, hx, k⟩)
 ·rw [h] at k
  cases k
 obtain ⟨j, hj, rfl⟩ := List.getElem_of_mem hx
 exact h2 j hj k
set_option maxRecDepth 20000 in
set_option maxHeartbeats 4000000 in
theorem held_tr {Ps Pd : Nat → Prop} (v : Value) (xs : List ET) (e : En) (d : Value) (hl : e.path.length ≤ 9223372036854775807) : Tr Tryz.prog 84 #[v, .agg #[.string (sB e.path), .int .i64 e.kind, .int .i64 e.mode, d, .string (sB e.to)]] [slc rEV Ps v xs, slc rByte Pd d e.data] [] (T0 (.bool (decide (heldM (ens xs) e)))) := by
 refine Tr.of (l := [(0, v), (1, .agg #[.string (sB e.path), .int .i64 e.kind, .int .i64 e.mode, d, .string (sB e.to)])]) Tryz.func84 rfl (n := 37) rfl (.cons rfl (.cons rfl .nil)) (fun w0 hro => ?_)
 obtain ⟨hv0, hd0⟩ := ro2 hro
 have hv := hv0
 have hv' := hv
 obtain ⟨av, cv, bv, fv, rfl, hcapv, hmaxv, hnilv, hadv, helv⟩ := Ro.openT hv
 have hel' := ens_length xs
 refine go [9,10,60,0] ?_
 intro b3
 refine go [1,7,8,9,10,2,3,0,2,4] ?_
 refine G.op rfl (G.cR rfl rfl rfl rfl Tryz.func111 rfl rfl may0 (parentR_tr _ (by omega)) ?_)
 refine go [0,2,7,2,7,1,1,7,8,9,9,10,0,2,25,7,8] ?_
 refine G.cond rfl (fun h15 => ?_) (fun h15 => ?_)
 ·refine go [9,10,1,7,8,11,12] ?_
  exact G.done0G rfl (Rv.tmp rfl Rv.nil) (by rw [decide_eq_true (show heldM (ens xs) e from .inl (by simpa using h15))]; rfl)
 have hpt : (parentM e.path).2 = true := by simpa using h15
 refine go [13,8,9,9,10,1,7,8,15] ?_
 refine G.loopK (X := Nat) (ts := [0, 5]) (fun i => i ≤ xs.length ∧ (∀ q (hq : q < xs.length), q < i → ¬ (xs[q].1.path = (parentM e.path).1 ∧ xs[q].1.kind = 1))) (fun i => [(7, .int .i64 (i : Int))]) (fun i => []) (fun i => xs.length - i) (x0 := 0) (.cons rfl (.cons rfl .nil)) subT (.cons .nil) apT Y31 (.consE rfl veqT .nil) (fun i hJ => ?_)
 try dsimp only at hJ
 try dsimp only
 obtain ⟨hki, hJ⟩ := hJ
 refine go [9,9,10,0,0,2,5,2,9,7,8] ?_
 refine G.condP rfl (fun h19 => ?_) (fun h19 => ?_)
 ·have hJ0 := hJ
  have hlt : i < xs.length := by omega
  have hEv := helv i hlt
  have hRv := Ro.evRng hEv
  have hDv := Ro.evDat hEv
  obtain ⟨hk1v, hk2v, hlpv, hldv, hltv⟩ := Ro.evOk hEv
  have hCv := Ro.one1 hDv
  refine go [13,8,9,15,9] ?_
  refine G.cutK (X := Unit) (ts := [0, 5, 7]) (p := []) (fun _ => True) (fun _ => [(36, .bool (decide (xs[i].1.path = (parentM e.path).1 ∧ xs[i].1.kind = 1)))]) (fun _ => []) (.cons rfl (.cons rfl (.cons rfl .nil))) subT (.cons .nil) apT ?_ ?_
  ·refine go [10,0,0,2,20,5,2,3,0,2,4,0,2,24,0] ?_
   refine G.partP (t := 29) rfl (fun h29 => ?_) (fun h29 => ?_)
   ·refine go [3,0,3,0,3,20,5,3,3,1,3,4,3,13,2,2,7] ?_
    exact G.meet (()) trT (.consE rfl (dec_e (by simp_all)) (.cons rfl (.cons rfl (.cons rfl .nil)))) subT
   refine go [4,4,4,4,4,4,2,2,7] ?_
   exact G.meet (()) trT (.consE rfl (dec_f (by simp_all)) (.cons rfl (.cons rfl (.cons rfl .nil)))) subT
  intro _ hJ
  try dsimp only at hJ
  try dsimp only
  refine G.condP rfl (fun h36 => ?_) (fun h36 => ?_)
  ·refine go [9,10,1,7,8,11,17,12,12,17,12] ?_
   exact G.done0G rfl (Rv.tmp rfl Rv.nil) (by rw [decide_eq_true (show heldM (ens xs) e from .inr ⟨xs[i].1, List.mem_map.2 ⟨_, List.getElem_mem hlt, rfl⟩, h36⟩)]; rfl)
  have hno := h36
  refine go [13,16,8,10,0,2,6,1,7] ?_
  exact G.next (i + 1) (by first | exact trivial | ((try dsimp only) <;> exact ⟨by omega, fun q hq hqi => by rcases Nat.lt_or_ge q i with h1 | h1; exact hJ0 q hq h1; obtain rfl : q = i := (by omega); exact hno⟩)) (by (try dsimp only); omega) (.consE rfl veqT (.cons rfl (.cons rfl .nil))) subT
 refine go [18,14,14,19,8,9,10,1,7,8,11] ?_
 exact G.done0G rfl (Rv.tmp rfl Rv.nil) (by rw [decide_eq_false (heldNo hpt (fun q hq => by rw [ens_get (by omega)]; exact hJ q (by omega) (by omega)))]; rfl)
set_option maxRecDepth 20000 in
set_option maxHeartbeats 4000000 in
theorem tcheckR_tr {Ps : Nat → Prop} (v : Value) (xs : List ET) : Tr Tryz.prog 47 #[v] [slc rEV Ps v xs] [] (T0 (.tuple #[.int .i64 (checkT (ens xs)).1, .int .i64 (checkT (ens xs)).2])) := by
 refine Tr.of (l := [(0, v)]) Tryz.func47 rfl (n := 58) rfl (.cons rfl .nil) (fun w0 hro => ?_)
 have hv := ro1 hro
 have hv' := hv
 obtain ⟨av, cv, bv, fv, rfl, hcapv, hmaxv, hnilv, hadv, helv⟩ := Ro.openT hv
 have hel' := ens_length xs
 refine go [9,10,1,1,7,8,9,9,10,0,2,5,2,10,7,8] ?_
 refine G.condP rfl (fun h8 => ?_) (fun h8 => ?_)
 ·refine go [9,10,1,1,7,8,11,12] ?_
  exact G.done0G rfl (Rv.tmp rfl (Rv.tmp rfl Rv.nil)) (by rw [checkT_many (by omega)]; rfl)
 refine go [13,8,9,9,10,1,7,8,15] ?_
 refine G.loopK (X := Nat) (ts := [0]) (fun i => i ≤ xs.length ∧ (∀ q, q < i → errT (ens xs) q = 0)) (fun i => [(4, .int .i64 (i : Int))]) (fun i => []) (fun i => xs.length - i) (x0 := 0) (.cons rfl .nil) subT (.cons .nil) apT Y56 (.consE rfl veqT .nil) (fun i hJ => ?_)
 try dsimp only at hJ
 try dsimp only
 obtain ⟨hki, hJ⟩ := hJ
 refine go [9,9,10,0,0,2,5,2,9,7,8] ?_
 refine G.condP rfl (fun h12 => ?_) (fun h12 => ?_)
 ·have hJ0 := hJ
  have hlt : i < xs.length := by omega
  have hlt' : i < (ens xs).length := by omega
  have hg := ens_get hlt
  have hTk := Ro.takeT hv' (i := i) (by omega)
  have heq := errT_get hlt'
  rw [hg] at heq
  have hEv := helv i hlt
  have hRv := Ro.evRng hEv
  have hDv := Ro.evDat hEv
  obtain ⟨hk1v, hk2v, hlpv, hldv, hltv⟩ := Ro.evOk hEv
  have hCv := Ro.one1 hDv
  refine go [13,8,9,15,9,10,0,0,2,20,5,2,50,0] ?_
  refine G.op rfl (G.cR rfl rfl rfl rfl Tryz.func83 rfl rfl (may1 Y3) (oneR_tr _ _ (by omega)) ?_)
  refine go [1,7,8,9] ?_
  refine G.cutK (X := Unit) (ts := [0, 4]) (p := []) (fun _ => True) (fun _ => [(5, .int .i64 (if oneM xs[i].1 = 0 ∧ prevBad (ens xs) i then 7 else oneM xs[i].1))]) (fun _ => []) (.cons rfl (.cons rfl .nil)) subT (.cons .nil) apT ?_ ?_
  ·refine G.seq ?_
   refine G.cutK (X := Unit) (ts := [0, 4, 5]) (p := []) (fun _ => True) (fun _ => [(40, .bool (decide (oneM xs[i].1 = 0 ∧ prevBad (ens xs) i)))]) (fun _ => []) (.cons rfl (.cons rfl (.cons rfl .nil))) subT (.cons .nil) apT ?_ ?_
   ·refine G.drawT (nn := 21) (p := []) (rem := 2097151) [0, 1, 2, 4, 12, 20, 36, 64, 64, 320, 704, 1088, 2112, 64, 64, 24640, 32832, 65600, 135232, 262208, 524352] [0, 1, 2, 4, 12, 20, 32, 64, 64, 320, 704, 1088, 2112, 64, 64, 24640, 32832, 65600, 135232, 262208, 524352] kr ⟨rfl, by kernel_rfl, by kernel_rfl⟩ subT kr (fun hT7 => ?_)
    refine go [22,0,2097150,0,22,1,2097148,13,22,2,2097144,0] ?_
    refine G.partP (t := 22) rfl (fun h22 => ?_) (fun h22 => ?_)
    ·refine go [22,3,2097136,0,22,4,2097120,10,22,5,2097088,2,22,6,2097024,0] ?_
     refine G.partP (t := 26) rfl (fun h26 => ?_) (fun h26 => ?_)
     ·have hi0 : 0 < i := by omega
      have hEp := helv (i - 1) (by omega)
      have hRp := Ro.evRng hEp
      have hDp := Ro.evDat hEp
      obtain ⟨hk1p, hk2p, hlpp, hldp, hltp⟩ := Ro.evOk hEp
      have hCp := Ro.one1 hDp
      have hpv := prev_pos hi0 hlt'
      rw [hg, ens_get (show i - 1 < xs.length by omega)] at hpv
      refine go [22,7,2096896,0,22,8,2096640,0,22,9,2096128,19] ?_
      refine G.takeT hT7 (i := 10) (rem' := 2095104) rfl rfl rfl kr (fun _ _ _ h => h) rfl (pv_ixSl (sz := 5) (k := i - 1) Tryz.underlying22 kr rfl rfl Y30 (by omega) (by omega)) subT ?_
      refine go [22,11,2093056,3,0,22,12,2088960,4,22,13,2080768,0,22,14,2064384,0,22,15,2031616,20,5,22,16,1966080,3,0,24,17,1835008,25,4,26,24,18,1572864] ?_
      refine G.turnOp rfl rfl (G.cR rfl rfl rfl rfl Tryz.func75 rfl rfl may0 (compareR_tr _ _ (by omega) (by omega)) ?_)
      refine go [26,22,19,1048576,12,22,20,0,2,27] ?_
      exact G.meet (()) trT (.consE rfl Y19 (.cons rfl (.cons rfl (.cons rfl .nil)))) subT
     refine go [23,7,2096896,23,8,2096640,23,9,2096128,23,10,2095104,23,11,2093056,23,12,2088960,23,13,2080768,23,14,2064384,23,15,2031616,23,16,1966080,23,17,1835008,23,18,1572864,23,19,1048576,22,20,0,2,27] ?_
     exact G.meet (()) trT (.consE rfl Y19 (.cons rfl (.cons rfl (.cons rfl .nil)))) subT
    refine go [23,3,2097136,23,4,2097120,22,5,2097088,2,22,6,2097024,0,23,7,2096896,23,8,2096640,23,9,2096128,23,10,2095104,23,11,2093056,23,12,2088960,23,13,2080768,23,14,2064384,23,15,2031616,23,16,1966080,23,17,1835008,23,18,1572864,23,19,1048576,22,20,0,2,27] ?_
    exact G.meet (()) trT (.consE rfl Y19 (.cons rfl (.cons rfl (.cons rfl .nil)))) subT
   intro _ hJ
   try dsimp only at hJ
   try dsimp only
   refine G.condP rfl (fun h40 => ?_) (fun h40 => ?_)
   ·refine go [10,1,7] ?_
    exact G.meet (()) trT (.consE rfl (int_eq (by rw [if_pos (by assumption)])) (.cons rfl (.cons rfl .nil))) subT
   refine G.skip ?_
   exact G.meet (()) trT (.consE rfl (int_eq (by rw [if_neg (by assumption)])) (.cons rfl (.cons rfl .nil))) subT
  intro _ hJ
  try dsimp only at hJ
  try dsimp only
  refine G.seq ?_
  refine G.cutK (X := Unit) (ts := [0, 4]) (p := []) (fun _ => True) (fun _ => [(5, .int .i64 (errT (ens xs) i))]) (fun _ => []) (.cons rfl (.cons rfl .nil)) subT (.cons .nil) apT ?_ ?_
  ·refine G.seq ?_
   refine G.cutK (X := Unit) (ts := [0, 4, 5]) (p := []) (fun _ => True) (fun _ => [(53, .bool (decide ((if oneM xs[i].1 = 0 ∧ prevBad (ens xs) i then 7 else oneM xs[i].1) = 0 ∧ ¬ heldM ((ens xs).take i) xs[i].1)))]) (fun _ => []) (.cons rfl (.cons rfl (.cons rfl .nil))) subT (.cons .nil) apT ?_ ?_
   ·refine G.drawT (nn := 13) (p := []) (rem := 8191) [0, 1, 2, 4, 4, 28, 4, 4, 196, 260, 548, 1028, 2052] [0, 1, 2, 4, 4, 28, 4, 4, 196, 260, 548, 1028, 2052] kr ⟨rfl, by kernel_rfl, by kernel_rfl⟩ subT kr (fun hT9 => ?_)
    refine go [22,0,8190,0,22,1,8188,13,22,2,8184,0] ?_
    refine G.partP (t := 43) rfl (fun h43 => ?_) (fun h43 => ?_)
    ·refine go [22,3,8176,0,22,4,8160,0] ?_
     refine G.takeT hT9 (i := 5) (rem' := 8128) rfl rfl rfl kr (fun _ _ _ h => h) rfl (pv_subH (sz := 5) Tryz.underlying22 kr rfl rfl rfl (by omega)) subT ?_
     refine go [22,6,8064,0,22,7,7936,0,22,8,7680,20,5,24,9,7168,25,50,0,26,24,10,6144] ?_
     refine G.turnOp rfl rfl (G.cR rfl rfl rfl rfl Tryz.func84 rfl rfl (may2 Y3 Y3) (held_tr _ (xs.take i) _ _ (by omega)) ?_)
     rw [ens_take]
     refine go [26,22,11,4096,15,22,12,0,2,27] ?_
     exact G.meet (()) trT (.consE rfl Y43 (.cons rfl (.cons rfl (.cons rfl .nil)))) subT
    refine go [23,3,8176,23,4,8160,23,5,8128,23,6,8064,23,7,7936,23,8,7680,23,9,7168,23,10,6144,23,11,4096,22,12,0,2,27] ?_
    exact G.meet (()) trT (.consE rfl Y43 (.cons rfl (.cons rfl (.cons rfl .nil)))) subT
   intro _ hJ
   try dsimp only at hJ
   try dsimp only
   refine G.condP rfl (fun h53 => ?_) (fun h53 => ?_)
   ·refine go [10,1,7] ?_
    exact G.meet (()) trT (.consE rfl (int_eq (heq.trans (if_pos (by assumption))).symm) (.cons rfl (.cons rfl .nil))) subT
   refine G.skip ?_
   exact G.meet (()) trT (.consE rfl (int_eq (heq.trans (if_neg (by assumption))).symm) (.cons rfl (.cons rfl .nil))) subT
  intro _ hJ
  try dsimp only at hJ
  try dsimp only
  refine go [9,10,0,2,14,7,8] ?_
  refine G.condP rfl (fun h55 => ?_) (fun h55 => ?_)
  ·refine go [9,10,0,0,1,1,7,8,11,17,12,12,17,12] ?_
   exact G.done0G rfl (Rv.tmp rfl (Rv.tmp rfl Rv.nil)) (by rw [checkT_bad (by omega) hlt' hJ0 rfl (by assumption)]; rfl)
  have hok0 : errT (ens xs) i = 0 := by omega
  refine go [13,16,8,10,0,2,6,1,7] ?_
  exact G.next (i + 1) Y29 (by (try dsimp only); omega) (.consE rfl veqT (.cons rfl .nil)) subT
 refine go [18,14,14,19,8,9,10,1,1,7,8,11] ?_
 exact G.done0G rfl (Rv.tmp rfl (Rv.tmp rfl Rv.nil)) (by rw [checkT_ok (by omega) (fun q hq => hJ q (by omega))]; rfl)
def bigM (es : List En) (k r : Int) : Prop := k < es.length ∨ r < totM es
instance (es : List En) (k r : Int) : Decidable (bigM es k r) := inferInstanceAs (Decidable (_ ∨ _))
set_option maxRecDepth 20000 in
set_option maxHeartbeats 4000000 in
theorem big_tr {Ps : Nat → Prop} (v : Value) (xs : List ET) (k r : Int) (hk : 0 ≤ k ∧ k ≤ 1000) : Tr Tryz.prog 8 #[v, .int .i64 k, .int .i64 r] [slc rEV Ps v xs] [] (T0 (.bool (decide (bigM (ens xs) k r)))) := by
 refine Tr.of (l := [(0, v), (1, .int .i64 k), (2, .int .i64 r)]) Tryz.func8 rfl (n := 51) rfl (.cons rfl (.cons rfl (.cons rfl .nil))) (fun w0 hro => ?_)
 have hv := ro1 hro
 have hv' := hv
 obtain ⟨av, cv, bv, fv, rfl, hcapv, hmaxv, hnilv, hadv, helv⟩ := Ro.openT hv
 have hel' := ens_length xs
 refine go [9,10,1,7,8,9,10,1,7,8,9,9,10,1,7,8,15] ?_
 refine G.loopK (X := Nat) (ts := [0, 1, 2, 6]) (fun i => i ≤ xs.length ∧ (i : Int) ≤ k + 1 ∧ totM ((ens xs).take i) ≤ i * (3 * 140737488355328)) (fun i => [(7, .int .i64 (totM ((ens xs).take i) : Int)), (8, .int .i64 (i : Int))]) (fun i => []) (fun i => xs.length - i) (x0 := 0) (.cons rfl (.cons rfl (.cons rfl (.cons rfl .nil)))) subT (.cons (.cons .nil)) apT (by first | exact trivial | ((try dsimp only) <;> exact ⟨Nat.zero_le _, by omega, by simp [totM]⟩)) (.consE rfl veqT (.consE rfl veqT .nil)) (fun i hJ => ?_)
 try dsimp only at hJ
 try dsimp only
 obtain ⟨hi1, hi2, hsum⟩ := hJ
 refine go [9,9] ?_
 refine G.cutK (X := Unit) (ts := [0, 1, 2, 6, 7, 8]) (p := []) (fun _ => True) (fun _ => [(17, .bool (decide (i < xs.length ∧ (i : Int) ≤ k)))]) (fun _ => []) (.cons rfl (.cons rfl (.cons rfl (.cons rfl (.cons rfl (.cons rfl .nil)))))) subT (.cons .nil) apT ?_ ?_
 ·refine go [10,0,0,2,5,2,9,0] ?_
  refine G.partP (t := 13) rfl (fun h13 => ?_) (fun h13 => ?_)
  ·refine go [3,0,3,0,3,11,2,2,7] ?_
   exact G.meet (()) trT (.consE rfl Y48 (.cons rfl (.cons rfl (.cons rfl (.cons rfl (.cons rfl (.cons rfl .nil))))))) subT
  refine go [4,4,4,2,2,7] ?_
  exact G.meet (()) trT (.consE rfl Y48 (.cons rfl (.cons rfl (.cons rfl (.cons rfl (.cons rfl (.cons rfl .nil))))))) subT
 intro _ hJ
 try dsimp only at hJ
 try dsimp only
 refine G.condP rfl (fun h17 => ?_) (fun h17 => ?_)
 ·have hlt : i < xs.length := h17.1
  have hik := h17.2
  have hsz := totM_succ hlt
  have hEv := helv i hlt
  have hRv := Ro.evRng hEv
  have hDv := Ro.evDat hEv
  obtain ⟨hk1v, hk2v, hlpv, hldv, hltv⟩ := Ro.evOk hEv
  have hCv := Ro.one1 hDv
  obtain ⟨aD, cD, hx2⟩ := Ro.slv hDv
  rw [hx2] at hRv hCv
  refine go [13,8,9,15] ?_
  refine G.drawT (nn := 23) (p := []) (rem := 8388607) [0, 0, 0, 6, 8, 16, 32, 65, 0, 0, 768, 1024, 2048, 4096, 8320, 0, 0, 98304, 131072, 262144, 524288, 1064960, 4194303] [0, 0, 0, 6, 8, 16, 32, 65, 0, 0, 768, 1024, 2048, 4096, 8320, 0, 0, 98304, 131072, 262144, 524288, 1064960, 2097153] kr ⟨rfl, by kernel_rfl, by kernel_rfl⟩ subT kr (fun hT5 => ?_)
  refine go [22,0,8388606,0,22,1,8388604,0,22,2,8388600,0,22,3,8388592,20,5,22,4,8388576,3,0,22,8,8388320,0,22,9,8387808,0,22,10,8386784,20,5,22,11,8384736,3,3,22,15,8351968,0,22,16,8286432,0,22,17,8155360,20,5,22,18,7893216,3,4,22,5,7893184,4,22,6,7893120,21,22,7,7892992,6,22,12,7888896,4,22,13,7880704,5,22,14,7864320,6,24,19,7340032,25,4,26,22,20,6291456,21,22,21,4194304,6,22,22,0,1,27,16,8,10,0,2,6,1,7] ?_
  exact G.next (i + 1) (by first | exact trivial | ((try dsimp only) <;> exact ⟨by omega, by omega, by rw [hsz]; omega⟩)) (by (try dsimp only); omega) (.consE rfl veqT (.consE rfl veqT (.cons rfl (.cons rfl (.cons rfl (.cons rfl .nil)))))) subT
 have hmost : ¬ k < xs.length → (ens xs).take i = ens xs := fun h => List.take_of_length_le (by omega)
 refine go [18,14,14,19,8,9,10,0,2,5,0,2,10,0] ?_
 refine G.partP (t := 46) rfl (fun h46 => ?_) (fun h46 => ?_)
 ·refine go [4,4,4,2,2,1,7,8,11] ?_
  exact G.done0G rfl (Rv.tmp rfl Rv.nil) (by rw [decide_eq_true (show bigM (ens xs) k r from .inl (by omega))]; rfl)
 refine go [3,0,3,0,3,10,2,2,1,7,8,11] ?_
 exact G.done0G rfl (Rv.tmp rfl Rv.nil) (by rw [hmost (by omega)]; exact dec_e (by unfold bigM; omega))
set_option maxRecDepth 20000 in
set_option maxHeartbeats 4000000 in
theorem sameTree_tr {Ps Pu : Nat → Prop} (v u : Value) (xs ys : List ET) : Tr Tryz.prog 17 #[v, u] [slc rEV Ps v xs, slc rEV Pu u ys] [] (T0 (.bool (decide (ens xs = ens ys)))) := by
 refine Tr.of (l := [(0, v), (1, u)]) Tryz.func17 rfl (n := 81) rfl (.cons rfl (.cons rfl .nil)) (fun w0 hro => ?_)
 obtain ⟨hv0, hu0⟩ := ro2 hro
 have hv := hv0
 have hv' := hv
 obtain ⟨av, cv, bv, fv, rfl, hcapv, hmaxv, hnilv, hadv, helv⟩ := Ro.openT hv
 have hu := hu0
 have hu' := hu
 obtain ⟨au, cu, bu, fu, rfl, hcapu, hmaxu, hnilu, hadu, helu⟩ := Ro.openT hu
 refine go [9,10,1,7,8,9,9,10,0,2,5,0,2,5,2,14,7,8] ?_
 refine G.condP rfl (fun h10 => ?_) (fun h10 => ?_)
 ·refine go [9,10,1,7,8,11,12] ?_
  exact G.done0G rfl (Rv.tmp rfl Rv.nil) (by rw [decide_eq_false (ens_len_ne (by omega))]; rfl)
 have hxy : xs.length = ys.length := by omega
 refine go [13,8,9,9,10,1,7,8,15] ?_
 refine G.loopK (X := Nat) (ts := [0, 1]) (fun i => i ≤ xs.length ∧ (∀ q (hq : q < xs.length), q < i → xs[q].1 = (ys[q]'(by omega)).1)) (fun i => [(5, .int .i64 (i : Int))]) (fun i => []) (fun i => xs.length - i) (x0 := 0) (.cons rfl (.cons rfl .nil)) subT (.cons .nil) apT Y31 (.consE rfl veqT .nil) (fun i hJ => ?_)
 try dsimp only at hJ
 try dsimp only
 obtain ⟨hki, hJ⟩ := hJ
 refine go [9,9,10,0,0,2,5,2,9,7,8] ?_
 refine G.condP rfl (fun h14 => ?_) (fun h14 => ?_)
 ·have hJ0 := hJ
  have hlt : i < xs.length := by omega
  have hlu : i < ys.length := by omega
  have hEv := helv i hlt
  have hRv := Ro.evRng hEv
  have hDv := Ro.evDat hEv
  obtain ⟨hk1v, hk2v, hlpv, hldv, hltv⟩ := Ro.evOk hEv
  have hCv := Ro.one1 hDv
  have hEu := helu i hlu
  have hRu := Ro.evRng hEu
  have hDu := Ro.evDat hEu
  obtain ⟨hk1u, hk2u, hlpu, hldu, hltu⟩ := Ro.evOk hEu
  have hCu := Ro.one1 hDu
  have he := en_eq (a := xs[i].1) (b := ys[i].1)
  refine go [13,8,9,15,9] ?_
  refine G.cutK (X := Unit) (ts := [0, 1, 5]) (p := []) (fun _ => True) (fun _ => [(80, .bool (decide (xs[i].1 ≠ ys[i].1)))]) (fun _ => []) (.cons rfl (.cons rfl (.cons rfl .nil))) subT (.cons .nil) apT ?_ ?_
  ·refine G.drawT (nn := 64) (p := []) (rem := 18446744073709551615) [0, 0, 3, 4, 8, 0, 0, 96, 128, 256, 528, 1024, 2048, 2048, 14336, 18432, 34816, 2048, 2048, 395264, 526336, 1050624, 2164736, 4196352, 8390656, 16777216, 16777216, 117440512, 150994944, 285212672, 16777216, 16777216, 3238002688, 4311744512, 8606711808, 17733517312, 34376515584, 68736253952, 137438953472, 137438953472, 962072674304, 1236950581248, 2336462209024, 137438953472, 137438953472, 26525718020096, 35321811042304, 70506183131136, 145272973819904, 281612415664128, 563087392374784, 1407374883553280, 2251799813685248, 2251799813685248, 15762598695796736, 20266198323167232, 38280596832649216, 2251799813685248, 2251799813685248, 434597364041252864, 578712552117108736, 1155173304420532224, 2380152403065307136, 4613937818241073152] [0, 0, 3, 4, 8, 0, 0, 96, 128, 256, 528, 1024, 2048, 2048, 14336, 18432, 34816, 2048, 2048, 395264, 526336, 1050624, 2164736, 4196352, 8388608, 16777216, 16777216, 117440512, 150994944, 285212672, 16777216, 16777216, 3238002688, 4311744512, 8606711808, 17733517312, 34376515584, 68719476736, 137438953472, 137438953472, 962072674304, 1236950581248, 2336462209024, 137438953472, 137438953472, 26525718020096, 35321811042304, 70506183131136, 145272973819904, 281612415664128, 563087392374784, 1125899906842624, 2251799813685248, 2251799813685248, 15762598695796736, 20266198323167232, 38280596832649216, 2251799813685248, 2251799813685248, 434597364041252864, 578712552117108736, 1155173304420532224, 2380152403065307136, 4613937818241073152] kr ⟨rfl, by kernel_rfl, by kernel_rfl⟩ subT kr (fun hT6 => ?_)
   refine go [22,0,18446744073709551614,0,22,1,18446744073709551612,0,22,2,18446744073709551608,20,5,22,3,18446744073709551600,3,0,22,5,18446744073709551568,0,22,6,18446744073709551504,0,22,7,18446744073709551376,20,5,22,8,18446744073709551120,3,0,22,4,18446744073709551104,4,24,9,18446744073709550592,25,4,26,22,10,18446744073709549568,23,22,11,18446744073709547520,0] ?_
   refine G.partP (t := 28) rfl (fun h28 => ?_) (fun h28 => ?_)
   ·refine go [23,12,18446744073709543424,23,13,18446744073709535232,23,14,18446744073709518848,23,15,18446744073709486080,23,16,18446744073709420544,23,17,18446744073709289472,23,18,18446744073709027328,23,19,18446744073708503040,23,20,18446744073707454464,23,21,18446744073705357312,23,22,18446744073701163008,22,23,18446744073692774400,2,22,24,18446744073675997184,0,23,25,18446744073642442752,23,26,18446744073575333888,23,27,18446744073441116160,23,28,18446744073172680704,23,29,18446744072635809792,23,30,18446744071562067968,23,31,18446744069414584320,23,32,18446744065119617024,23,33,18446744056529682432,23,34,18446744039349813248,23,35,18446744004990074880,22,36,18446743936270598144,2,22,37,18446743798831644672,0,23,38,18446743523953737728,23,39,18446742974197923840,23,40,18446741874686296064,23,41,18446739675663040512,23,42,18446735277616529408,23,43,18446726481523507200,23,44,18446708889337462784,23,45,18446673704965373952,23,46,18446603336221196288,23,47,18446462598732840960,23,48,18446181123756130304,23,49,18445618173802708992,22,50,18444492273895866368,2,22,51,18442240474082181120,0,23,52,18437736874454810624,23,53,18428729675200069632,23,54,18410715276690587648,23,55,18374686479671623680,23,56,18302628885633695744,23,57,18158513697557839872,23,58,17870283321406128128,23,59,17293822569102704640,23,60,16140901064495857664,23,61,13835058055282163712,23,62,9223372036854775808,22,63,0,2,27] ?_
    exact G.meet (()) trT (.consE rfl Y8 (.cons rfl (.cons rfl (.cons rfl .nil)))) subT
   refine go [22,12,18446744073709543424,0,22,13,18446744073709535232,0,22,14,18446744073709518848,20,5,22,15,18446744073709486080,3,1,22,16,18446744073709420544,4,22,17,18446744073709289472,0,22,18,18446744073709027328,0,22,19,18446744073708503040,20,5,22,20,18446744073707454464,3,1,24,21,18446744073705357312,25,4,26,22,22,18446744073701163008,14,22,23,18446744073692774400,2,22,24,18446744073675997184,0] ?_
   refine G.partP (t := 41) rfl (fun h41 => ?_) (fun h41 => ?_)
   ·refine go [23,25,18446744073642442752,23,26,18446744073575333888,23,27,18446744073441116160,23,28,18446744073172680704,23,29,18446744072635809792,23,30,18446744071562067968,23,31,18446744069414584320,23,32,18446744065119617024,23,33,18446744056529682432,23,34,18446744039349813248,23,35,18446744004990074880,22,36,18446743936270598144,2,22,37,18446743798831644672,0,23,38,18446743523953737728,23,39,18446742974197923840,23,40,18446741874686296064,23,41,18446739675663040512,23,42,18446735277616529408,23,43,18446726481523507200,23,44,18446708889337462784,23,45,18446673704965373952,23,46,18446603336221196288,23,47,18446462598732840960,23,48,18446181123756130304,23,49,18445618173802708992,22,50,18444492273895866368,2,22,51,18442240474082181120,0,23,52,18437736874454810624,23,53,18428729675200069632,23,54,18410715276690587648,23,55,18374686479671623680,23,56,18302628885633695744,23,57,18158513697557839872,23,58,17870283321406128128,23,59,17293822569102704640,23,60,16140901064495857664,23,61,13835058055282163712,23,62,9223372036854775808,22,63,0,2,27] ?_
    exact G.meet (()) trT (.consE rfl Y8 (.cons rfl (.cons rfl (.cons rfl .nil)))) subT
   refine go [22,25,18446744073642442752,0,22,26,18446744073575333888,0,22,27,18446744073441116160,20,5,22,28,18446744073172680704,3,2,22,29,18446744072635809792,4,22,30,18446744071562067968,0,22,31,18446744069414584320,0,22,32,18446744065119617024,20,5,22,33,18446744056529682432,3,2,24,34,18446744039349813248,25,4,26,22,35,18446744004990074880,14,22,36,18446743936270598144,2,22,37,18446743798831644672,0] ?_
   refine G.partP (t := 54) rfl (fun h54 => ?_) (fun h54 => ?_)
   ·refine go [23,38,18446743523953737728,23,39,18446742974197923840,23,40,18446741874686296064,23,41,18446739675663040512,23,42,18446735277616529408,23,43,18446726481523507200,23,44,18446708889337462784,23,45,18446673704965373952,23,46,18446603336221196288,23,47,18446462598732840960,23,48,18446181123756130304,23,49,18445618173802708992,22,50,18444492273895866368,2,22,51,18442240474082181120,0,23,52,18437736874454810624,23,53,18428729675200069632,23,54,18410715276690587648,23,55,18374686479671623680,23,56,18302628885633695744,23,57,18158513697557839872,23,58,17870283321406128128,23,59,17293822569102704640,23,60,16140901064495857664,23,61,13835058055282163712,23,62,9223372036854775808,22,63,0,2,27] ?_
    exact G.meet (()) trT (.consE rfl Y8 (.cons rfl (.cons rfl (.cons rfl .nil)))) subT
   refine go [22,38,18446743523953737728,0,22,39,18446742974197923840,0,22,40,18446741874686296064,20,5,22,41,18446739675663040512,3,3,22,42,18446735277616529408,4,22,43,18446726481523507200,0,22,44,18446708889337462784,0,22,45,18446673704965373952,20,5,22,46,18446603336221196288,3,3,24,47,18446462598732840960,25,4,26,24,48,18446181123756130304] ?_
   refine G.turnOp rfl rfl (G.cR rfl rfl rfl rfl Tryz.func32 rfl rfl (may2 Y3 Y3) (same_tr _ _ _ _) ?_)
   refine go [26,22,49,18445618173802708992,15,22,50,18444492273895866368,2,22,51,18442240474082181120,0] ?_
   refine G.partP (t := 68) rfl (fun h68 => ?_) (fun h68 => ?_)
   ·refine go [23,52,18437736874454810624,23,53,18428729675200069632,23,54,18410715276690587648,23,55,18374686479671623680,23,56,18302628885633695744,23,57,18158513697557839872,23,58,17870283321406128128,23,59,17293822569102704640,23,60,16140901064495857664,23,61,13835058055282163712,23,62,9223372036854775808,22,63,0,2,27] ?_
    exact G.meet (()) trT (.consE rfl Y8 (.cons rfl (.cons rfl (.cons rfl .nil)))) subT
   refine go [22,52,18437736874454810624,0,22,53,18428729675200069632,0,22,54,18410715276690587648,20,5,22,55,18374686479671623680,3,4,22,56,18302628885633695744,4,22,57,18158513697557839872,0,22,58,17870283321406128128,0,22,59,17293822569102704640,20,5,22,60,16140901064495857664,3,4,24,61,13835058055282163712,25,4,26,22,62,9223372036854775808,23,22,63,0,2,27] ?_
   exact G.meet (()) trT (.consE rfl Y8 (.cons rfl (.cons rfl (.cons rfl .nil)))) subT
  intro _ hJ
  try dsimp only at hJ
  try dsimp only
  refine G.condP rfl (fun h80 => ?_) (fun h80 => ?_)
  ·have hne : xs[i].1 ≠ ys[i].1 := by assumption
   refine go [9,10,1,7,8,11,17,12,12,17,12] ?_
   exact G.done0G rfl (Rv.tmp rfl Rv.nil) (by rw [decide_eq_false (ens_ne hlt hlu hne)]; rfl)
  have heq : xs[i].1 = ys[i].1 := Decidable.of_not_not (by assumption)
  refine go [13,16,8,10,0,2,6,1,7] ?_
  exact G.next (i + 1) Y39 (by (try dsimp only); omega) (.consE rfl veqT (.cons rfl (.cons rfl .nil))) subT
 refine go [18,14,14,19,8,9,10,1,7,8,11] ?_
 exact G.done0G rfl (Rv.tmp rfl Rv.nil) (by rw [decide_eq_true (ens_eq (by omega) (fun q hq => hJ q hq (by omega)))]; rfl)
set_option maxRecDepth 100000
theorem flat_dat {xs : List ET} {sp : List Value} {i : Nat} (h : i < xs.length) : (flatT xs ++ sp)[0 + i * 5 + 3]? = some xs[i].2 := flat_at h 3 (by omega)
theorem flat_len {xs : List ET} {sp : List Value} {i j : Nat} (h : i < xs.length) (hj : j < 5) : 0 + i * 5 + j < (flatT xs ++ sp).length := by
 rw [List.length_append, flatT_length]
 omega
theorem flat_put {ws : List ET} {sp : List Value} {i : Nat} (h : i < ws.length) (x : ET) : putN (flatT ws ++ sp) (0 + i * 5) (evC x) = flatT (ws.set i x) ++ sp := by
 have hl : (flatT (ws.set i x)).length = ws.length * 5 := by rw [flatT_length, List.length_set]
 have hl2 : (flatT ws).length = ws.length * 5 := flatT_length ws
 apply List.ext_getElem?
 intro j
 rw [putN_get _ _ _ _ (by rw [evC_length, List.length_append, hl2]; omega), evC_length]
 rcases Nat.lt_or_ge j (ws.length * 5) with hj | hj
 ·obtain ⟨q, r, rfl, hr, hq⟩ : ∃ q r, j = q * 5 + r ∧ r < 5 ∧ q < ws.length := ⟨j / 5, j % 5, by omega, by omega, by omega⟩
  rw [List.getElem?_append_left (by rw [hl2]; omega), flatT_get hq hr, List.getElem?_append_left (by rw [hl]; omega), flatT_get (by rw [List.length_set]; exact hq) hr]
  by_cases hiq : i = q
  ·subst hiq
   rw [List.getElem_set_self, if_pos ⟨by omega, by omega⟩, show i * 5 + r - (0 + i * 5) = r by omega]
  rw [List.getElem_set_ne hiq, if_neg (by omega)]
 rw [if_neg (by omega), List.getElem?_append_right (by rw [hl2]; omega), List.getElem?_append_right (by rw [hl]; omega), hl, hl2]
theorem take_set_succ {α : Type} {zs : List α} {i : Nat} (h : i < zs.length) (x : α) : (zs.set i x).take (i + 1) = zs.take i ++ [x] := by
 rw [List.take_succ_eq_append_getElem (by rw [List.length_set]; exact h), List.getElem_set_self, List.take_set_of_le (Nat.le_refl _)]
theorem ens_set {xs : List ET} {i : Nat} (h : i < xs.length) (d : Value) : ens (xs.set i (xs[i].1, d)) = ens xs := by
 unfold ens
 rw [List.map_set]
 apply List.ext_getElem?
 intro j
 by_cases hj : i = j
 ·subst hj
  rw [List.getElem?_set_self (by rw [List.length_map]; exact h)]
  simp [h]
 rw [List.getElem?_set_ne hj]
theorem len_ens {xs ys : List ET} (h : ens xs = ens ys) : xs.length = ys.length := by
 have := congrArg List.length h
 rwa [ens_length, ens_length] at this
section
variable {P : Program} {n : Nat} {w0 : World} {S : Nat → Prop} {l : Fr} {m : List Ck} {Q : Exit → Act → World → Prop} {K : Act → World → Prop}
theorem Ro.allDat {b o : Nat} {Ps : Nat → Prop} {xs : List ET} (hel : ∀ i (hi : i < xs.length), Ro w0 S (elc rEV Ps b (o + i * 5) xs[i])) : ∀ x ∈ xs, Ro w0 S (slc rByte Ps x.2 x.1.data) := fun x hx => by
 obtain ⟨i, hi, rfl⟩ := List.getElem_of_mem hx
 exact Ro.evDat (hel i hi)
theorem newsT {b o : Nat} {Ps : Nat → Prop} {xs : List ET} (hel : ∀ i (hi : i < xs.length), Ro w0 S (elc rEV Ps b (o + i * 5) xs[i])) : ∀ w, Hp w0 S w m → News w b o (flatT xs) := fun w hw j u hj => by
 have hl : j < xs.length * 5 := by
  have := (List.getElem?_eq_some_iff.1 hj).1
  rwa [flatT_length] at this
 obtain ⟨q, r, rfl, hr, hq⟩ : ∃ q r, j = q * 5 + r ∧ r < 5 ∧ q < xs.length := ⟨j / 5, j % 5, by omega, by omega, by omega⟩
 rw [flatT_get hq hr] at hj
 have h2 := ((hel q hq).at hw : rEV.R Ps w b (o + q * 5) xs[q]).2.1 r u hj
 rwa [Nat.add_assoc] at h2
theorem flatT_one' {xs : List ET} (h : ∀ x ∈ xs, x.2.oneCell' = true) : ∀ u ∈ flatT xs, u.oneCell' = true := fun u hu => by
 obtain ⟨x, hx, hu⟩ := List.mem_flatMap.1 hu
 simp only [evC, List.mem_cons, List.not_mem_nil, or_false] at hu
 rcases hu with rfl | rfl | rfl | rfl | rfl
 ·rfl
 ·rfl
 ·rfl
 ·exact h x hx
 rfl
theorem Ro.allOne {b o : Nat} {Ps : Nat → Prop} {xs : List ET} (hel : ∀ i (hi : i < xs.length), Ro w0 S (elc rEV Ps b (o + i * 5) xs[i])) : ∀ u ∈ flatT xs, u.oneCell' = true := flatT_one' fun x hx => by
 obtain ⟨ad, cap, e⟩ := Ro.slv (Ro.allDat hel x hx)
 rw [e]
 rfl
theorem G.datNil (e : TypeId) (h : G n w0 S l (datC e [] :: m) K) : G n w0 S l m K := G.mem (fun w hw => Hp.star (m := []) hw) h
theorem G.datSnoc {e : TypeId} {ys : List ET} {x : ET} {r r' : List Ck} (h1 : Sel m (datC e ys) r) (h2 : Sel r (ownB e x.2 x.1.data) r') (h : G n w0 S l (datC e (ys ++ [x]) :: r') K) : G n w0 S l m K := G.mem (fun w hw => by
 have h3 := Hp.unstar (hw.sel h1)
 have p : (ys.map (fun x : ET => ownB e x.2 x.1.data) ++ r).Perm (((ys ++ [x]).map fun x : ET => ownB e x.2 x.1.data) ++ r') := by
  rw [List.map_append, List.append_assoc]
  exact List.Perm.append_left _ h2.perm
 exact Hp.star (h3.perm p)) h
end
theorem Tryz.infoEn' : (Tryz.prog.info? 68).map (fun i => (i.zero.map (·.cells.size), i.size, i.bytes)) = some (some 5, 5, 72) := by kernel_rfl
set_option maxRecDepth 20000 in
set_option maxHeartbeats 4000000 in
theorem copyT_tr {Ps : Nat → Prop} (v : Value) (xs : List ET) (hn : xs.length ≤ 1000) : Tr Tryz.prog 10 #[v] [slc rEV Ps v xs] [] (TX (fun z : Value × List ET => ens z.2 = ens xs) (fun z => z.1) (fun z => [ownT 68 z.1 z.2, datC 5 z.2])) := by
 refine Tr.of (l := [(0, v)]) Tryz.func10 rfl (n := 25) rfl (.cons rfl .nil) (fun w0 hro => ?_)
 have hv := ro1 hro
 have hv' := hv
 obtain ⟨av, cv, bv, fv, rfl, hcapv, hmaxv, hnilv, hadv, helv⟩ := Ro.openT hv
 refine go [9,10,1,7,8,9,10,60,14] ?_
 intro b5
 refine G.ownBlk (b := b5) (k := 0) (sz := 5) selT rfl (by omega) ?_
 refine go [0] ?_
 refine G.op rfl (G.append (k := 0) (j := xs.length) (cs := []) (news := flatT xs) (b := bv) (off := fv) rfl Tryz.underlying22 Tryz.infoEn' rfl rfl rfl selT hadv hnilv (flatT_length xs) (newsT helv) (Ro.allOne helv) (by omega) (by omega) ?_)
 intro v3
 rw [List.nil_append, Nat.zero_add xs.length]
 refine G.ownOpen (v := v3) selT (fun a3 c3 h3 hk3 hm3 => ?_)
 subst h3
 refine go [1,7,8,9,9,10,1,7,8,15] ?_
 refine G.datNil 5 ?_
 refine G.loopK (X := Nat × (List ET)) (ts := [2, 3]) (fun st => st.1 ≤ xs.length ∧ (ens st.2 = ens xs ∧ ∀ q (hq : q < st.2.length) (hx : q < xs.length), st.1 ≤ q → st.2[q] = xs[q])) (fun st => [(4, .int .i64 (st.1 : Int))]) (fun st => [ownT 68 (.slice a3 xs.length c3) st.2, datC 5 (st.2.take st.1)]) (fun st => xs.length - st.1) (x0 := (0, xs)) (.cons rfl (.cons rfl .nil)) subT (.cons .nil) apT Y28 (.consE rfl veqT .nil) (fun st hJ => ?_)
 obtain ⟨i, zs⟩ := st
 try dsimp only at hJ
 try dsimp only
 obtain ⟨hki, hJ⟩ := hJ
 obtain ⟨hez, hsame⟩ := hJ
 have hlz := len_ens hez
 refine go [9,9,10,0,0,2,5,2,9,7,8] ?_
 refine G.condP rfl (fun h11 => ?_) (fun h11 => ?_)
 ·have hlt : i < xs.length := by omega
  have hlt' : i < zs.length := by omega
  have hzx : zs[i] = xs[i] := hsame i hlt' hlt (Nat.le_refl _)
  have hEv := helv i hlt
  have hRv := Ro.evRng hEv
  have hDv := Ro.evDat hEv
  obtain ⟨hk1v, hk2v, hlpv, hldv, hltv⟩ := Ro.evOk hEv
  have hCv := Ro.one1 hDv
  refine go [13,8,9,15,10] ?_
  rw [show ownT 68 (.slice a3 xs.length c3) zs = own 68 5 (.slice a3 xs.length c3) zs.length (flatT zs) from rfl]
  refine G.ownTo selT (by omega) (fun g cap sp hvv hkc hmx hl hlen => ?_)
  injection hvv with e1 e2 e3
  subst e1
  subst e3
  refine go [0,0,0,0] ?_
  refine G.op rfl (G.val rfl rfl (pv_ixSl (sz := 5) (k := i) Tryz.underlying22 kr rfl rfl (fun _ => rfl) (by omega) (by omega)) ?_)
  refine go [2,3,3] ?_
  refine G.op rfl (G.val rfl rfl (pv_load (v := xs[i].2) Tryz.underlying39 rfl rfl (blk_cell selD (by rw [← hzx]; exact flat_dat hlt'))) ?_)
  refine G.op rfl (G.cS rfl rfl rfl rfl Tryz.func44 rfl rfl subT (may1 Y3) (copyB_tr _ _ (by omega)) apT ?_)
  intro x21 hJ
  try dsimp only at hJ
  try dsimp only
  refine G.ownBFact selT (v := x21) (fun hv21 => ?_)
  refine G.op rfl (G.val rfl rfl (pv_ixSl (sz := 5) (k := i) Tryz.underlying22 kr rfl rfl (fun _ => rfl) (by omega) (by omega)) ?_)
  refine go [2,3,3] ?_
  refine G.op rfl (G.store kr rfl rfl (by assumption) selT (flat_len hlt' (by omega)) ?_)
  rw [flat_set hlt']
  refine go [7,16,8,10,0,2,6,1,7] ?_
  refine G.ownOf (sz := 5) (k := xs.length) (cs := flatT (zs.set i (zs[i].1, x21))) (sp := sp) selT (by rw [flatT_length, List.length_set, hlz]) (by omega) hmx (by rw [List.length_append, flatT_length, List.length_set]; rw [List.length_append, flatT_length] at hl; exact hl) ?_
  have hzt : zs.take i ++ [(zs[i].1, x21)] = (zs.set i (zs[i].1, x21)).take (i + 1) := (take_set_succ hlt' _).symm
  refine G.datSnoc (ys := zs.take i) (x := (zs[i].1, x21)) selT (by rw [show (zs[i].1, x21).1.data = xs[i].1.data from by rw [hzx]]; repeat (first | with_reducible exact Sel.here | exact Sel.here | apply Sel.there)) ?_
  rw [hzt]
  exact G.next ((i + 1, zs.set i (zs[i].1, x21))) (by first | exact trivial | ((try dsimp only) <;> exact ⟨by omega, ⟨by rw [ens_set hlt', hez], fun q hq hx hiq => by rw [List.getElem_set_ne (by omega)]; exact hsame q (by rw [List.length_set] at hq; exact hq) hx (by omega)⟩⟩)) (by (try dsimp only); omega) (.consE rfl veqT (.cons rfl (.cons rfl .nil))) (by show Sub _ [own 68 5 _ (zs.set i (zs[i].1, x21)).length (flatT _), _] _; rw [List.length_set, hlz]; repeat (first | exact Sub.nil | (apply Sub.cons; (repeat (first | with_reducible exact Sel.here | exact Sel.here | apply Sel.there)))))
 refine go [18,14,14,19,8,9,10,0,1,7,8,11] ?_
 obtain rfl : i = xs.length := by omega
 rw [show zs.take xs.length = zs from List.take_of_length_le (by omega)]
 exact G.doneX1 ((.slice a3 xs.length c3, zs)) Y54 rfl rfl rfl subT
structure KeyF (P : Program) (k : TypeId) {κ : Type} (f : κ → Value) (ok : κ → Prop) : Prop where
 keyed : Go.Maps.Keyed P k
 is : ∀ x, ok x → ∃ l, keyOf P k (f x) = some l
 inj : ∀ x y, f x = f y → x = y
section
variable {κ : Type} [DecidableEq κ]
def mget : List (κ × Value) → κ → Option Value
 | [], _ => none
 | (a, v) :: l, k => if a = k then some v else mget l k
def mset : List (κ × Value) → κ → Value → List (κ × Value)
 | [], k, v => [(k, v)]
 | (a, u) :: l, k, v => if a = k then (k, v) :: l else (a, u) :: mset l k v
theorem mget_mset (l : List (κ × Value)) (k : κ) (v : Value) (j : κ) : mget (mset l k v) j = if k = j then some v else mget l j := by
 induction l with
 | nil => simp [mset, mget]
 | cons p l ih =>
  obtain ⟨a, u⟩ := p
  unfold mset
  by_cases h : a = k
  ·rw [if_pos h]
   subst h
   by_cases h2 : a = j <;> simp [mget, h2]
  rw [if_neg h]
  by_cases h2 : a = j
  ·subst h2
   simp [mget, Ne.symm h, (show ¬ k = a from fun e => h e.symm)]
  simp [mget, h2, ih]
theorem mget_none {l : List (κ × Value)} {k : κ} (h : ∀ p ∈ l, p.1 ≠ k) : mget l k = none := by
 induction l with
 | nil => rfl
 | cons p l ih =>
  obtain ⟨a, u⟩ := p
  have := h (a, u) (List.mem_cons_self ..)
  simp [mget, this, ih fun q hq => h q (List.mem_cons_of_mem _ hq)]
theorem mget_at {l : List (κ × Value)} (hn : (l.map (·.1)).Nodup) {j : Nat} {k : κ} {v : Value} (h : l[j]? = some (k, v)) : mget l k = some v := by
 induction l generalizing j with
 | nil => simp at h
 | cons p l ih =>
  obtain ⟨a, u⟩ := p
  rw [List.map_cons, List.nodup_cons] at hn
  cases j with
  | zero =>
   rw [List.getElem?_cons_zero] at h
   injection h with h
   injection h with h1 h2
   subst h1 h2
   simp [mget]
  | succ j =>
   rw [List.getElem?_cons_succ] at h
   have hm : k ∈ l.map (·.1) := List.mem_map.2 ⟨_, List.mem_of_getElem? h, rfl⟩
   have : ¬ a = k := fun e => hn.1 (e ▸ hm)
   simp [mget, this, ih hn.2 h]
theorem mset_new {l : List (κ × Value)} {k : κ} {v : Value} (h : ∀ p ∈ l, p.1 ≠ k) : mset l k v = l ++ [(k, v)] := by
 induction l with
 | nil => rfl
 | cons p l ih =>
  obtain ⟨a, u⟩ := p
  have := h (a, u) (List.mem_cons_self ..)
  simp [mset, this, ih fun q hq => h q (List.mem_cons_of_mem _ hq)]
theorem mset_at {l : List (κ × Value)} (hn : (l.map (·.1)).Nodup) {j : Nat} {k : κ} {u v : Value} (h : l[j]? = some (k, u)) : mset l k v = l.set j (k, v) := by
 induction l generalizing j with
 | nil => simp at h
 | cons p l ih =>
  obtain ⟨a, w⟩ := p
  rw [List.map_cons, List.nodup_cons] at hn
  cases j with
  | zero =>
   rw [List.getElem?_cons_zero] at h
   injection h with h
   injection h with h1 h2
   subst h1
   simp [mset]
  | succ j =>
   rw [List.getElem?_cons_succ] at h
   have hm : k ∈ l.map (·.1) := List.mem_map.2 ⟨_, List.mem_of_getElem? h, rfl⟩
   have : ¬ a = k := fun e => hn.1 (e ▸ hm)
   simp [mset, this, ih hn.2 h]
theorem mset_keys (l : List (κ × Value)) (k : κ) (v : Value) : (mset l k v).map (·.1) = if k ∈ l.map (·.1) then l.map (·.1) else l.map (·.1) ++ [k] := by
 induction l with
 | nil => simp [mset]
 | cons p l ih =>
  obtain ⟨a, u⟩ := p
  unfold mset
  by_cases h : a = k
  ·subst h
   simp
  rw [if_neg h, List.map_cons, ih]
  by_cases h2 : k ∈ l.map (·.1)
  ·simp [h2]
  simp only [List.map_cons, List.mem_cons, if_neg h2]
  rw [if_neg (fun e => e.elim (fun e => h e.symm) h2)]
  rfl
theorem mset_nodup {l : List (κ × Value)} (hn : (l.map (·.1)).Nodup) (k : κ) (v : Value) : ((mset l k v).map (·.1)).Nodup := by
 rw [mset_keys]
 split
 ·exact hn
 rename_i h
 exact List.nodup_append.2 ⟨hn, by simp, fun a ha b hb => by
  obtain rfl : b = k := by simpa using hb
  exact fun e => h (e ▸ ha)⟩
theorem mset_ok {ok : κ → Prop} {l : List (κ × Value)} (h : ∀ p ∈ l, ok p.1) {k : κ} (hk : ok k) (v : Value) : ∀ p ∈ mset l k v, ok p.1 := fun p hp => by
 have : p.1 ∈ (mset l k v).map (·.1) := List.mem_map.2 ⟨p, hp, rfl⟩
 rw [mset_keys] at this
 split at this
 ·obtain ⟨q, hq, e⟩ := List.mem_map.1 this
  rw [← e]
  exact h q hq
 rcases List.mem_append.1 this with h1 | h1
 ·obtain ⟨q, hq, e⟩ := List.mem_map.1 h1
  rw [← e]
  exact h q hq
 obtain rfl : p.1 = k := by simpa using h1
 exact hk
end
structure MapIs {κ : Type} (f : κ → Value) (ok : κ → Prop) (es : Array MapEntry) (l : List (κ × Value)) : Prop where
 eq : es.toList.map (fun e => (e.key, e.val)) = l.map fun p => (f p.1, p.2)
 nodup : (l.map (·.1)).Nodup
 ok : ∀ p ∈ l, ok p.1
def mpc {κ : Type} (f : κ → Value) (ok : κ → Prop) (b : Nat) (l : List (κ × Value)) : Ck := ⟨(· = b), fun w => ∃ es clock, w.heap[b]? = some (.map es clock) ∧ MapIs f ok es l, fun w w' h ⟨es, c, h1, h2⟩ => ⟨es, c, (h b rfl).trans h1, h2⟩⟩
section
variable {κ : Type} {f : κ → Value} {ok : κ → Prop} {es : Array MapEntry} {l : List (κ × Value)} {P : Program} {k : TypeId}
theorem MapIs.get (h : MapIs f ok es l) {j : Nat} {e : MapEntry} (he : es[j]? = some e) : ∃ x, l[j]? = some (x, e.val) ∧ f x = e.key := by
 have h1 : (es.toList.map (fun e => (e.key, e.val)))[j]? = some (e.key, e.val) := by rw [List.getElem?_map, Array.getElem?_toList, he]; rfl
 rw [h.eq, List.getElem?_map] at h1
 obtain ⟨p, hp, e2⟩ := Option.map_eq_some_iff.1 h1
 injection e2 with e3 e4
 exact ⟨p.1, by rw [hp, ← e4], e3⟩
theorem MapIs.mem (h : MapIs f ok es l) {e : MapEntry} (he : e ∈ es.toList) : ∃ x, (x, e.val) ∈ l ∧ f x = e.key := by
 obtain ⟨j, hj⟩ := List.getElem?_of_mem he
 obtain ⟨x, h1, h2⟩ := h.get (j := j) (by rw [← Array.getElem?_toList]; exact hj)
 exact ⟨x, List.mem_of_getElem? h1, h2⟩
theorem MapIs.back (h : MapIs f ok es l) {p : κ × Value} (hp : p ∈ l) : ∃ e ∈ es.toList, f p.1 = e.key ∧ p.2 = e.val := by
 have : (f p.1, p.2) ∈ l.map fun p => (f p.1, p.2) := List.mem_map.2 ⟨p, hp, rfl⟩
 rw [← h.eq] at this
 obtain ⟨e, he, e1⟩ := List.mem_map.1 this
 injection e1 with e2 e3
 exact ⟨e, he, e2.symm, e3.symm⟩
theorem MapIs.nil : MapIs f ok #[] [] := ⟨rfl, by simp, by simp⟩
theorem MapIs.find (K : KeyF P k f ok) (h : MapIs f ok es l) {x : κ} (hx : ok x) (w : World) :
 ((Instr.findKey k (f x) es.toList).run P w = .ok none w ∧ (∀ p ∈ l, p.1 ≠ x)) ∨ ∃ j e, (Instr.findKey k (f x) es.toList).run P w = .ok (some (j, e.val)) w ∧ es[j]? = some e ∧ e.key = f x ∧ l[j]? = some (x, e.val) := by
 obtain ⟨lx, hlx⟩ := K.is x hx
 rcases K.keyed.find w hlx es.toList (fun e he => by
  obtain ⟨y, hy, e1⟩ := h.mem he
  rw [← e1]
  exact K.is y (h.ok _ hy)) with ⟨h1, h2⟩ | ⟨j, e, h1, h2, h3⟩
 ·exact .inl ⟨h1, fun p hp e1 => by
   obtain ⟨e, he, e2, _⟩ := h.back hp
   exact h2 e he (by rw [← e2, e1])⟩
 rw [Array.getElem?_toList] at h2
 obtain ⟨y, hy, e1⟩ := h.get h2
 have : y = x := K.inj _ _ (e1.trans h3)
 subst this
 exact .inr ⟨j, e, h1, h2, h3, hy⟩
variable [DecidableEq κ]
theorem run_mapGet {t e : TypeId} {w : World} {b : Nat} {clock : Nat} (K : KeyF P k f ok) (h : MapIs f ok es l) (hb : w.heap[b]? = some (.map es clock)) (ht : P.underlying t = some (.map k e)) {z : Value} (hz : (zeroValue e).run P w = .ok z w) {x : κ} (hx : ok x) (c : Bool) :
 (Instr.lookup t (.map (some b)) (f x) c).run P w = .ok (if c then .tuple #[(mget l x).getD z, .bool (mget l x).isSome] else (mget l x).getD z) w := by
 obtain ⟨lx, hlx⟩ := K.is x hx
 rcases h.find K hx w with ⟨h1, h2⟩ | ⟨j, e0, h1, h2, h3, h4⟩
 ·rw [mget_none h2]
  simp [Instr.lookup, run_underlying ht, MapKept.run_getObj_map hb, K.keyed.check w _ hlx, h1, hz, Result.andThen]
 rw [mget_at h.nodup h4]
 simp [Instr.lookup, run_underlying ht, MapKept.run_getObj_map hb, K.keyed.check w _ hlx, h1, Result.andThen]
theorem run_mapSet {t e : TypeId} {w : World} {b : Nat} {clock : Nat} (K : KeyF P k f ok) (h : MapIs f ok es l) (hb : w.heap[b]? = some (.map es clock)) (ht : P.underlying t = some (.map k e)) {x : κ} (hx : ok x) (v : Value) :
 ∃ es' clock', (Instr.mapUpdate t (.map (some b)) (f x) v).run P w = .ok () (w.putObj b (.map es' clock')) ∧ MapIs f ok es' (mset l x v) := by
 obtain ⟨lx, hlx⟩ := K.is x hx
 rcases h.find K hx w with ⟨h1, h2⟩ | ⟨j, e0, h1, h2, h3, h4⟩
 ·refine ⟨es.push ⟨f x, v, clock⟩, clock + 1, ?_, ?_, mset_nodup h.nodup x v, mset_ok h.ok hx v⟩
  ·simp [Instr.mapUpdate, run_underlying ht, MapKept.run_getObj_map hb, K.keyed.check w false hlx, h1, MapKept.run_setObj_map _ hb, Result.andThen, World.putObj]
  rw [mset_new h2, Array.toList_push, List.map_append, List.map_append, h.eq]
  rfl
 have hst := K.keyed.stays w hlx
 refine ⟨es.modify j fun e => { e with key := f x, val := v }, clock, ?_, ?_, mset_nodup h.nodup x v, mset_ok h.ok hx v⟩
 ·simp [Instr.mapUpdate, run_underlying ht, MapKept.run_getObj_map hb, K.keyed.check w false hlx, h1, h2, h3, hst, MapKept.run_setObj_map _ hb, Result.andThen, World.putObj]
 rw [mset_at h.nodup h4]
 apply List.ext_getElem?
 intro q
 rw [List.getElem?_map, List.getElem?_map, Array.getElem?_toList, Array.getElem?_modify]
 by_cases hq : j = q
 ·subst hq
  have hl : j < l.length := (List.getElem?_eq_some_iff.1 h4).1
  rw [if_pos rfl, h2, List.getElem?_set_self hl]
  rfl
 rw [if_neg hq, List.getElem?_set_ne hq]
 have := congrArg (·[q]?) h.eq
 simp only [List.getElem?_map, Array.getElem?_toList] at this
 exact this
end
section
variable {P : Program} {n : Nat} {w0 : World} {S : Nat → Prop} {l : Fr} {m : List Ck} {Q : Exit → Act → World → Prop} {K : Act → World → Prop}
variable {dst : Option Tmp} {ty : TypeId} {pos : String} {after : Array Edge} {g : Option (Nat × Bool)}
theorem G.mapNew {κ : Type} (f : κ → Value) (ok : κ → Prop) {t d : Nat} (hn : Nat.blt d n = true) (h : ∀ b, G n w0 S ((d, .map (some b)) :: l) (mpc f ok b [] :: m) K) : G n w0 S l m (fun a w => Oper.wp P ⟨some d, .makeMap t none, ty, pos, after, g⟩ a w K Q) := G.eff rfl hn fun a w ha hw => by
 have hw' := hw.allocO (.map #[] 0)
 refine ⟨.map (some w.heap.size), w.alloc (.map #[] 0), mpc f ok w.heap.size [] :: m, run_v (run_makeMap t w), ?_, h _⟩
 refine ⟨hw'.chg, fun c hc => ?_, fun c hc b hb => ?_, ?_⟩
 ·rcases List.mem_cons.1 hc with rfl | hc
  ·have : (w.alloc (.map #[] 0)).heap[w.heap.size]? = some (.map #[] 0) := hw'.holds _ (List.mem_cons_self ..)
   exact ⟨#[], 0, this, MapIs.nil⟩
  exact hw'.holds c (List.mem_cons_of_mem _ hc)
 ·rcases List.mem_cons.1 hc with rfl | hc
  ·exact hw'.own _ (List.mem_cons_self ..) b hb
  exact hw'.own c (List.mem_cons_of_mem _ hc) b hb
 have hd := List.pairwise_cons.1 hw'.dis
 exact List.pairwise_cons.2 ⟨fun c hc b hb => hd.1 c hc b hb, hd.2⟩
theorem Hp.mapPut {κ : Type} {f : κ → Value} {ok : κ → Prop} {w : World} {b : Nat} {es es' : Array MapEntry} {clock clock' : Nat} {xs xs' : List (κ × Value)} {q : List Ck} (hw : Hp w0 S w (mpc f ok b xs :: q)) (hb : w.heap[b]? = some (.map es clock)) (h : MapIs f ok es' xs') : Hp w0 S (w.putObj b (.map es' clock')) (mpc f ok b xs' :: q) := by
 have hd := List.pairwise_cons.1 hw.dis
 have h1 : Hp w0 S w (obc b (.map es clock) :: q) := ⟨hw.chg, fun c hc => by
  rcases List.mem_cons.1 hc with rfl | hc
  ·exact hb
  ·exact hw.holds c (List.mem_cons_of_mem _ hc), fun c hc i hi => by
  rcases List.mem_cons.1 hc with rfl | hc
  ·exact hw.own _ (List.mem_cons_self ..) i hi
  exact hw.own c (List.mem_cons_of_mem _ hc) i hi, List.pairwise_cons.2 ⟨fun c hc i hi => hd.1 c hc i hi, hd.2⟩⟩
 have h2 := h1.putO (.map es' clock')
 have hd2 := List.pairwise_cons.1 h2.dis
 refine ⟨h2.chg, fun c hc => ?_, fun c hc i hi => ?_, List.pairwise_cons.2 ⟨fun c hc i hi => hd2.1 c hc i hi, hd2.2⟩⟩
 ·rcases List.mem_cons.1 hc with rfl | hc
  ·exact ⟨es', clock', h2.holds _ (List.mem_cons_self ..), h⟩
  exact h2.holds c (List.mem_cons_of_mem _ hc)
 rcases List.mem_cons.1 hc with rfl | hc
 ·exact h2.own _ (List.mem_cons_self ..) i hi
 exact h2.own c (List.mem_cons_of_mem _ hc) i hi
theorem G.mapSet {κ : Type} [DecidableEq κ] {f : κ → Value} {ok : κ → Prop} {t k e b : Nat} {xm xk xv : Operand} {x : κ} {v : Value} {xs : List (κ × Value)} {r : List Ck} (Kf : KeyF P k f ok) (ht : P.underlying t = some (.map k e)) (hm : ev l xm = some (.map (some b))) (hk : ev l xk = some (f x)) (hv : ev l xv = some v) (hx : ok x) (hs : Sel m (mpc f ok b xs) r)
 (h : G n w0 S l (mpc f ok b (mset xs x v) :: r) K) : G n w0 S l m (fun a w => Oper.wp P ⟨none, .mapUpdate t xm xk xv, ty, pos, after, g⟩ a w K Q) := G.act rfl fun a w ha hw => by
 have hw' := hw.sel hs
 obtain ⟨es, clock, hb, hi⟩ : ∃ es clock, w.heap[b]? = some (.map es clock) ∧ MapIs f ok es xs := hw'.holds _ (List.mem_cons_self ..)
 obtain ⟨es', clock', hr, hi'⟩ := run_mapSet Kf hi hb ht hx v
 refine ⟨_, _, ?_, hw'.mapPut (clock' := clock') hb hi', h⟩
 have e1 := ha.eval hm
 have e2 := ha.eval hk
 have e3 := ha.eval hv
 show (execOp a.eval _).run P w = _
 simp only [execOp, e1, e2, e3]
 exact run_u hr
theorem pv_mapGet {κ : Type} [DecidableEq κ] {f : κ → Value} {ok : κ → Prop} {t k e b : Nat} {xm xk : Operand} {c : Bool} {x : κ} {z : Value} {xs : List (κ × Value)} (Kf : KeyF P k f ok) (ht : P.underlying t = some (.map k e)) (hz : ∀ w, (zeroValue e).run P w = .ok z w) (hm : ev l xm = some (.map (some b))) (hk : ev l xk = some (f x)) (hx : ok x)
 (hs : ∀ w, Hp w0 S w m → (mpc f ok b xs).φ w) : PV P n w0 S l m ⟨dst, .lookup t xm xk c, ty, pos, after, g⟩ (if c then .tuple #[(mget xs x).getD z, .bool (mget xs x).isSome] else (mget xs x).getD z) := fun a w ha hw => by
 obtain ⟨es, clock, hb, hi⟩ := hs w hw
 have e1 := ha.eval hm
 have e2 := ha.eval hk
 show (execOp a.eval _).run P w = _
 simp only [execOp, e1, e2]
 exact run_v (run_mapGet Kf hi hb ht (hz w) hx c)
theorem sel_map {κ : Type} {f : κ → Value} {ok : κ → Prop} {b : Nat} {xs : List (κ × Value)} {r : List Ck} (h : Sel m (mpc f ok b xs) r) : ∀ w, Hp w0 S w m → (mpc f ok b xs).φ w := fun w hw => hw.holds _ h.mem
end
structure It where
 path : List UInt8
 kind : Int
 mode : Int
 size : Int
 to : List UInt8
 ids : List (List UInt8)
abbrev IT := It × Value
def itC (x : IT) : List Value := [vStr x.1.path, vInt x.1.kind, vInt x.1.mode, vInt x.1.size, vStr x.1.to, x.2]
theorem itC_len (x : IT) : (itC x).length = 6 := rfl
def ItOk (e : It) : Prop := I64 e.kind ∧ I64 e.mode ∧ I64 e.size ∧ e.path.length ≤ 140737488355328 ∧ e.to.length ≤ 140737488355328 ∧ e.ids.length ≤ 140737488355328
def rIT : Rdr IT where
 sz := 6
 R := fun Ps w b o x => Ps b ∧ w.rangeAt b o (itC x) ∧ IsSl rID Ps w x.2 x.1.ids ∧ ItOk x.1
 loc := fun h ⟨h1, h2, h3, h4⟩ => ⟨h1, rangeAt_loc (h _ h1) h2, h3.loc h, h4⟩
 mono := fun h ⟨h1, h2, h3, h4⟩ => ⟨h _ h1, h2, h3.mono h, h4⟩
def its (xs : List IT) : List It := xs.map (·.1)
theorem its_length (xs : List IT) : (its xs).length = xs.length := List.length_map ..
theorem its_get {xs : List IT} {i : Nat} (h : i < xs.length) : (its xs)[i]'(by rw [its_length]; exact h) = xs[i].1 := List.getElem_map ..
theorem it_eq {a b : It} : a = b ↔ a.path = b.path ∧ a.kind = b.kind ∧ a.mode = b.mode ∧ a.size = b.size ∧ a.to = b.to ∧ a.ids = b.ids := by
 cases a
 cases b
 simp
instance : DecidableEq It := fun a b => decidable_of_iff (a.path = b.path ∧ a.kind = b.kind ∧ a.mode = b.mode ∧ a.size = b.size ∧ a.to = b.to ∧ a.ids = b.ids) it_eq.symm
abbrev CT := (List UInt8 × List UInt8) × Value
def pad16 (l : List UInt8) : List UInt8 := (l ++ List.replicate 16 0).take 16
theorem pad16_len (l : List UInt8) : (pad16 l).length = 16 := by
 unfold pad16
 rw [List.length_take, List.length_append, List.length_replicate]
 omega
theorem pad16_eq {l : List UInt8} (h : l.length = 16) : pad16 l = l := List.take_left' h
def chC (x : CT) : List Value := (pad16 x.1.1).map vByte ++ [x.2]
theorem chC_len (x : CT) : (chC x).length = 17 := by
 unfold chC
 rw [List.length_append, List.length_map, pad16_len]
 rfl
def rCT : Rdr CT where
 sz := 17
 R := fun Ps w b o x => Ps b ∧ w.rangeAt b o (chC x) ∧ IsSl rByte Ps w x.2 x.1.2 ∧ x.1.1.length = 16 ∧ x.1.2.length ≤ 140737488355328
 loc := fun h ⟨h1, h2, h3, h4⟩ => ⟨h1, rangeAt_loc (h _ h1) h2, h3.loc h, h4⟩
 mono := fun h ⟨h1, h2, h3, h4⟩ => ⟨h _ h1, h2, h3.mono h, h4⟩
def cks (xs : List CT) : List (List UInt8 × List UInt8) := xs.map (·.1)
theorem cks_length (xs : List CT) : (cks xs).length = xs.length := List.length_map ..
theorem map1_ne {α β γ : Type} {xs : List (α × β)} {ys : List (α × γ)} {i : Nat} (h1 : i < xs.length) (h2 : i < ys.length) (h : xs[i].1 ≠ ys[i].1) : xs.map (·.1) ≠ ys.map (·.1) := fun e => h (by
 have e1 : (xs.map (·.1))[i]? = (ys.map (·.1))[i]? := by rw [e]
 rw [List.getElem?_map, List.getElem?_map, List.getElem?_eq_getElem h1, List.getElem?_eq_getElem h2] at e1
 exact Option.some.inj e1)
theorem map1_len_ne {α β γ : Type} {xs : List (α × β)} {ys : List (α × γ)} (h : xs.length ≠ ys.length) : xs.map (·.1) ≠ ys.map (·.1) := fun e => h (by have := congrArg List.length e; simpa using this)
theorem map1_eq {α β γ : Type} {xs : List (α × β)} {ys : List (α × γ)} (hl : xs.length = ys.length) (h : ∀ q (h1 : q < xs.length), xs[q].1 = (ys[q]'(by omega)).1) : xs.map (·.1) = ys.map (·.1) := by
 apply List.ext_getElem (by simpa using hl)
 intro q h1 h2
 rw [List.getElem_map, List.getElem_map]
 exact h q (by simpa using h1)
structure Mh where
 c : Int
 k : Int
 n : Int
 t : Int
theorem mh_eq {a b : Mh} : a = b ↔ a.c = b.c ∧ a.k = b.k ∧ a.n = b.n ∧ a.t = b.t := by
 cases a
 cases b
 simp
instance : DecidableEq Mh := fun a b => decidable_of_iff (a.c = b.c ∧ a.k = b.k ∧ a.n = b.n ∧ a.t = b.t) mh_eq.symm
def datI (e : TypeId) (xs : List IT) : Ck := star (xs.map fun x => own e 16 x.2 x.1.ids.length (flatI x.1.ids))
def datD (e : TypeId) (xs : List CT) : Ck := star (xs.map fun x => ownB e x.2 x.1.2)
section
variable {P : Program} {n : Nat} {w0 : World} {S : Nat → Prop} {l : Fr} {m : List Ck} {K : Act → World → Prop}
theorem Ro.itRng {Ps : Nat → Prop} {b o : Nat} {x : IT} (h : Ro w0 S (elc rIT Ps b o x)) : Ro w0 S (rng b o [.string (sB x.1.path), .int .i64 x.1.kind, .int .i64 x.1.mode, .int .i64 x.1.size, .string (sB x.1.to), x.2]) := ⟨h.1.2.1, fun k hk => h.2 k (by obtain rfl : k = b := hk; exact h.1.1)⟩
theorem Ro.itIds {Ps : Nat → Prop} {b o : Nat} {x : IT} (h : Ro w0 S (elc rIT Ps b o x)) : Ro w0 S (slc rID Ps x.2 x.1.ids) := ⟨h.1.2.2.1, h.2⟩
theorem Ro.itOk {Ps : Nat → Prop} {b o : Nat} {x : IT} (h : Ro w0 S (elc rIT Ps b o x)) : ItOk x.1 := h.1.2.2.2
theorem Ro.ckRng {Ps : Nat → Prop} {b o : Nat} {x : CT} (h : Ro w0 S (elc rCT Ps b o x)) : Ro w0 S (rng b o (chC x)) := ⟨h.1.2.1, fun k hk => h.2 k (by obtain rfl : k = b := hk; exact h.1.1)⟩
theorem Ro.ckDat {Ps : Nat → Prop} {b o : Nat} {x : CT} (h : Ro w0 S (elc rCT Ps b o x)) : Ro w0 S (slc rByte Ps x.2 x.1.2) := ⟨h.1.2.2.1, h.2⟩
theorem Ro.ckID {Ps : Nat → Prop} {b o : Nat} {x : CT} (h : Ro w0 S (elc rCT Ps b o x)) : x.1.1.length = 16 := h.1.2.2.2.1
theorem Ro.ckLen {Ps : Nat → Prop} {b o : Nat} {x : CT} (h : Ro w0 S (elc rCT Ps b o x)) : x.1.2.length ≤ 140737488355328 := h.1.2.2.2.2
theorem Ro.one1I {Ps : Nat → Prop} {v : Value} {a : List (List UInt8)} (h : Ro w0 S (slc rID Ps v a)) : v.oneCell' = true := by
 obtain ⟨ad, cap, rfl⟩ := Ro.slv h
 rfl
theorem rows_news {α : Type} {f : α → List Value} {k : Nat} (hf : ∀ x, (f x).length = k) {w : World} {b o : Nat} {xs : List α} (h : ∀ i (hi : i < xs.length), w.rangeAt b (o + i * k) (f xs[i])) : News w b o (xs.flatMap f) := fun j u hj => by
 have hl : j < xs.length * k := by
  have := (List.getElem?_eq_some_iff.1 hj).1
  rwa [rows_len hf] at this
 have hk : 0 < k := by
  rcases Nat.eq_zero_or_pos k with h0 | h0
  ·subst h0; omega
  exact h0
 obtain ⟨q, r, rfl, hr, hq⟩ : ∃ q r, j = q * k + r ∧ r < k ∧ q < xs.length := ⟨j / k, j % k, by rw [Nat.mul_comm]; exact (Nat.div_add_mod j k).symm, Nat.mod_lt _ hk, Nat.div_lt_of_lt_mul (by rw [Nat.mul_comm]; exact hl)⟩
 rw [flatMap_get f k hf xs q r hq hr] at hj
 have h2 := h q hq r u hj
 rwa [Nat.add_assoc] at h2
theorem newsI {b o : Nat} {Ps : Nat → Prop} {xs : List IT} (hel : ∀ i (hi : i < xs.length), Ro w0 S (elc rIT Ps b (o + i * 6) xs[i])) : ∀ w, Hp w0 S w m → News w b o (xs.flatMap itC) := fun w hw => rows_news itC_len fun i hi => ((hel i hi).at hw : rIT.R Ps w b (o + i * 6) xs[i]).2.1
theorem newsC {b o : Nat} {Ps : Nat → Prop} {xs : List CT} (hel : ∀ i (hi : i < xs.length), Ro w0 S (elc rCT Ps b (o + i * 17) xs[i])) : ∀ w, Hp w0 S w m → News w b o (xs.flatMap chC) := fun w hw => rows_news chC_len fun i hi => ((hel i hi).at hw : rCT.R Ps w b (o + i * 17) xs[i]).2.1
theorem itC_one {x : IT} (h : x.2.oneCell' = true) : ∀ u ∈ itC x, u.oneCell' = true := fun u hu => by
 simp only [itC, List.mem_cons, List.not_mem_nil, or_false] at hu
 rcases hu with rfl | rfl | rfl | rfl | rfl | rfl
 ·rfl
 ·rfl
 ·rfl
 ·rfl
 ·rfl
 exact h
theorem chC_one {x : CT} (h : x.2.oneCell' = true) : ∀ u ∈ chC x, u.oneCell' = true := fun u hu => by
 rcases List.mem_append.1 hu with hu | hu
 ·exact vByte_one _ u hu
 obtain rfl : u = x.2 := by simpa using hu
 exact h
theorem Ro.allI {b o : Nat} {Ps : Nat → Prop} {xs : List IT} (hel : ∀ i (hi : i < xs.length), Ro w0 S (elc rIT Ps b (o + i * 6) xs[i])) : ∀ x ∈ xs, ItOk x.1 ∧ Go.Proofs.YtbfpbibkklfnfaaGreat.all16 x.1.ids ∧ x.2.oneCell' = true := fun x hx => by
 obtain ⟨i, hi, rfl⟩ := List.getElem_of_mem hx
 exact ⟨Ro.itOk (hel i hi), Ro.all16 (Ro.itIds (hel i hi)), Ro.one1I (Ro.itIds (hel i hi))⟩
theorem Ro.allOneI {b o : Nat} {Ps : Nat → Prop} {xs : List IT} (hel : ∀ i (hi : i < xs.length), Ro w0 S (elc rIT Ps b (o + i * 6) xs[i])) : ∀ u ∈ xs.flatMap itC, u.oneCell' = true := rows_all (p := fun u => u.oneCell' = true) fun x hx => itC_one (Ro.allI hel x hx).2.2
theorem Ro.allCk {b o : Nat} {Ps : Nat → Prop} {xs : List CT} (hel : ∀ i (hi : i < xs.length), Ro w0 S (elc rCT Ps b (o + i * 17) xs[i])) : ∀ x ∈ xs, x.1.1.length = 16 ∧ x.1.2.length ≤ 140737488355328 ∧ x.2.oneCell' = true := fun x hx => by
 obtain ⟨i, hi, rfl⟩ := List.getElem_of_mem hx
 exact ⟨Ro.ckID (hel i hi), Ro.ckLen (hel i hi), Ro.one1 (Ro.ckDat (hel i hi))⟩
theorem Ro.allOneC {b o : Nat} {Ps : Nat → Prop} {xs : List CT} (hel : ∀ i (hi : i < xs.length), Ro w0 S (elc rCT Ps b (o + i * 17) xs[i])) : ∀ u ∈ xs.flatMap chC, u.oneCell' = true := rows_all (p := fun u => u.oneCell' = true) fun x hx => chC_one (Ro.allCk hel x hx).2.2
theorem G.starNil (h : G n w0 S l (star [] :: m) K) : G n w0 S l m K := G.mem (fun w hw => Hp.star (m := []) hw) h
theorem G.starSnoc {α : Type} {f : α → Ck} {ys : List α} {x : α} {c : Ck} {r r' : List Ck} (hc : c = f x) (h1 : Sel m (star (ys.map f)) r) (h2 : Sel r c r') (h : G n w0 S l (star ((ys ++ [x]).map f) :: r') K) : G n w0 S l m K := G.mem (fun w hw => by
 subst hc
 have h3 := Hp.unstar (hw.sel h1)
 have p : (ys.map f ++ r).Perm (((ys ++ [x]).map f) ++ r') := by
  rw [List.map_append, List.append_assoc]
  exact List.Perm.append_left _ h2.perm
 exact Hp.star (h3.perm p)) h
theorem G.starCons {α : Type} {f : α → Ck} {x : α} {xs : List α} {r : List Ck} (h1 : Sel m (star ((x :: xs).map f)) r) (h : G n w0 S l (f x :: star (xs.map f) :: r) K) : G n w0 S l m K := G.mem (fun w hw => by
 have h2 : Hp w0 S w ((f x :: xs.map f) ++ r) := Hp.unstar (hw.sel h1)
 have h3 : Hp w0 S w (xs.map f ++ (f x :: r)) := h2.perm (by
  rw [List.cons_append]
  exact List.perm_middle.symm)
 exact (Hp.star h3).perm (List.Perm.swap ..)) h
theorem datI_sl {w : World} {e : TypeId} {xs : List IT} (h : (datI e xs).φ w) (h16 : ∀ x ∈ xs, all16 x.1.ids) : ∀ x ∈ xs, IsSl rID (datI e xs).S w x.2 x.1.ids := fun x hx => by
 have h1 : (own e 16 x.2 x.1.ids.length (flatI x.1.ids)).φ w := h.1 _ (List.mem_map.2 ⟨x, hx, rfl⟩)
 exact (own_isI h1 (h16 x hx)).mono fun k hk => ⟨_, List.mem_map.2 ⟨x, hx, rfl⟩, hk⟩
theorem datD_sl {w : World} {e : TypeId} {xs : List CT} (h : (datD e xs).φ w) : ∀ x ∈ xs, IsSl rByte (datD e xs).S w x.2 x.1.2 := fun x hx => by
 have h1 : (ownB e x.2 x.1.2).φ w := h.1 _ (List.mem_map.2 ⟨x, hx, rfl⟩)
 exact (own_isSl' (p := fun _ => True) (OwnB.own h1) rfl (fun _ _ => trivial)).mono fun k hk => ⟨_, List.mem_map.2 ⟨x, hx, rfl⟩, hk⟩
theorem rows_sl {α : Type} {f : α → List Value} {k : Nat} {E : Rdr α} (hf : ∀ x, (f x).length = k) (hE : E.sz = k) {e : TypeId} {v : Value} {xs : List α} {w : World} {Ps : Nat → Prop} (h : w.ownsRow 0 e k v xs.length (xs.flatMap f)) (hP : ∀ b, v.ownBlock = some b → Ps b)
 (hx : ∀ b o x, x ∈ xs → Ps b → w.rangeAt b o (f x) → E.R Ps w b o x) : IsSl E Ps w v xs := by
 obtain ⟨ad, cap, b, hv, had, hnil, hnw⟩ := own_news h
 obtain ⟨h1, h2⟩ := h
 have hb : xs.length ≤ cap ∧ cap ≤ 9223372036854775807 := by
  rcases h2 with ⟨rfl, h0⟩ | ⟨g, cap', cur, rfl, _, _, hc, hm, _⟩
  ·injection hv with e1 e2 e3
   subst e3
   omega
  injection hv with e1 e2 e3
  subst e3
  exact ⟨hc, by unfold maxLen at hm; omega⟩
 refine ⟨ad, cap, b, 0, hv, hb.1, hb.2, hnil, had, fun i hi => hx _ _ _ (List.getElem_mem hi) (hP b ?_) fun j u hj => ?_⟩
 ·rw [hv, had (by omega)]
  rfl
 have hjk : j < k := by
  have := (List.getElem?_eq_some_iff.1 hj).1
  rwa [hf] at this
 have := hnw (i * k + j) u (by rw [flatMap_get f k hf xs i j hi hjk]; exact hj)
 rw [hE, show 0 + i * k + j = 0 + (i * k + j) from by omega]
 exact this
theorem may_items {e e2 : TypeId} {v : Value} {xs : List IT} {r r' : List Ck} (h : Sel m (own e 6 v xs.length (xs.flatMap itC)) r) (h' : Sel m (datI e2 xs) r') (hok : ∀ x ∈ xs, ItOk x.1 ∧ all16 x.1.ids) : May w0 S m (slc rIT (fun b => v.ownBlock = some b ∨ (datI e2 xs).S b) v xs) :=
 .mix (fun w hw => rows_sl itC_len rfl (hw.holds _ h.mem) (fun b hb => .inl hb) fun b o x hx hP hr => ⟨hP, hr, (datI_sl (hw.holds _ h'.mem) (fun x hx => (hok x hx).2) x hx).mono fun k hk => .inr hk, (hok x hx).1⟩) fun b hb => .inr (by
  rcases hb with hb | hb
  ·exact ⟨_, h.mem, hb⟩
  exact ⟨_, h'.mem, hb⟩)
theorem may_chunks {e e2 : TypeId} {v : Value} {xs : List CT} {r r' : List Ck} (h : Sel m (own e 17 v xs.length (xs.flatMap chC)) r) (h' : Sel m (datD e2 xs) r') (hok : ∀ x ∈ xs, x.1.1.length = 16 ∧ x.1.2.length ≤ 140737488355328) : May w0 S m (slc rCT (fun b => v.ownBlock = some b ∨ (datD e2 xs).S b) v xs) :=
 .mix (fun w hw => rows_sl chC_len rfl (hw.holds _ h.mem) (fun b hb => .inl hb) fun b o x hx hP hr => ⟨hP, hr, (datD_sl (hw.holds _ h'.mem) x hx).mono fun k hk => .inr hk, (hok x hx).1, (hok x hx).2⟩) fun b hb => .inr (by
  rcases hb with hb | hb
  ·exact ⟨_, h.mem, hb⟩
  exact ⟨_, h'.mem, hb⟩)
end
theorem chC_id {x : CT} (h : x.1.1.length = 16) : ((chC x).drop 0).take 16 = x.1.1.map vByte := by
 unfold chC
 rw [List.drop_zero, pad16_eq h]
 exact List.take_left' (by rw [List.length_map]; exact h)
theorem chC_dat (x : CT) : (chC x)[16]? = some x.2 := by
 unfold chC
 rw [List.getElem?_append_right (by rw [List.length_map, pad16_len]; exact Nat.le_refl _), List.length_map, pad16_len]
 rfl
theorem chC_set (x : CT) (d : Value) : chC (x.1, d) = (chC x).set 16 d := by
 unfold chC
 rw [List.set_append_right _ _ (by rw [List.length_map, pad16_len]; exact Nat.le_refl _), List.length_map, pad16_len]
 rfl
theorem Tryz.infoIt : (Tryz.prog.info? 80).map (fun i => (i.zero.map (·.cells.size), i.size, i.bytes)) = some (some 6, 6, 80) := by kernel_rfl
theorem Tryz.infoCk : (Tryz.prog.info? 71).map (fun i => (i.zero.map (·.cells.size), i.size, i.bytes)) = some (some 17, 17, 40) := by kernel_rfl
theorem ro_rng16 {w0 : World} {S : Nat → Prop} {m : List Ck} {b o : Nat} {x : CT} (h : Ro w0 S (rng b o (chC x))) (hl : x.1.1.length = 16) : ∀ w, Hp w0 S w m → w.rangeAt b (o + 0) (x.1.1.map vByte) := fun w hw j u hj => by
 have h1 : w.rangeAt b o (chC x) := h.at hw
 have h2 : (x.1.1.map vByte)[j]? = ((chC x))[j]? := by
  have hj2 := (List.getElem?_eq_some_iff.1 hj).1
  rw [List.length_map] at hj2
  rw [← chC_id hl, List.drop_zero, List.getElem?_take_of_lt (by omega)]
 rw [h2] at hj
 exact h1 j u hj
theorem ro_rngD {w0 : World} {S : Nat → Prop} {m : List Ck} {b o : Nat} {x : CT} (h : Ro w0 S (rng b o (chC x))) : ∀ w, Hp w0 S w m → w.cell? ⟨b, o + 16, none⟩ = some x.2 := fun w hw => (h.at hw : w.rangeAt b o (chC x)) 16 _ (chC_dat x)
def nidM (es : List It) : Nat := (es.map fun e => e.ids.length).sum
def ntxM (es : List It) : Nat := (es.map fun e => e.path.length + e.to.length).sum
def bigI (es : List It) (k : Int) : Prop := k < es.length ∨ 400 < nidM es ∨ 6000 < ntxM es
instance (es : List It) (k : Int) : Decidable (bigI es k) := inferInstanceAs (Decidable (_ ∨ _))
def ndatM (es : List (List UInt8 × List UInt8)) : Nat := (es.map fun e => e.2.length).sum
def bigC (es : List (List UInt8 × List UInt8)) (k r : Int) : Prop := k < es.length ∨ r < ndatM es
instance (es : List (List UInt8 × List UInt8)) (k r : Int) : Decidable (bigC es k r) := inferInstanceAs (Decidable (_ ∨ _))
theorem neq_list (a b : List UInt8) : Value.bool (!(decide (a = b))) = .bool (decide (a ≠ b)) := by
 congr 1
 rw [Bool.eq_iff_iff]
 simp
theorem sum_succ {α : Type} (f : α → Nat) {es : List α} {i : Nat} (h : i < es.length) : ((es.take (i + 1)).map f).sum = ((es.take i).map f).sum + f es[i] := by
 rw [List.take_succ_eq_append_getElem h, List.map_append, List.sum_append]
 simp
theorem map1_take {α β : Type} {γ : Type} (f : α → Nat) {xs : List (α × β)} {i : Nat} (h : i < xs.length) : (((xs.map (·.1)).take (i + 1)).map f).sum = (((xs.map (·.1)).take i).map f).sum + f xs[i].1 := by
 rw [sum_succ f (by simpa using h)]
 simp
set_option maxRecDepth 20000 in
set_option maxHeartbeats 4000000 in
theorem sameM_tr {Ps Pu : Nat → Prop} (a b : Mh) (v u : Value) (xs ys : List IT) : Tr Tryz.prog 13 #[.agg #[.int .i64 a.c, .int .i64 a.k, .int .i64 a.n, .int .i64 a.t, v], .agg #[.int .i64 b.c, .int .i64 b.k, .int .i64 b.n, .int .i64 b.t, u]] [slc rIT Ps v xs, slc rIT Pu u ys] [] (T0 (.bool (decide (a = b ∧ its xs = its ys)))) := by
 refine Tr.of (l := [(0, .agg #[.int .i64 a.c, .int .i64 a.k, .int .i64 a.n, .int .i64 a.t, v]), (1, .agg #[.int .i64 b.c, .int .i64 b.k, .int .i64 b.n, .int .i64 b.t, u])]) Tryz.func13 rfl (n := 101) rfl (.cons rfl (.cons rfl .nil)) (fun w0 hro => ?_)
 obtain ⟨hv0, hu0⟩ := ro2 hro
 have hv := hv0
 have hv' := hv
 obtain ⟨av, cv, bv, fv, rfl, hcapv, hmaxv, hnilv, hadv, helv⟩ := Ro.open hv
 have hu := hu0
 have hu' := hu
 obtain ⟨au, cu, bu, fu, rfl, hcapu, hmaxu, hnilu, hadu, helu⟩ := Ro.open hu
 have hmh := mh_eq (a := a) (b := b)
 refine go [9,10,60,0] ?_
 intro b2
 refine go [60,0] ?_
 intro b3
 refine go [1,7,8,9,9] ?_
 refine G.cutK (X := Unit) (ts := [2, 3, 4]) (p := []) (fun _ => True) (fun _ => [(42, .bool (decide (¬ (a = b ∧ xs.length = ys.length))))]) (fun _ => []) (.cons rfl (.cons rfl (.cons rfl .nil))) subT (.cons .nil) apT ?_ ?_
 ·refine go [10,2,3,0,2,4,2,3,0,2,4,2,14,0] ?_
  refine G.partP (t := 13) rfl (fun h13 => ?_) (fun h13 => ?_)
  ·refine go [4,4,4,4,4,2,2,0,4,4,4,4,4,2,2,0,4,4,4,4,4,2,2,0,4,4,4,4,4,4,4,2,2,7] ?_
   exact G.meet (()) trT (.consE rfl Y24 (.cons rfl (.cons rfl (.cons rfl .nil)))) subT
  refine go [3,3,1,3,4,3,3,1,3,4,3,14,2,2,0] ?_
  refine G.partP (t := 20) rfl (fun h20 => ?_) (fun h20 => ?_)
  ·refine go [4,4,4,4,4,2,2,0,4,4,4,4,4,2,2,0,4,4,4,4,4,4,4,2,2,7] ?_
   exact G.meet (()) trT (.consE rfl Y24 (.cons rfl (.cons rfl (.cons rfl .nil)))) subT
  refine go [3,3,2,3,4,3,3,2,3,4,3,14,2,2,0] ?_
  refine G.partP (t := 27) rfl (fun h27 => ?_) (fun h27 => ?_)
  ·refine go [4,4,4,4,4,2,2,0,4,4,4,4,4,4,4,2,2,7] ?_
   exact G.meet (()) trT (.consE rfl Y24 (.cons rfl (.cons rfl (.cons rfl .nil)))) subT
  refine go [3,3,3,3,4,3,3,3,3,4,3,14,2,2,0] ?_
  refine G.partP (t := 34) rfl (fun h34 => ?_) (fun h34 => ?_)
  ·refine go [4,4,4,4,4,4,4,2,2,7] ?_
   exact G.meet (()) trT (.consE rfl Y24 (.cons rfl (.cons rfl (.cons rfl .nil)))) subT
  refine go [3,3,4,3,4,3,5,3,3,4,3,4,3,5,3,14,2,2,7] ?_
  exact G.meet (()) trT (.consE rfl Y24 (.cons rfl (.cons rfl (.cons rfl .nil)))) subT
 intro _ hJ
 try dsimp only at hJ
 try dsimp only
 refine G.condP rfl (fun h42 => ?_) (fun h42 => ?_)
 ·refine go [9,10,1,7,8,11,12] ?_
  exact G.done0G rfl (Rv.tmp rfl Rv.nil) (by rw [decide_eq_false (fun h => h42 ⟨h.1, by have := congrArg List.length h.2; rwa [its_length, its_length] at this⟩)]; rfl)
 obtain ⟨hab, hxy⟩ : a = b ∧ xs.length = ys.length := Decidable.of_not_not h42
 refine go [13,8,9,9,10,1,7,8,15] ?_
 refine G.loopK (X := Nat) (ts := [2, 3]) (fun i => i ≤ xs.length ∧ (∀ q (hq : q < xs.length), q < i → xs[q].1 = (ys[q]'(by omega)).1)) (fun i => [(5, .int .i64 (i : Int))]) (fun i => []) (fun i => xs.length - i) (x0 := 0) (.cons rfl (.cons rfl .nil)) subT (.cons .nil) apT Y31 (.consE rfl veqT .nil) (fun i hJ => ?_)
 try dsimp only at hJ
 try dsimp only
 obtain ⟨hki, hJ⟩ := hJ
 have hJ0 := hJ
 refine go [9,9,10,0,2,3,4,2,4,2,5,2,9,7,8] ?_
 refine G.condP rfl (fun h47 => ?_) (fun h47 => ?_)
 ·have hlt : i < xs.length := by omega
  have hlu : i < ys.length := by omega
  have hEv := helv i hlt
  have hRv := Ro.itRng hEv
  have hDv := Ro.itIds hEv
  have hOv := Ro.itOk hEv
  obtain ⟨hk1v, hk2v, hk3v, hlpv, hltv, hlnv⟩ := hOv
  have hCv := Ro.one1I hDv
  have hEu := helu i hlu
  have hRu := Ro.itRng hEu
  have hDu := Ro.itIds hEu
  have hOu := Ro.itOk hEu
  obtain ⟨hk1u, hk2u, hk3u, hlpu, hltu, hlnu⟩ := hOu
  have hCu := Ro.one1I hDu
  have he := it_eq (a := xs[i].1) (b := ys[i].1)
  refine go [13,8,9,15,9] ?_
  refine G.cutK (X := Nat × Nat) (ts := [2, 3, 5]) (p := []) (fun st => True) (fun st => [(6, .pointer (some ⟨st.1, 0, none⟩)), (7, .pointer (some ⟨st.2, 0, none⟩))]) (fun st => [blk st.1 80 [.string (sB xs[i].1.path), .int .i64 xs[i].1.kind, .int .i64 xs[i].1.mode, .int .i64 xs[i].1.size, .string (sB xs[i].1.to), xs[i].2], blk st.2 80 [.string (sB ys[i].1.path), .int .i64 ys[i].1.kind, .int .i64 ys[i].1.mode, .int .i64 ys[i].1.size, .string (sB ys[i].1.to), ys[i].2]]) (.cons rfl (.cons rfl (.cons rfl .nil))) subT (.cons (.cons .nil)) apT ?_ ?_
  ·refine G.drawT (nn := 14) (p := []) (rem := 16383) [0, 1, 0, 6, 8, 0, 32, 0, 192, 256, 0, 0, 3103, 8191] [0, 1, 0, 6, 8, 0, 32, 0, 192, 256, 0, 0, 1040, 2560] kr ⟨rfl, by kernel_rfl, by kernel_rfl⟩ subT kr (fun hT6 => ?_)
   refine go [22,0,16382,3,4,22,2,16378,0,22,5,16346,3,4,22,7,16218,0,22,1,16216,4] ?_
   refine G.takeT hT6 (i := 3) (rem' := 16208) rfl rfl rfl kr (fun _ _ _ h => h) rfl (pv_ixSl (sz := 6) (k := i) Tryz.underlying26 kr rfl rfl adT (by omega) (by omega)) subT ?_
   refine go [22,4,16192,50,2,22,6,16128,4] ?_
   refine G.takeT hT6 (i := 8) (rem' := 15872) rfl rfl rfl kr (fun _ _ _ h => h) rfl (pv_ixSl (sz := 6) (k := i) Tryz.underlying26 kr rfl rfl adT (by omega) (by omega)) subT ?_
   refine go [22,9,15360,50,2] ?_
   refine G.twoT hT6 (i := 10) (j := 11) (rem' := 14336) (rem'' := 13312) kr kr kr ?_ ?_
   ·refine go [60,16] ?_
    intro b6
    refine go [26,24,11,12288,60,16] ?_
    intro b7
    refine go [26,24,12,8192,29,26,24,13,0,29,26,27] ?_
    exact G.meet ((b6, b7)) trT (.consE rfl veqT (.consE rfl veqT (.cons rfl (.cons rfl (.cons rfl .nil))))) subT
   refine go [60,16] ?_
   intro b7
   refine go [26,24,10,12288,60,16] ?_
   intro b6
   refine go [26,24,12,8192,29,26,24,13,0,29,26,27] ?_
   exact G.meet ((b6, b7)) trT (.consE rfl veqT (.consE rfl veqT (.cons rfl (.cons rfl (.cons rfl .nil))))) subT
  intro st hJ
  obtain ⟨p, q⟩ := st
  try dsimp only at hJ
  try dsimp only
  refine G.seq ?_
  refine G.cutK (X := Unit) (ts := [2, 3, 5]) (p := []) (fun _ => True) (fun _ => [(100, .bool (decide (xs[i].1 ≠ ys[i].1)))]) (fun _ => []) (.cons rfl (.cons rfl (.cons rfl .nil))) subT (.cons .nil) apT ?_ ?_
  ·refine go [10,2,3,0,2,4,2,3,0,2,4,2,23,0] ?_
   refine G.partP (t := 65) rfl (fun h65 => ?_) (fun h65 => ?_)
   ·refine go [4,4,4,4,4,2,2,0,4,4,4,4,4,2,2,0,4,4,4,4,4,2,2,0,4,4,4,4,4,2,2,0,4,4,4,4,4,4,2,2,7] ?_
    exact G.meet (()) trT (.consE rfl Y8 (.cons rfl (.cons rfl (.cons rfl .nil)))) subT
   refine go [3,3,1,3,4,3,3,1,3,4,3,14,2,2,0] ?_
   refine G.partP (t := 72) rfl (fun h72 => ?_) (fun h72 => ?_)
   ·refine go [4,4,4,4,4,2,2,0,4,4,4,4,4,2,2,0,4,4,4,4,4,2,2,0,4,4,4,4,4,4,2,2,7] ?_
    exact G.meet (()) trT (.consE rfl Y8 (.cons rfl (.cons rfl (.cons rfl .nil)))) subT
   refine go [3,3,2,3,4,3,3,2,3,4,3,14,2,2,0] ?_
   refine G.partP (t := 79) rfl (fun h79 => ?_) (fun h79 => ?_)
   ·refine go [4,4,4,4,4,2,2,0,4,4,4,4,4,2,2,0,4,4,4,4,4,4,2,2,7] ?_
    exact G.meet (()) trT (.consE rfl Y8 (.cons rfl (.cons rfl (.cons rfl .nil)))) subT
   refine go [3,3,3,3,4,3,3,3,3,4,3,14,2,2,0] ?_
   refine G.partP (t := 86) rfl (fun h86 => ?_) (fun h86 => ?_)
   ·refine go [4,4,4,4,4,2,2,0,4,4,4,4,4,4,2,2,7] ?_
    exact G.meet (()) trT (.consE rfl Y8 (.cons rfl (.cons rfl (.cons rfl .nil)))) subT
   refine go [3,3,4,3,4,3,3,4,3,4,3,23,2,2,0] ?_
   refine G.partP (t := 93) rfl (fun h93 => ?_) (fun h93 => ?_)
   ·refine go [4,4,4,4,4,4,2,2,7] ?_
    exact G.meet (()) trT (.consE rfl Y8 (.cons rfl (.cons rfl (.cons rfl .nil)))) subT
   refine go [3,3,5,3,4,3,3,5,3,4] ?_
   refine G.want rfl rfl rfl (G.cR rfl rfl rfl rfl Tryz.func37 rfl rfl (may2 Y0 Y0) (sameIDs_tr _ _ _ _) ?_)
   refine go [3,15,2,2,7] ?_
   exact G.meet (()) trT (.consE rfl Y8 (.cons rfl (.cons rfl (.cons rfl .nil)))) subT
  intro _ hJ
  try dsimp only at hJ
  try dsimp only
  refine G.condP rfl (fun h100 => ?_) (fun h100 => ?_)
  ·have hne : xs[i].1 ≠ ys[i].1 := by assumption
   refine go [9,10,1,7,8,11,17,12,12,17,12] ?_
   exact G.done0G rfl (Rv.tmp rfl Rv.nil) (by rw [decide_eq_false (fun h => map1_ne hlt hlu hne h.2)]; rfl)
  have heq : xs[i].1 = ys[i].1 := Decidable.of_not_not (by assumption)
  refine go [13,16,8,10,0,2,6,1,7] ?_
  exact G.next (i + 1) Y39 (by (try dsimp only); omega) (.consE rfl veqT (.cons rfl (.cons rfl .nil))) subT
 refine go [18,14,14,19,8,9,10,1,7,8,11] ?_
 exact G.done0G rfl (Rv.tmp rfl Rv.nil) (by rw [decide_eq_true ⟨hab, map1_eq hxy (fun q hq => hJ q hq (by omega))⟩]; rfl)
set_option maxRecDepth 20000 in
set_option maxHeartbeats 4000000 in
theorem sameC_tr {Ps Pu : Nat → Prop} (v u : Value) (xs ys : List CT) : Tr Tryz.prog 14 #[v, u] [slc rCT Ps v xs, slc rCT Pu u ys] [] (T0 (.bool (decide (cks xs = cks ys)))) := by
 refine Tr.of (l := [(0, v), (1, u)]) Tryz.func14 rfl (n := 42) rfl (.cons rfl (.cons rfl .nil)) (fun w0 hro => ?_)
 obtain ⟨hv0, hu0⟩ := ro2 hro
 have hv := hv0
 have hv' := hv
 obtain ⟨av, cv, bv, fv, rfl, hcapv, hmaxv, hnilv, hadv, helv⟩ := Ro.open hv
 have hu := hu0
 have hu' := hu
 obtain ⟨au, cu, bu, fu, rfl, hcapu, hmaxu, hnilu, hadu, helu⟩ := Ro.open hu
 refine go [9,10,1,7,8,9,9,10,0,2,5,0,2,5,2,14,7,8] ?_
 refine G.condP rfl (fun h10 => ?_) (fun h10 => ?_)
 ·refine go [9,10,1,7,8,11,12] ?_
  exact G.done0G rfl (Rv.tmp rfl Rv.nil) (by rw [decide_eq_false (show ¬ cks xs = cks ys from map1_len_ne (by omega))]; rfl)
 have hxy : xs.length = ys.length := by omega
 refine go [13,8,9,9,10,1,7,8,15] ?_
 refine G.loopK (X := Nat) (ts := [0, 1]) (fun i => i ≤ xs.length ∧ (∀ q (hq : q < xs.length), q < i → xs[q].1 = (ys[q]'(by omega)).1)) (fun i => [(5, .int .i64 (i : Int))]) (fun i => []) (fun i => xs.length - i) (x0 := 0) (.cons rfl (.cons rfl .nil)) subT (.cons .nil) apT Y31 (.consE rfl veqT .nil) (fun i hJ => ?_)
 try dsimp only at hJ
 try dsimp only
 obtain ⟨hki, hJ⟩ := hJ
 have hJ0 := hJ
 refine go [9,9,10,0,0,2,5,2,9,7,8] ?_
 refine G.condP rfl (fun h14 => ?_) (fun h14 => ?_)
 ·have hlt : i < xs.length := by omega
  have hlu : i < ys.length := by omega
  have hEv := helv i hlt
  have hRv := Ro.ckRng hEv
  have hDv := Ro.ckDat hEv
  have hIv := Ro.ckID hEv
  have hdlv := Ro.ckLen hEv
  have hCv := Ro.one1 hDv
  have hEu := helu i hlu
  have hRu := Ro.ckRng hEu
  have hDu := Ro.ckDat hEu
  have hIu := Ro.ckID hEu
  have hdlu := Ro.ckLen hEu
  have hCu := Ro.one1 hDu
  have he : xs[i].1 = ys[i].1 ↔ xs[i].1.1 = ys[i].1.1 ∧ xs[i].1.2 = ys[i].1.2 := Prod.ext_iff
  refine go [13,8,9,15,9] ?_
  refine G.cutK (X := Unit) (ts := [0, 1, 5]) (p := []) (fun _ => True) (fun _ => [(41, .bool (decide (xs[i].1 ≠ ys[i].1)))]) (fun _ => []) (.cons rfl (.cons rfl (.cons rfl .nil))) subT (.cons .nil) apT ?_ ?_
  ·refine G.drawT (nn := 25) (p := []) (rem := 33554431) [0, 0, 3, 4, 8, 0, 0, 96, 128, 256, 528, 1024, 2048, 2048, 14336, 18432, 34816, 2048, 2048, 395264, 526336, 1050624, 2164736, 4196352, 8390656] [0, 0, 3, 4, 8, 0, 0, 96, 128, 256, 528, 1024, 2048, 2048, 14336, 18432, 34816, 2048, 2048, 395264, 526336, 1050624, 2164736, 4196352, 8390656] kr ⟨rfl, by kernel_rfl, by kernel_rfl⟩ subT kr (fun hT6 => ?_)
   refine go [22,0,33554430,0,22,1,33554428,0] ?_
   refine G.takeT hT6 (i := 2) (rem' := 33554424) rfl rfl rfl kr (fun _ _ _ h => h) rfl (pv_ixSl (sz := 17) (k := i) Tryz.underlying29 kr rfl rfl adT (by omega) (by omega)) subT ?_
   refine go [22,3,33554416,3,0,22,5,33554384,0,22,6,33554320,0] ?_
   refine G.takeT hT6 (i := 7) (rem' := 33554192) rfl rfl rfl kr (fun _ _ _ h => h) rfl (pv_ixSl (sz := 17) (k := i) Tryz.underlying29 kr rfl rfl adT (by omega) (by omega)) subT ?_
   refine go [22,8,33553936,3,0] ?_
   refine G.takeT hT6 (i := 4) (rem' := 33553920) rfl rfl rfl kr (fun _ _ _ h => h) rfl (pv_loadN (cs := xs[i].1.1.map vByte) Tryz.underlying66 rfl (by rw [List.length_map, hIv]; kernel_rfl) rfl (ro_rng16 hRv hIv)) subT ?_
   refine go [24,9,33553408] ?_
   refine G.turnOp rfl rfl (G.val rfl rfl (pv_loadN (cs := ys[i].1.1.map vByte) Tryz.underlying66 rfl (by rw [List.length_map, hIu]; kernel_rfl) rfl (ro_rng16 hRu hIu)) ?_)
   refine go [26] ?_
   refine G.takeT hT6 (i := 10) (rem' := 33552384) rfl rfl rfl kr (fun _ _ _ h => h) rfl ((pv_neqAr8 (a := xs[i].1.1) (b := ys[i].1.1) Tryz.underlying66 rfl kr Tryz.underlying5 kr rfl rfl hIv hIu).cast (v' := .bool (decide (xs[i].1.1 ≠ ys[i].1.1))) (neq_list _ _)) subT ?_
   refine go [22,11,33550336,0] ?_
   refine G.partP (t := 28) rfl (fun h28 => ?_) (fun h28 => ?_)
   ·refine go [23,12,33546240,23,13,33538048,23,14,33521664,23,15,33488896,23,16,33423360,23,17,33292288,23,18,33030144,23,19,32505856,23,20,31457280,23,21,29360128,23,22,25165824,23,23,16777216,22,24,0,2,27] ?_
    exact G.meet (()) trT (.consE rfl Y8 (.cons rfl (.cons rfl (.cons rfl .nil)))) subT
   refine go [22,12,33546240,0,22,13,33538048,0] ?_
   refine G.takeT hT6 (i := 14) (rem' := 33521664) rfl rfl rfl kr (fun _ _ _ h => h) rfl (pv_ixSl (sz := 17) (k := i) Tryz.underlying29 kr rfl rfl adT (by omega) (by omega)) subT ?_
   refine go [22,15,33488896,3,16] ?_
   refine G.takeT hT6 (i := 16) (rem' := 33423360) rfl rfl rfl kr (fun _ _ _ h => h) rfl (pv_load Tryz.underlying39 rfl rfl (ro_rngD hRv)) subT ?_
   refine go [22,17,33292288,0,22,18,33030144,0] ?_
   refine G.takeT hT6 (i := 19) (rem' := 32505856) rfl rfl rfl kr (fun _ _ _ h => h) rfl (pv_ixSl (sz := 17) (k := i) Tryz.underlying29 kr rfl rfl adT (by omega) (by omega)) subT ?_
   refine go [22,20,31457280,3,16,24,21,29360128] ?_
   refine G.turnOp rfl rfl (G.val rfl rfl (pv_load Tryz.underlying39 rfl rfl (ro_rngD hRu)) ?_)
   refine go [26,24,22,25165824] ?_
   refine G.turnOp rfl rfl (G.cR rfl rfl rfl rfl Tryz.func32 rfl rfl (may2 Y0 Y0) (same_tr _ _ _ _) ?_)
   refine go [26,22,23,16777216,15,22,24,0,2,27] ?_
   exact G.meet (()) trT (.consE rfl Y8 (.cons rfl (.cons rfl (.cons rfl .nil)))) subT
  intro _ hJ
  try dsimp only at hJ
  try dsimp only
  refine G.condP rfl (fun h41 => ?_) (fun h41 => ?_)
  ·have hne : xs[i].1 ≠ ys[i].1 := by assumption
   refine go [9,10,1,7,8,11,17,12,12,17,12] ?_
   exact G.done0G rfl (Rv.tmp rfl Rv.nil) (by rw [decide_eq_false (show ¬ cks xs = cks ys from map1_ne hlt hlu hne)]; rfl)
  have heq : xs[i].1 = ys[i].1 := Decidable.of_not_not (by assumption)
  refine go [13,16,8,10,0,2,6,1,7] ?_
  exact G.next (i + 1) Y39 (by (try dsimp only); omega) (.consE rfl veqT (.cons rfl (.cons rfl .nil))) subT
 refine go [18,14,14,19,8,9,10,1,7,8,11] ?_
 exact G.done0G rfl (Rv.tmp rfl Rv.nil) (by rw [decide_eq_true (show cks xs = cks ys from map1_eq (by omega) (fun q hq => hJ q hq (by omega)))]; rfl)
set_option maxRecDepth 20000 in
set_option maxHeartbeats 4000000 in
theorem bigM_tr {Ps : Nat → Prop} (a : Mh) (v : Value) (xs : List IT) (k : Int) (hk : 0 ≤ k ∧ k ≤ 1000) : Tr Tryz.prog 22 #[.agg #[.int .i64 a.c, .int .i64 a.k, .int .i64 a.n, .int .i64 a.t, v], .int .i64 k] [slc rIT Ps v xs] [] (T0 (.bool (decide (bigI (its xs) k)))) := by
 refine Tr.of (l := [(0, .agg #[.int .i64 a.c, .int .i64 a.k, .int .i64 a.n, .int .i64 a.t, v]), (1, .int .i64 k)]) Tryz.func22 rfl (n := 59) rfl (.cons rfl (.cons rfl .nil)) (fun w0 hro => ?_)
 have hv := ro1 hro
 have hv' := hv
 obtain ⟨av, cv, bv, fv, rfl, hcapv, hmaxv, hnilv, hadv, helv⟩ := Ro.open hv
 have hil := its_length xs
 refine go [9,10,60,0] ?_
 intro b2
 refine go [1,7,8,9,10,1,1,7,8,9,9,10,1,7,8,15] ?_
 refine G.loopK (X := Nat) (ts := [1, 2, 4]) (fun i => i ≤ xs.length ∧ (i : Int) ≤ k + 1 ∧ nidM ((its xs).take i) ≤ i * 140737488355328 ∧ ntxM ((its xs).take i) ≤ i * (2 * 140737488355328)) (fun i => [(5, .int .i64 (nidM ((its xs).take i) : Int)), (6, .int .i64 (ntxM ((its xs).take i) : Int)), (7, .int .i64 (i : Int))]) (fun i => []) (fun i => xs.length - i) (x0 := 0) (.cons rfl (.cons rfl (.cons rfl .nil))) subT (.cons (.cons (.cons .nil))) apT (by first | exact trivial | ((try dsimp only) <;> exact ⟨Nat.zero_le _, by omega, by simp [nidM], by simp [ntxM]⟩)) (.consE rfl veqT (.consE rfl veqT (.consE rfl veqT .nil))) (fun i hJ => ?_)
 try dsimp only at hJ
 try dsimp only
 obtain ⟨hi1, hi2, hs1, hs2⟩ := hJ
 refine go [9,9] ?_
 refine G.cutK (X := Unit) (ts := [1, 2, 4, 5, 6, 7]) (p := []) (fun _ => True) (fun _ => [(17, .bool (decide (i < xs.length ∧ (i : Int) ≤ k)))]) (fun _ => []) (.cons rfl (.cons rfl (.cons rfl (.cons rfl (.cons rfl (.cons rfl .nil)))))) subT (.cons .nil) apT ?_ ?_
 ·refine go [10,0,2,3,4,2,4,2,5,2,9,0] ?_
  refine G.partP (t := 13) rfl (fun h13 => ?_) (fun h13 => ?_)
  ·refine go [3,0,3,0,3,11,2,2,7] ?_
   exact G.meet (()) trT (.consE rfl Y48 (.cons rfl (.cons rfl (.cons rfl (.cons rfl (.cons rfl (.cons rfl .nil))))))) subT
  refine go [4,4,4,2,2,7] ?_
  exact G.meet (()) trT (.consE rfl Y48 (.cons rfl (.cons rfl (.cons rfl (.cons rfl (.cons rfl (.cons rfl .nil))))))) subT
 intro _ hJ
 try dsimp only at hJ
 try dsimp only
 refine G.condP rfl (fun h17 => ?_) (fun h17 => ?_)
 ·have hlt : i < xs.length := h17.1
  have hik := h17.2
  have hEv := helv i hlt
  have hRv := Ro.itRng hEv
  have hDv := Ro.itIds hEv
  have hOv := Ro.itOk hEv
  obtain ⟨hk1v, hk2v, hk3v, hlpv, hltv, hlnv⟩ := hOv
  have hCv := Ro.one1I hDv
  have hz1 : nidM ((its xs).take (i + 1)) = nidM ((its xs).take i) + xs[i].1.ids.length := map1_take (γ := Unit) (fun e : It => e.ids.length) hlt
  have hz2 : ntxM ((its xs).take (i + 1)) = ntxM ((its xs).take i) + (xs[i].1.path.length + xs[i].1.to.length) := map1_take (γ := Unit) (fun e : It => e.path.length + e.to.length) hlt
  obtain ⟨aD, cD, hx2⟩ := Ro.slv hDv
  rw [hx2] at hRv hCv
  refine go [13,8,9,15,9,10,0,2,3,4,2,4,0] ?_
  refine G.op rfl (G.val rfl rfl (pv_ixSl (sz := 6) (k := i) Tryz.underlying26 kr rfl rfl adT (by omega) (by omega)) ?_)
  refine go [2,3,5,2,4,2,5,2,6,1,7,8] ?_
  refine G.drawT (nn := 18) (p := []) (rem := 262143) [0, 0, 2, 0, 12, 16, 32, 64, 129, 0, 512, 0, 3072, 4096, 8192, 16384, 33024, 131071] [0, 0, 2, 0, 12, 16, 32, 64, 129, 0, 512, 0, 3072, 4096, 8192, 16384, 33024, 65537] kr ⟨rfl, by kernel_rfl, by kernel_rfl⟩ subT kr (fun hT6 => ?_)
  refine go [22,0,262142,0,22,1,262140,3,4,22,3,262132,0,22,9,261620,3,4,22,11,259572,0,22,2,259568,4] ?_
  refine G.takeT hT6 (i := 4) (rem' := 259552) rfl rfl rfl kr (fun _ _ _ h => h) rfl (pv_ixSl (sz := 6) (k := i) Tryz.underlying26 kr rfl rfl adT (by omega) (by omega)) subT ?_
  refine go [22,5,259520,3,0,22,6,259456,4,22,7,259328,21,22,8,259072,6,24,10,258048,25,4,26] ?_
  refine G.takeT hT6 (i := 12) (rem' := 253952) rfl rfl rfl kr (fun _ _ _ h => h) rfl (pv_ixSl (sz := 6) (k := i) Tryz.underlying26 kr rfl rfl adT (by omega) (by omega)) subT ?_
  refine go [22,13,245760,3,4,24,14,229376,25,4,26,22,15,196608,21,22,16,131072,6,22,17,0,1,27,16,8,10,0,2,6,1,7] ?_
  exact G.next (i + 1) (by first | exact trivial | ((try dsimp only) <;> exact ⟨by omega, by omega, by rw [hz1]; omega, by rw [hz2]; omega⟩)) (by (try dsimp only); omega) (.consE rfl veqT (.consE rfl veqT (.consE rfl veqT (.cons rfl (.cons rfl (.cons rfl .nil)))))) subT
 have hmost : ¬ k < xs.length → (its xs).take i = its xs := fun h => List.take_of_length_le (by omega)
 refine go [18,14,14,19,8,9,10,2,3,4,2,4,2,5,0,2,10,0] ?_
 refine G.partP (t := 51) rfl (fun h51 => ?_) (fun h51 => ?_)
 ·refine go [4,4,2,2,0,4,4,2,2,1,7,8,11] ?_
  exact G.done0G rfl (Rv.tmp rfl Rv.nil) Y33
 refine go [3,0,3,10,2,2,0] ?_
 refine G.partP (t := 55) rfl (fun h55 => ?_) (fun h55 => ?_)
 ·refine go [4,4,2,2,1,7,8,11] ?_
  exact G.done0G rfl (Rv.tmp rfl Rv.nil) Y33
 refine go [3,0,3,10,2,2,1,7,8,11] ?_
 exact G.done0G rfl (Rv.tmp rfl Rv.nil) Y33
set_option maxRecDepth 20000 in
set_option maxHeartbeats 4000000 in
theorem bigC_tr {Ps : Nat → Prop} (v : Value) (xs : List CT) (k r : Int) (hk : 0 ≤ k ∧ k ≤ 1000) : Tr Tryz.prog 23 #[v, .int .i64 k, .int .i64 r] [slc rCT Ps v xs] [] (T0 (.bool (decide (bigC (cks xs) k r)))) := by
 refine Tr.of (l := [(0, v), (1, .int .i64 k), (2, .int .i64 r)]) Tryz.func23 rfl (n := 37) rfl (.cons rfl (.cons rfl (.cons rfl .nil))) (fun w0 hro => ?_)
 have hv := ro1 hro
 have hv' := hv
 obtain ⟨av, cv, bv, fv, rfl, hcapv, hmaxv, hnilv, hadv, helv⟩ := Ro.open hv
 have hil := cks_length xs
 refine go [9,10,1,7,8,9,10,1,7,8,9,9,10,1,7,8,15] ?_
 refine G.loopK (X := Nat) (ts := [0, 1, 2, 6]) (fun i => i ≤ xs.length ∧ (i : Int) ≤ k + 1 ∧ ndatM ((cks xs).take i) ≤ i * 140737488355328) (fun i => [(7, .int .i64 (ndatM ((cks xs).take i) : Int)), (8, .int .i64 (i : Int))]) (fun i => []) (fun i => xs.length - i) (x0 := 0) (.cons rfl (.cons rfl (.cons rfl (.cons rfl .nil)))) subT (.cons (.cons .nil)) apT (by first | exact trivial | ((try dsimp only) <;> exact ⟨Nat.zero_le _, by omega, by simp [ndatM]⟩)) (.consE rfl veqT (.consE rfl veqT .nil)) (fun i hJ => ?_)
 try dsimp only at hJ
 try dsimp only
 obtain ⟨hi1, hi2, hs1⟩ := hJ
 refine go [9,9] ?_
 refine G.cutK (X := Unit) (ts := [0, 1, 2, 6, 7, 8]) (p := []) (fun _ => True) (fun _ => [(17, .bool (decide (i < xs.length ∧ (i : Int) ≤ k)))]) (fun _ => []) (.cons rfl (.cons rfl (.cons rfl (.cons rfl (.cons rfl (.cons rfl .nil)))))) subT (.cons .nil) apT ?_ ?_
 ·refine go [10,0,0,2,5,2,9,0] ?_
  refine G.partP (t := 13) rfl (fun h13 => ?_) (fun h13 => ?_)
  ·refine go [3,0,3,0,3,11,2,2,7] ?_
   exact G.meet (()) trT (.consE rfl Y48 (.cons rfl (.cons rfl (.cons rfl (.cons rfl (.cons rfl (.cons rfl .nil))))))) subT
  refine go [4,4,4,2,2,7] ?_
  exact G.meet (()) trT (.consE rfl Y48 (.cons rfl (.cons rfl (.cons rfl (.cons rfl (.cons rfl (.cons rfl .nil))))))) subT
 intro _ hJ
 try dsimp only at hJ
 try dsimp only
 refine G.condP rfl (fun h17 => ?_) (fun h17 => ?_)
 ·have hlt : i < xs.length := h17.1
  have hik := h17.2
  have hEv := helv i hlt
  have hRv := Ro.ckRng hEv
  have hDv := Ro.ckDat hEv
  have hIv := Ro.ckID hEv
  have hdlv := Ro.ckLen hEv
  have hCv := Ro.one1 hDv
  have hz1 : ndatM ((cks xs).take (i + 1)) = ndatM ((cks xs).take i) + xs[i].1.2.length := map1_take (γ := Unit) (fun e : List UInt8 × List UInt8 => e.2.length) hlt
  obtain ⟨aD, cD, hx2⟩ := Ro.slv hDv
  refine go [13,8,9,15,10,0,0,0] ?_
  refine G.op rfl (G.val rfl rfl (pv_ixSl (sz := 17) (k := i) Tryz.underlying29 kr rfl rfl adT (by omega) (by omega)) ?_)
  refine go [2,3,16] ?_
  refine G.op rfl (G.val rfl rfl (pv_load (v := .slice aD xs[i].1.2.length cD) Tryz.underlying39 rfl rfl (by rw [← hx2]; exact ro_rngD hRv)) ?_)
  refine go [2,5,2,6,1,7,16,8,10,0,2,6,1,7] ?_
  exact G.next (i + 1) (by first | exact trivial | ((try dsimp only) <;> exact ⟨by omega, by omega, by rw [hz1]; omega⟩)) (by (try dsimp only); omega) (.consE rfl veqT (.consE rfl veqT (.cons rfl (.cons rfl (.cons rfl (.cons rfl .nil)))))) subT
 have hmost : ¬ k < xs.length → (cks xs).take i = cks xs := fun h => List.take_of_length_le (by omega)
 refine go [18,14,14,19,8,9,10,0,2,5,0,2,10,0] ?_
 refine G.partP (t := 32) rfl (fun h32 => ?_) (fun h32 => ?_)
 ·refine go [4,4,4,2,2,1,7,8,11] ?_
  exact G.done0G rfl (Rv.tmp rfl Rv.nil) (by first | (rw [decide_eq_true (show bigC (cks xs) k r from .inl (by omega))]; rfl) | (rw [hmost (by omega)]; exact dec_e ⟨fun h => .inr (by omega), fun h => by unfold bigC at h; omega⟩))
 refine go [3,0,3,0,3,10,2,2,1,7,8,11] ?_
 exact G.done0G rfl (Rv.tmp rfl Rv.nil) (by first | (rw [decide_eq_true (show bigC (cks xs) k r from .inl (by omega))]; rfl) | (rw [hmost (by omega)]; exact dec_e ⟨fun h => .inr (by omega), fun h => by unfold bigC at h; omega⟩))
section
variable {P : Program} {n : Nat} {w0 : World} {S : Nat → Prop} {l : Fr} {m : List Ck} {K : Act → World → Prop}
theorem G.datCons {e : TypeId} {x : ET} {xs : List ET} {r : List Ck} (h1 : Sel m (datC e (x :: xs)) r) (h : G n w0 S l (ownB e x.2 x.1.data :: datC e xs :: r) K) : G n w0 S l m K := G.mem (fun w hw => by
 have h2 : Hp w0 S w ((ownB e x.2 x.1.data :: xs.map fun x => ownB e x.2 x.1.data) ++ r) := Hp.unstar (hw.sel h1)
 have h3 : Hp w0 S w ((xs.map fun x => ownB e x.2 x.1.data) ++ (ownB e x.2 x.1.data :: r)) := h2.perm (by
  rw [List.cons_append]
  exact List.perm_middle.symm)
 exact (Hp.star h3).perm (List.Perm.swap ..)) h
end
def overX : ET := (⟨[111, 118, 101, 114], -7, 0, [], []⟩, .slice none 0 0)
theorem drop_cons {α : Type} {zs : List α} {i : Nat} (h : i < zs.length) : zs.drop i = zs[i] :: zs.drop (i + 1) := List.drop_eq_getElem_cons h
set_option maxRecDepth 20000 in
set_option maxHeartbeats 4000000 in
theorem overT_tr (v : Value) (zs : List ET) (hn : zs.length ≤ 1000) : Tr Tryz.prog 28 #[v] [] [ownT 68 v zs, datC 5 zs] (TX (fun _ : Unit => True) (fun _ => .tuple #[]) (fun _ => [])) := by
 refine Tr.of (l := [(0, v)]) Tryz.func28 rfl (n := 19) rfl (.cons rfl .nil) (fun w0 hro => ?_)
 rw [show ownT 68 v zs = own 68 5 v zs.length (flatT zs) from rfl]
 refine G.ownOpen (v := v) selT (fun a3 c3 h3 hk3 hm3 => ?_)
 subst h3
 refine go [9,10,1,7,8,15] ?_
 refine G.loopK (X := Nat × (List ET)) (ts := [0]) (fun st => st.1 ≤ zs.length ∧ (st.2.length = zs.length ∧ ∀ q (h1 : q < st.2.length) (h2 : q < zs.length), st.1 ≤ q → st.2[q] = zs[q])) (fun st => [(2, .int .i64 (st.1 : Int))]) (fun st => [own 68 5 (.slice a3 zs.length c3) zs.length (flatT st.2), datC 5 (zs.drop st.1)]) (fun st => zs.length - st.1) (x0 := (0, zs)) (.cons rfl .nil) subT (.cons .nil) apT Y28 (.consE rfl veqT .nil) (fun st hJ => ?_)
 obtain ⟨i, ws⟩ := st
 try dsimp only at hJ
 try dsimp only
 obtain ⟨hki, hJ⟩ := hJ
 obtain ⟨hwl, hwz0⟩ := hJ
 refine go [9,9,10,0,0,2,5,2,9,7,8] ?_
 refine G.condP rfl (fun h6 => ?_) (fun h6 => ?_)
 ·have hlt : i < zs.length := by omega
  have hlt' : i < ws.length := by omega
  have hwz : ws[i] = zs[i] := hwz0 i hlt' hlt (Nat.le_refl _)
  rw [drop_cons hlt]
  refine G.datCons selT ?_
  refine G.ownTo (v := .slice a3 zs.length c3) selT (by omega) (fun g cap sp hvv hkc hmx hl hlen => ?_)
  injection hvv with e1 e2 e3
  subst e1
  subst e3
  refine go [13,8,9,15,9,10,0,0] ?_
  refine G.op rfl (G.val rfl rfl (pv_ixSl (sz := 5) (k := i) Tryz.underlying22 kr rfl rfl (fun _ => rfl) (by omega) (by omega)) ?_)
  refine go [2,3,3] ?_
  refine G.op rfl (G.val rfl rfl (pv_load (v := zs[i].2) Tryz.underlying39 rfl rfl (blk_cell selD (by rw [← hwz]; exact flat_dat hlt'))) ?_)
  refine G.op rfl (G.cS rfl rfl rfl rfl Tryz.func40 rfl rfl subT may0 (overB_tr _ _) apT ?_)
  intro x14 hJ
  try dsimp only at hJ
  try dsimp only
  refine go [7,8,10,0,0,2,50,6] ?_
  refine G.op rfl (G.val rfl rfl (pv_ixSl (sz := 5) (k := i) Tryz.underlying22 kr rfl rfl (fun _ => rfl) (by omega) (by omega)) ?_)
  refine G.op rfl (G.storeN (vs := evC overX) kr rfl rfl (by rfl) selT (by rw [evC_length, List.length_append, flatT_length]; omega) ?_)
  rw [flat_put hlt']
  refine go [7,16,8,10,0,2,6,1,7] ?_
  refine G.ownOf (sz := 5) (k := zs.length) (cs := flatT (ws.set i overX)) (sp := sp) selT (by rw [flatT_length, List.length_set, hwl]) (by omega) hmx (by rw [List.length_append, flatT_length, List.length_set]; rw [List.length_append, flatT_length] at hl; exact hl) ?_
  exact G.next ((i + 1, ws.set i overX)) Y34 (by (try dsimp only); omega) (.consE rfl veqT (.cons rfl .nil)) subT
 refine go [18,14,14,19] ?_
 exact G.doneXE (()) trT rfl rfl subT
section
variable {P : Program} {n : Nat} {w0 : World} {S : Nat → Prop} {l : Fr} {m : List Ck} {K : Act → World → Prop}
theorem G.datINil (e : TypeId) (h : G n w0 S l (datI e [] :: m) K) : G n w0 S l m K := G.starNil h
theorem G.datISnoc {e : TypeId} {ys : List IT} {x : IT} {r r' : List Ck} (h1 : Sel m (datI e ys) r) (h2 : Sel r (own e 16 x.2 x.1.ids.length (flatI x.1.ids)) r') (h : G n w0 S l (datI e (ys ++ [x]) :: r') K) : G n w0 S l m K := G.starSnoc rfl h1 h2 h
theorem G.datICons {e : TypeId} {x : IT} {xs : List IT} {r : List Ck} (h1 : Sel m (datI e (x :: xs)) r) (h : G n w0 S l (own e 16 x.2 x.1.ids.length (flatI x.1.ids) :: datI e xs :: r) K) : G n w0 S l m K := G.starCons (f := fun x : IT => own e 16 x.2 x.1.ids.length (flatI x.1.ids)) h1 h
theorem G.datDNil (e : TypeId) (h : G n w0 S l (datD e [] :: m) K) : G n w0 S l m K := G.starNil h
theorem G.datDSnoc {e : TypeId} {ys : List CT} {x : CT} {r r' : List Ck} (h1 : Sel m (datD e ys) r) (h2 : Sel r (ownB e x.2 x.1.2) r') (h : G n w0 S l (datD e (ys ++ [x]) :: r') K) : G n w0 S l m K := G.starSnoc rfl h1 h2 h
theorem G.datDCons {e : TypeId} {x : CT} {xs : List CT} {r : List Ck} (h1 : Sel m (datD e (x :: xs)) r) (h : G n w0 S l (ownB e x.2 x.1.2 :: datD e xs :: r) K) : G n w0 S l m K := G.starCons (f := fun x : CT => ownB e x.2 x.1.2) h1 h
end
theorem map1_set {α β : Type} {xs : List (α × β)} {i : Nat} (h : i < xs.length) (d : β) : (xs.set i (xs[i].1, d)).map (·.1) = xs.map (·.1) := by
 rw [List.map_set]
 apply List.ext_getElem?
 intro j
 by_cases hj : i = j
 ·subst hj
  rw [List.getElem?_set_self (by simpa using h)]
  simp [h]
 rw [List.getElem?_set_ne hj]
theorem map1_len {α β γ : Type} {xs : List (α × β)} {ys : List (α × γ)} (h : xs.map (·.1) = ys.map (·.1)) : xs.length = ys.length := by
 have := congrArg List.length h
 simpa using this
theorem putN_app (vs : List Value) : ∀ (cs sp : List Value) (o : Nat), o + vs.length ≤ cs.length → putN (cs ++ sp) o vs = putN cs o vs ++ sp := fun cs sp o h => by
 apply List.ext_getElem?
 intro j
 rw [putN_get _ _ _ _ (by rw [List.length_append]; omega)]
 rcases Nat.lt_or_ge j cs.length with hj | hj
 ·have e1 : (cs ++ sp)[j]? = cs[j]? := List.getElem?_append_left hj
  have e2 : (putN cs o vs ++ sp)[j]? = (putN cs o vs)[j]? := List.getElem?_append_left (by rw [putN_len]; exact hj)
  rw [e1, e2, putN_get _ _ _ _ h]
 have e1 : (cs ++ sp)[j]? = sp[j - cs.length]? := List.getElem?_append_right hj
 have e2 : (putN cs o vs ++ sp)[j]? = sp[j - (putN cs o vs).length]? := List.getElem?_append_right (by rw [putN_len]; exact hj)
 rw [if_neg (by omega), e1, e2, putN_len]
def id7 : List UInt8 := 7 :: List.replicate 15 0
def overI : IT := (⟨[111, 118, 101, 114], 0, 0, 0, [], []⟩, .slice none 0 0)
def overK : CT := ((id7, []), .slice none 0 0)
def Few (xs : List IT) : Prop := ∀ x ∈ xs, x.1.ids.length ≤ 1000000
set_option maxRecDepth 20000 in
set_option maxHeartbeats 4000000 in
theorem copyM_tr {Ps : Nat → Prop} (a : Mh) (v : Value) (xs : List IT) (hn : xs.length ≤ 1000) (hfew : Few xs) : Tr Tryz.prog 24 #[.agg #[.int .i64 a.c, .int .i64 a.k, .int .i64 a.n, .int .i64 a.t, v]] [slc rIT Ps v xs] [] (TX (fun z : Value × List IT => its z.2 = its xs) (fun z => .agg #[.int .i64 a.c, .int .i64 a.k, .int .i64 a.n, .int .i64 a.t, z.1]) (fun z => [own 80 6 z.1 z.2.length (z.2.flatMap itC), datI 66 z.2])) := by
 refine Tr.of (l := [(0, .agg #[.int .i64 a.c, .int .i64 a.k, .int .i64 a.n, .int .i64 a.t, v])]) Tryz.func24 rfl (n := 30) rfl (.cons rfl .nil) (fun w0 hro => ?_)
 have hv := ro1 hro
 have hv' := hv
 obtain ⟨av, cv, bv, fv, rfl, hcapv, hmaxv, hnilv, hadv, helv⟩ := Ro.open hv
 refine go [9,10,60,0] ?_
 intro b1
 refine go [60,3] ?_
 intro b2
 refine go [7,8,9,10,60,14] ?_
 intro b4
 refine G.ownBlk (b := b4) (k := 0) (sz := 6) selT rfl (by omega) ?_
 refine go [2,3,4,2,4] ?_
 refine G.op rfl (G.append (k := 0) (j := xs.length) (cs := []) (news := xs.flatMap itC) (b := bv) (off := fv) rfl Tryz.underlying26 Tryz.infoIt rfl rfl rfl selT hadv hnilv (rows_len itC_len xs) (newsI helv) (Ro.allOneI helv) (by omega) (by omega) ?_)
 intro v3
 rw [List.nil_append, Nat.zero_add xs.length]
 refine G.ownOpen (v := v3) selT (fun a3 c3 h3 hk3 hm3 => ?_)
 subst h3
 refine go [2,3,4,21,7,8,9,9,10,1,7,8,15,60,6] ?_
 refine G.loopK (X := Nat × (List IT)) (ts := [1, 2]) (fun st => st.1 ≤ xs.length ∧ (its st.2 = its xs ∧ ∀ q (hq : q < st.2.length) (hx : q < xs.length), st.1 ≤ q → st.2[q] = xs[q])) (fun st => [(3, .int .i64 (st.1 : Int))]) (fun st => [own 80 6 (.slice a3 xs.length c3) xs.length (st.2.flatMap itC), datI 66 (st.2.take st.1)]) (fun st => xs.length - st.1) (x0 := (0, xs)) (.cons rfl (.cons rfl .nil)) subT (.cons .nil) apT Y28 (.consE rfl veqT .nil) (fun st hJ => ?_)
 obtain ⟨i, zs⟩ := st
 try dsimp only at hJ
 try dsimp only
 obtain ⟨hki, hJ⟩ := hJ
 obtain ⟨hez, hsame⟩ := hJ
 have hlz : zs.length = xs.length := map1_len hez
 refine go [9,9,10,0,2,3,4,2,4,2,5,2,9,7,8] ?_
 refine G.condP rfl (fun h13 => ?_) (fun h13 => ?_)
 ·have hlt : i < xs.length := by omega
  have hlt' : i < zs.length := by omega
  have hzx : zs[i] = xs[i] := hsame i hlt' hlt (Nat.le_refl _)
  have hEv := helv i hlt
  have hRv := Ro.itRng hEv
  have hDv := Ro.itIds hEv
  have hOv := Ro.itOk hEv
  obtain ⟨hk1v, hk2v, hk3v, hlpv, hltv, hlnv⟩ := hOv
  have hCv := Ro.one1I hDv
  have hfi := hfew _ (List.getElem_mem hlt)
  refine go [13,8,9,15] ?_
  refine G.ownTo (v := (.slice a3 xs.length c3)) selT (by omega) (fun g cap sp hvv hkc hmx hl hlen => ?_)
  injection hvv with e1 e2 e3
  subst e1
  subst e3
  refine G.drawT (nn := 14) (p := [blk g _ _]) (rem := 16383) [0, 1, 0, 0, 0, 16, 0, 96, 128, 256, 520, 2047, 4095, 6143] [0, 1, 0, 0, 0, 16, 0, 96, 128, 256, 520, 6, 2048, 5120] kr ⟨rfl, by kernel_rfl, by kernel_rfl⟩ subT kr (fun hT5 => ?_)
  refine go [22,0,16382,3,4,22,2,16378,0,22,4,16362,3,4,22,6,16298,0,22,1,16296,4,22,5,16264,4] ?_
  refine G.takeT hT5 (i := 7) (rem' := 16136) rfl rfl rfl kr (fun _ _ _ h => h) rfl (pv_ixSl (sz := 6) (k := i) Tryz.underlying26 kr rfl rfl (fun _ => rfl) (by omega) (by omega)) subT ?_
  refine go [22,8,15880,3,5] ?_
  refine G.twoT hT5 (i := 3) (j := 9) (rem' := 15872) (rem'' := 15368) kr kr kr ?_ ?_
  ·refine G.turnOp rfl rfl (G.lit0 rfl Tryz.underlying60 kr rfl ?_)
   intro b19
   refine G.ownBlk (b := b19) (k := 0) (sz := 16) selT rfl (by omega) ?_
   refine go [26,24,9,15360] ?_
   refine G.turnOp rfl rfl (G.val rfl rfl (pv_load (v := xs[i].2) Tryz.underlying60 rfl rfl (blk_cell selD (by rw [rows_at itC_len hlt' 5 (by omega), hzx]; rfl))) ?_)
   refine go [26,24,10,14336] ?_
   refine G.turnOp rfl rfl (G.appendI (k := 0) (cs := []) (ids := xs[i].1.ids) rfl Tryz.underlying60 Tryz.infoID' rfl rfl selT (ro_sl hDv) (by omega) ?_)
   intro x26
   rw [List.nil_append, Nat.zero_add xs[i].1.ids.length]
   refine G.ownFact (v := x26) selT (fun hx26 _ => ?_)
   refine go [26] ?_
   refine G.takeT hT5 (i := 11) (rem' := 12288) rfl rfl rfl kr (fun _ _ _ h => h) rfl (pv_ixSl (sz := 6) (k := i) Tryz.underlying26 kr rfl rfl (fun _ => rfl) (by omega) (by omega)) subT ?_
   refine go [22,12,8192,3,5,24,13,0] ?_
   refine G.turnOp rfl rfl (G.store kr rfl rfl (by assumption) selT (rows_room itC_len hlt' (by omega)) ?_)
   rw [rows_set itC_len hlt' (j := 5) (by omega) (x := (zs[i].1, x26)) rfl]
   refine go [26,27,16,8,10,0,2,6,1,7] ?_
   refine G.ownOf (sz := 6) (k := xs.length) (cs := (zs.set i (zs[i].1, x26)).flatMap itC) (sp := sp) selT (by rw [rows_len itC_len, List.length_set, hlz]) (by omega) hmx Y41 ?_
   have hzt : zs.take i ++ [(zs[i].1, x26)] = (zs.set i (zs[i].1, x26)).take (i + 1) := (take_set_succ hlt' _).symm
   refine G.datISnoc (ys := zs.take i) (x := (zs[i].1, x26)) selT (by rw [show (zs[i].1, x26).1.ids = xs[i].1.ids from by rw [hzx]]; repeat (first | with_reducible exact Sel.here | exact Sel.here | apply Sel.there)) ?_
   rw [hzt]
   exact G.next ((i + 1, zs.set i (zs[i].1, x26))) Y26 (by (try dsimp only); omega) (.consE rfl veqT (.cons rfl (.cons rfl .nil))) subT
  refine G.turnOp rfl rfl (G.val rfl rfl (pv_load (v := xs[i].2) Tryz.underlying60 rfl rfl (blk_cell selD (by rw [rows_at itC_len hlt' 5 (by omega), hzx]; rfl))) ?_)
  refine go [26,24,3,15360] ?_
  refine G.turnOp rfl rfl (G.lit0 rfl Tryz.underlying60 kr rfl ?_)
  intro b19
  refine G.ownBlk (b := b19) (k := 0) (sz := 16) selT rfl (by omega) ?_
  refine go [26,24,10,14336] ?_
  refine G.turnOp rfl rfl (G.appendI (k := 0) (cs := []) (ids := xs[i].1.ids) rfl Tryz.underlying60 Tryz.infoID' rfl rfl selT (ro_sl hDv) (by omega) ?_)
  intro x26
  rw [List.nil_append, Nat.zero_add xs[i].1.ids.length]
  refine G.ownFact (v := x26) selT (fun hx26 _ => ?_)
  refine go [26] ?_
  refine G.takeT hT5 (i := 11) (rem' := 12288) rfl rfl rfl kr (fun _ _ _ h => h) rfl (pv_ixSl (sz := 6) (k := i) Tryz.underlying26 kr rfl rfl (fun _ => rfl) (by omega) (by omega)) subT ?_
  refine go [22,12,8192,3,5,24,13,0] ?_
  refine G.turnOp rfl rfl (G.store kr rfl rfl (by assumption) selT (rows_room itC_len hlt' (by omega)) ?_)
  rw [rows_set itC_len hlt' (j := 5) (by omega) (x := (zs[i].1, x26)) rfl]
  refine go [26,27,16,8,10,0,2,6,1,7] ?_
  refine G.ownOf (sz := 6) (k := xs.length) (cs := (zs.set i (zs[i].1, x26)).flatMap itC) (sp := sp) selT (by rw [rows_len itC_len, List.length_set, hlz]) (by omega) hmx Y41 ?_
  have hzt : zs.take i ++ [(zs[i].1, x26)] = (zs.set i (zs[i].1, x26)).take (i + 1) := (take_set_succ hlt' _).symm
  refine G.datISnoc (ys := zs.take i) (x := (zs[i].1, x26)) selT (by rw [show (zs[i].1, x26).1.ids = xs[i].1.ids from by rw [hzx]]; repeat (first | with_reducible exact Sel.here | exact Sel.here | apply Sel.there)) ?_
  rw [hzt]
  exact G.next ((i + 1, zs.set i (zs[i].1, x26))) Y26 (by (try dsimp only); omega) (.consE rfl veqT (.cons rfl (.cons rfl .nil))) subT
 refine go [18,14,14,19,8,9,10,2,50,0,20,7,8,11] ?_
 obtain rfl : i = xs.length := by omega
 rw [show zs.take xs.length = zs from List.take_of_length_le (by omega), show own 80 6 (.slice a3 xs.length c3) xs.length (zs.flatMap itC) = own 80 6 (.slice a3 xs.length c3) zs.length (zs.flatMap itC) from by rw [hlz]]
 exact G.doneG ((.slice a3 xs.length c3, zs)) Y54 rfl (Rv.cellN (cs := [_, _, _, _, _]) rfl Tryz.underlying28 rfl kr Y22 Rv.nil) rfl subT
set_option maxRecDepth 20000 in
set_option maxHeartbeats 4000000 in
theorem cloneI_tr {Ps : Nat → Prop} (v : Value) (ids : List (List UInt8)) (hn : ids.length ≤ 1000000) : Tr Tryz.prog 116 #[v] [slc rID Ps v ids] [] (TX (fun _ : Value => True) (fun x => x) (fun x => [own 66 16 x ids.length (flatI ids)])) := by
 refine Tr.of (l := [(0, v)]) Tryz.func116 rfl (n := 8) rfl (.cons rfl .nil) (fun w0 hro => ?_)
 have hv0 := ro1 hro
 have hDv := hv0
 obtain ⟨av, cv, bv, fv, rfl, hcapv, hmaxv, hnilv, hadv, helv⟩ := Ro.open hv0
 refine go [9,10,1,7,8,9,9,10,0] ?_
 refine G.op rfl (G.val rfl rfl (pv_eqlSl0 Tryz.underlying60 rfl rfl) ?_)
 refine go [7,8] ?_
 refine G.cond rfl (fun h4 => ?_) (fun h4 => ?_)
 ·have hn0 : av = none := by simpa using h4
  have hc0 := hnilv hn0
  obtain rfl : ids = [] := List.eq_nil_of_length_eq_zero (by omega)
  refine go [9,10,1,7,8,11,12] ?_
  refine G.ownNil 66 16 ?_
  exact G.doneX1 (.slice none 0 0) trT rfl rfl rfl subT
 refine go [13,8,9,10,60,14] ?_
 intro b5
 refine G.ownBlk (b := b5) (k := 0) (sz := 16) selT rfl (by omega) ?_
 refine go [0] ?_
 refine G.op rfl (G.appendI (k := 0) (cs := []) (ids := ids) rfl Tryz.underlying60 Tryz.infoID' rfl rfl selT (ro_sl hDv) (by omega) ?_)
 intro v'
 rw [List.nil_append, Nat.zero_add ids.length]
 refine go [1,7,8,11] ?_
 exact G.doneX1 (v') trT rfl rfl rfl subT
set_option maxRecDepth 20000 in
set_option maxHeartbeats 4000000 in
theorem cloneIt_tr {Ps : Nat → Prop} (v : Value) (xs : List IT) (hn : xs.length ≤ 1000) : Tr Tryz.prog 115 #[v] [slc rIT Ps v xs] [] (TX (fun _ : Value => True) (fun x => x) (fun x => [own 80 6 x xs.length (xs.flatMap itC)])) := by
 refine Tr.of (l := [(0, v)]) Tryz.func115 rfl (n := 8) rfl (.cons rfl .nil) (fun w0 hro => ?_)
 have hv := ro1 hro
 have hv' := hv
 obtain ⟨av, cv, bv, fv, rfl, hcapv, hmaxv, hnilv, hadv, helv⟩ := Ro.open hv
 refine go [9,10,1,7,8,9,9,10,0] ?_
 refine G.op rfl (G.val rfl rfl (pv_eqlSl0 Tryz.underlying26 rfl rfl) ?_)
 refine go [7,8] ?_
 refine G.cond rfl (fun h4 => ?_) (fun h4 => ?_)
 ·have hn0 : av = none := by simpa using h4
  have hc0 := hnilv hn0
  obtain rfl : xs = [] := List.eq_nil_of_length_eq_zero (by omega)
  refine go [9,10,1,7,8,11,12,60,7] ?_
  exact G.doneX1 (.slice none 0 0) trT rfl rfl rfl subT
 refine go [13,8,9,10,60,14] ?_
 intro b5
 refine G.ownBlk (b := b5) (k := 0) (sz := 6) selT rfl (by omega) ?_
 refine go [0] ?_
 refine G.op rfl (G.append (k := 0) (j := xs.length) (cs := []) (news := xs.flatMap itC) (b := bv) (off := fv) rfl Tryz.underlying26 Tryz.infoIt rfl rfl rfl selT hadv hnilv (rows_len itC_len xs) (newsI helv) (Ro.allOneI helv) (by omega) (by omega) ?_)
 intro v'
 rw [List.nil_append, Nat.zero_add xs.length]
 refine go [1,7,8,11] ?_
 exact G.doneX1 (v') trT rfl rfl rfl subT
set_option maxRecDepth 20000 in
set_option maxHeartbeats 4000000 in
theorem mclone_tr {Ps : Nat → Prop} (a : Mh) (v : Value) (xs : List IT) (hn : xs.length ≤ 1000) (hfew : Few xs) : Tr Tryz.prog 78 #[.agg #[.int .i64 a.c, .int .i64 a.k, .int .i64 a.n, .int .i64 a.t, v]] [slc rIT Ps v xs] [] (TX (fun z : Value × List IT => its z.2 = its xs) (fun z => .agg #[.int .i64 a.c, .int .i64 a.k, .int .i64 a.n, .int .i64 a.t, z.1]) (fun z => [own 80 6 z.1 z.2.length (z.2.flatMap itC), datI 66 z.2])) := by
 refine Tr.of (l := [(0, .agg #[.int .i64 a.c, .int .i64 a.k, .int .i64 a.n, .int .i64 a.t, v])]) Tryz.func78 rfl (n := 28) rfl (.cons rfl .nil) (fun w0 hro => ?_)
 have hv := ro1 hro
 have hv' := hv
 obtain ⟨av, cv, bv, fv, rfl, hcapv, hmaxv, hnilv, hadv, helv⟩ := Ro.open hv
 refine go [9,10,60,0] ?_
 intro b1
 refine go [60,3] ?_
 intro b2
 refine go [7,8,9,10,2,3,4,2,4] ?_
 refine G.op rfl (G.cS rfl rfl rfl rfl Tryz.func115 rfl rfl subT (may1 Y0) (cloneIt_tr _ _ (by omega)) apT ?_)
 intro x6 hJ
 try dsimp only at hJ
 try dsimp only
 refine G.ownOpen (v := x6) selT (fun a3 c3 h3 hk3 hm3 => ?_)
 subst h3
 refine go [2,3,4,21,7,8,9,9,10,2,3,4,2,4,2,5,0,7,8,15,60,6] ?_
 refine G.loopK (X := Nat × (List IT)) (ts := [1, 2, 10]) (fun st => st.1 ≤ xs.length ∧ (its st.2 = its xs ∧ ∀ q (hq : q < st.2.length) (hx : q < xs.length), st.1 ≤ q → st.2[q] = xs[q])) (fun st => [(11, .int .i64 (st.1 : Int))]) (fun st => [own 80 6 (.slice a3 xs.length c3) xs.length (st.2.flatMap itC), datI 66 (st.2.take st.1)]) (fun st => xs.length - st.1) (x0 := (0, xs)) (.cons rfl (.cons rfl (.cons rfl .nil))) subT (.cons .nil) apT Y28 (.consE rfl veqT .nil) (fun st hJ => ?_)
 obtain ⟨i, zs⟩ := st
 try dsimp only at hJ
 try dsimp only
 obtain ⟨hki, hJ⟩ := hJ
 obtain ⟨hez, hsame⟩ := hJ
 have hlz : zs.length = xs.length := map1_len hez
 refine go [9,10,2,9,7,8,9] ?_
 refine G.condP rfl (fun h12 => ?_) (fun h12 => ?_)
 ·have hlt : i < xs.length := by omega
  have hlt' : i < zs.length := by omega
  have hzx : zs[i] = xs[i] := hsame i hlt' hlt (Nat.le_refl _)
  have hEv := helv i hlt
  have hRv := Ro.itRng hEv
  have hDv := Ro.itIds hEv
  have hOv := Ro.itOk hEv
  obtain ⟨hk1v, hk2v, hk3v, hlpv, hltv, hlnv⟩ := hOv
  have hCv := Ro.one1I hDv
  have hfi := hfew _ (List.getElem_mem hlt)
  refine go [13,8,9,15,9,10,0,1,7,8] ?_
  refine G.ownTo (v := (.slice a3 xs.length c3)) selT (by omega) (fun g cap sp hvv hkc hmx hl hlen => ?_)
  injection hvv with e1 e2 e3
  subst e1
  subst e3
  refine G.drawT (nn := 13) (p := [blk g _ _]) (rem := 8191) [0, 1, 0, 0, 8, 0, 48, 64, 128, 256, 1023, 2047, 3071] [0, 1, 0, 0, 8, 0, 48, 64, 128, 256, 6, 1024, 2560] kr ⟨rfl, by kernel_rfl, by kernel_rfl⟩ subT kr (fun hT5 => ?_)
  refine go [22,0,8190,3,4,22,2,8186,0,22,3,8178,3,4,22,5,8146,0,22,1,8144,4,24,4,8128,25,4,26] ?_
  refine G.takeT hT5 (i := 6) (rem' := 8064) rfl rfl rfl kr (fun _ _ _ h => h) rfl (pv_ixSl (sz := 6) (k := i) Tryz.underlying26 kr rfl rfl (fun _ => rfl) (by omega) (by omega)) subT ?_
  refine go [22,7,7936,3,5,24,8,7680] ?_
  refine G.turnOp rfl rfl (G.val rfl rfl (pv_load (v := xs[i].2) Tryz.underlying60 rfl rfl (blk_cell selD (by rw [rows_at itC_len hlt' 5 (by omega), hzx]; rfl))) ?_)
  refine go [26,24,9,7168] ?_
  refine G.turnOp rfl rfl (G.cS rfl rfl rfl rfl Tryz.func116 rfl rfl subT (may1 Y0) (cloneI_tr xs[i].2 xs[i].1.ids (by omega)) apT ?_)
  intro x23 hJ
  try dsimp only at hJ
  try dsimp only
  refine G.ownFact (v := x23) selT (fun hx23 _ => ?_)
  refine go [26] ?_
  refine G.takeT hT5 (i := 10) (rem' := 6144) rfl rfl rfl kr (fun _ _ _ h => h) rfl (pv_ixSl (sz := 6) (k := i) Tryz.underlying26 kr rfl rfl (fun _ => rfl) (by omega) (by omega)) subT ?_
  refine go [22,11,4096,3,5,24,12,0] ?_
  refine G.turnOp rfl rfl (G.store kr rfl rfl (by assumption) selT (rows_room itC_len hlt' (by omega)) ?_)
  rw [rows_set itC_len hlt' (j := 5) (by omega) (x := (zs[i].1, x23)) rfl]
  refine go [26,27,16,8,10,2,6,0,7] ?_
  refine G.ownOf (sz := 6) (k := xs.length) (cs := (zs.set i (zs[i].1, x23)).flatMap itC) (sp := sp) selT (by rw [rows_len itC_len, List.length_set, hlz]) (by omega) hmx Y41 ?_
  have hzt : zs.take i ++ [(zs[i].1, x23)] = (zs.set i (zs[i].1, x23)).take (i + 1) := (take_set_succ hlt' _).symm
  refine G.datISnoc (ys := zs.take i) (x := (zs[i].1, x23)) selT (by rw [show (zs[i].1, x23).1.ids = xs[i].1.ids from by rw [hzx]]; repeat (first | with_reducible exact Sel.here | exact Sel.here | apply Sel.there)) ?_
  rw [hzt]
  exact G.next ((i + 1, zs.set i (zs[i].1, x23))) Y26 (by (try dsimp only); omega) (.consE rfl veqT (.cons rfl (.cons rfl (.cons rfl .nil)))) subT
 refine go [18,14,14,19,8,9,10,2,50,0,20,7,8,11] ?_
 obtain rfl : i = xs.length := by omega
 rw [show zs.take xs.length = zs from List.take_of_length_le (by omega), show own 80 6 (.slice a3 xs.length c3) xs.length (zs.flatMap itC) = own 80 6 (.slice a3 xs.length c3) zs.length (zs.flatMap itC) from by rw [hlz]]
 exact G.doneG ((.slice a3 xs.length c3, zs)) Y54 rfl (Rv.cellN (cs := [_, _, _, _, _]) rfl Tryz.underlying28 rfl kr Y22 Rv.nil) rfl subT
set_option maxRecDepth 20000 in
set_option maxHeartbeats 4000000 in
theorem numbered_tr {Ps : Nat → Prop} (a : Mh) (v : Value) (xs : List IT) (q : Int) (hn : xs.length ≤ 1000) (hfew : Few xs) : Tr Tryz.prog 36 #[.agg #[.int .i64 a.c, .int .i64 a.k, .int .i64 a.n, .int .i64 a.t, v], .int .i64 q] [slc rIT Ps v xs] [] (TX (fun z : Value × List IT => its z.2 = its xs) (fun z => .agg #[.int .i64 (⟨a.c, a.k, q, a.t⟩ : Mh).c, .int .i64 (⟨a.c, a.k, q, a.t⟩ : Mh).k, .int .i64 (⟨a.c, a.k, q, a.t⟩ : Mh).n, .int .i64 (⟨a.c, a.k, q, a.t⟩ : Mh).t, z.1]) (fun z => [own 80 6 z.1 z.2.length (z.2.flatMap itC), datI 66 z.2])) := by
 refine Tr.of (l := [(0, .agg #[.int .i64 a.c, .int .i64 a.k, .int .i64 a.n, .int .i64 a.t, v]), (1, .int .i64 q)]) Tryz.func36 rfl (n := 10) rfl (.cons rfl (.cons rfl .nil)) (fun w0 hro => ?_)
 have hv := ro1 hro
 have hv' := hv
 obtain ⟨av, cv, bv, fv, rfl, hcapv, hmaxv, hnilv, hadv, helv⟩ := Ro.open hv
 refine go [9,10,60,0] ?_
 intro b2
 refine go [60,3] ?_
 intro b4
 refine go [7,8,9,10,2,50,0] ?_
 refine G.op rfl (G.cS rfl rfl rfl rfl Tryz.func78 rfl rfl subT (may1 Y0) (mclone_tr a _ xs hn hfew) apT ?_)
 intro x6 hJ
 obtain ⟨v', zs⟩ := x6
 try dsimp only at hJ
 try dsimp only
 have hez : its zs = its xs := hJ
 refine G.ownFact (v := v') selT (fun hv'1 _ => ?_)
 refine go [20,7,8,9,10,0,2,3,2,21,7,8,9,10,2,50,0,20,7,8,11] ?_
 exact G.doneG ((v', zs)) Y54 rfl (Rv.cellN (cs := [_, _, _, _, _]) rfl Tryz.underlying28 rfl kr Y22 Rv.nil) rfl subT
set_option maxRecDepth 20000 in
set_option maxHeartbeats 4000000 in
theorem numberedR_tr (a : Mh) (v : Value) (q : Int) (hv : v.oneCell' = true) : Tr Tryz.prog 39 #[.agg #[.int .i64 a.c, .int .i64 a.k, .int .i64 a.n, .int .i64 a.t, v], .int .i64 q] [] [] (T0 (.agg #[.int .i64 (⟨a.c, a.k, q, a.t⟩ : Mh).c, .int .i64 (⟨a.c, a.k, q, a.t⟩ : Mh).k, .int .i64 (⟨a.c, a.k, q, a.t⟩ : Mh).n, .int .i64 (⟨a.c, a.k, q, a.t⟩ : Mh).t, v])) := by
 refine Tr.of (l := [(0, .agg #[.int .i64 a.c, .int .i64 a.k, .int .i64 a.n, .int .i64 a.t, v]), (1, .int .i64 q)]) Tryz.func39 rfl (n := 8) rfl (.cons rfl (.cons rfl .nil)) (fun w0 hro => ?_)
 refine go [9,10,60,0] ?_
 intro b2
 refine go [60,3] ?_
 intro b4
 refine go [7,8,9,10,0,2,3,2,21,7,8,9,10,2,50,0,20,7,8,11] ?_
 exact G.done0G rfl (Rv.cellN (cs := [_, _, _, _, _]) rfl Tryz.underlying28 rfl kr Y22 Rv.nil) Y6
set_option maxRecDepth 20000 in
set_option maxHeartbeats 4000000 in
theorem copyC_tr {Ps : Nat → Prop} (v : Value) (xs : List CT) (hn : xs.length ≤ 1000) : Tr Tryz.prog 25 #[v] [slc rCT Ps v xs] [] (TX (fun z : Value × List CT => cks z.2 = cks xs) (fun z => z.1) (fun z => [own 71 17 z.1 z.2.length (z.2.flatMap chC), datD 5 z.2])) := by
 refine Tr.of (l := [(0, v)]) Tryz.func25 rfl (n := 25) rfl (.cons rfl .nil) (fun w0 hro => ?_)
 have hv := ro1 hro
 have hv' := hv
 obtain ⟨av, cv, bv, fv, rfl, hcapv, hmaxv, hnilv, hadv, helv⟩ := Ro.open hv
 refine go [9,10,1,7,8,9,10,60,14] ?_
 intro b5
 refine G.ownBlk (b := b5) (k := 0) (sz := 17) selT rfl (by omega) ?_
 refine go [0] ?_
 refine G.op rfl (G.append (k := 0) (j := xs.length) (cs := []) (news := xs.flatMap chC) (b := bv) (off := fv) rfl Tryz.underlying29 Tryz.infoCk rfl rfl rfl selT hadv hnilv (rows_len chC_len xs) (newsC helv) (Ro.allOneC helv) (by omega) (by omega) ?_)
 intro v3
 rw [List.nil_append, Nat.zero_add xs.length]
 refine G.ownOpen (v := v3) selT (fun a3 c3 h3 hk3 hm3 => ?_)
 subst h3
 refine go [1,7,8,9,9,10,1,7,8,15] ?_
 refine G.datDNil 5 ?_
 refine G.loopK (X := Nat × (List CT)) (ts := [2, 3]) (fun st => st.1 ≤ xs.length ∧ (cks st.2 = cks xs ∧ ∀ q (hq : q < st.2.length) (hx : q < xs.length), st.1 ≤ q → st.2[q] = xs[q])) (fun st => [(4, .int .i64 (st.1 : Int))]) (fun st => [own 71 17 (.slice a3 xs.length c3) xs.length (st.2.flatMap chC), datD 5 (st.2.take st.1)]) (fun st => xs.length - st.1) (x0 := (0, xs)) (.cons rfl (.cons rfl .nil)) subT (.cons .nil) apT Y28 (.consE rfl veqT .nil) (fun st hJ => ?_)
 obtain ⟨i, zs⟩ := st
 try dsimp only at hJ
 try dsimp only
 obtain ⟨hki, hJ⟩ := hJ
 obtain ⟨hez, hsame⟩ := hJ
 have hlz : zs.length = xs.length := map1_len hez
 refine go [9,9,10,0,0,2,5,2,9,7,8] ?_
 refine G.condP rfl (fun h11 => ?_) (fun h11 => ?_)
 ·have hlt : i < xs.length := by omega
  have hlt' : i < zs.length := by omega
  have hzx : zs[i] = xs[i] := hsame i hlt' hlt (Nat.le_refl _)
  have hEv := helv i hlt
  have hRv := Ro.ckRng hEv
  have hDv := Ro.ckDat hEv
  have hIv := Ro.ckID hEv
  have hdlv := Ro.ckLen hEv
  have hCv := Ro.one1 hDv
  refine go [13,8,9,15,10] ?_
  refine G.ownTo (v := (.slice a3 xs.length c3)) selT (by omega) (fun g cap sp hvv hkc hmx hl hlen => ?_)
  injection hvv with e1 e2 e3
  subst e1
  subst e3
  refine go [0,0,0,0] ?_
  refine G.op rfl (G.val rfl rfl (pv_ixSl (sz := 17) (k := i) Tryz.underlying29 kr rfl rfl (fun _ => rfl) (by omega) (by omega)) ?_)
  refine go [2,3,16] ?_
  refine G.op rfl (G.val rfl rfl (pv_load (v := xs[i].2) Tryz.underlying39 rfl rfl (blk_cell selD (by rw [rows_at chC_len hlt' 16 (by omega), chC_dat, hzx]))) ?_)
  refine G.op rfl (G.cS rfl rfl rfl rfl Tryz.func44 rfl rfl subT (may1 Y0) (copyB_tr _ xs[i].1.2 (by omega)) apT ?_)
  intro x21 hJ
  try dsimp only at hJ
  try dsimp only
  refine G.ownBFact (v := x21) selT (fun hx21 => ?_)
  refine G.op rfl (G.val rfl rfl (pv_ixSl (sz := 17) (k := i) Tryz.underlying29 kr rfl rfl (fun _ => rfl) (by omega) (by omega)) ?_)
  refine go [2,3,16] ?_
  refine G.op rfl (G.store kr rfl rfl (by assumption) selT (rows_room chC_len hlt' (by omega)) ?_)
  rw [rows_set chC_len hlt' (j := 16) (by omega) (x := (zs[i].1, x21)) (chC_set _ _)]
  refine go [7,16,8,10,0,2,6,1,7] ?_
  refine G.ownOf (sz := 17) (k := xs.length) (cs := (zs.set i (zs[i].1, x21)).flatMap chC) (sp := sp) selT (by rw [rows_len chC_len, List.length_set, hlz]) (by omega) hmx (by rw [List.length_append, rows_len chC_len, List.length_set]; rw [List.length_append, rows_len chC_len] at hl; exact hl) ?_
  have hzt : zs.take i ++ [(zs[i].1, x21)] = (zs.set i (zs[i].1, x21)).take (i + 1) := (take_set_succ hlt' _).symm
  refine G.datDSnoc (ys := zs.take i) (x := (zs[i].1, x21)) selT (by rw [show (zs[i].1, x21).1.2 = xs[i].1.2 from by rw [hzx]]; repeat (first | with_reducible exact Sel.here | exact Sel.here | apply Sel.there)) ?_
  rw [hzt]
  exact G.next ((i + 1, zs.set i (zs[i].1, x21))) Y26 (by (try dsimp only); omega) (.consE rfl veqT (.cons rfl (.cons rfl .nil))) subT
 refine go [18,14,14,19,8,9,10,0,1,7,8,11] ?_
 obtain rfl : i = xs.length := by omega
 rw [show zs.take xs.length = zs from List.take_of_length_le (by omega), show own 71 17 (.slice a3 xs.length c3) xs.length (zs.flatMap chC) = own 71 17 (.slice a3 xs.length c3) zs.length (zs.flatMap chC) from by rw [hlz]]
 exact G.doneX1 ((.slice a3 xs.length c3, zs)) Y54 rfl rfl rfl subT
set_option maxRecDepth 20000 in
set_option maxHeartbeats 4000000 in
theorem overC_tr (v : Value) (zs : List CT) (hn : zs.length ≤ 1000000) : Tr Tryz.prog 16 #[v] [] [own 71 17 v zs.length (zs.flatMap chC), datD 5 zs] (TX (fun _ : Unit => True) (fun _ => .tuple #[]) (fun _ => [])) := by
 refine Tr.of (l := [(0, v)]) Tryz.func16 rfl (n := 20) rfl (.cons rfl .nil) (fun w0 hro => ?_)
 refine G.ownOpen (v := v) selT (fun a3 c3 h3 hk3 hm3 => ?_)
 subst h3
 refine go [9,10,1,7,8,15] ?_
 refine G.loopK (X := Nat × (List CT)) (ts := [0]) (fun st => st.1 ≤ zs.length ∧ (st.2.length = zs.length ∧ ∀ q (h1 : q < st.2.length) (h2 : q < zs.length), st.1 ≤ q → st.2[q] = zs[q])) (fun st => [(2, .int .i64 (st.1 : Int))]) (fun st => [own 71 17 (.slice a3 zs.length c3) zs.length (st.2.flatMap chC), datD 5 (zs.drop st.1)]) (fun st => zs.length - st.1) (x0 := (0, zs)) (.cons rfl .nil) subT (.cons .nil) apT Y28 (.consE rfl veqT .nil) (fun st hJ => ?_)
 obtain ⟨i, ws⟩ := st
 try dsimp only at hJ
 try dsimp only
 obtain ⟨hki, hJ⟩ := hJ
 obtain ⟨hwl, hwz0⟩ := hJ
 refine go [9,9,10,0,0,2,5,2,9,7,8] ?_
 refine G.condP rfl (fun h6 => ?_) (fun h6 => ?_)
 ·have hlt : i < zs.length := by omega
  have hlt' : i < ws.length := by omega
  have hwz : ws[i] = zs[i] := hwz0 i hlt' hlt (Nat.le_refl _)
  rw [drop_cons hlt]
  refine G.datDCons selT ?_
  refine G.ownTo (v := .slice a3 zs.length c3) selT (by omega) (fun g cap sp hvv hkc hmx hl hlen => ?_)
  injection hvv with e1 e2 e3
  subst e1
  subst e3
  refine go [13,8,9,15,9,10,0,0] ?_
  refine G.op rfl (G.val rfl rfl (pv_ixSl (sz := 17) (k := i) Tryz.underlying29 kr rfl rfl (fun _ => rfl) (by omega) (by omega)) ?_)
  refine go [2,3,16] ?_
  refine G.op rfl (G.val rfl rfl (pv_load (v := zs[i].2) Tryz.underlying39 rfl rfl (blk_cell selD (by rw [rows_at chC_len hlt' 16 (by omega), chC_dat, hwz]))) ?_)
  refine G.op rfl (G.cS rfl rfl rfl rfl Tryz.func40 rfl rfl subT may0 (overB_tr _ zs[i].1.2) apT ?_)
  intro x14 hJ
  try dsimp only at hJ
  try dsimp only
  refine go [7,8,10,0,0] ?_
  refine G.op rfl (G.val rfl rfl (pv_build (ps := [(0, .int .u8 7)]) (cells := (id7.map vByte).toArray) (fun _ _ => by simp [Act.eval]) kr) ?_)
  refine G.op rfl (G.val rfl rfl (pv_build (ps := [(0, .agg (id7.map vByte).toArray)]) (cells := (chC overK).toArray) (fun act ha => by have e := ha.eval (x := .tmp 17) rfl; simp [e]) kr) ?_)
  refine G.op rfl (G.val rfl rfl (pv_ixSl (sz := 17) (k := i) Tryz.underlying29 kr rfl rfl (fun _ => rfl) (by omega) (by omega)) ?_)
  refine G.op rfl (G.storeN (vs := chC overK) kr rfl rfl kr selT (rows_fit chC_len hlt' _) ?_)
  rw [rows_put chC_len hlt']
  refine go [7,16,8,10,0,2,6,1,7] ?_
  refine G.ownOf (sz := 17) (k := zs.length) (cs := (ws.set i overK).flatMap chC) (sp := sp) selT (by rw [rows_len chC_len, List.length_set, hwl]) (by omega) hmx (by rw [List.length_append, rows_len chC_len, List.length_set]; rw [List.length_append, rows_len chC_len] at hl; exact hl) ?_
  exact G.next ((i + 1, ws.set i overK)) Y34 (by (try dsimp only); omega) (.consE rfl veqT (.cons rfl .nil)) subT
 refine go [18,14,14,19] ?_
 exact G.doneXE (()) trT rfl rfl subT
set_option maxRecDepth 20000 in
set_option maxHeartbeats 4000000 in
theorem overM_tr (a : Mh) (v : Value) (zs : List IT) (hn : zs.length ≤ 1000000) (hfew : Few zs) : Tr Tryz.prog 15 #[.agg #[.int .i64 a.c, .int .i64 a.k, .int .i64 a.n, .int .i64 a.t, v]] [] [own 80 6 v zs.length (zs.flatMap itC), datI 66 zs] (TX (fun _ : Unit => True) (fun _ => .tuple #[]) (fun _ => [])) := by
 refine Tr.of (l := [(0, .agg #[.int .i64 a.c, .int .i64 a.k, .int .i64 a.n, .int .i64 a.t, v])]) Tryz.func15 rfl (n := 36) rfl (.cons rfl .nil) (fun w0 hro => ?_)
 refine G.ownOpen (v := v) selT (fun a3 c3 h3 hk3 hm3 => ?_)
 subst h3
 refine go [9,10,60,0] ?_
 intro b1
 refine go [7,8,9,10,1,7,8,15] ?_
 refine G.loopK (X := Nat × (List IT)) (ts := [1]) (fun st => st.1 ≤ zs.length ∧ (st.2.length = zs.length ∧ ∀ q (h1 : q < st.2.length) (h2 : q < zs.length), st.1 ≤ q → st.2[q] = zs[q])) (fun st => [(2, .int .i64 (st.1 : Int))]) (fun st => [own 80 6 (.slice a3 zs.length c3) zs.length (st.2.flatMap itC), datI 66 (zs.drop st.1)]) (fun st => zs.length - st.1) (x0 := (0, zs)) (.cons rfl .nil) subT (.cons .nil) apT Y28 (.consE rfl veqT .nil) (fun st hJ => ?_)
 obtain ⟨i, ws⟩ := st
 try dsimp only at hJ
 try dsimp only
 obtain ⟨hki, hJ⟩ := hJ
 obtain ⟨hwl, hwz0⟩ := hJ
 refine go [9,9,10,0,2,3,4,2,4,2,5,2,9,7,8] ?_
 refine G.condP rfl (fun h8 => ?_) (fun h8 => ?_)
 ·have hlt : i < zs.length := by omega
  have hlt' : i < ws.length := by omega
  have hwz : ws[i] = zs[i] := hwz0 i hlt' hlt (Nat.le_refl _)
  have hfi := hfew _ (List.getElem_mem hlt)
  rw [drop_cons hlt]
  refine G.datICons selT ?_
  obtain ⟨ux, hux⟩ : ∃ u, zs[i].2 = u := ⟨_, rfl⟩
  rw [hux]
  refine G.ownOpen (v := ux) selT (fun a4 c4 h4 hk4 hm4 => ?_)
  subst h4
  obtain ⟨n4, hn4⟩ : ∃ n, zs[i].1.ids.length = n := ⟨_, rfl⟩
  obtain ⟨cs4, hcs4⟩ : ∃ cs, flatI zs[i].1.ids = cs := ⟨_, rfl⟩
  rw [hn4, hcs4]
  rw [hn4] at hux hfi hk4
  refine G.ownFact (v := .slice a4 n4 c4) selT (fun _ hcl4 => ?_)
  refine G.ownTo (v := .slice a3 zs.length c3) selT (by omega) (fun g cap sp hvv hkc hmx hl hlen => ?_)
  injection hvv with e1 e2 e3
  subst e1
  subst e3
  refine go [13,8,9,15,9,9,10,1,7,8,15] ?_
  refine G.loopK (X := Nat × (List Value)) (ts := [1, 2]) (fun st => st.1 ≤ n4 ∧ (st.2.length = n4 * 16)) (fun st => [(3, .int .i64 (st.1 : Int))]) (fun st => [own 66 16 (.slice a4 n4 c4) n4 st.2]) (fun st => n4 - st.1) (x0 := (0, cs4)) (.cons rfl (.cons rfl .nil)) subT (.cons .nil) apT (by first | exact trivial | ((try dsimp only) <;> exact ⟨Nat.zero_le _, hcl4⟩)) (.consE rfl veqT .nil) (fun st hJ => ?_)
  obtain ⟨j, cs⟩ := st
  try dsimp only at hJ
  try dsimp only
  obtain ⟨hkj, hJ⟩ := hJ
  have hcl := hJ
  refine go [9,9,10,0,2,3,4,2,4,0] ?_
  refine G.op rfl (G.val rfl rfl (pv_ixSl (sz := 6) (k := i) Tryz.underlying26 kr rfl rfl (fun _ => rfl) (by omega) (by omega)) ?_)
  refine go [2,3,5] ?_
  refine G.op rfl (G.val rfl rfl (pv_load (v := .slice a4 n4 c4) Tryz.underlying60 rfl rfl (blk_cell selD (by rw [rows_at itC_len hlt' 5 (by omega), hwz]; exact congrArg some hux))) ?_)
  refine go [2,5,2,9,7,8] ?_
  refine G.condP rfl (fun h19 => ?_) (fun h19 => ?_)
  ·have hjn : j < n4 := by omega
   refine go [13,8,9,15,10,2,3,4,2,4,0] ?_
   refine G.op rfl (G.val rfl rfl (pv_ixSl (sz := 6) (k := i) Tryz.underlying26 kr rfl rfl (fun _ => rfl) (by omega) (by omega)) ?_)
   refine go [2,3,5] ?_
   refine G.op rfl (G.val rfl rfl (pv_load (v := .slice a4 n4 c4) Tryz.underlying60 rfl rfl (blk_cell selD (by rw [rows_at itC_len hlt' 5 (by omega), hwz]; exact congrArg some hux))) ?_)
   refine go [0] ?_
   refine G.op rfl (G.val rfl rfl (pv_build (ps := [(0, .int .u8 7)]) (cells := (id7.map vByte).toArray) (fun _ _ => by simp [Act.eval]) kr) ?_)
   refine G.ownTo (v := .slice a4 n4 c4) selT (by omega) (fun g2 cap2 sp2 hvv2 hkc2 hmx2 hl2 hlen2 => ?_)
   injection hvv2 with e4 e5 e6
   refine G.op rfl (G.val rfl rfl (pv_ixSl (sz := 16) (k := j) Tryz.underlying60 kr rfl rfl (fun _ => e4) (by omega) (by omega)) ?_)
   refine G.op rfl (G.storeN (vs := id7.map vByte) kr rfl rfl kr selT (by rw [List.length_append, show (id7.map vByte).length = 16 from rfl]; omega) ?_)
   subst e4
   subst e6
   refine go [7,16,8,10,0,2,6,1,7] ?_
   rw [putN_app _ _ _ _ (by rw [show (id7.map vByte).length = 16 from rfl]; omega)]
   refine G.ownOf (sz := 16) (k := n4) (cs := putN cs (0 + j * 16) (id7.map vByte)) (sp := sp2) selT (by rw [putN_len]; exact hcl) (by omega) hmx2 (by rw [List.length_append, putN_len]; rw [List.length_append] at hl2; exact hl2) ?_
   exact G.next ((j + 1, putN cs (0 + j * 16) (id7.map vByte))) (by first | exact trivial | ((try dsimp only) <;> exact ⟨by omega, (by rw [putN_len]; exact hcl)⟩)) (by (try dsimp only); omega) (.consE rfl veqT (.cons rfl (.cons rfl .nil))) subT
  refine go [18,14,14,19,8,10,2,3,4,2,4,0,2,50,8] ?_
  refine G.op rfl (G.val rfl rfl (pv_ixSl (sz := 6) (k := i) Tryz.underlying26 kr rfl rfl (fun _ => rfl) (by omega) (by omega)) ?_)
  refine G.op rfl (G.storeN (vs := itC overI) kr rfl rfl (by rfl) selT (rows_fit itC_len hlt' _) ?_)
  rw [rows_put itC_len hlt']
  refine go [7,16,8,10,0,2,6,1,7] ?_
  refine G.ownOf (sz := 6) (k := zs.length) (cs := (ws.set i overI).flatMap itC) (sp := sp) selT (by rw [rows_len itC_len, List.length_set, hwl]) (by omega) hmx Y41 ?_
  exact G.next ((i + 1, ws.set i overI)) Y34 (by (try dsimp only); omega) (.consE rfl veqT (.cons rfl .nil)) subT
 refine go [18,14,14,19] ?_
 exact G.doneXE (()) trT rfl rfl subT
def numI (e : It) : Prop := e.kind < 1 ∨ 3 < e.kind ∨ e.mode < 0 ∨ 511 < e.mode ∨ (e.kind = 3 ↔ e.to.length = 0) ∨ 200 < e.to.length
instance (e : It) : Decidable (numI e) := inferInstanceAs (Decidable (_ ∨ _))
def rngI (e : It) : Prop := e.size < 0 ∨ 1048576 < e.size ∨ (0 < e.size ∧ e.kind ≠ 2) ∨ ¬ ((e.size + 1023) / 1024 ≤ (e.ids.length : Int) ∧ (e.ids.length : Int) ≤ (e.size + 63) / 64)
instance (e : It) : Decidable (rngI e) := inferInstanceAs (Decidable (_ ∨ _))
def oneI (e : It) : Int := if ¬ okP e.path then 4 else if numI e then 2 else if rngI e then 5 else 0
theorem oneI_bytes {e : It} (h : ¬ okP e.path) : oneI e = 4 := if_pos h
theorem oneI_arg {e : It} (h : okP e.path) (h1 : numI e) : oneI e = 2 := by
 unfold oneI
 rw [if_neg (not_not_intro h), if_pos h1]
theorem oneI_rng {e : It} (h : okP e.path) (h1 : ¬ numI e) (h2 : rngI e) : oneI e = 5 := by
 unfold oneI
 rw [if_neg (not_not_intro h), if_neg h1, if_pos h2]
theorem oneI_ok {e : It} (h : okP e.path) (h1 : ¬ numI e) (h2 : ¬ rngI e) : oneI e = 0 := by
 unfold oneI
 rw [if_neg (not_not_intro h), if_neg h1, if_neg h2]
theorem oneI_zero {e : It} (h : oneI e = 0) : okP e.path ∧ ¬ numI e ∧ ¬ rngI e := by
 unfold oneI at h
 split at h
 ·cases h
 split at h
 ·cases h
 split at h
 ·cases h
 exact ⟨Decidable.of_not_not (by assumption), by assumption, by assumption⟩
set_option maxRecDepth 20000 in
set_option maxHeartbeats 4000000 in
theorem win_tr (n a b : Int) : Tr Tryz.prog 69 #[.int .i64 n, .int .i64 a, .int .i64 b] [] [] (T0 (.bool (decide (a ≤ n ∧ n ≤ b)))) := by
 refine Tr.of (l := [(0, .int .i64 n), (1, .int .i64 a), (2, .int .i64 b)]) Tryz.func69 rfl (n := 15) rfl (.cons rfl (.cons rfl (.cons rfl .nil))) (fun w0 hro => ?_)
 refine go [9,10,1,7,8,9,10,0,0,2,12,0] ?_
 refine G.partP (t := 10) rfl (fun h10 => ?_) (fun h10 => ?_)
 ·refine go [3,0,3,0,3,11,2,2,1,7,8,11] ?_
  exact G.done0G rfl (Rv.tmp rfl Rv.nil) Y36
 refine go [4,4,4,2,2,1,7,8,11] ?_
 exact G.done0G rfl (Rv.tmp rfl Rv.nil) Y36
set_option maxRecDepth 20000 in
set_option maxHeartbeats 4000000 in
theorem winR_tr (n a b : Int) : Tr Tryz.prog 73 #[.int .i64 n, .int .i64 a, .int .i64 b] [] [] (T0 (.bool (decide (a ≤ n ∧ n ≤ b)))) := by
 refine Tr.of (l := [(0, .int .i64 n), (1, .int .i64 a), (2, .int .i64 b)]) Tryz.func73 rfl (n := 15) rfl (.cons rfl (.cons rfl (.cons rfl .nil))) (fun w0 hro => ?_)
 refine go [9,10,1,7,8,9,10,0,0,2,12,0] ?_
 refine G.partP (t := 10) rfl (fun h10 => ?_) (fun h10 => ?_)
 ·refine go [3,0,3,0,3,11,2,2,1,7,8,11] ?_
  exact G.done0G rfl (Rv.tmp rfl Rv.nil) Y36
 refine go [4,4,4,2,2,1,7,8,11] ?_
 exact G.done0G rfl (Rv.tmp rfl Rv.nil) Y36
set_option maxRecDepth 20000 in
set_option maxHeartbeats 4000000 in
theorem parts_tr (n k : Int) (hn : 0 ≤ n ∧ n ≤ 1048576) (hk : 1 ≤ k) (hk2 : k ≤ 1024) : Tr Tryz.prog 102 #[.int .i64 n, .int .i64 k] [] [] (T0 (.int .i64 ((n + k - 1) / k))) := by
 refine Tr.of (l := [(0, .int .i64 n), (1, .int .i64 k)]) Tryz.func102 rfl (n := 11) rfl (.cons rfl (.cons rfl .nil)) (fun w0 hro => ?_)
 refine go [9,10,1,7,8,9,10,0,0,2,6,2,19,0] ?_
 refine G.op rfl (G.val rfl rfl (pv_quo64 rfl rfl (by omega) (by omega)) ?_)
 refine go [1,7,8,11] ?_
 exact G.done0G rfl (Rv.tmp rfl Rv.nil) Y6
set_option maxRecDepth 20000 in
set_option maxHeartbeats 4000000 in
theorem many_tr (n k : Int) (hn : 0 ≤ n ∧ n ≤ 1048576) (hk : 0 ≤ k ∧ k ≤ 140737488355328) : Tr Tryz.prog 108 #[.int .i64 n, .int .i64 k] [] [] (T0 (.bool (decide ((n + 1023) / 1024 ≤ k ∧ k ≤ (n + 63) / 64)))) := by
 refine Tr.of (l := [(0, .int .i64 n), (1, .int .i64 k)]) Tryz.func108 rfl (n := 19) rfl (.cons rfl (.cons rfl .nil)) (fun w0 hro => ?_)
 refine go [9,10,1,7,8,9,10,0,0,2,6,2,19] ?_
 refine G.op rfl (G.val rfl rfl (pv_quo64 rfl rfl (by omega) (by omega)) ?_)
 refine go [2,12,0] ?_
 refine G.partP (t := 11) rfl (fun h11 => ?_) (fun h11 => ?_)
 ·refine go [3,0,3,0,3,6,3,19] ?_
  refine G.want rfl rfl rfl (G.val rfl rfl (pv_quo64 rfl rfl (by omega) (by omega)) ?_)
  refine go [3,11,2,2,1,7,8,11] ?_
  exact G.done0G rfl (Rv.tmp rfl Rv.nil) Y36
 refine go [4,4,4,4,4,4,2,2,1,7,8,11] ?_
 exact G.done0G rfl (Rv.tmp rfl Rv.nil) Y36
set_option maxRecDepth 20000 in
set_option maxHeartbeats 4000000 in
theorem ione_tr {Pd : Nat → Prop} (e : It) (d : Value) (hl : e.path.length ≤ 9223372036854775807) (hn : e.ids.length ≤ 140737488355328) (hsz : I64 e.size) : Tr Tryz.prog 70 #[.agg #[.string (sB e.path), .int .i64 e.kind, .int .i64 e.mode, .int .i64 e.size, .string (sB e.to), d]] [slc rID Pd d e.ids] [] (T0 (.int .i64 (oneI e))) := by
 refine Tr.of (l := [(0, .agg #[.string (sB e.path), .int .i64 e.kind, .int .i64 e.mode, .int .i64 e.size, .string (sB e.to), d])]) Tryz.func70 rfl (n := 61) rfl (.cons rfl .nil) (fun w0 hro => ?_)
 have hd := ro1 hro
 obtain ⟨ad, cap, rfl⟩ := Ro.slv hd
 have hto := nil_len (s := e.to)
 obtain ⟨hs1, hs2⟩ := hsz
 refine go [9,10,60,18] ?_
 intro b1
 refine go [1,7,8,9,10,2,3,1,2,4,2,13,1,7,8,9,15,9,10,2,3,0,2,4] ?_
 refine G.op rfl (G.cR rfl rfl rfl rfl Tryz.func101 rfl rfl may0 (check_tr _ (by omega)) ?_)
 refine go [2,50,5,2,14,1,7,8] ?_
 refine G.condP rfl (fun h7 => ?_) (fun h7 => ?_)
 ·refine go [9,10,1,7,8,11,17,12] ?_
  exact G.done0G rfl (Rv.tmp rfl Rv.nil) (by rw [oneI_bytes (by assumption)]; rfl)
 have hok : okP e.path := Decidable.of_not_not (by assumption)
 refine G.seq ?_
 refine G.cutK (X := Unit) (ts := [1, 2]) (p := []) (fun _ => True) (fun _ => [(13, .bool (decide (numI e)))]) (fun _ => []) (.cons rfl (.cons rfl .nil)) subT (.cons .nil) apT ?_ ?_
 ·refine go [10,2,3,1,2,4] ?_
  refine G.op rfl (G.cR rfl rfl rfl rfl Tryz.func69 rfl rfl may0 (win_tr _ _ _) ?_)
  refine go [2,15,0] ?_
  refine G.partP (t := 18) rfl (fun h18 => ?_) (fun h18 => ?_)
  ·refine go [4,4,4,4,2,2,0,4,4,4,4,4,2,2,0,4,4,4,4,2,2,1,7] ?_
   exact G.meet (()) trT (.consE rfl Y14 (.cons rfl (.cons rfl .nil))) subT
  refine go [3,3,2,3,4] ?_
  refine G.want rfl rfl rfl (G.cR rfl rfl rfl rfl Tryz.func69 rfl rfl may0 (win_tr _ _ _) ?_)
  refine go [3,15,2,2,0] ?_
  refine G.partP (t := 24) rfl (fun h24 => ?_) (fun h24 => ?_)
  ·refine go [4,4,4,4,4,2,2,0,4,4,4,4,2,2,1,7] ?_
   exact G.meet (()) trT (.consE rfl Y14 (.cons rfl (.cons rfl .nil))) subT
  refine go [3,0,3,3,4,3,4,3,23] ?_
  refine G.want rfl rfl rfl (G.val rfl rfl (pv_neqB Tryz.underlying4 rfl rfl) ?_)
  refine go [2,2,0] ?_
  refine G.part (t := 31) rfl (fun h31 => ?_) (fun h31 => ?_)
  ·have hb := bne_dec.1 h31
   rw [ne_eq, hto] at hb
   refine go [4,4,4,4,2,2,1,7] ?_
   exact G.meet (()) trT (.consE rfl Y14 (.cons rfl (.cons rfl .nil))) subT
  have hb : ¬ ¬ (e.kind = 3 ↔ ¬ e.to.length = 0) := fun h => by have := bne_dec.2 (show ¬ (e.kind = 3 ↔ e.to ≠ []) by rw [ne_eq, hto]; exact h); rw [h31] at this; cases this
  refine go [3,3,4,3,4,3,21,3,10,2,2,1,7] ?_
  exact G.meet (()) trT (.consE rfl Y14 (.cons rfl (.cons rfl .nil))) subT
 intro _ hJ
 try dsimp only at hJ
 try dsimp only
 refine G.condP rfl (fun h13 => ?_) (fun h13 => ?_)
 ·refine go [9,10,1,7,8,11,17,12] ?_
  exact G.done0G rfl (Rv.tmp rfl Rv.nil) (by rw [oneI_arg hok (by assumption)]; rfl)
 refine G.seq ?_
 refine G.cutK (X := Unit) (ts := [2]) (p := []) (fun _ => True) (fun _ => [(37, .bool (decide (rngI e)))]) (fun _ => []) (.cons rfl .nil) subT (.cons .nil) apT ?_ ?_
 ·refine go [9,10,2,3,3,2,4] ?_
  refine G.op rfl (G.cR rfl rfl rfl rfl Tryz.func69 rfl rfl may0 (win_tr _ _ _) ?_)
  refine go [2,15,1,7,8] ?_
  refine G.condP rfl (fun h37 => ?_) (fun h37 => ?_)
  ·refine G.skip ?_
   exact G.meet (()) trT (.consE rfl Y21 (.cons rfl .nil)) subT
  refine go [9,10,2,3,3,2,4,2,10,0] ?_
  refine G.partP (t := 45) rfl (fun h45 => ?_) (fun h45 => ?_)
  ·refine go [3,3,1,3,4,3,14,2,2,1,7,8] ?_
   refine G.condP rfl (fun h37 => ?_) (fun h37 => ?_)
   ·refine G.skip ?_
    exact G.meet (()) trT (.consE rfl Y21 (.cons rfl .nil)) subT
   refine G.drawT (nn := 12) (p := []) (rem := 4095) [0, 1, 2, 0, 8, 16, 0, 64, 160, 292, 512, 1536] [0, 1, 2, 0, 8, 16, 0, 64, 128, 292, 512, 1024] kr ⟨rfl, by kernel_rfl, by kernel_rfl⟩ subT kr (fun hT8 => ?_)
   refine go [22,0,4094,3,5,22,3,4086,3,3,22,6,4022,3,3,22,1,4020,4,22,2,4016,5,22,4,4000,4,22,7,3872,4,24,5,3840] ?_
   refine G.turnOp rfl rfl (G.cR rfl rfl rfl rfl Tryz.func102 rfl rfl may0 (parts_tr _ _ (by omega) (by omega) (by omega)) ?_)
   refine go [26,24,8,3584] ?_
   refine G.turnOp rfl rfl (G.cR rfl rfl rfl rfl Tryz.func102 rfl rfl may0 (parts_tr _ _ (by omega) (by omega) (by omega)) ?_)
   refine go [26,24,9,3072] ?_
   refine G.turnOp rfl rfl (G.cR rfl rfl rfl rfl Tryz.func69 rfl rfl may0 (win_tr _ _ _) ?_)
   refine go [26,22,10,2048,15,22,11,0,1,27] ?_
   exact G.meet (()) trT (.consE rfl Y21 (.cons rfl .nil)) subT
  refine go [4,4,4,2,2,1,7,8,60,1] ?_
  refine G.drawT (nn := 12) (p := []) (rem := 4095) [0, 1, 2, 0, 8, 16, 0, 64, 160, 292, 512, 1536] [0, 1, 2, 0, 8, 16, 0, 64, 128, 292, 512, 1024] kr ⟨rfl, by kernel_rfl, by kernel_rfl⟩ subT kr (fun hT8 => ?_)
  refine go [22,0,4094,3,5,22,3,4086,3,3,22,6,4022,3,3,22,1,4020,4,22,2,4016,5,22,4,4000,4,22,7,3872,4,24,5,3840] ?_
  refine G.turnOp rfl rfl (G.cR rfl rfl rfl rfl Tryz.func102 rfl rfl may0 (parts_tr _ _ (by omega) (by omega) (by omega)) ?_)
  refine go [26,24,8,3584] ?_
  refine G.turnOp rfl rfl (G.cR rfl rfl rfl rfl Tryz.func102 rfl rfl may0 (parts_tr _ _ (by omega) (by omega) (by omega)) ?_)
  refine go [26,24,9,3072] ?_
  refine G.turnOp rfl rfl (G.cR rfl rfl rfl rfl Tryz.func69 rfl rfl may0 (win_tr _ _ _) ?_)
  refine go [26,22,10,2048,15,22,11,0,1,27] ?_
  exact G.meet (()) trT (.consE rfl Y21 (.cons rfl .nil)) subT
 intro _ hJ
 try dsimp only at hJ
 try dsimp only
 refine G.condP rfl (fun h37 => ?_) (fun h37 => ?_)
 ·refine go [9,10,1,7,8,11,17,12] ?_
  exact G.done0G rfl (Rv.tmp rfl Rv.nil) (by rw [oneI_rng hok (by assumption) (by assumption)]; rfl)
 refine go [13,16,8,9,10,1,7,8,11] ?_
 exact G.done0G rfl (Rv.tmp rfl Rv.nil) (by rw [oneI_ok hok (by assumption) (by assumption)]; rfl)
set_option maxRecDepth 20000 in
set_option maxHeartbeats 4000000 in
theorem ioneR_tr {Pd : Nat → Prop} (e : It) (d : Value) (hl : e.path.length ≤ 9223372036854775807) (hn : e.ids.length ≤ 140737488355328) (hsz : I64 e.size) : Tr Tryz.prog 74 #[.agg #[.string (sB e.path), .int .i64 e.kind, .int .i64 e.mode, .int .i64 e.size, .string (sB e.to), d]] [slc rID Pd d e.ids] [] (T0 (.int .i64 (oneI e))) := by
 refine Tr.of (l := [(0, .agg #[.string (sB e.path), .int .i64 e.kind, .int .i64 e.mode, .int .i64 e.size, .string (sB e.to), d])]) Tryz.func74 rfl (n := 63) rfl (.cons rfl .nil) (fun w0 hro => ?_)
 have hd := ro1 hro
 obtain ⟨ad, cap, rfl⟩ := Ro.slv hd
 have hto := nil_len (s := e.to)
 obtain ⟨hs1, hs2⟩ := hsz
 refine go [9,10,60,18] ?_
 intro b1
 refine go [1,7,8,9,9,10,2,3,0,2,4] ?_
 refine G.op rfl (G.cR rfl rfl rfl rfl Tryz.func107 rfl rfl may0 (validR_tr _ (by omega)) ?_)
 refine go [2,15,7,8] ?_
 refine G.condP rfl (fun h7 => ?_) (fun h7 => ?_)
 ·refine go [9,10,1,7,8,11,12] ?_
  exact G.done0G rfl (Rv.tmp rfl Rv.nil) (by rw [oneI_bytes (by assumption)]; rfl)
 have hok : okP e.path := Decidable.of_not_not (by assumption)
 refine go [13,8,9,10,2,3,1,2,4,2,13,1,7,8,9,9] ?_
 refine G.cutK (X := Unit) (ts := [1, 2]) (p := []) (fun _ => True) (fun _ => [(39, .bool (decide (numI e)))]) (fun _ => []) (.cons rfl (.cons rfl .nil)) subT (.cons .nil) apT ?_ ?_
 ·refine go [10,2,3,1,2,4] ?_
  refine G.op rfl (G.cR rfl rfl rfl rfl Tryz.func73 rfl rfl may0 (winR_tr _ _ _) ?_)
  refine go [2,15,0] ?_
  refine G.partP (t := 15) rfl (fun h15 => ?_) (fun h15 => ?_)
  ·refine go [4,4,4,4,2,2,0,4,4,4,6,6,6,4,2,2,0,4,4,6,6,6,6,6,4,2,2,7] ?_
   exact G.meet (()) trT (.consE rfl Y14 (.cons rfl (.cons rfl .nil))) subT
  refine go [3,3,2,3,4] ?_
  refine G.want rfl rfl rfl (G.cR rfl rfl rfl rfl Tryz.func73 rfl rfl may0 (winR_tr _ _ _) ?_)
  refine go [3,15,2,2,0] ?_
  refine G.partP (t := 21) rfl (fun h21 => ?_) (fun h21 => ?_)
  ·refine go [4,4,4,6,6,6,4,2,2,0,4,4,6,6,6,6,6,4,2,2,7] ?_
   exact G.meet (()) trT (.consE rfl Y14 (.cons rfl (.cons rfl .nil))) subT
  refine go [3,0,3,15,3,0] ?_
  refine G.partP (t := 24) rfl (fun h24 => ?_) (fun h24 => ?_)
  ·refine go [3,3,4,3,4,3,23,3,2,2,2,0] ?_
   refine G.partP (t := 30) rfl (fun h30 => ?_) (fun h30 => ?_)
   ·have hb := h30
    try rw [ne_eq, hto] at hb
    refine go [4,4,6,6,6,6,6,4,2,2,7] ?_
    exact G.meet (()) trT (.consE rfl Y14 (.cons rfl (.cons rfl .nil))) subT
   have hb := h30
   try rw [ne_eq, hto] at hb
   refine go [3,0,3,0] ?_
   refine G.partP (t := 32) rfl (fun h32 => ?_) (fun h32 => ?_)
   ·refine go [3,3,4,3,4,3,21] ?_
    refine G.want rfl rfl rfl (G.cR rfl rfl rfl rfl Tryz.func73 rfl rfl may0 (winR_tr _ _ _) ?_)
    refine go [3,15,3,2,2,2,7] ?_
    exact G.meet (()) trT (.consE rfl Y14 (.cons rfl (.cons rfl .nil))) subT
   refine go [4,4,4,4,4,3,2,2,2,7] ?_
   exact G.meet (()) trT (.consE rfl Y14 (.cons rfl (.cons rfl .nil))) subT
  refine go [4,4,4,3,2,2,2,0,3,0,3,0] ?_
  refine G.partP (t := 32) rfl (fun h32 => ?_) (fun h32 => ?_)
  ·refine go [3,3,4,3,4,3,21] ?_
   refine G.want rfl rfl rfl (G.cR rfl rfl rfl rfl Tryz.func73 rfl rfl may0 (winR_tr _ _ _) ?_)
   refine go [3,15,3,2,2,2,7] ?_
   exact G.meet (()) trT (.consE rfl Y14 (.cons rfl (.cons rfl .nil))) subT
  refine go [4,4,4,4,4,3,2,2,2,7] ?_
  exact G.meet (()) trT (.consE rfl Y14 (.cons rfl (.cons rfl .nil))) subT
 intro _ hJ
 try dsimp only at hJ
 try dsimp only
 refine G.condP rfl (fun h39 => ?_) (fun h39 => ?_)
 ·refine go [9,10,1,7,8,11,12] ?_
  exact G.done0G rfl (Rv.tmp rfl Rv.nil) (by rw [oneI_arg hok (by assumption)]; rfl)
 refine go [13,8,9,9] ?_
 refine G.cutK (X := Unit) (ts := [2]) (p := []) (fun _ => True) (fun _ => [(62, .bool (decide (rngI e)))]) (fun _ => []) (.cons rfl .nil) subT (.cons .nil) apT ?_ ?_
 ·refine go [10,2,3,3,2,4] ?_
  refine G.op rfl (G.cR rfl rfl rfl rfl Tryz.func73 rfl rfl may0 (winR_tr _ _ _) ?_)
  refine go [2,15,0] ?_
  refine G.partP (t := 44) rfl (fun h44 => ?_) (fun h44 => ?_)
  ·refine go [4,4,4,4,6,6,6,4,2,2,0,4,4,4,4,4,4,4,2,2,7] ?_
   exact G.meet (()) trT (.consE rfl Y21 (.cons rfl .nil)) subT
  refine go [3,3,3,3,4,3,14,3,0] ?_
  refine G.partP (t := 48) rfl (fun h48 => ?_) (fun h48 => ?_)
  ·refine go [3,3,1,3,4,3,14,3,2,2,2,0] ?_
   refine G.partP (t := 54) rfl (fun h54 => ?_) (fun h54 => ?_)
   ·refine go [4,4,4,4,4,4,4,2,2,7] ?_
    exact G.meet (()) trT (.consE rfl Y21 (.cons rfl .nil)) subT
   refine go [3,3,3,3,4,3,3,5,3,4,3,5] ?_
   refine G.want rfl rfl rfl (G.cR rfl rfl rfl rfl Tryz.func108 rfl rfl may0 (many_tr _ _ (by omega) (by omega)) ?_)
   refine go [3,15,2,2,7] ?_
   exact G.meet (()) trT (.consE rfl Y21 (.cons rfl .nil)) subT
  refine go [4,4,4,3,2,2,2,0,3,3,3,3,4,3,3,5,3,4,3,5] ?_
  refine G.want rfl rfl rfl (G.cR rfl rfl rfl rfl Tryz.func108 rfl rfl may0 (many_tr _ _ (by omega) (by omega)) ?_)
  refine go [3,15,2,2,7] ?_
  exact G.meet (()) trT (.consE rfl Y21 (.cons rfl .nil)) subT
 intro _ hJ
 try dsimp only at hJ
 try dsimp only
 refine G.condP rfl (fun h62 => ?_) (fun h62 => ?_)
 ·refine go [9,10,1,7,8,11,12] ?_
  exact G.done0G rfl (Rv.tmp rfl Rv.nil) (by rw [oneI_rng hok (by assumption) (by assumption)]; rfl)
 refine go [13,8,9,10,1,7,8,11] ?_
 exact G.done0G rfl (Rv.tmp rfl Rv.nil) (by rw [oneI_ok hok (by assumption) (by assumption)]; rfl)
end Go.Proofs.YtbfpbibkklfnfaaGreat
set_option linter.unusedVariables false
set_option linter.unusedSimpArgs false
namespace Go.Proofs.YtbfpbibkklfnfaaGreat
open Go.RowKit
open Go.ChangeShapes Go.WideShapes
def okS9 (s : List UInt8) : Prop := s.length ≤ 140737488355328
theorem mapM_each' {α β : Type} {f : α → Option β} : ∀ {l : List α}, (∀ x ∈ l, ∃ y, f x = some y) → ∃ ys, l.mapM f = some ys
 | [], _ => ⟨[], rfl⟩
 | a :: l, h => by
  obtain ⟨y, hy⟩ := h a (List.mem_cons_self ..)
  obtain ⟨ys, hys⟩ := mapM_each' (l := l) fun x hx => h x (List.mem_cons_of_mem _ hx)
  exact ⟨y :: ys, by rw [List.mapM_cons, hy, hys]; rfl⟩
theorem vStr_inj {a b : List UInt8} (h : vStr a = vStr b) : a = b := by
 unfold vStr at h
 injection h with h
 exact sB_inj h
theorem vInt_inj {a b : Int} (h : vInt a = vInt b) : a = b := by
 unfold vInt at h
 injection h
theorem vByte_inj {a b : UInt8} (h : vByte a = vByte b) : a = b := by
 unfold vByte at h
 injection h with _ h
 exact UInt8.toNat_inj.1 (by omega)
theorem keyS : KeyF Tryz.prog 9 vStr okS9 where
 keyed := Go.Maps.string_keyed Tryz.underlying9
 is x hx := ⟨_, Go.WideMaps.keyOf_string_mk Tryz.underlying9 (by show (sB x).size ≤ maxLen; rw [sB_size]; unfold maxLen; unfold okS9 at hx; omega)⟩
 inj _ _ h := vStr_inj h
def ok16 (x : List UInt8) : Prop := x.length = 16
theorem vID_inj {a b : List UInt8} (h : vID a = vID b) : a = b := by
 unfold vID at h
 injection h with h
 have h2 : a.map vByte = b.map vByte := by have := congrArg Array.toList h; simpa using this
 exact List.map_inj_right (fun _ _ => vByte_inj) |>.1 h2
theorem keyI_is (x : List UInt8) (hx : ok16 x) : ∃ l, keyOf Tryz.prog 66 (vID x) = some l := by
 have hx : x.length = 16 := hx
 have hu : Tryz.prog.underlying 66 = some (.array 16 5) := Tryz.underlying66
 have hc : Tryz.prog.cellsOf 66 = 16 := by kernel_rfl
 have hc1 : Tryz.prog.cellsOf 5 = 1 := by kernel_rfl
 have hk : Tryz.prog.keyType 66 = true := by kernel_rfl
 have hpos : 0 < Tryz.prog.types.size := of_decide_eq_true kr
 obtain ⟨sz, hsz⟩ : ∃ m, Tryz.prog.types.size = m + 1 := ⟨Tryz.prog.types.size - 1, by omega⟩
 unfold keyOf
 rw [hu]
 simp only
 rw [if_pos (by simp [hk, vID, Value.formed, hu, hc, hx])]
 have : ∃ ls, Tryz.prog.keyLits (Tryz.prog.types.size + 1) 66 (vID x).cells.toList = some ls := by
  unfold Program.keyLits
  rw [hu]
  simp only
  rw [if_pos (by simp [vID, Value.cells, hc, hx])]
  obtain ⟨ys, hys⟩ := mapM_each' (l := List.range 16) (f := fun i => Tryz.prog.keyLits Tryz.prog.types.size 5 (((vID x).cells.toList.drop (i * Tryz.prog.cellsOf 5)).take (Tryz.prog.cellsOf 5))) fun i hi => by
   have hi : i < x.length := by rw [hx]; simpa using hi
   have e : (((vID x).cells.toList.drop (i * Tryz.prog.cellsOf 5)).take (Tryz.prog.cellsOf 5)) = [vByte x[i]] := by
    rw [hc1, Nat.mul_one]
    show ((x.map vByte).drop i).take 1 = _
    rw [List.drop_eq_getElem_cons (by simpa using hi)]
    simp
   rw [e, hsz]
   unfold Program.keyLits
   rw [show Tryz.prog.underlying 5 = some (.int .u8) from Tryz.underlying5]
   have := x[i].toNat_lt
   exact ⟨_, if_pos ⟨rfl, by simp only [Lit.wf, Bool.and_eq_true, decide_eq_true_eq]; exact ⟨by show (0 : Int) ≤ _; omega, by show _ ≤ (255 : Int); omega⟩⟩⟩
  rw [hys]
  exact ⟨_, rfl⟩
 obtain ⟨ls, hls⟩ := this
 exact ⟨_, by rw [hls]; rfl⟩
theorem keyI : KeyF Tryz.prog 66 vID ok16 where
 keyed := Go.Maps.Keyed.of_law (Go.deep_law_laid Tryz.laidOut (m := 3) (by omega) (of_decide_eq_true kr) kr kr)
 is := keyI_is
 inj _ _ h := vID_inj h
end Go.Proofs.YtbfpbibkklfnfaaGreat
namespace Go.Proofs.YtbfpbibkklfnfaaGreat
open Go.RowKit
set_option linter.unusedVariables false
set_option linter.unusedSimpArgs false
def toE (x : It) : En := ⟨x.path, x.kind, x.mode, [], x.to⟩
def toEs (ms : List It) : List En := ms.map toE
theorem toEs_length (ms : List It) : (toEs ms).length = ms.length := List.length_map ..
theorem toEs_get {ms : List It} {i : Nat} (h : i < ms.length) : (toEs ms)[i]'(by rw [toEs_length]; exact h) = toE ms[i] := List.getElem_map ..
theorem toEs_take (ms : List It) (i : Nat) : toEs (ms.take i) = (toEs ms).take i := by simp [toEs, List.map_take]
theorem its_take (xs : List IT) (i : Nat) : its (xs.take i) = (its xs).take i := by simp [its, List.map_take]
def errI (ms : List It) (i : Nat) : Int := match ms[i]? with
 | none => 0
 | some e => if (if oneI e = 0 ∧ prevBad (toEs ms) i then 7 else oneI e) = 0 ∧ ¬ heldM (toEs (ms.take i)) (toE e) then 6 else (if oneI e = 0 ∧ prevBad (toEs ms) i then 7 else oneI e)
theorem errI_get {ms : List It} {i : Nat} (h : i < ms.length) : errI ms i = if (if oneI ms[i] = 0 ∧ prevBad (toEs ms) i then 7 else oneI ms[i]) = 0 ∧ ¬ heldM (toEs (ms.take i)) (toE ms[i]) then 6 else (if oneI ms[i] = 0 ∧ prevBad (toEs ms) i then 7 else oneI ms[i]) := by
 unfold errI
 rw [List.getElem?_eq_getElem h]
theorem errI_one {ms : List It} {i : Nat} (h : i < ms.length) (h1 : ¬ oneI ms[i] = 0) : errI ms i = oneI ms[i] := by
 rw [errI_get h, if_neg (fun k => by rw [if_neg (fun k => h1 k.1)] at k; exact h1 k.1), if_neg (fun k => h1 k.1)]
theorem errI_prev {ms : List It} {i : Nat} (h : i < ms.length) (h1 : oneI ms[i] = 0) (h2 : prevBad (toEs ms) i) : errI ms i = 7 := by
 rw [errI_get h, if_neg (fun k => by rw [if_pos ⟨h1, h2⟩] at k; cases k.1), if_pos ⟨h1, h2⟩]
theorem errI_held {ms : List It} {i : Nat} (h : i < ms.length) (h1 : oneI ms[i] = 0) (h2 : ¬ prevBad (toEs ms) i) (h3 : ¬ heldM (toEs (ms.take i)) (toE ms[i])) : errI ms i = 6 := by
 rw [errI_get h, if_pos ⟨by rw [if_neg (fun k => h2 k.2), h1], h3⟩]
theorem errI_ok {ms : List It} {i : Nat} (h : i < ms.length) (h1 : oneI ms[i] = 0) (h2 : ¬ prevBad (toEs ms) i) (h3 : heldM (toEs (ms.take i)) (toE ms[i])) : errI ms i = 0 := by
 rw [errI_get h, if_neg (fun k => k.2 h3), if_neg (fun k => h2 k.2), h1]
theorem errI_zero {ms : List It} {i : Nat} (h : i < ms.length) (h0 : errI ms i = 0) : oneI ms[i] = 0 ∧ ¬ prevBad (toEs ms) i ∧ heldM (toEs (ms.take i)) (toE ms[i]) := by
 have a : oneI ms[i] = 0 := Decidable.byContradiction fun k => by rw [errI_one h k] at h0; exact k h0
 have b : ¬ prevBad (toEs ms) i := fun k => by rw [errI_prev h a k] at h0; cases h0
 exact ⟨a, b, Decidable.byContradiction fun k => by rw [errI_held h a b k] at h0; cases h0⟩
def headBad (a : Mh) : Prop := a.c < 1 ∨ 2147483647 < a.c ∨ a.k < 1 ∨ 2147483647 < a.k ∨ a.n < 0 ∨ 2147483647 < a.n ∨ a.t < 0 ∨ 2147483647 < a.t
instance (a : Mh) : Decidable (headBad a) := inferInstanceAs (Decidable (_ ∨ _))
def checkI (a : Mh) (ms : List It) : Int × Int := if headBad a then (5, 0) else if 200 < ms.length then (3, 0) else
 let k := (List.range ms.length).findIdx fun i => ! decide (errI ms i = 0)
 (errI ms k, if errI ms k = 0 then 0 else (k : Int))
theorem checkI_head {a : Mh} {ms : List It} (h : headBad a) : checkI a ms = (5, 0) := if_pos h
theorem checkI_many {a : Mh} {ms : List It} (h0 : ¬ headBad a) (h : 200 < ms.length) : checkI a ms = (3, 0) := by
 unfold checkI
 rw [if_neg h0, if_pos h]
theorem checkI_bad {a : Mh} {ms : List It} {i : Nat} {e : Int} (h0 : ¬ headBad a) (h200 : ¬ 200 < ms.length) (hi : i < ms.length) (h : ∀ q, q < i → errI ms q = 0) (he : errI ms i = e) (hn : ¬ e = 0) : checkI a ms = (e, (i : Int)) := by
 unfold checkI
 rw [if_neg h0, if_neg h200]
 have e1 : (List.range ms.length).findIdx (fun i => ! decide (errI ms i = 0)) = i := range_idx hi (by simp [he, hn]) (fun q hq => by simp [h q hq])
 simp only [e1, he, if_neg hn]
theorem checkI_ok {a : Mh} {ms : List It} (h0 : ¬ headBad a) (h200 : ¬ 200 < ms.length) (h : ∀ q, q < ms.length → errI ms q = 0) : checkI a ms = (0, 0) := by
 unfold checkI
 rw [if_neg h0, if_neg h200]
 have e1 : (List.range ms.length).findIdx (fun i => ! decide (errI ms i = 0)) = ms.length := by
  have := List.findIdx_eq_length_of_false (p := fun i => ! decide (errI ms i = 0)) (xs := List.range ms.length) (fun x hx => by
   have := h x (by simpa using hx)
   simp [this])
  simpa using this
 have e2 : errI ms ms.length = 0 := by
  unfold errI
  rw [List.getElem?_eq_none (Nat.le_refl _)]
 simp only [e1, e2, if_true]
theorem checkI_zero {a : Mh} {ms : List It} (h : (checkI a ms).1 = 0) : ¬ headBad a ∧ ms.length ≤ 200 ∧ (∀ q, q < ms.length → errI ms q = 0) ∧ checkI a ms = (0, 0) := by
 by_cases h0 : headBad a
 ·rw [checkI_head h0] at h
  cases h
 by_cases h200 : 200 < ms.length
 ·rw [checkI_many h0 h200] at h
  cases h
 have all : ∀ q, q < ms.length → errI ms q = 0 := by
  intro q
  induction q using Nat.strongRecOn with
  | _ q ih =>
   intro hq
   exact Decidable.byContradiction fun k => by
    rw [checkI_bad h0 h200 hq (fun r hr => ih r hr (by omega)) rfl k] at h
    exact k h
 exact ⟨h0, by omega, all, checkI_ok h0 h200 all⟩
theorem sort_prev {es : List En} {i : Nat} (hi : i ≤ es.length) (h : ∀ q, q < i → ¬ prevBad es q) : SortT (es.take i) := by
 have step : ∀ q (hq : q + 1 < i), compareM (es[q]'(by omega)).path (es[q + 1]'(by omega)).path = -1 := fun q hq => by
  have h1 := h (q + 1) hq
  rw [prev_pos (by omega) (by omega)] at h1
  have := compareM_ord.rng (es[q]'(by omega)).path (es[q + 1]'(by omega)).path
  simp only [Nat.add_sub_cancel] at h1
  omega
 have all : ∀ r q (hr : r < i) (hqr : q < r), compareM (es[q]'(by omega)).path (es[r]'(by omega)).path = -1 := by
  intro r
  induction r with
  | zero => intro q hr hq; omega
  | succ r ih =>
   intro q hr hq
   rcases Nat.lt_or_ge q r with h1 | h1
   ·exact compareM_ord.trans _ _ _ (ih q (by omega) h1) (step r hr)
   obtain rfl : q = r := by omega
   exact step q hr
 refine List.pairwise_iff_getElem.2 fun q r hq hr hqr => ?_
 simp only [List.length_take] at hq hr
 rw [List.getElem_take, List.getElem_take]
 exact all r q (by omega) hqr
theorem sort_items {ms : List It} {i : Nat} (hi : i ≤ ms.length) (h : ∀ q, q < i → errI ms q = 0) : SortT ((toEs ms).take i) := sort_prev (by rw [toEs_length]; exact hi) fun q hq => (errI_zero (by omega) (h q hq)).2.1
structure DirsAt (l : List (List UInt8 × Value)) (es : List En) : Prop where
 num : ∀ s, ∃ z : Int, (mget l s).getD (vInt 0) = vInt z
 dir : ∀ s, (mget l s).getD (vInt 0) = vInt 1 ↔ ∃ x ∈ es, x.path = s ∧ x.kind = 1
theorem dirs_nil : DirsAt [] [] := ⟨fun s => ⟨0, rfl⟩, fun s => ⟨fun h => by have h2 : vInt 0 = vInt 1 := h; exact absurd (vInt_inj h2) (by decide), fun ⟨x, hx, _⟩ => by cases hx⟩⟩
theorem DirsAt.put {l : List (List UInt8 × Value)} {es : List En} {e : En} (h : DirsAt l es) (hs : SortT (es ++ [e])) : DirsAt (mset l e.path (vInt e.kind)) (es ++ [e]) := by
 refine ⟨fun s => ?_, fun s => ?_⟩
 ·rw [mget_mset]
  split
  ·exact ⟨e.kind, rfl⟩
  exact h.num s
 rw [mget_mset]
 split
 ·rename_i hp
  subst hp
  constructor
  ·intro hk
   exact ⟨e, by simp, rfl, vInt_inj hk⟩
  rintro ⟨x, hx, hp, hk⟩
  have := sort_inj hs hx (by simp) hp
  subst this
  show vInt x.kind = vInt 1
  rw [hk]
 rename_i hp
 rw [h.dir s]
 constructor
 ·rintro ⟨x, hx, h1⟩
  exact ⟨x, List.mem_append_left _ hx, h1⟩
 rintro ⟨x, hx, h1, h2⟩
 rcases List.mem_append.1 hx with hx | hx
 ·exact ⟨x, hx, h1, h2⟩
 obtain rfl : x = e := by simpa using hx
 exact absurd h1 hp
theorem toEs_succ {xs : List IT} {i : Nat} (h : i < xs.length) : toEs ((its xs).take (i + 1)) = toEs ((its xs).take i) ++ [toE xs[i].1] := by
 have hl : i < (its xs).length := by rw [its_length]; exact h
 rw [List.take_succ_eq_append_getElem hl, its_get h, toEs, List.map_append]
 rfl
theorem held_z {l : List (List UInt8 × Value)} {es : List En} {e : En} {z : Int} (h : DirsAt l es) (hp : (parentM e.path).2 = true) (hz : (mget l (parentM e.path).1).getD (vInt 0) = vInt z) : z ≠ 1 ↔ ¬ heldM es e := by
 have h1 := h.dir (parentM e.path).1
 rw [hz] at h1
 have h2 : z = 1 ↔ vInt z = vInt 1 := ⟨fun h => by rw [h], vInt_inj⟩
 rw [ne_eq, h2, h1]
 unfold heldM
 rw [hp]
 simp
theorem heldNo' {es : List En} {e : En} (h : (parentM e.path).2 = true) (h2 : ∀ q (hq : q < es.length), ¬ (es[q].path = (parentM e.path).1 ∧ es[q].kind = 1)) : ¬ heldM es e := by
 rintro (k | ⟨x, hx, k⟩)
 ·rw [h] at k
  cases k
 obtain ⟨j, hj, rfl⟩ := List.getElem_of_mem hx
 exact h2 j hj k
theorem parentI_len (s : List UInt8) (h : s.length ≤ 140737488355328) : okS9 (parentM s).1 := Nat.le_trans (parentM_len s) h
set_option maxRecDepth 20000 in
set_option maxHeartbeats 4000000 in
theorem iheld_tr {Ps Pd : Nat → Prop} (v : Value) (xs : List IT) (e : It) (d : Value) (hl : e.path.length ≤ 9223372036854775807) : Tr Tryz.prog 76 #[v, .agg #[.string (sB e.path), .int .i64 e.kind, .int .i64 e.mode, .int .i64 e.size, .string (sB e.to), d]] [slc rIT Ps v xs, slc rID Pd d e.ids] [] (T0 (.bool (decide (heldM (toEs (its xs)) (toE e))))) := by
 refine Tr.of (l := [(0, v), (1, .agg #[.string (sB e.path), .int .i64 e.kind, .int .i64 e.mode, .int .i64 e.size, .string (sB e.to), d])]) Tryz.func76 rfl (n := 40) rfl (.cons rfl (.cons rfl .nil)) (fun w0 hro => ?_)
 obtain ⟨hv0, hd0⟩ := ro2 hro
 have hv := hv0
 have hv' := hv
 obtain ⟨av, cv, bv, fv, rfl, hcapv, hmaxv, hnilv, hadv, helv⟩ := Ro.open hv
 have hel' := its_length xs
 have hel2 := toEs_length (its xs)
 have hgx : ∀ q (hq : q < xs.length), (toEs (its xs))[q]'(by omega) = toE xs[q].1 := fun q hq => by rw [toEs_get (by omega), its_get hq]
 refine go [9,10,60,18] ?_
 intro b3
 refine go [1,7,8,9,10,2,3,0,2,4] ?_
 refine G.op rfl (G.cR rfl rfl rfl rfl Tryz.func111 rfl rfl may0 (parentR_tr _ (by omega)) ?_)
 refine go [0,2,7,2,7,1,1,7,8,9,9,10,1,7,8,15] ?_
 refine G.loopK (X := Nat) (ts := [0, 5, 6]) (fun i => i ≤ xs.length ∧ (∀ q (hq : q < xs.length), q < i → ¬ ((parentM e.path).2 = true ∧ xs[q].1.path = (parentM e.path).1 ∧ xs[q].1.kind = 1))) (fun i => [(7, .int .i64 (i : Int))]) (fun i => []) (fun i => xs.length - i) (x0 := 0) (.cons rfl (.cons rfl (.cons rfl .nil))) subT (.cons .nil) apT Y31 (.consE rfl veqT .nil) (fun i hJ => ?_)
 try dsimp only at hJ
 try dsimp only
 obtain ⟨hki, hJ⟩ := hJ
 refine go [9,9,10,0,0,2,5,2,9,7,8] ?_
 refine G.condP rfl (fun h17 => ?_) (fun h17 => ?_)
 ·have hJ0 := hJ
  have hlt : i < xs.length := by omega
  have hEv := helv i hlt
  have hRv := Ro.itRng hEv
  have hDv := Ro.itIds hEv
  have hOv := Ro.itOk hEv
  obtain ⟨hk1v, hk2v, hk3v, hlpv, hltv, hlnv⟩ := hOv
  have hCv := Ro.one1I hDv
  refine go [13,8,9,15,9] ?_
  refine G.cutK (X := Unit) (ts := [0, 5, 6, 7]) (p := []) (fun _ => True) (fun _ => [(37, .bool (decide ((parentM e.path).2 = true ∧ xs[i].1.path = (parentM e.path).1 ∧ xs[i].1.kind = 1)))]) (fun _ => []) (.cons rfl (.cons rfl (.cons rfl (.cons rfl .nil)))) subT (.cons .nil) apT ?_ ?_
  ·refine go [10,0,0] ?_
   refine G.part (t := 21) rfl (fun h21 => ?_) (fun h21 => ?_)
   ·refine go [3,0,3,0] ?_
    refine G.want rfl rfl rfl (G.val rfl rfl (pv_ixSl (sz := 6) (k := i) Tryz.underlying26 kr rfl rfl adT (by omega) (by omega)) ?_)
    refine go [3,3,0,3,4,3,0,3,24,2,2,0] ?_
    refine G.partP (t := 30) rfl (fun h30 => ?_) (fun h30 => ?_)
    ·refine go [3,0,3,0] ?_
     refine G.want rfl rfl rfl (G.val rfl rfl (pv_ixSl (sz := 6) (k := i) Tryz.underlying26 kr rfl rfl adT (by omega) (by omega)) ?_)
     refine go [3,3,1,3,4,3,13,2,2,7] ?_
     exact G.meet (()) trT (.consE rfl (by first | exact dec_e (by simp_all) | exact dec_f (by simp_all)) (.cons rfl (.cons rfl (.cons rfl (.cons rfl .nil))))) subT
    refine go [4,4,4,4,4,4,2,2,7] ?_
    exact G.meet (()) trT (.consE rfl (by first | exact dec_e (by simp_all) | exact dec_f (by simp_all)) (.cons rfl (.cons rfl (.cons rfl (.cons rfl .nil))))) subT
   refine go [4,4,4,4,4,4,4,2,2,0,4,4,4,4,4,4,2,2,7] ?_
   exact G.meet (()) trT (.consE rfl (by first | exact dec_e (by simp_all) | exact dec_f (by simp_all)) (.cons rfl (.cons rfl (.cons rfl (.cons rfl .nil))))) subT
  intro _ hJ
  try dsimp only at hJ
  try dsimp only
  refine G.condP rfl (fun h37 => ?_) (fun h37 => ?_)
  ·refine go [9,10,1,7,8,11,17,12,12,17,12] ?_
   exact G.done0G rfl (Rv.tmp rfl Rv.nil) (by rw [decide_eq_true (show heldM (toEs (its xs)) (toE e) from .inr ⟨toE xs[i].1, by rw [← hgx i hlt]; exact List.getElem_mem _, h37.2.1, h37.2.2⟩)]; rfl)
  have hno := h37
  refine go [13,16,8,10,0,2,6,1,7] ?_
  exact G.next (i + 1) (by first | exact trivial | ((try dsimp only) <;> exact ⟨by omega, fun q hq hqi => by rcases Nat.lt_or_ge q i with h1 | h1; exact hJ0 q hq h1; obtain rfl : q = i := (by omega); exact hno⟩)) (by (try dsimp only); omega) (.consE rfl veqT (.cons rfl (.cons rfl (.cons rfl .nil)))) subT
 refine go [18,14,14,19,8,9,10,0,2,25,1,7,8,11] ?_
 exact G.done0G rfl (Rv.tmp rfl Rv.nil) (by cases hpt : (parentM e.path).2; (rw [decide_eq_true (show heldM (toEs (its xs)) (toE e) from .inl hpt)]; rfl); (rw [decide_eq_false (heldNo' (e := toE e) hpt (fun q hq hk => by rw [hgx q (by omega)] at hk; exact hJ q (by omega) (by omega) ⟨hpt, hk.1, hk.2⟩))]; rfl))
set_option maxRecDepth 20000 in
set_option maxHeartbeats 4000000 in
theorem mcheck_tr {Ps : Nat → Prop} (a : Mh) (v : Value) (xs : List IT) : Tr Tryz.prog 31 #[.agg #[.int .i64 a.c, .int .i64 a.k, .int .i64 a.n, .int .i64 a.t, v]] [slc rIT Ps v xs] [] (T0 (.tuple #[.int .i64 (checkI a (its xs)).1, .int .i64 (checkI a (its xs)).2])) := by
 refine Tr.of (l := [(0, .agg #[.int .i64 a.c, .int .i64 a.k, .int .i64 a.n, .int .i64 a.t, v])]) Tryz.func31 rfl (n := 89) rfl (.cons rfl .nil) (fun w0 hro => ?_)
 have hv := ro1 hro
 have hv' := hv
 obtain ⟨av, cv, bv, fv, rfl, hcapv, hmaxv, hnilv, hadv, helv⟩ := Ro.open hv
 have hel' := its_length xs
 have hel2 := toEs_length (its xs)
 have hgx : ∀ q (hq : q < xs.length), (toEs (its xs))[q]'(by omega) = toE xs[q].1 := fun q hq => by rw [toEs_get (by omega), its_get hq]
 refine go [9,10,60,0] ?_
 intro b1
 refine go [1,1,7,8,9,15,9] ?_
 refine G.cutK (X := Unit) (ts := [1, 2, 3]) (p := []) (fun _ => True) (fun _ => [(10, .bool (decide (headBad a)))]) (fun _ => []) (.cons rfl (.cons rfl (.cons rfl .nil))) subT (.cons .nil) apT ?_ ?_
 ·refine go [10,2,3,0,2,4] ?_
  refine G.op rfl (G.cR rfl rfl rfl rfl Tryz.func69 rfl rfl may0 (win_tr _ _ _) ?_)
  refine go [2,15,0] ?_
  refine G.partP (t := 15) rfl (fun h15 => ?_) (fun h15 => ?_)
  ·refine go [4,4,4,4,2,2,0,4,4,4,4,2,2,0,4,4,4,4,2,2,1,7] ?_
   exact G.meet (()) trT (.consE rfl Y18 (.cons rfl (.cons rfl (.cons rfl .nil)))) subT
  refine go [3,3,1,3,4] ?_
  refine G.want rfl rfl rfl (G.cR rfl rfl rfl rfl Tryz.func69 rfl rfl may0 (win_tr _ _ _) ?_)
  refine go [3,15,2,2,0] ?_
  refine G.partP (t := 21) rfl (fun h21 => ?_) (fun h21 => ?_)
  ·refine go [4,4,4,4,2,2,0,4,4,4,4,2,2,1,7] ?_
   exact G.meet (()) trT (.consE rfl Y18 (.cons rfl (.cons rfl (.cons rfl .nil)))) subT
  refine go [3,3,2,3,4] ?_
  refine G.want rfl rfl rfl (G.cR rfl rfl rfl rfl Tryz.func69 rfl rfl may0 (win_tr _ _ _) ?_)
  refine go [3,15,2,2,0] ?_
  refine G.partP (t := 27) rfl (fun h27 => ?_) (fun h27 => ?_)
  ·refine go [4,4,4,4,2,2,1,7] ?_
   exact G.meet (()) trT (.consE rfl Y18 (.cons rfl (.cons rfl (.cons rfl .nil)))) subT
  refine go [3,3,3,3,4] ?_
  refine G.want rfl rfl rfl (G.cR rfl rfl rfl rfl Tryz.func69 rfl rfl may0 (win_tr _ _ _) ?_)
  refine go [3,15,2,2,1,7] ?_
  exact G.meet (()) trT (.consE rfl Y18 (.cons rfl (.cons rfl (.cons rfl .nil)))) subT
 intro _ hJ
 try dsimp only at hJ
 try dsimp only
 refine G.condP rfl (fun h10 => ?_) (fun h10 => ?_)
 ·refine go [9,10,1,1,7,8,11,17,12] ?_
  exact G.done0G rfl (Rv.tmp rfl (Rv.tmp rfl Rv.nil)) (by rw [checkI_head (by assumption)]; rfl)
 refine go [9,10,2,3,4,2,4,2,5,2,10,1,7,8] ?_
 refine G.condP rfl (fun h33 => ?_) (fun h33 => ?_)
 ·refine go [9,10,1,1,7,8,11,17,12] ?_
  exact G.done0G rfl (Rv.tmp rfl (Rv.tmp rfl Rv.nil)) (by rw [checkI_many (by assumption) (by omega)]; rfl)
 refine go [13,16,8,9,10] ?_
 refine G.op rfl (G.mapNew vStr okS9 rfl ?_)
 intro b4
 refine go [1,7,8,9,9,10,2,3,4,2,4,2,5,0,7,8,15] ?_
 refine G.loopK (X := Nat × (List (List UInt8 × Value))) (ts := [1, 4, 40, 41]) (fun st => st.1 ≤ xs.length ∧ ((∀ q, q < st.1 → errI (its xs) q = 0) ∧ DirsAt st.2 (toEs ((its xs).take st.1)))) (fun st => [(42, .int .i64 (st.1 : Int))]) (fun st => [mpc vStr okS9 b4 st.2]) (fun st => xs.length - st.1) (x0 := (0, [])) (.cons rfl (.cons rfl (.cons rfl (.cons rfl .nil)))) subT (.cons .nil) apT (by first | exact trivial | ((try dsimp only) <;> exact ⟨Nat.zero_le _, ⟨fun q h => absurd h (by omega), by rw [List.take_zero]; exact dirs_nil⟩⟩)) (.consE rfl veqT .nil) (fun st hJ => ?_)
 obtain ⟨i, l⟩ := st
 try dsimp only at hJ
 try dsimp only
 obtain ⟨hki, hJ⟩ := hJ
 refine go [9,10,2,9,7,8,9] ?_
 refine G.condP rfl (fun h43 => ?_) (fun h43 => ?_)
 ·obtain ⟨hJ0, hdn⟩ := hJ
  have hlt : i < xs.length := by omega
  have hlt' : i < (its xs).length := by omega
  have hg := its_get hlt
  have hEv := helv i hlt
  have hRv := Ro.itRng hEv
  have hDv := Ro.itIds hEv
  have hOv := Ro.itOk hEv
  obtain ⟨hk1v, hk2v, hk3v, hlpv, hltv, hlnv⟩ := hOv
  have hCv := Ro.one1I hDv
  refine go [13,8,9,15,9,10,0] ?_
  refine G.op rfl (G.val rfl rfl (pv_ixSl (sz := 6) (k := i) Tryz.underlying26 kr rfl rfl adT (by omega) (by omega)) ?_)
  refine go [2,50,2,60,10] ?_
  intro b6
  refine go [1,20,7,8,9,9,10,2,50,2] ?_
  refine G.op rfl (G.cR rfl rfl rfl rfl Tryz.func70 rfl rfl (may1 Y0) (ione_tr _ _ (by omega) (by omega) (by assumption)) ?_)
  refine go [1,7,8,9,10,0,2,14,7,8] ?_
  refine G.condP rfl (fun h50 => ?_) (fun h50 => ?_)
  ·refine go [9,10,0,0,1,1,7,8,11,12,17,12,12,17,12] ?_
   exact G.done0G rfl (Rv.tmp rfl (Rv.tmp rfl Rv.nil)) (by rw [checkI_bad (by assumption) (by omega) hlt' hJ0 (errI_one hlt' (by rw [hg]; assumption)) (by rw [hg]; assumption), hg]; rfl)
  have h1 : oneI (its xs)[i] = 0 := by rw [hg]; omega
  refine go [13,8,9,9] ?_
  refine G.cutK (X := Unit) (ts := [1, 4, 5, 6, 40, 41, 42]) (p := []) (fun _ => True) (fun _ => [(67, .bool (decide (prevBad (toEs (its xs)) i)))]) (fun _ => []) (.cons rfl (.cons rfl (.cons rfl (.cons rfl (.cons rfl (.cons rfl (.cons rfl .nil))))))) subT (.cons .nil) apT ?_ ?_
  ·refine G.drawT (nn := 15) (p := []) (rem := 32767) [0, 1, 2, 4, 12, 4, 36, 84, 132, 260, 4, 1028, 2564, 4100, 8196] [0, 1, 2, 4, 12, 4, 36, 84, 132, 260, 4, 1028, 2564, 4100, 8196] kr ⟨rfl, by kernel_rfl, by kernel_rfl⟩ subT kr (fun hT12 => ?_)
   refine go [22,0,32766,0,22,1,32764,10,22,2,32760,0] ?_
   refine G.partP (t := 55) rfl (fun h55 => ?_) (fun h55 => ?_)
   ·have hi0 : 0 < i := by omega
    have hEp := helv (i - 1) (by omega)
    have hRp := Ro.itRng hEp
    have hDp := Ro.itIds hEp
    have hOp := Ro.itOk hEp
    obtain ⟨hk1p, hk2p, hk3p, hlpp, hltp, hlnp⟩ := hOp
    have hCp := Ro.one1I hDp
    have hpv : prevBad (toEs (its xs)) i ↔ 0 ≤ compareM xs[i - 1].1.path xs[i].1.path := by have h := prev_pos (es := toEs (its xs)) hi0 (by omega); rw [hgx i hlt, hgx (i - 1) (by omega)] at h; exact h
    refine go [22,3,32752,3,4,22,4,32736,4,22,5,32704,0,22,6,32640,19] ?_
    refine G.takeT hT12 (i := 7) (rem' := 32512) rfl rfl rfl kr (fun _ _ _ h => h) rfl (pv_ixSl (sz := 6) (k := i - 1) Tryz.underlying26 kr rfl rfl adT (by omega) (by omega)) subT ?_
    refine go [22,8,32256,3,0,22,9,31744,4,22,10,30720,3,0,24,11,28672,25,4,26,24,12,24576] ?_
    refine G.turnOp rfl rfl (G.cR rfl rfl rfl rfl Tryz.func71 rfl rfl may0 (compare_tr _ _ (by omega) (by omega)) ?_)
    refine go [26,22,13,16384,12,22,14,0,2,27] ?_
    exact G.meet (()) trT (.consE rfl (by first | exact dec_e hpv.symm | exact dec_f (prev_zero (by omega))) (.cons rfl (.cons rfl (.cons rfl (.cons rfl (.cons rfl (.cons rfl (.cons rfl .nil)))))))) subT
   refine go [23,3,32752,23,4,32736,23,5,32704,23,6,32640,23,7,32512,23,8,32256,23,9,31744,23,10,30720,23,11,28672,23,12,24576,23,13,16384,22,14,0,2,27] ?_
   exact G.meet (()) trT (.consE rfl (by first | exact dec_e hpv.symm | exact dec_f (prev_zero (by omega))) (.cons rfl (.cons rfl (.cons rfl (.cons rfl (.cons rfl (.cons rfl (.cons rfl .nil)))))))) subT
  intro _ hJ
  try dsimp only at hJ
  try dsimp only
  refine G.condP rfl (fun h67 => ?_) (fun h67 => ?_)
  ·refine go [9,10,0,1,1,7,8,11,12,17,12,12,17,12] ?_
   exact G.done0G rfl (Rv.tmp rfl (Rv.tmp rfl Rv.nil)) (by rw [checkI_bad (by assumption) (by omega) hlt' hJ0 (errI_prev hlt' h1 (by assumption)) (by omega)]; rfl)
  refine go [13,8,9,9,10,2,3,0,2,4] ?_
  refine G.op rfl (G.cR rfl rfl rfl rfl Tryz.func72 rfl rfl may0 (parent_tr _ (by omega)) ?_)
  refine go [0,2,7,2,7,1,1,7,8,9] ?_
  refine G.cutK (X := Unit) (ts := [1, 4, 5, 6, 40, 41, 42]) (p := []) (fun _ => True) (fun _ => [(81, .bool (decide (¬ heldM (toEs ((its xs).take i)) (toE xs[i].1))))]) (fun _ => []) (.cons rfl (.cons rfl (.cons rfl (.cons rfl (.cons rfl (.cons rfl (.cons rfl .nil))))))) subT (.cons .nil) apT ?_ ?_
  ·refine go [10,0,0] ?_
   refine G.part (t := 76) rfl (fun h76 => ?_) (fun h76 => ?_)
   ·have hpt : (parentM (toE xs[i].1).path).2 = true := by assumption
    obtain ⟨z, hz⟩ := hdn.num (parentM xs[i].1.path).1
    have hzh := held_z hdn hpt hz
    refine go [3,0,3,0] ?_
    refine G.want rfl rfl rfl (G.val rfl rfl ((pv_mapGet (f := vStr) (ok := okS9) (x := (parentM xs[i].1.path).1) (z := vInt 0) (xs := l) keyS Tryz.underlying110 (fun w => by kernel_rfl) rfl rfl (parentI_len _ hlpv) (sel_map selT)).cast (v' := .int .i64 z) hz) ?_)
    refine go [3,14,2,2,7] ?_
    exact G.meet (()) trT (.consE rfl (by first | exact dec_e hzh | exact dec_f (fun h => h (.inl (by assumption))) | exact dec_f (fun h => h (.inl (Bool.eq_false_iff.2 (by assumption))))) (.cons rfl (.cons rfl (.cons rfl (.cons rfl (.cons rfl (.cons rfl (.cons rfl .nil)))))))) subT
   refine go [4,4,4,4,2,2,7] ?_
   exact G.meet (()) trT (.consE rfl (by first | exact dec_e hzh | exact dec_f (fun h => h (.inl (by assumption))) | exact dec_f (fun h => h (.inl (Bool.eq_false_iff.2 (by assumption))))) (.cons rfl (.cons rfl (.cons rfl (.cons rfl (.cons rfl (.cons rfl (.cons rfl .nil)))))))) subT
  intro _ hJ
  try dsimp only at hJ
  try dsimp only
  refine G.condP rfl (fun h81 => ?_) (fun h81 => ?_)
  ·refine go [9,10,0,1,1,7,8,11,12,17,12,12,17,12] ?_
   exact G.done0G rfl (Rv.tmp rfl (Rv.tmp rfl Rv.nil)) (by rw [checkI_bad (by assumption) (by omega) hlt' hJ0 (errI_held hlt' h1 (by assumption) (by rw [hg]; assumption)) (by omega)]; rfl)
  have hok0 : errI (its xs) i = 0 := errI_ok hlt' h1 (by assumption) (by rw [hg]; exact Decidable.of_not_not (by assumption))
  have hall : ∀ q, q < i + 1 → errI (its xs) q = 0 := fun q hq => by rcases Nat.lt_or_ge q i with h1 | h1; exact hJ0 q h1; obtain rfl : q = i := (by omega); exact hok0
  refine go [13,8,10,0,2,3,0,2,4,2,3,1,2,4] ?_
  refine G.op rfl (G.mapSet (f := vStr) (ok := okS9) (x := xs[i].1.path) (v := .int .i64 xs[i].1.kind) (xs := l) keyS Tryz.underlying110 rfl rfl rfl hlpv selT ?_)
  refine go [7,16,8,10,2,6,0,7] ?_
  exact G.next ((i + 1, mset l xs[i].1.path (vInt xs[i].1.kind))) (by first | exact trivial | ((try dsimp only) <;> exact ⟨by omega, ⟨hall, by rw [toEs_succ hlt]; exact DirsAt.put (e := toE xs[i].1) hdn (by have h := sort_items (ms := its xs) (i := i + 1) (by omega) hall; rwa [← toEs_take, toEs_succ hlt] at h)⟩⟩)) (by (try dsimp only); omega) (.consE rfl veqT (.cons rfl (.cons rfl (.cons rfl (.cons rfl .nil))))) subT
 obtain ⟨hJ0, -⟩ := hJ
 refine go [18,14,14,19,8,9,10,1,1,7,8,11] ?_
 exact G.done0G rfl (Rv.tmp rfl (Rv.tmp rfl Rv.nil)) (by rw [checkI_ok (by assumption) (by omega) (fun q hq => hJ0 q (by omega))]; rfl)
set_option maxRecDepth 20000 in
set_option maxHeartbeats 4000000 in
theorem mcheckR_tr {Ps : Nat → Prop} (a : Mh) (v : Value) (xs : List IT) : Tr Tryz.prog 33 #[.agg #[.int .i64 a.c, .int .i64 a.k, .int .i64 a.n, .int .i64 a.t, v]] [slc rIT Ps v xs] [] (T0 (.tuple #[.int .i64 (checkI a (its xs)).1, .int .i64 (checkI a (its xs)).2])) := by
 refine Tr.of (l := [(0, .agg #[.int .i64 a.c, .int .i64 a.k, .int .i64 a.n, .int .i64 a.t, v])]) Tryz.func33 rfl (n := 87) rfl (.cons rfl .nil) (fun w0 hro => ?_)
 have hv := ro1 hro
 have hv' := hv
 obtain ⟨av, cv, bv, fv, rfl, hcapv, hmaxv, hnilv, hadv, helv⟩ := Ro.open hv
 have hel' := its_length xs
 have hel2 := toEs_length (its xs)
 have hgx : ∀ q (hq : q < xs.length), (toEs (its xs))[q]'(by omega) = toE xs[q].1 := fun q hq => by rw [toEs_get (by omega), its_get hq]
 refine go [9,10,60,0] ?_
 intro b1
 refine go [1,1,7,8,9,9] ?_
 refine G.cutK (X := Unit) (ts := [1, 2, 3]) (p := []) (fun _ => True) (fun _ => [(27, .bool (decide (headBad a)))]) (fun _ => []) (.cons rfl (.cons rfl (.cons rfl .nil))) subT (.cons .nil) apT ?_ ?_
 ·refine go [10,2,3,0,2,4] ?_
  refine G.op rfl (G.cR rfl rfl rfl rfl Tryz.func73 rfl rfl may0 (winR_tr _ _ _) ?_)
  refine go [2,15,0] ?_
  refine G.partP (t := 10) rfl (fun h10 => ?_) (fun h10 => ?_)
  ·refine go [4,4,4,4,2,2,0,4,4,4,4,2,2,0,4,4,4,4,2,2,7] ?_
   exact G.meet (()) trT (.consE rfl Y18 (.cons rfl (.cons rfl (.cons rfl .nil)))) subT
  refine go [3,3,1,3,4] ?_
  refine G.want rfl rfl rfl (G.cR rfl rfl rfl rfl Tryz.func73 rfl rfl may0 (winR_tr _ _ _) ?_)
  refine go [3,15,2,2,0] ?_
  refine G.partP (t := 16) rfl (fun h16 => ?_) (fun h16 => ?_)
  ·refine go [4,4,4,4,2,2,0,4,4,4,4,2,2,7] ?_
   exact G.meet (()) trT (.consE rfl Y18 (.cons rfl (.cons rfl (.cons rfl .nil)))) subT
  refine go [3,3,2,3,4] ?_
  refine G.want rfl rfl rfl (G.cR rfl rfl rfl rfl Tryz.func73 rfl rfl may0 (winR_tr _ _ _) ?_)
  refine go [3,15,2,2,0] ?_
  refine G.partP (t := 22) rfl (fun h22 => ?_) (fun h22 => ?_)
  ·refine go [4,4,4,4,2,2,7] ?_
   exact G.meet (()) trT (.consE rfl Y18 (.cons rfl (.cons rfl (.cons rfl .nil)))) subT
  refine go [3,3,3,3,4] ?_
  refine G.want rfl rfl rfl (G.cR rfl rfl rfl rfl Tryz.func73 rfl rfl may0 (winR_tr _ _ _) ?_)
  refine go [3,15,2,2,7] ?_
  exact G.meet (()) trT (.consE rfl Y18 (.cons rfl (.cons rfl (.cons rfl .nil)))) subT
 intro _ hJ
 try dsimp only at hJ
 try dsimp only
 refine G.condP rfl (fun h27 => ?_) (fun h27 => ?_)
 ·refine go [9,10,1,1,7,8,11,12] ?_
  exact G.done0G rfl (Rv.tmp rfl (Rv.tmp rfl Rv.nil)) (by rw [checkI_head (by assumption)]; rfl)
 refine go [13,8,9,9,10,2,3,4,2,4,2,5,2,10,7,8] ?_
 refine G.condP rfl (fun h31 => ?_) (fun h31 => ?_)
 ·refine go [9,10,1,1,7,8,11,12] ?_
  exact G.done0G rfl (Rv.tmp rfl (Rv.tmp rfl Rv.nil)) (by rw [checkI_many (by assumption) (by omega)]; rfl)
 refine go [13,8,9,9,10,1,7,8,15] ?_
 refine G.loopK (X := Nat) (ts := [1]) (fun i => i ≤ xs.length ∧ (∀ q, q < i → errI (its xs) q = 0)) (fun i => [(4, .int .i64 (i : Int))]) (fun i => []) (fun i => xs.length - i) (x0 := 0) (.cons rfl .nil) subT (.cons .nil) apT Y56 (.consE rfl veqT .nil) (fun i hJ => ?_)
 try dsimp only at hJ
 try dsimp only
 obtain ⟨hki, hJ⟩ := hJ
 refine go [9,9,10,0,2,3,4,2,4,2,5,2,9,7,8] ?_
 refine G.condP rfl (fun h36 => ?_) (fun h36 => ?_)
 ·have hJ0 := hJ
  have hlt : i < xs.length := by omega
  have hlt' : i < (its xs).length := by omega
  have hg := its_get hlt
  have hTk := Ro.takeT hv' (i := i) (by omega)
  have heq := errI_get hlt'
  rw [hg] at heq
  have hEv := helv i hlt
  have hRv := Ro.itRng hEv
  have hDv := Ro.itIds hEv
  have hOv := Ro.itOk hEv
  obtain ⟨hk1v, hk2v, hk3v, hlpv, hltv, hlnv⟩ := hOv
  have hCv := Ro.one1I hDv
  refine go [13,8,9,15,9,10,2,3,4,2,4,0] ?_
  refine G.op rfl (G.val rfl rfl (pv_ixSl (sz := 6) (k := i) Tryz.underlying26 kr rfl rfl adT (by omega) (by omega)) ?_)
  refine go [2,50,2] ?_
  refine G.op rfl (G.cR rfl rfl rfl rfl Tryz.func74 rfl rfl (may1 Y0) (ioneR_tr _ _ (by omega) (by omega) (by assumption)) ?_)
  refine go [1,7,8,9] ?_
  refine G.cutK (X := Unit) (ts := [1, 4]) (p := []) (fun _ => True) (fun _ => [(5, .int .i64 (if oneI xs[i].1 = 0 ∧ prevBad (toEs (its xs)) i then 7 else oneI xs[i].1))]) (fun _ => []) (.cons rfl (.cons rfl .nil)) subT (.cons .nil) apT ?_ ?_
  ·refine G.seq ?_
   refine G.cutK (X := Unit) (ts := [1, 4, 5]) (p := []) (fun _ => True) (fun _ => [(67, .bool (decide (oneI xs[i].1 = 0 ∧ prevBad (toEs (its xs)) i)))]) (fun _ => []) (.cons rfl (.cons rfl (.cons rfl .nil))) subT (.cons .nil) apT ?_ ?_
   ·refine G.drawT (nn := 23) (p := []) (rem := 8388607) [0, 1, 2, 4, 12, 20, 36, 64, 192, 64, 576, 1344, 2112, 4160, 64, 16448, 64, 98368, 131136, 262208, 532544, 1048640, 2097216] [0, 1, 2, 4, 12, 20, 32, 64, 192, 64, 576, 1344, 2112, 4160, 64, 16448, 64, 98368, 131136, 262208, 532544, 1048640, 2097216] kr ⟨rfl, by kernel_rfl, by kernel_rfl⟩ subT kr (fun hT9 => ?_)
    refine go [22,0,8388606,0,22,1,8388604,13,22,2,8388600,0] ?_
    refine G.partP (t := 47) rfl (fun h47 => ?_) (fun h47 => ?_)
    ·refine go [22,3,8388592,0,22,4,8388576,10,22,5,8388544,2,22,6,8388480,0] ?_
     refine G.partP (t := 51) rfl (fun h51 => ?_) (fun h51 => ?_)
     ·have hi0 : 0 < i := by omega
      have hEp := helv (i - 1) (by omega)
      have hRp := Ro.itRng hEp
      have hDp := Ro.itIds hEp
      have hOp := Ro.itOk hEp
      obtain ⟨hk1p, hk2p, hk3p, hlpp, hltp, hlnp⟩ := hOp
      have hCp := Ro.one1I hDp
      have hpv : prevBad (toEs (its xs)) i ↔ 0 ≤ compareM xs[i - 1].1.path xs[i].1.path := by have h := prev_pos (es := toEs (its xs)) hi0 (by omega); rw [hgx i hlt, hgx (i - 1) (by omega)] at h; exact h
      refine go [22,7,8388352,3,4,22,8,8388096,4,22,9,8387584,0,22,10,8386560,19] ?_
      refine G.takeT hT9 (i := 11) (rem' := 8384512) rfl rfl rfl kr (fun _ _ _ h => h) rfl (pv_ixSl (sz := 6) (k := i - 1) Tryz.underlying26 kr rfl rfl adT (by omega) (by omega)) subT ?_
      refine go [22,12,8380416,3,0,22,13,8372224,4,22,14,8355840,3,4,22,15,8323072,4,22,16,8257536,0] ?_
      refine G.takeT hT9 (i := 17) (rem' := 8126464) rfl rfl rfl kr (fun _ _ _ h => h) rfl (pv_ixSl (sz := 6) (k := i) Tryz.underlying26 kr rfl rfl adT (by omega) (by omega)) subT ?_
      refine go [22,18,7864320,3,0,24,19,7340032,25,4,26,24,20,6291456] ?_
      refine G.turnOp rfl rfl (G.cR rfl rfl rfl rfl Tryz.func75 rfl rfl may0 (compareR_tr _ _ (by omega) (by omega)) ?_)
      refine go [26,22,21,4194304,12,22,22,0,2,27] ?_
      exact G.meet (()) trT (.consE rfl Y19 (.cons rfl (.cons rfl (.cons rfl .nil)))) subT
     refine go [23,7,8388352,23,8,8388096,23,9,8387584,23,10,8386560,23,11,8384512,23,12,8380416,23,13,8372224,23,14,8355840,23,15,8323072,23,16,8257536,23,17,8126464,23,18,7864320,23,19,7340032,23,20,6291456,23,21,4194304,22,22,0,2,27] ?_
     exact G.meet (()) trT (.consE rfl Y19 (.cons rfl (.cons rfl (.cons rfl .nil)))) subT
    refine go [23,3,8388592,23,4,8388576,22,5,8388544,2,22,6,8388480,0,23,7,8388352,23,8,8388096,23,9,8387584,23,10,8386560,23,11,8384512,23,12,8380416,23,13,8372224,23,14,8355840,23,15,8323072,23,16,8257536,23,17,8126464,23,18,7864320,23,19,7340032,23,20,6291456,23,21,4194304,22,22,0,2,27] ?_
    exact G.meet (()) trT (.consE rfl Y19 (.cons rfl (.cons rfl (.cons rfl .nil)))) subT
   intro _ hJ
   try dsimp only at hJ
   try dsimp only
   refine G.condP rfl (fun h67 => ?_) (fun h67 => ?_)
   ·refine go [10,1,7] ?_
    exact G.meet (()) trT (.consE rfl (int_eq (by rw [if_pos (by assumption)])) (.cons rfl (.cons rfl .nil))) subT
   refine G.skip ?_
   exact G.meet (()) trT (.consE rfl (int_eq (by rw [if_neg (by assumption)])) (.cons rfl (.cons rfl .nil))) subT
  intro _ hJ
  try dsimp only at hJ
  try dsimp only
  refine G.seq ?_
  refine G.cutK (X := Unit) (ts := [1, 4]) (p := []) (fun _ => True) (fun _ => [(5, .int .i64 (errI (its xs) i))]) (fun _ => []) (.cons rfl (.cons rfl .nil)) subT (.cons .nil) apT ?_ ?_
  ·refine G.seq ?_
   refine G.cutK (X := Unit) (ts := [1, 4, 5]) (p := []) (fun _ => True) (fun _ => [(82, .bool (decide ((if oneI xs[i].1 = 0 ∧ prevBad (toEs (its xs)) i then 7 else oneI xs[i].1) = 0 ∧ ¬ heldM (toEs ((its xs).take i)) (toE xs[i].1))))]) (fun _ => []) (.cons rfl (.cons rfl (.cons rfl .nil))) subT (.cons .nil) apT ?_ ?_
   ·refine G.drawT (nn := 15) (p := []) (rem := 32767) [0, 1, 2, 4, 12, 4, 52, 4, 132, 4, 772, 1028, 2116, 4100, 8196] [0, 1, 2, 4, 12, 4, 52, 4, 132, 4, 772, 1028, 2116, 4100, 8196] kr ⟨rfl, by kernel_rfl, by kernel_rfl⟩ subT kr (fun hT11 => ?_)
    refine go [22,0,32766,0,22,1,32764,13,22,2,32760,0] ?_
    refine G.partP (t := 70) rfl (fun h70 => ?_) (fun h70 => ?_)
    ·refine go [22,3,32752,3,4,22,4,32736,4,22,5,32704,0] ?_
     refine G.takeT hT11 (i := 6) (rem' := 32640) rfl rfl rfl kr (fun _ _ _ h => h) rfl (pv_subH (sz := 6) Tryz.underlying26 kr rfl rfl rfl (by omega)) subT ?_
     refine go [22,7,32512,3,4,22,8,32256,4,22,9,31744,0] ?_
     refine G.takeT hT11 (i := 10) (rem' := 30720) rfl rfl rfl kr (fun _ _ _ h => h) rfl (pv_ixSl (sz := 6) (k := i) Tryz.underlying26 kr rfl rfl adT (by omega) (by omega)) subT ?_
     refine go [24,11,28672,25,50,2,26,24,12,24576] ?_
     refine G.turnOp rfl rfl (G.cR rfl rfl rfl rfl Tryz.func76 rfl rfl (may2 Y0 Y0) (iheld_tr _ (xs.take i) _ _ (by omega)) ?_)
     rw [its_take]
     refine go [26,22,13,16384,15,22,14,0,2,27] ?_
     exact G.meet (()) trT (.consE rfl Y43 (.cons rfl (.cons rfl (.cons rfl .nil)))) subT
    refine go [23,3,32752,23,4,32736,23,5,32704,23,6,32640,23,7,32512,23,8,32256,23,9,31744,23,10,30720,23,11,28672,23,12,24576,23,13,16384,22,14,0,2,27] ?_
    exact G.meet (()) trT (.consE rfl Y43 (.cons rfl (.cons rfl (.cons rfl .nil)))) subT
   intro _ hJ
   try dsimp only at hJ
   try dsimp only
   refine G.condP rfl (fun h82 => ?_) (fun h82 => ?_)
   ·refine go [10,1,7] ?_
    exact G.meet (()) trT (.consE rfl (int_eq (heq.trans (if_pos (by assumption))).symm) (.cons rfl (.cons rfl .nil))) subT
   refine G.skip ?_
   exact G.meet (()) trT (.consE rfl (int_eq (heq.trans (if_neg (by assumption))).symm) (.cons rfl (.cons rfl .nil))) subT
  intro _ hJ
  try dsimp only at hJ
  try dsimp only
  refine go [9,10,0,2,14,7,8] ?_
  refine G.condP rfl (fun h84 => ?_) (fun h84 => ?_)
  ·refine go [9,10,0,0,1,1,7,8,11,17,12,12,17,12] ?_
   exact G.done0G rfl (Rv.tmp rfl (Rv.tmp rfl Rv.nil)) (by rw [checkI_bad (by assumption) (by omega) hlt' hJ0 rfl (by assumption)]; rfl)
  have hok0 : errI (its xs) i = 0 := by omega
  refine go [13,16,8,10,0,2,6,1,7] ?_
  exact G.next (i + 1) Y29 (by (try dsimp only); omega) (.consE rfl veqT (.cons rfl .nil)) subT
 refine go [18,14,14,19,8,9,10,1,1,7,8,11] ?_
 exact G.done0G rfl (Rv.tmp rfl (Rv.tmp rfl Rv.nil)) (by rw [checkI_ok (by assumption) (by omega) (fun q hq => hJ q (by omega))]; rfl)
def numsB (l : List Int) (k : Nat) : List UInt8 := (l.take k).flatMap putM
def idsB (ids : List (List UInt8)) (k : Nat) : List UInt8 := (ids.take k).flatten
def numL (a : Mh) (n : Nat) : List Int := [a.c, a.k, a.n, a.t, (n : Int)]
def hdT (x : It) : List UInt8 := bytesM x.path ++ putM x.kind ++ putM x.mode ++ putM x.size ++ bytesM x.to ++ putM (x.ids.length : Int)
def itB (x : It) : List UInt8 := hdT x ++ idsB x.ids x.ids.length
def itsB (ms : List It) (k : Nat) : List UInt8 := (ms.take k).flatMap itB
def hdM (a : Mh) (n : Nat) : List UInt8 := numsB (numL a n) 5
def manB (a : Mh) (ms : List It) : List UInt8 := hdM a ms.length ++ itsB ms ms.length
def bytesE (a : Mh) (ms : List It) : Int := if (checkI a ms).1 = 0 then (if 262144 < (manB a ms).length then 3 else 0) else (checkI a ms).1
def bytesO (a : Mh) (ms : List It) : List UInt8 := if bytesE a ms = 0 then manB a ms else []
theorem bytesE_bad {a : Mh} {ms : List It} (h : ¬ (checkI a ms).1 = 0) : bytesE a ms = (checkI a ms).1 ∧ bytesO a ms = [] := by
 have h1 : bytesE a ms = (checkI a ms).1 := if_neg h
 exact ⟨h1, if_neg (by rw [h1]; exact h)⟩
theorem bytesE_long {a : Mh} {ms : List It} (h : (checkI a ms).1 = 0) (h2 : 262144 < (manB a ms).length) : bytesE a ms = 3 ∧ bytesO a ms = [] := by
 have h1 : bytesE a ms = 3 := by
  unfold bytesE
  rw [if_pos h, if_pos h2]
 exact ⟨h1, if_neg (by rw [h1]; decide)⟩
theorem bytesE_ok {a : Mh} {ms : List It} (h : (checkI a ms).1 = 0) (h2 : ¬ 262144 < (manB a ms).length) : bytesE a ms = 0 ∧ bytesO a ms = manB a ms := by
 have h1 : bytesE a ms = 0 := by
  unfold bytesE
  rw [if_pos h, if_neg h2]
 exact ⟨h1, if_pos h1⟩
theorem numsB_zero (h : List UInt8) (l : List Int) : h ++ numsB l 0 = h := by simp [numsB]
theorem idsB_zero (h : List UInt8) (ids : List (List UInt8)) : h ++ idsB ids 0 = h := by simp [idsB]
theorem itsB_zero (h : List UInt8) (ms : List It) : h ++ itsB ms 0 = h := by simp [itsB]
theorem numsB_app (h : List UInt8) {l : List Int} {k : Nat} (hk : k < l.length) : h ++ numsB l k ++ putM l[k] = h ++ numsB l (k + 1) := by
 unfold numsB
 rw [List.take_succ_eq_append_getElem hk, List.flatMap_append, List.append_assoc]
 simp
theorem idsB_app (h : List UInt8) {ids : List (List UInt8)} {k : Nat} (hk : k < ids.length) : h ++ idsB ids k ++ ids[k] = h ++ idsB ids (k + 1) := by
 unfold idsB
 rw [List.take_succ_eq_append_getElem hk, List.flatten_append, List.append_assoc]
 simp
theorem itsB_app (h : List UInt8) {ms : List It} {k : Nat} (hk : k < ms.length) : h ++ itsB ms k ++ itB ms[k] = h ++ itsB ms (k + 1) := by
 unfold itsB
 rw [List.take_succ_eq_append_getElem hk, List.flatMap_append, List.append_assoc]
 simp
theorem hdT_app (h : List UInt8) (x : It) : h ++ bytesM x.path ++ putM x.kind ++ putM x.mode ++ putM x.size ++ bytesM x.to ++ putM (x.ids.length : Int) = h ++ hdT x := by
 unfold hdT
 simp only [List.append_assoc]
theorem itB_app (h : List UInt8) (x : It) : h ++ hdT x ++ idsB x.ids x.ids.length = h ++ itB x := by
 unfold itB
 rw [List.append_assoc]
theorem hdM_app (a : Mh) (n : Nat) : [] ++ putM a.c ++ putM a.k ++ putM a.n ++ putM a.t ++ putM (n : Int) = hdM a n := by
 simp [hdM, numsB, numL]
theorem numsB_len (l : List Int) (k : Nat) : (numsB l k).length ≤ 5 * k := by
 unfold numsB
 have : ∀ l : List Int, (l.flatMap putM).length ≤ 5 * l.length := by
  intro l
  induction l with
  | nil => exact Nat.zero_le _
  | cons x l ih =>
   rw [List.flatMap_cons, List.length_append, putM_length, List.length_cons]
   have := sizeM_le x
   omega
 have h1 := this (l.take k)
 rw [List.length_take] at h1
 omega
theorem idsB_len {ids : List (List UInt8)} (h : all16 ids) (k : Nat) : (idsB ids k).length ≤ 16 * k := by
 unfold idsB
 have : ∀ l : List (List UInt8), all16 l → l.flatten.length ≤ 16 * l.length := by
  intro l
  induction l with
  | nil => intro _; exact Nat.zero_le _
  | cons x l ih =>
   intro hl
   rw [List.flatten_cons, List.length_append, hl.cons.1, List.length_cons]
   have := ih hl.cons.2
   omega
 have h1 := this (ids.take k) fun x hx => h x (List.mem_of_mem_take hx)
 rw [List.length_take] at h1
 omega
theorem bytesM_len' (bs : List UInt8) : (bytesM bs).length ≤ 5 + bs.length := by
 unfold bytesM
 have := sizeM_le (bs.length : Int)
 simp only [List.length_append, putM_length]
 omega
structure ItW (x : It) : Prop where
 path : x.path.length ≤ 200
 kind : 0 ≤ x.kind ∧ x.kind ≤ 2147483647
 mode : 0 ≤ x.mode ∧ x.mode ≤ 2147483647
 size : 0 ≤ x.size ∧ x.size ≤ 2147483647
 to : x.to.length ≤ 200
 ids : x.ids.length ≤ 16384
theorem oneI_w {x : It} (h : oneI x = 0) : ItW x := by
 obtain ⟨h1, h2, h3⟩ := oneI_zero h
 have h4 := okP_len h1
 unfold numI at h2
 unfold rngI at h3
 exact ⟨h4, by omega, by omega, by omega, by omega, by omega⟩
theorem checkI_w {a : Mh} {ms : List It} (h : (checkI a ms).1 = 0) : (∀ x ∈ numL a ms.length, 0 ≤ x ∧ x ≤ 2147483647) ∧ ms.length ≤ 200 ∧ ∀ x ∈ ms, ItW x := by
 obtain ⟨h0, h1, h2, -⟩ := checkI_zero h
 unfold headBad at h0
 refine ⟨fun x hx => ?_, h1, fun x hx => ?_⟩
 ·simp only [numL, List.mem_cons, List.not_mem_nil, or_false] at hx
  rcases hx with rfl | rfl | rfl | rfl | rfl <;> omega
 obtain ⟨i, hi, rfl⟩ := List.getElem_of_mem hx
 exact oneI_w (errI_zero hi (h2 i hi)).1
theorem hdT_len {x : It} (h : ItW x) : (hdT x).length ≤ 430 := by
 unfold hdT
 have h1 := bytesM_len' x.path
 have h2 := bytesM_len' x.to
 have h3 := sizeM_le x.kind
 have h4 := sizeM_le x.mode
 have h5 := sizeM_le x.size
 have h6 := sizeM_le (x.ids.length : Int)
 have h7 := h.path
 have h8 := h.to
 simp only [List.length_append, putM_length]
 omega
theorem itB_len {x : It} (h : ItW x) (h16 : all16 x.ids) : (itB x).length ≤ 300000 := by
 unfold itB
 have h1 := hdT_len h
 have h2 := idsB_len h16 x.ids.length
 have h3 := h.ids
 rw [List.length_append]
 omega
theorem itsB_len {ms : List It} (h : ∀ x ∈ ms, ItW x) (h16 : ∀ x ∈ ms, all16 x.ids) (k : Nat) : (itsB ms k).length ≤ 300000 * k := by
 unfold itsB
 have : ∀ l : List It, (∀ x ∈ l, ItW x ∧ all16 x.ids) → (l.flatMap itB).length ≤ 300000 * l.length := by
  intro l
  induction l with
  | nil => intro _; exact Nat.zero_le _
  | cons x l ih =>
   intro hl
   have h1 := itB_len (hl x (List.mem_cons_self ..)).1 (hl x (List.mem_cons_self ..)).2
   have h2 := ih fun y hy => hl y (List.mem_cons_of_mem _ hy)
   rw [List.flatMap_cons, List.length_append, List.length_cons]
   omega
 have h1 := this (ms.take k) fun x hx => ⟨h x (List.mem_of_mem_take hx), h16 x (List.mem_of_mem_take hx)⟩
 rw [List.length_take] at h1
 omega
theorem hdM_len (a : Mh) (n : Nat) : (hdM a n).length ≤ 25 := numsB_len _ 5
theorem goodW {x : Int} (h : 0 ≤ x ∧ x ≤ 2147483647) : (false || decide (sizeM x = 0)) = false := by
 have := sizeM_ok h.1 h.2
 rw [Bool.false_or]
 exact decide_eq_false (by omega)
theorem wintF (D : Nat) (v : Value) (bs : List UInt8) (x : Int) (hx : 0 ≤ x ∧ x ≤ 2147483647) (hb : bs.length ≤ 1000000000) : Tr Tryz.prog 66 #[.pointer (some ⟨D, 0, none⟩), .int .i64 x] [] [blk D 134 [.bool true, .bool false, v], own 5 1 v (bs : List UInt8).length ((bs : List UInt8).map vByte)]
 (TX (fun _ : Value => True) (fun _ => .tuple #[]) (fun v => [blk D 134 [.bool true, .bool false, v], own 5 1 v ((bs ++ putM x) : List UInt8).length (((bs ++ putM x) : List UInt8).map vByte)])) := by
 have := wint_any D false v bs x hb
 rwa [goodW hx] at this
theorem wtextF (D : Nat) (v : Value) (bs b : List UInt8) (hl : b.length ≤ 200) (hb : bs.length ≤ 900000000) : Tr Tryz.prog 99 #[.pointer (some ⟨D, 0, none⟩), .string (sB b)] [] [blk D 134 [.bool true, .bool false, v], own 5 1 v (bs : List UInt8).length ((bs : List UInt8).map vByte)]
 (TX (fun _ : Value => True) (fun _ => .tuple #[]) (fun v => [blk D 134 [.bool true, .bool false, v], own 5 1 v ((bs ++ bytesM b) : List UInt8).length (((bs ++ bytesM b) : List UInt8).map vByte)])) := by
 have := wtext_tr D false v bs b hb (by omega)
 rwa [goodW ⟨by omega, by omega⟩] at this
theorem wintR (D : Nat) (v : Value) (bs : List UInt8) (x : Int) (hx : 0 ≤ x ∧ x ≤ 2147483647) (hb : bs.length ≤ 1000000000) : Tr Tryz.prog 112 #[.pointer (some ⟨D, 0, none⟩), .int .i64 x] [] [blk D 146 [v, .bool false], own 5 1 v (bs : List UInt8).length ((bs : List UInt8).map vByte)]
 (TX (fun _ : Value => True) (fun _ => .tuple #[]) (fun v => [blk D 146 [v, .bool false], own 5 1 v ((bs ++ putM x) : List UInt8).length (((bs ++ putM x) : List UInt8).map vByte)])) := by
 have := wintR_any D false v bs x hb
 rwa [goodW hx] at this
theorem wtextR (D : Nat) (v : Value) (bs b : List UInt8) (hl : b.length ≤ 200) (hb : bs.length ≤ 900000000) : Tr Tryz.prog 113 #[.pointer (some ⟨D, 0, none⟩), .string (sB b)] [] [blk D 146 [v, .bool false], own 5 1 v (bs : List UInt8).length ((bs : List UInt8).map vByte)]
 (TX (fun _ : Value => True) (fun _ => .tuple #[]) (fun v => [blk D 146 [v, .bool false], own 5 1 v ((bs ++ bytesM b) : List UInt8).length (((bs ++ bytesM b) : List UInt8).map vByte)])) := by
 have := wtextR_tr D false v bs b hb (by omega)
 rwa [goodW ⟨by omega, by omega⟩] at this
set_option maxRecDepth 20000 in
set_option maxHeartbeats 4000000 in
theorem mwrite_tr {Pd : Nat → Prop} (D : Nat) (v : Value) (bs : List UInt8) (e : It) (d : Value) (hw : ItW e) (hb : bs.length ≤ 800000000) : Tr Tryz.prog 67 #[.pointer (some ⟨D, 0, none⟩), .agg #[.string (sB e.path), .int .i64 e.kind, .int .i64 e.mode, .int .i64 e.size, .string (sB e.to), d]] [slc rID Pd d e.ids] [blk D 134 [.bool true, .bool false, v], own 5 1 v (bs : List UInt8).length ((bs : List UInt8).map vByte)]
 (TX (fun _ : Value => True) (fun _ => .tuple #[]) (fun v => [blk D 134 [.bool true, .bool false, v], own 5 1 v ((bs ++ itB e) : List UInt8).length (((bs ++ itB e) : List UInt8).map vByte)])) := by
 refine Tr.of (l := [(0, .pointer (some ⟨D, 0, none⟩)), (1, .agg #[.string (sB e.path), .int .i64 e.kind, .int .i64 e.mode, .int .i64 e.size, .string (sB e.to), d])]) Tryz.func67 rfl (n := 42) rfl (.cons rfl (.cons rfl .nil)) (fun w0 hro => ?_)
 have hd := ro1 hro
 have h16 := Ro.all16 hd
 obtain ⟨ad, cap, bd, od, rfl, hcap, hmax, -, had, hel⟩ := Ro.open hd
 have s1 := sizeM_le e.kind
 have s2 := sizeM_le e.mode
 have s3 := sizeM_le e.size
 have s4 := sizeM_le (e.ids.length : Int)
 have s5 := bytesM_len' e.path
 have s6 := bytesM_len' e.to
 have s7 := hdT_len hw
 obtain ⟨w1, w2, w3, w4, w5, w6⟩ := hw
 refine go [9,10,60,18] ?_
 intro b3
 refine go [7,8,9,10,0,2,3,0,2,4] ?_
 refine G.op rfl (G.cS rfl rfl rfl rfl Tryz.func99 rfl rfl subT may0 (wtextF _ _ _ _ (by omega) Y9) apT ?_)
 intro x9 hJ
 try dsimp only at hJ
 try dsimp only
 refine go [7,8,9,10,0,2,3,1,2,4] ?_
 refine G.op rfl (G.cS rfl rfl rfl rfl Tryz.func66 rfl rfl subT may0 (wintF _ _ _ _ (by constructor <;> omega) Y9) apT ?_)
 intro x13 hJ
 try dsimp only at hJ
 try dsimp only
 refine go [7,8,9,10,0,2,3,2,2,4] ?_
 refine G.op rfl (G.cS rfl rfl rfl rfl Tryz.func66 rfl rfl subT may0 (wintF _ _ _ _ (by constructor <;> omega) Y9) apT ?_)
 intro x17 hJ
 try dsimp only at hJ
 try dsimp only
 refine go [7,8,9,10,0,2,3,3,2,4] ?_
 refine G.op rfl (G.cS rfl rfl rfl rfl Tryz.func66 rfl rfl subT may0 (wintF _ _ _ _ (by constructor <;> omega) Y9) apT ?_)
 intro x21 hJ
 try dsimp only at hJ
 try dsimp only
 refine go [7,8,9,10,0,2,3,4,2,4] ?_
 refine G.op rfl (G.cS rfl rfl rfl rfl Tryz.func99 rfl rfl subT may0 (wtextF _ _ _ _ (by omega) Y9) apT ?_)
 intro x25 hJ
 try dsimp only at hJ
 try dsimp only
 refine go [7,8,9,10,0,2,3,5,2,4,2,5] ?_
 refine G.op rfl (G.cS rfl rfl rfl rfl Tryz.func66 rfl rfl subT may0 (wintF _ _ _ _ (by constructor <;> omega) Y9) apT ?_)
 intro x30 hJ
 try dsimp only at hJ
 try dsimp only
 refine go [7,8,9,10,2,3,5,2,4,2,5,0,7,8,15] ?_
 rw [hdT_app, ← idsB_zero (bs ++ hdT e) e.ids]
 refine G.loopK (X := Nat × Value) (ts := [0, 32, 33]) (fun st => st.1 ≤ e.ids.length) (fun st => [(34, .int .i64 (st.1 : Int))]) (fun st => [blk D 134 [.bool true, .bool false, st.2], own 5 1 st.2 ((bs ++ hdT e ++ idsB e.ids st.1) : List UInt8).length (((bs ++ hdT e ++ idsB e.ids st.1) : List UInt8).map vByte)]) (fun st => e.ids.length - st.1) (x0 := (0, x30)) (.cons rfl (.cons rfl (.cons rfl .nil))) subT (.cons .nil) apT Y25 (.consE rfl veqT .nil) (fun st hJ => ?_)
 obtain ⟨q, vw⟩ := st
 try dsimp only at hJ
 try dsimp only
 have hkq := hJ
 have qj := idsB_len h16 q
 have qj1 := idsB_len h16 (q + 1)
 refine go [9,10,2,9,7,8,9] ?_
 refine G.condP rfl (fun h35 => ?_) (fun h35 => ?_)
 ·have hlq : q < e.ids.length := by omega
  obtain ⟨lq, rq⟩ := Ro.arr8 (hel q hlq)
  refine go [13,8,9,15,9,10,2,20,16] ?_
  refine G.op rfl (G.val rfl rfl (pv_loadN (cs := e.ids[q].map vByte) Tryz.underlying66 rfl Y12 rfl rq) ?_)
  refine go [60,11] ?_
  intro b5
  refine G.op rfl (G.storeN Y12 rfl rfl (List.all_eq_true.2 (vByte_one _)) selT (by simp [lq]) ?_)
  rw [putN_whole _ _ (by rw [List.length_map, lq]; rfl)]
  refine go [7,8,10,0] ?_
  refine G.op rfl (G.val rfl rfl (pv_loadN (cs := e.ids[q].map vByte) Tryz.underlying66 rfl Y12 rfl (blk_range (k := 16) selT (List.take_of_length_le Y10))) ?_)
  refine G.op rfl (G.cS rfl rfl rfl rfl Tryz.func100 rfl rfl subT may0 (wid_tr _ _ _ _ e.ids[q] lq Y9) apT ?_)
  intro x40 hJ
  try dsimp only at hJ
  try dsimp only
  rw [idsB_app (bs ++ hdT e) hlq]
  refine go [7,16,8,10,2,6,0,7] ?_
  exact G.next ((q + 1, x40)) Y17 (by (try dsimp only); omega) (.consE rfl veqT (.cons rfl (.cons rfl (.cons rfl .nil)))) subT
 obtain rfl : q = e.ids.length := by omega
 rw [itB_app]
 refine go [18,14,14,19] ?_
 exact G.doneXE (vw) trT rfl Y6 subT
end Go.Proofs.YtbfpbibkklfnfaaGreat
