/- Merged of TE, TF, TG. Conditions: none. -/
import Derived.Test.YtchgaedidfefoaaGg
/- Contracts of layer 8: which trees may be, by the program and by the reference. Conditions: none. -/
set_option linter.unusedVariables false
set_option linter.unusedSimpArgs false
namespace Go.Proofs.Ytchgaedidfefoaa
open Go.RowKit

/-- is an entry's parent there, ahead of it, as a directory? -/
def heldM (l : List En) (e : En) : Prop := (parentM e.path).2 = false ∨ ∃ x ∈ l, x.path = (parentM e.path).1 ∧ x.kind = 1
instance (l : List En) (e : En) : Decidable (heldM l e) := inferInstanceAs (Decidable (_ ∨ _))
/-- is the entry ahead not ahead? -/
def prevBad (es : List En) (i : Nat) : Prop := 0 < i ∧ match es[i - 1]?, es[i]? with
  | some p, some e => 0 ≤ compareM p.path e.path
  | _, _ => False
instance (es : List En) (i : Nat) : Decidable (prevBad es i) := by
  unfold prevBad
  cases es[i - 1]? <;> cases es[i]? <;> exact inferInstance
theorem prev_pos {es : List En} {i : Nat} (h0 : 0 < i) (h : i < es.length) : prevBad es i ↔ 0 ≤ compareM (es[i - 1]'(by omega)).path es[i].path := by
  unfold prevBad
  rw [List.getElem?_eq_getElem h, List.getElem?_eq_getElem (show i - 1 < es.length by omega)]
  simp [h0]
theorem prev_zero {es : List En} {i : Nat} (h0 : ¬ 0 < i) : ¬ prevBad es i := fun h => h0 h.1
/-- what is wrong with the i-th entry of a tree -/
def errT (es : List En) (i : Nat) : Int := match es[i]? with
  | none => 0
  | some e => if (if oneM e = 0 ∧ prevBad es i then 7 else oneM e) = 0 ∧ ¬ heldM (es.take i) e then 6 else (if oneM e = 0 ∧ prevBad es i then 7 else oneM e)
theorem errT_get {es : List En} {i : Nat} (h : i < es.length) : errT es i = if (if oneM es[i] = 0 ∧ prevBad es i then 7 else oneM es[i]) = 0 ∧ ¬ heldM (es.take i) es[i] then 6 else (if oneM es[i] = 0 ∧ prevBad es i then 7 else oneM es[i]) := by
  unfold errT
  rw [List.getElem?_eq_getElem h]
theorem err_one {es : List En} {i : Nat} (h : i < es.length) (h1 : ¬ oneM es[i] = 0) : errT es i = oneM es[i] := by
  rw [errT_get h, if_neg (fun k => by rw [if_neg (fun k => h1 k.1)] at k; exact h1 k.1), if_neg (fun k => h1 k.1)]
theorem err_prev {es : List En} {i : Nat} (h : i < es.length) (h1 : oneM es[i] = 0) (h2 : prevBad es i) : errT es i = 7 := by
  rw [errT_get h, if_neg (fun k => by rw [if_pos ⟨h1, h2⟩] at k; cases k.1), if_pos ⟨h1, h2⟩]
theorem err_held {es : List En} {i : Nat} (h : i < es.length) (h1 : oneM es[i] = 0) (h2 : ¬ prevBad es i) (h3 : ¬ heldM (es.take i) es[i]) : errT es i = 6 := by
  rw [errT_get h, if_pos ⟨by rw [if_neg (fun k => h2 k.2), h1], h3⟩]
theorem err_ok {es : List En} {i : Nat} (h : i < es.length) (h1 : oneM es[i] = 0) (h2 : ¬ prevBad es i) (h3 : heldM (es.take i) es[i]) : errT es i = 0 := by
  rw [errT_get h, if_neg (fun k => k.2 h3), if_neg (fun k => h2 k.2), h1]
theorem err_zero {es : List En} {i : Nat} (h : i < es.length) (h0 : errT es i = 0) : oneM es[i] = 0 ∧ ¬ prevBad es i ∧ heldM (es.take i) es[i] := by
  have a : oneM es[i] = 0 := Decidable.byContradiction fun k => by rw [err_one h k] at h0; exact k h0
  have b : ¬ prevBad es i := fun k => by rw [err_prev h a k] at h0; cases h0
  exact ⟨a, b, Decidable.byContradiction fun k => by rw [err_held h a b k] at h0; cases h0⟩
/-- what is wrong with a tree, and with which entry -/
def checkT (es : List En) : Int × Int := if 200 < es.length then (3, 0) else
  let k := (List.range es.length).findIdx fun i => ! decide (errT es i = 0)
  (errT es k, if errT es k = 0 then 0 else (k : Int))
theorem checkT_many {es : List En} (h : 200 < es.length) : checkT es = (3, 0) := if_pos h
theorem range_idx {p : Nat → Bool} {n i : Nat} (hi : i < n) (hp : p i = true) (h : ∀ q, q < i → p q = false) : (List.range n).findIdx p = i := by
  refine (List.findIdx_eq (by simpa using hi)).2 ⟨by simpa using hp, fun j hj => ?_⟩
  simpa using h j hj
theorem checkT_bad {es : List En} {i : Nat} {e : Int} (h200 : ¬ 200 < es.length) (hi : i < es.length) (h : ∀ q, q < i → errT es q = 0) (he : errT es i = e) (h0 : ¬ e = 0) : checkT es = (e, (i : Int)) := by
  unfold checkT
  rw [if_neg h200]
  have e1 : (List.range es.length).findIdx (fun i => ! decide (errT es i = 0)) = i := range_idx hi (by simp [he, h0]) (fun q hq => by simp [h q hq])
  simp only [e1, he, if_neg h0]
theorem checkT_ok {es : List En} (h200 : ¬ 200 < es.length) (h : ∀ q, q < es.length → errT es q = 0) : checkT es = (0, 0) := by
  unfold checkT
  rw [if_neg h200]
  have e1 : (List.range es.length).findIdx (fun i => ! decide (errT es i = 0)) = es.length := by
    have := List.findIdx_eq_length_of_false (p := fun i => ! decide (errT es i = 0)) (xs := List.range es.length) (fun x hx => by
      have := h x (by simpa using hx)
      simp [this])
    simpa using this
  have e2 : errT es es.length = 0 := by
    unfold errT
    rw [List.getElem?_eq_none (Nat.le_refl _)]
  simp only [e1, e2, if_true]
theorem checkT_zero {es : List En} (h : (checkT es).1 = 0) : es.length ≤ 200 ∧ (∀ q, q < es.length → errT es q = 0) ∧ checkT es = (0, 0) := by
  by_cases h200 : 200 < es.length
  · rw [checkT_many h200] at h
    cases h
  · have all : ∀ q, q < es.length → errT es q = 0 := by
      intro q
      induction q using Nat.strongRecOn with
      | _ q ih =>
        intro hq
        exact Decidable.byContradiction fun k => by
          rw [checkT_bad h200 hq (fun r hr => ih r hr (by omega)) rfl k] at h
          exact k h
    exact ⟨by omega, all, checkT_ok h200 all⟩
/-- a tree's beginning that may be is in order -/
theorem sort_take {es : List En} {i : Nat} (hi : i ≤ es.length) (h : ∀ q, q < i → errT es q = 0) : SortT (es.take i) := by
  have step : ∀ q (hq : q + 1 < i), compareM (es[q]'(by omega)).path (es[q + 1]'(by omega)).path = -1 := fun q hq => by
    have h1 := (err_zero (show q + 1 < es.length by omega) (h (q + 1) hq)).2.1
    rw [prev_pos (by omega) (by omega)] at h1
    have := compareM_ord.rng (es[q]'(by omega)).path (es[q + 1]'(by omega)).path
    simp only [Nat.add_sub_cancel] at h1
    omega
  have all : ∀ r q (hr : r < i) (hqr : q < r), compareM (es[q]'(by omega)).path (es[r]'(by omega)).path = -1 := by
    intro r
    induction r with
    | zero => intro q hr hq; omega
    | succ r ih =>
      intro q hr hq
      rcases Nat.lt_or_ge q r with h1 | h1
      · exact compareM_ord.trans _ _ _ (ih q (by omega) h1) (step r hr)
      · obtain rfl : q = r := by omega
        exact step q hr
  refine List.pairwise_iff_getElem.2 fun q r hq hr hqr => ?_
  simp only [List.length_take] at hq hr
  rw [List.getElem_take, List.getElem_take]
  exact all r q (by omega) hqr
theorem sort_all {es : List En} (h : ∀ q, q < es.length → errT es q = 0) : SortT es := by
  have := sort_take (Nat.le_refl _) h
  rwa [List.take_length] at this
theorem placeK_spec {es : List En} (hs : SortT es) {s : List UInt8} (h : isAt es s) : ∃ hk : placeK es s < es.length, es[placeK es s].path = s := by
  obtain ⟨e, he, rfl⟩ := h
  obtain ⟨j, hj, rfl⟩ := List.getElem_of_mem he
  have hp : placeK es es[j].path = j := placeK_at (by omega) (fun q hq hqj => by rw [cmp_lt_iff]; exact (List.pairwise_iff_getElem.1 hs) q j hq hj hqj) (fun q hq hjq => by
    rcases Nat.lt_or_ge j q with h1 | h1
    · have h2 := (List.pairwise_iff_getElem.1 hs) j q hj hq h1
      have := compareM_ord.anti es[j].path es[q].path
      omega
    · obtain rfl : j = q := by omega
      rw [(compareM_ord.zero _ _).2 rfl]
      omega)
  refine ⟨by omega, ?_⟩
  simp only [hp]
theorem sort_inj {es : List En} (hs : SortT es) {a b : En} (ha : a ∈ es) (hb : b ∈ es) (h : a.path = b.path) : a = b := by
  obtain ⟨i, hi, rfl⟩ := List.getElem_of_mem ha
  obtain ⟨j, hj, rfl⟩ := List.getElem_of_mem hb
  have hz : compareM es[i].path es[j].path = 0 := (compareM_ord.zero _ _).2 h
  rcases Nat.lt_trichotomy i j with h1 | h1 | h1
  · have := (List.pairwise_iff_getElem.1 hs) i j hi hj h1
    omega
  · subst h1
    rfl
  · have h2 := (List.pairwise_iff_getElem.1 hs) j i hj hi h1
    have := compareM_ord.anti es[i].path es[j].path
    omega
theorem held_none {l : List En} {e : En} (h : (parentM e.path).2 = true) (h2 : ¬ isAt l (parentM e.path).1) : ¬ heldM l e := fun k => by
  rcases k with k | ⟨x, hx, k1, k2⟩
  · rw [h] at k
    cases k
  · exact h2 ⟨x, hx, k1⟩
theorem held_kind {l : List En} {e : En} (hs : SortT l) (h : (parentM e.path).2 = true) (h2 : isAt l (parentM e.path).1) {x : En} (hx : l[placeK l (parentM e.path).1]? = some x) : heldM l e ↔ x.kind = 1 := by
  obtain ⟨hk, hp⟩ := placeK_spec hs h2
  rw [List.getElem?_eq_getElem hk] at hx
  injection hx with hx
  constructor
  · rintro (k | ⟨y, hy, k1, k2⟩)
    · rw [h] at k
      cases k
    · have : x = y := sort_inj hs (hx ▸ List.getElem_mem hk) hy (by rw [← hx, hp, k1])
      rw [this]
      exact k2
  · intro k
    exact .inr ⟨x, hx ▸ List.getElem_mem hk, by rw [← hx, hp], k⟩
theorem Ro.takeT {α : Type} {E : Rdr α} {w0 : World} {S Ps : Nat → Prop} {ad : Option Addr} {len cap i : Nat} {xs : List α} (h : Ro w0 S (slc E Ps (.slice ad len cap) xs)) (hi : i ≤ xs.length) : Ro w0 S (slc E Ps (.slice ad i cap) (xs.take i)) := by
  have := Ro.sub h (Nat.zero_le i) hi
  rwa [subV_zero, List.drop_zero] at this
theorem ens_take (xs : List ET) (i : Nat) : ens (xs.take i) = (ens xs).take i := by simp [ens, List.map_take]
theorem ens_at {xs : List ET} {i : Nat} (h : i < xs.length) : (ens xs)[i]? = some xs[i].1 := by simp [ens, h]
set_option maxRecDepth 20000 in
set_option maxHeartbeats 4000000 in

theorem tcheck_tr {Ps : Nat → Prop} (v : Value) (xs : List ET) : Tr Try.prog 11 #[v] [slc rEV Ps v xs] [] (T0 (.tuple #[.int .i64 (checkT (ens xs)).1, .int .i64 (checkT (ens xs)).2])) := by
  refine Tr.of (l := [(0, v)]) Try.func11 rfl (n := 69) rfl (.cons rfl .nil) (fun w0 hro => ?_)
  have hv := ro1 hro
  have hv' := hv
  obtain ⟨av, cv, bv, fv, rfl, hcapv, hmaxv, hnilv, hadv, helv⟩ := Ro.openT hv
  have hel' := ens_length xs
  refine G.seq ?_
  refine G.region ?_
  refine G.op rfl (G.val rfl rfl (pv_assign rfl) ?_)
  refine G.op rfl (G.val rfl rfl (pv_assign rfl) ?_)
  refine G.nil ?_
  refine G.nThen ?_
  refine G.seq ?_
  refine G.seq ?_
  refine G.region ?_
  refine G.op rfl (G.val rfl rfl (pv_move rfl) ?_)
  refine G.op rfl (G.val rfl rfl (pv_lenSl Try.underlying22 rfl) ?_)
  refine G.op rfl (G.val rfl rfl (pv_gtr rfl rfl) ?_)
  refine G.nil ?_
  refine G.nThen ?_
  refine G.condP rfl (fun h13 => ?_) (fun h13 => ?_)
  · refine G.seq ?_
    refine G.region ?_
    refine G.op rfl (G.val rfl rfl (pv_assign rfl) ?_)
    refine G.op rfl (G.val rfl rfl (pv_assign rfl) ?_)
    refine G.nil ?_
    refine G.nThen ?_
    refine G.ret ?_
    refine G.rThen ?_
    exact G.done0G rfl (Rv.tmp rfl (Rv.tmp rfl Rv.nil)) (by rw [checkT_many (by omega)]; rfl)
  · refine G.skip ?_
    refine G.nThen ?_
    refine G.seq ?_
    refine G.seq ?_
    refine G.region ?_
    refine G.op rfl (G.val rfl rfl (pv_move rfl) ?_)
    refine G.op rfl (G.val rfl rfl (pv_lenSl Try.underlying22 rfl) ?_)
    refine G.op rfl (G.val rfl rfl (pv_move rfl) ?_)
    refine G.nil ?_
    refine G.nThen ?_
    refine G.block ?_
    refine G.loopK (X := Nat) (ts := [0, 14, 15]) (fun i => i ≤ xs.length ∧ (∀ q, q < i → errT (ens xs) q = 0)) (fun i => [(16, .int .i64 (i : Int))]) (fun i => []) (fun i => xs.length - i) (x0 := 0) (.cons rfl (.cons rfl (.cons rfl .nil))) (by repeat (first | exact Sub.nil | (apply Sub.cons; (repeat (first | with_reducible exact Sel.here | exact Sel.here | apply Sel.there))))) (.cons .nil) (by repeat (first | exact Ap.nil | apply Ap.cons)) (by first | exact trivial | ((try dsimp only); exact ⟨Nat.zero_le _, fun q h => absurd h (by omega)⟩)) (.consE rfl (by first | rfl | exact int_eq (by first | omega | (dsimp only; omega)) | exact congrArg _ (by omega)) .nil) (fun i hJ => ?_)
    try dsimp only at hJ
    try dsimp only
    obtain ⟨hki, hJ⟩ := hJ
    refine G.seq ?_
    refine G.region ?_
    refine G.op rfl (G.val rfl rfl (pv_lss rfl rfl) ?_)
    refine G.nil ?_
    refine G.nThen ?_
    refine G.seq ?_
    refine G.condP rfl (fun h17 => ?_) (fun h17 => ?_)
    · have hJ0 := hJ
      have hlt : i < xs.length := by omega
      have hlt' : i < (ens xs).length := by omega
      have hg := ens_get hlt
      have hso := sort_take (es := ens xs) (i := i) (by omega) hJ
      have hTk := Ro.takeT hv' (i := i) (by omega)
      have hEv := helv i hlt
      have hRv := Ro.evRng hEv
      have hDv := Ro.evDat hEv
      obtain ⟨hk1v, hk2v, hlpv, hldv, hltv⟩ := Ro.evOk hEv
      have hCv := Ro.one1 hDv
      refine G.skip ?_
      refine G.nThen ?_
      refine G.seq ?_
      refine G.block ?_
      refine G.seq ?_
      refine G.region ?_
      refine G.op rfl (G.val rfl rfl (pv_move rfl) ?_)
      refine G.op rfl (G.val rfl rfl (pv_ixSl (sz := 5) Try.underlying22 (by kernel_rfl) rfl rfl (by first | with_reducible assumption | assumption | exact fun _ => rfl) rfl (by omega)) ?_)
      refine G.op rfl (G.val rfl rfl (pv_loadN (cs := [_, _, _, _, _]) Try.underlying31 rfl (by kernel_rfl) rfl (by first | exact blk_range (k := 5) (by (repeat (first | with_reducible exact Sel.here | exact Sel.here | apply Sel.there)); done) (by rfl) | exact ro_rng0 (by assumption) | exact rng_range (k := 5) (by (repeat (first | with_reducible exact Sel.here | exact Sel.here | apply Sel.there)); done) (by rfl) | exact ro_range (k := 5) (by assumption) (by rfl) | exact ro_rngR (k := 5) (by assumption) (by rfl))) ?_)
      refine G.op rfl (G.alloc (z := .agg #[.string ⟨#[]⟩, .int .i64 0, .int .i64 0, .slice none 0 0, .string ⟨#[]⟩]) (cs := [.string ⟨#[]⟩, .int .i64 0, .int .i64 0, .slice none 0 0, .string ⟨#[]⟩]) rfl (by kernel_rfl) rfl ?_)
      intro b5
      refine G.op rfl (G.val rfl rfl (pv_assign rfl) ?_)
      refine G.op rfl (G.storeN (by kernel_rfl) rfl rfl (by first | exact (all1_cons (by first | rfl | with_reducible assumption) (all1_cons (by first | rfl | with_reducible assumption) (all1_cons (by first | rfl | with_reducible assumption) (all1_cons (by first | rfl | with_reducible assumption) (all1_cons (by first | rfl | with_reducible assumption) all1_nil))))) | exact List.all_eq_true.2 (vByte_one _) | rfl) (by repeat (first | with_reducible exact Sel.here | exact Sel.here | apply Sel.there)) (by first | (simp; done) | exact Nat.le_of_ble_eq_true rfl) ?_)
      refine G.nil ?_
      refine G.nThen ?_
      refine G.seq ?_
      refine G.seq ?_
      refine G.region ?_
      refine G.op rfl (G.val rfl rfl (pv_loadN (cs := [_, _, _, _, _]) Try.underlying31 rfl (by kernel_rfl) rfl (by first | exact blk_range (k := 5) (by (repeat (first | with_reducible exact Sel.here | exact Sel.here | apply Sel.there)); done) (by rfl) | exact ro_rng0 (by assumption) | exact rng_range (k := 5) (by (repeat (first | with_reducible exact Sel.here | exact Sel.here | apply Sel.there)); done) (by rfl) | exact ro_range (k := 5) (by assumption) (by rfl) | exact ro_rngR (k := 5) (by assumption) (by rfl))) ?_)
      refine G.op rfl (G.cR rfl rfl rfl rfl Try.func39 rfl rfl (may1 (by first | (apply May.old; first | with_reducible assumption | assumption) | (apply Sel.may; (repeat (first | with_reducible exact Sel.here | exact Sel.here | apply Sel.there)); done) | (apply may_own; (repeat (first | with_reducible exact Sel.here | exact Sel.here | apply Sel.there)); exact rfl; exact (fun _ _ => trivial); done) | (apply may_ownB; (repeat (first | with_reducible exact Sel.here | exact Sel.here | apply Sel.there)); done) | (apply may_tree; (repeat (first | with_reducible exact Sel.here | exact Sel.here | apply Sel.there)); (repeat (first | with_reducible exact Sel.here | exact Sel.here | apply Sel.there)); assumption; done))) (one_tr _ _ (by omega)) ?_)
      refine G.op rfl (G.val rfl rfl (pv_assign rfl) ?_)
      refine G.nil ?_
      refine G.nThen ?_
      refine G.seq ?_
      refine G.region ?_
      refine G.op rfl (G.val rfl rfl (pv_move rfl) ?_)
      refine G.op rfl (G.val rfl rfl (pv_neq rfl rfl) ?_)
      refine G.nil ?_
      refine G.nThen ?_
      refine G.condP rfl (fun h24 => ?_) (fun h24 => ?_)
      · refine G.seq ?_
        refine G.region ?_
        refine G.op rfl (G.val rfl rfl (pv_move rfl) ?_)
        refine G.op rfl (G.val rfl rfl (pv_move rfl) ?_)
        refine G.op rfl (G.val rfl rfl (pv_assign rfl) ?_)
        refine G.op rfl (G.val rfl rfl (pv_assign rfl) ?_)
        refine G.nil ?_
        refine G.nThen ?_
        refine G.ret ?_
        refine G.rThen ?_
        refine G.rBlock ?_
        refine G.rThen ?_
        refine G.rThen ?_
        refine G.rBlock ?_
        refine G.rThen ?_
        exact G.done0G rfl (Rv.tmp rfl (Rv.tmp rfl Rv.nil)) (by rw [checkT_bad (by omega) hlt' hJ0 (err_one hlt' (by rw [hg]; assumption)) (by rw [hg]; assumption), hg]; rfl)
      · have h1 : oneM (ens xs)[i] = 0 := by rw [hg]; omega
        refine G.skip ?_
        refine G.nThen ?_
        refine G.seq ?_
        refine G.seq ?_
        refine G.cutK (X := Unit) (ts := [0, 4, 5, 14, 15, 16]) (p := []) (fun _ => True) (fun _ => [(40, .bool (decide (prevBad (ens xs) i)))]) (fun _ => []) (.cons rfl (.cons rfl (.cons rfl (.cons rfl (.cons rfl (.cons rfl .nil)))))) (by repeat (first | exact Sub.nil | (apply Sub.cons; (repeat (first | with_reducible exact Sel.here | exact Sel.here | apply Sel.there))))) (.cons .nil) (by repeat (first | exact Ap.nil | apply Ap.cons)) ?_ ?_
        · refine G.drawT (nn := 14) (p := []) (rem := 16383) [0, 1, 2, 4, 4, 20, 44, 68, 132, 4, 516, 1284, 2052, 4100] [0, 1, 2, 4, 4, 20, 44, 68, 132, 4, 516, 1284, 2052, 4100] (by kernel_rfl) ⟨rfl, by kernel_rfl, by kernel_rfl⟩ (by repeat (first | exact Sub.nil | (apply Sub.cons; (repeat (first | with_reducible exact Sel.here | exact Sel.here | apply Sel.there))))) (by kernel_rfl) (fun hT9 => ?_)
          refine G.takeT hT9 (i := 0) (rem' := 16382) rfl rfl rfl (by kernel_rfl) (fun _ _ _ h => h) rfl (pv_move rfl) (by repeat (first | exact Sub.nil | (apply Sub.cons; (repeat (first | with_reducible exact Sel.here | exact Sel.here | apply Sel.there))))) ?_
          refine G.takeT hT9 (i := 1) (rem' := 16380) rfl rfl rfl (by kernel_rfl) (fun _ _ _ h => h) rfl (pv_gtr rfl rfl) (by repeat (first | exact Sub.nil | (apply Sub.cons; (repeat (first | with_reducible exact Sel.here | exact Sel.here | apply Sel.there))))) ?_
          refine G.takeT hT9 (i := 2) (rem' := 16376) rfl rfl rfl (by kernel_rfl) (fun _ _ _ h => h) rfl (pv_move rfl) (by repeat (first | exact Sub.nil | (apply Sub.cons; (repeat (first | with_reducible exact Sel.here | exact Sel.here | apply Sel.there))))) ?_
          refine G.partP (t := 29) rfl (fun h29 => ?_) (fun h29 => ?_)
          · have hi0 : 0 < i := by omega
            have hEp := helv (i - 1) (by omega)
            have hRp := Ro.evRng hEp
            have hDp := Ro.evDat hEp
            obtain ⟨hk1p, hk2p, hlpp, hldp, hltp⟩ := Ro.evOk hEp
            have hCp := Ro.one1 hDp
            have hpv := prev_pos hi0 hlt'
            rw [hg, ens_get (show i - 1 < xs.length by omega)] at hpv
            refine G.takeT hT9 (i := 3) (rem' := 16368) rfl rfl rfl (by kernel_rfl) (fun _ _ _ h => h) rfl (pv_move rfl) (by repeat (first | exact Sub.nil | (apply Sub.cons; (repeat (first | with_reducible exact Sel.here | exact Sel.here | apply Sel.there))))) ?_
            refine G.takeT hT9 (i := 4) (rem' := 16352) rfl rfl rfl (by kernel_rfl) (fun _ _ _ h => h) rfl (pv_move rfl) (by repeat (first | exact Sub.nil | (apply Sub.cons; (repeat (first | with_reducible exact Sel.here | exact Sel.here | apply Sel.there))))) ?_
            refine G.takeT hT9 (i := 5) (rem' := 16320) rfl rfl rfl (by kernel_rfl) (fun _ _ _ h => h) rfl (pv_sub64 rfl rfl (by omega)) (by repeat (first | exact Sub.nil | (apply Sub.cons; (repeat (first | with_reducible exact Sel.here | exact Sel.here | apply Sel.there))))) ?_
            refine G.takeT hT9 (i := 6) (rem' := 16256) rfl rfl rfl (by kernel_rfl) (fun _ _ _ h => h) rfl (pv_ixSl (sz := 5) (k := i - 1) Try.underlying22 (by kernel_rfl) rfl rfl (by first | with_reducible assumption | assumption) (by omega) (by omega)) (by repeat (first | exact Sub.nil | (apply Sub.cons; (repeat (first | with_reducible exact Sel.here | exact Sel.here | apply Sel.there))))) ?_
            refine G.takeT hT9 (i := 7) (rem' := 16128) rfl rfl rfl (by kernel_rfl) (fun _ _ _ h => h) rfl (pv_fieldAddrK (sz := 0) (k := 0) Try.underlying31 rfl (by kernel_rfl) rfl rfl) (by repeat (first | exact Sub.nil | (apply Sub.cons; (repeat (first | with_reducible exact Sel.here | exact Sel.here | apply Sel.there))))) ?_
            refine G.takeT hT9 (i := 8) (rem' := 15872) rfl rfl rfl (by kernel_rfl) (fun _ _ _ h => h) rfl (pv_load Try.underlying9 rfl rfl (by first | exact blk_cell (by (repeat (first | with_reducible exact Sel.here | exact Sel.here | apply Sel.there)); done) (by rfl) | exact rng_cell (by (repeat (first | with_reducible exact Sel.here | exact Sel.here | apply Sel.there)); done) (by rfl) | exact ro_blk (by assumption) (by rfl) | exact ro_rngC (by assumption) (by rfl) | exact ro_int (by assumption) | exact ro_byte (by assumption) | exact ro_str (by assumption) | with_reducible assumption | assumption)) (by repeat (first | exact Sub.nil | (apply Sub.cons; (repeat (first | with_reducible exact Sel.here | exact Sel.here | apply Sel.there))))) ?_
            refine G.takeT hT9 (i := 9) (rem' := 15360) rfl rfl rfl (by kernel_rfl) (fun _ _ _ h => h) rfl (pv_fieldAddrK (sz := 0) (k := 0) Try.underlying31 rfl (by kernel_rfl) rfl rfl) (by repeat (first | exact Sub.nil | (apply Sub.cons; (repeat (first | with_reducible exact Sel.here | exact Sel.here | apply Sel.there))))) ?_
            refine G.oneT hT9 (i := 10) (rem' := 14336) (by kernel_rfl) (by kernel_rfl) ?_
            refine G.turnOp rfl rfl (G.val rfl rfl (pv_load Try.underlying9 rfl rfl (by first | exact blk_cell (by (repeat (first | with_reducible exact Sel.here | exact Sel.here | apply Sel.there)); done) (by rfl) | exact rng_cell (by (repeat (first | with_reducible exact Sel.here | exact Sel.here | apply Sel.there)); done) (by rfl) | exact ro_blk (by assumption) (by rfl) | exact ro_rngC (by assumption) (by rfl) | exact ro_int (by assumption) | exact ro_byte (by assumption) | exact ro_str (by assumption) | with_reducible assumption | assumption)) ?_)
            refine G.back (by repeat (first | exact Sub.nil | (apply Sub.cons; (repeat (first | with_reducible exact Sel.here | exact Sel.here | apply Sel.there))))) ?_
            refine G.oneT hT9 (i := 11) (rem' := 12288) (by kernel_rfl) (by kernel_rfl) ?_
            refine G.turnOp rfl rfl (G.cR rfl rfl rfl rfl Try.func17 rfl rfl may0 (compare_tr _ _ (by omega) (by omega)) ?_)
            refine G.back (by repeat (first | exact Sub.nil | (apply Sub.cons; (repeat (first | with_reducible exact Sel.here | exact Sel.here | apply Sel.there))))) ?_
            refine G.takeT hT9 (i := 12) (rem' := 8192) rfl rfl rfl (by kernel_rfl) (fun _ _ _ h => h) rfl (pv_geq rfl rfl) (by repeat (first | exact Sub.nil | (apply Sub.cons; (repeat (first | with_reducible exact Sel.here | exact Sel.here | apply Sel.there))))) ?_
            refine G.takeT hT9 (i := 13) (rem' := 0) rfl rfl rfl (by kernel_rfl) (fun _ _ _ h => h) rfl (pv_pick rfl rfl) (by repeat (first | exact Sub.nil | (apply Sub.cons; (repeat (first | with_reducible exact Sel.here | exact Sel.here | apply Sel.there))))) ?_
            refine G.overT hT9 (by kernel_rfl) ?_
            exact G.meet (()) (by first | exact trivial | ((try dsimp only); exact trivial)) (.consE rfl (dec_e hpv.symm) (.cons rfl (.cons rfl (.cons rfl (.cons rfl (.cons rfl (.cons rfl .nil))))))) (by repeat (first | exact Sub.nil | (apply Sub.cons; (repeat (first | with_reducible exact Sel.here | exact Sel.here | apply Sel.there)))))
          · refine G.takeFT hT9 (i := 3) (rem' := 16368) rfl rfl rfl (by kernel_rfl) (fun _ _ _ h => h) rfl (by repeat (first | exact Sub.nil | (apply Sub.cons; (repeat (first | with_reducible exact Sel.here | exact Sel.here | apply Sel.there))))) ?_
            refine G.takeFT hT9 (i := 4) (rem' := 16352) rfl rfl rfl (by kernel_rfl) (fun _ _ _ h => h) rfl (by repeat (first | exact Sub.nil | (apply Sub.cons; (repeat (first | with_reducible exact Sel.here | exact Sel.here | apply Sel.there))))) ?_
            refine G.takeFT hT9 (i := 5) (rem' := 16320) rfl rfl rfl (by kernel_rfl) (fun _ _ _ h => h) rfl (by repeat (first | exact Sub.nil | (apply Sub.cons; (repeat (first | with_reducible exact Sel.here | exact Sel.here | apply Sel.there))))) ?_
            refine G.takeFT hT9 (i := 6) (rem' := 16256) rfl rfl rfl (by kernel_rfl) (fun _ _ _ h => h) rfl (by repeat (first | exact Sub.nil | (apply Sub.cons; (repeat (first | with_reducible exact Sel.here | exact Sel.here | apply Sel.there))))) ?_
            refine G.takeFT hT9 (i := 7) (rem' := 16128) rfl rfl rfl (by kernel_rfl) (fun _ _ _ h => h) rfl (by repeat (first | exact Sub.nil | (apply Sub.cons; (repeat (first | with_reducible exact Sel.here | exact Sel.here | apply Sel.there))))) ?_
            refine G.takeFT hT9 (i := 8) (rem' := 15872) rfl rfl rfl (by kernel_rfl) (fun _ _ _ h => h) rfl (by repeat (first | exact Sub.nil | (apply Sub.cons; (repeat (first | with_reducible exact Sel.here | exact Sel.here | apply Sel.there))))) ?_
            refine G.takeFT hT9 (i := 9) (rem' := 15360) rfl rfl rfl (by kernel_rfl) (fun _ _ _ h => h) rfl (by repeat (first | exact Sub.nil | (apply Sub.cons; (repeat (first | with_reducible exact Sel.here | exact Sel.here | apply Sel.there))))) ?_
            refine G.takeFT hT9 (i := 10) (rem' := 14336) rfl rfl rfl (by kernel_rfl) (fun _ _ _ h => h) rfl (by repeat (first | exact Sub.nil | (apply Sub.cons; (repeat (first | with_reducible exact Sel.here | exact Sel.here | apply Sel.there))))) ?_
            refine G.takeFT hT9 (i := 11) (rem' := 12288) rfl rfl rfl (by kernel_rfl) (fun _ _ _ h => h) rfl (by repeat (first | exact Sub.nil | (apply Sub.cons; (repeat (first | with_reducible exact Sel.here | exact Sel.here | apply Sel.there))))) ?_
            refine G.takeFT hT9 (i := 12) (rem' := 8192) rfl rfl rfl (by kernel_rfl) (fun _ _ _ h => h) rfl (by repeat (first | exact Sub.nil | (apply Sub.cons; (repeat (first | with_reducible exact Sel.here | exact Sel.here | apply Sel.there))))) ?_
            refine G.takeT hT9 (i := 13) (rem' := 0) rfl rfl rfl (by kernel_rfl) (fun _ _ _ h => h) rfl (pv_pick rfl rfl) (by repeat (first | exact Sub.nil | (apply Sub.cons; (repeat (first | with_reducible exact Sel.here | exact Sel.here | apply Sel.there))))) ?_
            refine G.overT hT9 (by kernel_rfl) ?_
            exact G.meet (()) (by first | exact trivial | ((try dsimp only); exact trivial)) (.consE rfl (dec_f (prev_zero (by omega))) (.cons rfl (.cons rfl (.cons rfl (.cons rfl (.cons rfl (.cons rfl .nil))))))) (by repeat (first | exact Sub.nil | (apply Sub.cons; (repeat (first | with_reducible exact Sel.here | exact Sel.here | apply Sel.there)))))
        · intro _ hJ
          try dsimp only at hJ
          try dsimp only
          refine G.condP rfl (fun h40 => ?_) (fun h40 => ?_)
          · refine G.seq ?_
            refine G.region ?_
            refine G.op rfl (G.val rfl rfl (pv_move rfl) ?_)
            refine G.op rfl (G.val rfl rfl (pv_assign rfl) ?_)
            refine G.op rfl (G.val rfl rfl (pv_assign rfl) ?_)
            refine G.nil ?_
            refine G.nThen ?_
            refine G.ret ?_
            refine G.rThen ?_
            refine G.rBlock ?_
            refine G.rThen ?_
            refine G.rThen ?_
            refine G.rBlock ?_
            refine G.rThen ?_
            exact G.done0G rfl (Rv.tmp rfl (Rv.tmp rfl Rv.nil)) (by rw [checkT_bad (by omega) hlt' hJ0 (err_prev hlt' h1 (by assumption)) (by omega)]; rfl)
          · refine G.skip ?_
            refine G.nThen ?_
            refine G.seq ?_
            refine G.region ?_
            refine G.op rfl (G.val rfl rfl (pv_fieldAddrK (sz := 0) (k := 0) Try.underlying31 rfl (by kernel_rfl) rfl rfl) ?_)
            refine G.op rfl (G.val rfl rfl (pv_load Try.underlying9 rfl rfl (by first | exact blk_cell (by (repeat (first | with_reducible exact Sel.here | exact Sel.here | apply Sel.there)); done) (by rfl) | exact rng_cell (by (repeat (first | with_reducible exact Sel.here | exact Sel.here | apply Sel.there)); done) (by rfl) | exact ro_blk (by assumption) (by rfl) | exact ro_rngC (by assumption) (by rfl) | exact ro_int (by assumption) | exact ro_byte (by assumption) | exact ro_str (by assumption) | with_reducible assumption | assumption)) ?_)
            refine G.op rfl (G.cR rfl rfl rfl rfl Try.func15 rfl rfl may0 (parent_tr _ (by omega)) ?_)
            have hpl := parentM_len xs[i].1.path
            refine G.op rfl (G.val rfl rfl (pv_move rfl) ?_)
            refine G.op rfl (G.val rfl rfl (pv_extract rfl rfl) ?_)
            refine G.op rfl (G.val rfl rfl (pv_extract rfl rfl) ?_)
            refine G.op rfl (G.val rfl rfl (pv_assign rfl) ?_)
            refine G.op rfl (G.val rfl rfl (pv_assign rfl) ?_)
            refine G.nil ?_
            refine G.nThen ?_
            refine G.seq ?_
            refine G.region ?_
            refine G.op rfl (G.val rfl rfl (pv_move rfl) ?_)
            refine G.nil ?_
            refine G.nThen ?_
            refine G.cond rfl (fun h48 => ?_) (fun h48 => ?_)
            · have hpt : (parentM (ens xs)[i].path).2 = true := by rw [hg]; exact h48
              refine G.seq ?_
              refine G.region ?_
              refine G.op rfl (G.val rfl rfl (pv_move rfl) ?_)
              refine G.op rfl (G.val rfl rfl (pv_move rfl) ?_)
              refine G.op rfl (G.val rfl rfl (pv_subH (sz := 5) (k := i) Try.underlying22 (by kernel_rfl) rfl rfl rfl (by omega)) ?_)
              refine G.op rfl (G.val rfl rfl (pv_move rfl) ?_)
              refine G.op rfl (G.cR rfl rfl rfl rfl Try.func40 rfl rfl (may1 (by first | (apply May.old; first | with_reducible assumption | assumption) | (apply Sel.may; (repeat (first | with_reducible exact Sel.here | exact Sel.here | apply Sel.there)); done) | (apply may_own; (repeat (first | with_reducible exact Sel.here | exact Sel.here | apply Sel.there)); exact rfl; exact (fun _ _ => trivial); done) | (apply may_ownB; (repeat (first | with_reducible exact Sel.here | exact Sel.here | apply Sel.there)); done) | (apply may_tree; (repeat (first | with_reducible exact Sel.here | exact Sel.here | apply Sel.there)); (repeat (first | with_reducible exact Sel.here | exact Sel.here | apply Sel.there)); assumption; done))) (place_tr _ (xs.take i) _ (by rw [List.length_take]; omega) (by rw [ens_take]; exact hso) (by omega)) ?_)
              rw [ens_take]
              refine G.op rfl (G.val rfl rfl (pv_move rfl) ?_)
              refine G.op rfl (G.val rfl rfl (pv_extract rfl rfl) ?_)
              refine G.op rfl (G.val rfl rfl (pv_extract rfl rfl) ?_)
              refine G.op rfl (G.val rfl rfl (pv_assign rfl) ?_)
              refine G.op rfl (G.val rfl rfl (pv_assign rfl) ?_)
              refine G.nil ?_
              refine G.nThen ?_
              refine G.seq ?_
              refine G.cutK (X := Unit) (ts := [0, 4, 14, 15, 16]) (p := []) (fun _ => True) (fun _ => [(66, .bool (decide (¬ heldM ((ens xs).take i) (ens xs)[i])))]) (fun _ => []) (.cons rfl (.cons rfl (.cons rfl (.cons rfl (.cons rfl .nil))))) (by repeat (first | exact Sub.nil | (apply Sub.cons; (repeat (first | with_reducible exact Sel.here | exact Sel.here | apply Sel.there))))) (.cons .nil) (by repeat (first | exact Ap.nil | apply Ap.cons)) ?_ ?_
              · refine G.region ?_
                refine G.op rfl (G.val rfl rfl (pv_move rfl) ?_)
                refine G.op rfl (G.val rfl rfl (pv_notP rfl) ?_)
                refine G.op rfl (G.val rfl rfl (pv_move rfl) ?_)
                refine G.partP (t := 59) rfl (fun h59 => ?_) (fun h59 => ?_)
                · have hnh : ¬ heldM ((ens xs).take i) (ens xs)[i] := held_none hpt (by rw [hg]; assumption)
                  refine G.pass rfl rfl rfl rfl rfl rfl ?_
                  refine G.pass rfl rfl rfl rfl rfl rfl ?_
                  refine G.pass rfl rfl rfl rfl rfl rfl ?_
                  refine G.pass rfl rfl rfl rfl rfl rfl ?_
                  refine G.pass rfl rfl rfl rfl rfl rfl ?_
                  refine G.pass rfl rfl rfl rfl rfl rfl ?_
                  refine G.op rfl (G.val rfl rfl (pv_pick rfl rfl) ?_)
                  refine G.nil ?_
                  exact G.meet (()) (by first | exact trivial | ((try dsimp only); exact trivial)) (.consE rfl (dec_t hnh) (.cons rfl (.cons rfl (.cons rfl (.cons rfl (.cons rfl .nil)))))) (by repeat (first | exact Sub.nil | (apply Sub.cons; (repeat (first | with_reducible exact Sel.here | exact Sel.here | apply Sel.there)))))
                · have hat : isAt ((ens xs).take i) (parentM xs[i].1.path).1 := Decidable.of_not_not (by assumption)
                  obtain ⟨hkl, -⟩ := placeK_spec hso hat
                  rw [List.length_take] at hkl
                  obtain ⟨k, hk⟩ : ∃ k, placeK ((ens xs).take i) (parentM xs[i].1.path).1 = k := ⟨_, rfl⟩
                  have hkk := held_kind hso hpt (x := (xs[k]'(by omega)).1) (by rw [hg]; exact hat) (by rw [hg, hk, List.getElem?_take_of_lt (by omega)]; exact ens_at (by omega))
                  rw [hk] at hkl ⊢
                  have hEk := helv k (by omega)
                  have hRk := Ro.evRng hEk
                  have hDk := Ro.evDat hEk
                  obtain ⟨hk1k, hk2k, hlpk, hldk, hltk⟩ := Ro.evOk hEk
                  have hCk := Ro.one1 hDk
                  refine G.want rfl rfl rfl (G.val rfl rfl (pv_move rfl) ?_)
                  refine G.want rfl rfl rfl (G.val rfl rfl (pv_move rfl) ?_)
                  refine G.want rfl rfl rfl (G.val rfl rfl (pv_ixSl (sz := 5) (k := k) Try.underlying22 (by kernel_rfl) rfl rfl (by first | with_reducible assumption | assumption) (by omega) (by omega)) ?_)
                  refine G.want rfl rfl rfl (G.val rfl rfl (pv_fieldAddrK (sz := 0) (k := 1) Try.underlying31 rfl (by kernel_rfl) rfl rfl) ?_)
                  refine G.want rfl rfl rfl (G.val rfl rfl (pv_load Try.underlying3 rfl rfl (by first | exact blk_cell (by (repeat (first | with_reducible exact Sel.here | exact Sel.here | apply Sel.there)); done) (by rfl) | exact rng_cell (by (repeat (first | with_reducible exact Sel.here | exact Sel.here | apply Sel.there)); done) (by rfl) | exact ro_blk (by assumption) (by rfl) | exact ro_rngC (by assumption) (by rfl) | exact ro_int (by assumption) | exact ro_byte (by assumption) | exact ro_str (by assumption) | with_reducible assumption | assumption)) ?_)
                  refine G.want rfl rfl rfl (G.val rfl rfl (pv_neq rfl rfl) ?_)
                  refine G.op rfl (G.val rfl rfl (pv_pick rfl rfl) ?_)
                  refine G.nil ?_
                  exact G.meet (()) (by first | exact trivial | ((try dsimp only); exact trivial)) (.consE rfl (dec_e (not_congr hkk.symm)) (.cons rfl (.cons rfl (.cons rfl (.cons rfl (.cons rfl .nil)))))) (by repeat (first | exact Sub.nil | (apply Sub.cons; (repeat (first | with_reducible exact Sel.here | exact Sel.here | apply Sel.there)))))
              · intro _ hJ
                try dsimp only at hJ
                try dsimp only
                refine G.condP rfl (fun h66 => ?_) (fun h66 => ?_)
                · refine G.seq ?_
                  refine G.region ?_
                  refine G.op rfl (G.val rfl rfl (pv_move rfl) ?_)
                  refine G.op rfl (G.val rfl rfl (pv_assign rfl) ?_)
                  refine G.op rfl (G.val rfl rfl (pv_assign rfl) ?_)
                  refine G.nil ?_
                  refine G.nThen ?_
                  refine G.ret ?_
                  refine G.rBlock ?_
                  refine G.rThen ?_
                  refine G.rThen ?_
                  refine G.rBlock ?_
                  refine G.rThen ?_
                  exact G.done0G rfl (Rv.tmp rfl (Rv.tmp rfl Rv.nil)) (by rw [checkT_bad (by omega) hlt' hJ0 (err_held hlt' h1 (by assumption) (by assumption)) (by omega)]; rfl)
                · have hok0 : errT (ens xs) i = 0 := err_ok hlt' h1 (by assumption) (Decidable.of_not_not (by assumption))
                  refine G.skip ?_
                  refine G.nBlock ?_
                  refine G.nThen ?_
                  refine G.region ?_
                  refine G.op rfl (G.val rfl rfl (pv_add64 rfl rfl (by omega)) ?_)
                  refine G.op rfl (G.val rfl rfl (pv_move rfl) ?_)
                  refine G.nil ?_
                  exact G.next (i + 1) (by first | exact trivial | ((try dsimp only); exact ⟨by omega, fun q hq => by rcases Nat.lt_or_ge q i with h1 | h1; exact hJ0 q h1; obtain rfl : q = i := (by omega); exact hok0⟩)) (by (try dsimp only); omega) (.consE rfl (by first | rfl | exact int_eq (by first | omega | (dsimp only; omega)) | exact congrArg _ (by omega)) (.cons rfl (.cons rfl (.cons rfl .nil)))) (by repeat (first | exact Sub.nil | (apply Sub.cons; (repeat (first | with_reducible exact Sel.here | exact Sel.here | apply Sel.there)))))
            · have hok0 : errT (ens xs) i = 0 := err_ok hlt' h1 (by assumption) (.inl (by rw [hg]; exact h48))
              refine G.skip ?_
              refine G.nBlock ?_
              refine G.nThen ?_
              refine G.region ?_
              refine G.op rfl (G.val rfl rfl (pv_add64 rfl rfl (by omega)) ?_)
              refine G.op rfl (G.val rfl rfl (pv_move rfl) ?_)
              refine G.nil ?_
              exact G.next (i + 1) (by first | exact trivial | ((try dsimp only); exact ⟨by omega, fun q hq => by rcases Nat.lt_or_ge q i with h1 | h1; exact hJ0 q h1; obtain rfl : q = i := (by omega); exact hok0⟩)) (by (try dsimp only); omega) (.consE rfl (by first | rfl | exact int_eq (by first | omega | (dsimp only; omega)) | exact congrArg _ (by omega)) (.cons rfl (.cons rfl (.cons rfl .nil)))) (by repeat (first | exact Sub.nil | (apply Sub.cons; (repeat (first | with_reducible exact Sel.here | exact Sel.here | apply Sel.there)))))
    · refine G.exit ?_
      refine G.eThen ?_
      refine G.eThen ?_
      refine G.eBlock ?_
      refine G.nThen ?_
      refine G.seq ?_
      refine G.region ?_
      refine G.op rfl (G.val rfl rfl (pv_assign rfl) ?_)
      refine G.op rfl (G.val rfl rfl (pv_assign rfl) ?_)
      refine G.nil ?_
      refine G.nThen ?_
      refine G.ret ?_
      exact G.done0G rfl (Rv.tmp rfl (Rv.tmp rfl Rv.nil)) (by rw [checkT_ok (by omega) (fun q hq => hJ q (by omega))]; rfl)
end Go.Proofs.Ytchgaedidfefoaa

/- Contracts of layer 8: the reference's Check, what is at a path, sizes, whether trees are the same. Conditions: the sizes' trees are of at most a thousand entries. -/
set_option linter.unusedVariables false
set_option linter.unusedSimpArgs false
namespace Go.Proofs.Ytchgaedidfefoaa
open Go.RowKit

/-- the place of a path; -1: there is none -/
def atM (es : List En) (s : List UInt8) : Int := if isAt es s then (es.findIdx fun e => decide (e.path = s) : Nat) else -1
theorem at_bad {es : List En} {s : List UInt8} {i : Nat} (hi : i < es.length) (h : ∀ q (hq : q < es.length), q < i → ¬ es[q].path = s) (he : es[i].path = s) : atM es s = (i : Int) := by
  unfold atM
  rw [if_pos ⟨es[i], List.getElem_mem hi, he⟩]
  congr 1
  exact (List.findIdx_eq hi).2 ⟨by simpa using he, fun j hj => by simpa using h j (by omega) hj⟩
theorem at_none {es : List En} {s : List UInt8} (h : ∀ q (hq : q < es.length), ¬ es[q].path = s) : atM es s = -1 := by
  unfold atM
  rw [if_neg]
  rintro ⟨e, he, h2⟩
  obtain ⟨j, hj, rfl⟩ := List.getElem_of_mem he
  exact h j hj h2
def sizeM (es : List En) : Nat := (es.map fun e => e.data.length).sum
def totM (es : List En) : Nat := (es.map fun e => e.path.length + e.data.length + e.to.length).sum
theorem sum_take_succ (f : En → Nat) {es : List En} {i : Nat} (h : i < es.length) : ((es.take (i + 1)).map f).sum = ((es.take i).map f).sum + f es[i] := by
  rw [List.take_succ_eq_append_getElem h, List.map_append, List.sum_append]
  simp
theorem sizeM_succ {xs : List ET} {i : Nat} (h : i < xs.length) : sizeM ((ens xs).take (i + 1)) = sizeM ((ens xs).take i) + xs[i].1.data.length := by
  unfold sizeM
  rw [sum_take_succ _ (by rw [ens_length]; exact h), ens_get h]
theorem totM_succ {xs : List ET} {i : Nat} (h : i < xs.length) : totM ((ens xs).take (i + 1)) = totM ((ens xs).take i) + (xs[i].1.path.length + xs[i].1.data.length + xs[i].1.to.length) := by
  unfold totM
  rw [sum_take_succ _ (by rw [ens_length]; exact h), ens_get h]
theorem ens_eq {xs ys : List ET} (hl : xs.length = ys.length) (h : ∀ q (hq : q < xs.length), xs[q].1 = (ys[q]'(by omega)).1) : ens xs = ens ys := by
  apply List.ext_getElem
  · rw [ens_length, ens_length, hl]
  · intro i h1 h2
    rw [ens_length] at h1
    rw [ens_get h1, ens_get (by omega)]
    exact h i h1
theorem ens_ne {xs ys : List ET} {i : Nat} (hx : i < xs.length) (hy : i < ys.length) (h : xs[i].1 ≠ ys[i].1) : ¬ ens xs = ens ys := fun e => by
  have h1 := ens_get hx
  have h2 := ens_get hy
  simp only [e] at h1
  exact h (h1.symm.trans h2)
theorem ens_len_ne {xs ys : List ET} (h : ¬ (xs.length : Int) = ys.length) : ¬ ens xs = ens ys := fun e => h (by
  have := congrArg List.length e
  rw [ens_length, ens_length] at this
  omega)
theorem heldNo {es : List En} {e : En} (h : (parentM e.path).2 = true) (h2 : ∀ q (hq : q < es.length), ¬ (es[q].path = (parentM e.path).1 ∧ es[q].kind = 1)) : ¬ heldM es e := by
  rintro (k | ⟨x, hx, k⟩)
  · rw [h] at k
    cases k
  · obtain ⟨j, hj, rfl⟩ := List.getElem_of_mem hx
    exact h2 j hj k
set_option maxRecDepth 20000 in
set_option maxHeartbeats 4000000 in

theorem held_tr {Ps Pd : Nat → Prop} (v : Value) (xs : List ET) (e : En) (d : Value) (hl : e.path.length ≤ 9223372036854775807) : Tr Try.prog 50 #[v, .agg #[.string (sB e.path), .int .i64 e.kind, .int .i64 e.mode, d, .string (sB e.to)]] [slc rEV Ps v xs, slc rByte Pd d e.data] [] (T0 (.bool (decide (heldM (ens xs) e)))) := by
  refine Tr.of (l := [(0, v), (1, .agg #[.string (sB e.path), .int .i64 e.kind, .int .i64 e.mode, d, .string (sB e.to)])]) Try.func50 rfl (n := 37) rfl (.cons rfl (.cons rfl .nil)) (fun w0 hro => ?_)
  obtain ⟨hv0, hd0⟩ := ro2 hro
  have hv := hv0
  have hv' := hv
  obtain ⟨av, cv, bv, fv, rfl, hcapv, hmaxv, hnilv, hadv, helv⟩ := Ro.openT hv
  have hel' := ens_length xs
  refine G.seq ?_
  refine G.region ?_
  refine G.op rfl (G.box rfl rfl (cs := [_, _, _, _, _]) rfl ?_)
  intro b3
  refine G.op rfl (G.val rfl rfl (pv_assign rfl) ?_)
  refine G.nil ?_
  refine G.nThen ?_
  refine G.seq ?_
  refine G.region ?_
  refine G.op rfl (G.val rfl rfl (pv_fieldAddrK (sz := 0) (k := 0) Try.underlying31 rfl (by kernel_rfl) rfl rfl) ?_)
  refine G.op rfl (G.val rfl rfl (pv_load Try.underlying9 rfl rfl (by first | exact blk_cell (by (repeat (first | with_reducible exact Sel.here | exact Sel.here | apply Sel.there)); done) (by rfl) | exact rng_cell (by (repeat (first | with_reducible exact Sel.here | exact Sel.here | apply Sel.there)); done) (by rfl) | exact ro_blk (by assumption) (by rfl) | exact ro_rngC (by assumption) (by rfl) | exact ro_int (by assumption) | exact ro_byte (by assumption) | exact ro_str (by assumption) | with_reducible assumption | assumption)) ?_)
  refine G.op rfl (G.cR rfl rfl rfl rfl Try.func71 rfl rfl may0 (parentR_tr _ (by omega)) ?_)
  refine G.op rfl (G.val rfl rfl (pv_move rfl) ?_)
  refine G.op rfl (G.val rfl rfl (pv_extract rfl rfl) ?_)
  refine G.op rfl (G.val rfl rfl (pv_extract rfl rfl) ?_)
  refine G.op rfl (G.val rfl rfl (pv_assign rfl) ?_)
  refine G.op rfl (G.val rfl rfl (pv_assign rfl) ?_)
  refine G.nil ?_
  refine G.nThen ?_
  refine G.seq ?_
  refine G.seq ?_
  refine G.region ?_
  refine G.op rfl (G.val rfl rfl (pv_move rfl) ?_)
  refine G.op rfl (G.val rfl rfl (pv_not rfl) ?_)
  refine G.nil ?_
  refine G.nThen ?_
  refine G.cond rfl (fun h15 => ?_) (fun h15 => ?_)
  · refine G.seq ?_
    refine G.region ?_
    refine G.op rfl (G.val rfl rfl (pv_assign rfl) ?_)
    refine G.nil ?_
    refine G.nThen ?_
    refine G.ret ?_
    refine G.rThen ?_
    exact G.done0G rfl (Rv.tmp rfl Rv.nil) (by rw [decide_eq_true (show heldM (ens xs) e from .inl (by simpa using h15))]; rfl)
  · have hpt : (parentM e.path).2 = true := by simpa using h15
    refine G.skip ?_
    refine G.nThen ?_
    refine G.seq ?_
    refine G.seq ?_
    refine G.region ?_
    refine G.op rfl (G.val rfl rfl (pv_assign rfl) ?_)
    refine G.nil ?_
    refine G.nThen ?_
    refine G.block ?_
    refine G.loopK (X := Nat) (ts := [0, 5]) (fun i => i ≤ xs.length ∧ (∀ q (hq : q < xs.length), q < i → ¬ (xs[q].1.path = (parentM e.path).1 ∧ xs[q].1.kind = 1))) (fun i => [(7, .int .i64 (i : Int))]) (fun i => []) (fun i => xs.length - i) (x0 := 0) (.cons rfl (.cons rfl .nil)) (by repeat (first | exact Sub.nil | (apply Sub.cons; (repeat (first | with_reducible exact Sel.here | exact Sel.here | apply Sel.there))))) (.cons .nil) (by repeat (first | exact Ap.nil | apply Ap.cons)) (by first | exact trivial | ((try dsimp only); exact ⟨Nat.zero_le _, fun q _ h => absurd h (by omega)⟩)) (.consE rfl (by first | rfl | exact int_eq (by first | omega | (dsimp only; omega)) | exact congrArg _ (by omega)) .nil) (fun i hJ => ?_)
    try dsimp only at hJ
    try dsimp only
    obtain ⟨hki, hJ⟩ := hJ
    refine G.seq ?_
    refine G.seq ?_
    refine G.region ?_
    refine G.op rfl (G.val rfl rfl (pv_move rfl) ?_)
    refine G.op rfl (G.val rfl rfl (pv_move rfl) ?_)
    refine G.op rfl (G.val rfl rfl (pv_lenSl Try.underlying22 rfl) ?_)
    refine G.op rfl (G.val rfl rfl (pv_lss rfl rfl) ?_)
    refine G.nil ?_
    refine G.nThen ?_
    refine G.condP rfl (fun h19 => ?_) (fun h19 => ?_)
    · have hJ0 := hJ
      have hlt : i < xs.length := by omega
      have hEv := helv i hlt
      have hRv := Ro.evRng hEv
      have hDv := Ro.evDat hEv
      obtain ⟨hk1v, hk2v, hlpv, hldv, hltv⟩ := Ro.evOk hEv
      have hCv := Ro.one1 hDv
      refine G.skip ?_
      refine G.nThen ?_
      refine G.seq ?_
      refine G.block ?_
      refine G.seq ?_
      refine G.cutK (X := Unit) (ts := [0, 5, 7]) (p := []) (fun _ => True) (fun _ => [(36, .bool (decide (xs[i].1.path = (parentM e.path).1 ∧ xs[i].1.kind = 1)))]) (fun _ => []) (.cons rfl (.cons rfl (.cons rfl .nil))) (by repeat (first | exact Sub.nil | (apply Sub.cons; (repeat (first | with_reducible exact Sel.here | exact Sel.here | apply Sel.there))))) (.cons .nil) (by repeat (first | exact Ap.nil | apply Ap.cons)) ?_ ?_
      · refine G.region ?_
        refine G.op rfl (G.val rfl rfl (pv_move rfl) ?_)
        refine G.op rfl (G.val rfl rfl (pv_move rfl) ?_)
        refine G.op rfl (G.val rfl rfl (pv_ixSl (sz := 5) Try.underlying22 (by kernel_rfl) rfl rfl (by first | with_reducible assumption | assumption | exact fun _ => rfl) rfl (by omega)) ?_)
        refine G.op rfl (G.val rfl rfl (pv_fieldAddrK (sz := 0) (k := 0) Try.underlying31 rfl (by kernel_rfl) rfl rfl) ?_)
        refine G.op rfl (G.val rfl rfl (pv_load Try.underlying9 rfl rfl (by first | exact blk_cell (by (repeat (first | with_reducible exact Sel.here | exact Sel.here | apply Sel.there)); done) (by rfl) | exact rng_cell (by (repeat (first | with_reducible exact Sel.here | exact Sel.here | apply Sel.there)); done) (by rfl) | exact ro_blk (by assumption) (by rfl) | exact ro_rngC (by assumption) (by rfl) | exact ro_int (by assumption) | exact ro_byte (by assumption) | exact ro_str (by assumption) | with_reducible assumption | assumption)) ?_)
        refine G.op rfl (G.val rfl rfl (pv_move rfl) ?_)
        refine G.op rfl (G.val rfl rfl (pv_eqlS rfl rfl) ?_)
        refine G.op rfl (G.val rfl rfl (pv_move rfl) ?_)
        refine G.partP (t := 29) rfl (fun h29 => ?_) (fun h29 => ?_)
        · refine G.want rfl rfl rfl (G.val rfl rfl (pv_move rfl) ?_)
          refine G.want rfl rfl rfl (G.val rfl rfl (pv_move rfl) ?_)
          refine G.want rfl rfl rfl (G.val rfl rfl (pv_ixSl (sz := 5) Try.underlying22 (by kernel_rfl) rfl rfl (by first | with_reducible assumption | assumption | exact fun _ => rfl) rfl (by omega)) ?_)
          refine G.want rfl rfl rfl (G.val rfl rfl (pv_fieldAddrK (sz := 0) (k := 1) Try.underlying31 rfl (by kernel_rfl) rfl rfl) ?_)
          refine G.want rfl rfl rfl (G.val rfl rfl (pv_load Try.underlying3 rfl rfl (by first | exact blk_cell (by (repeat (first | with_reducible exact Sel.here | exact Sel.here | apply Sel.there)); done) (by rfl) | exact rng_cell (by (repeat (first | with_reducible exact Sel.here | exact Sel.here | apply Sel.there)); done) (by rfl) | exact ro_blk (by assumption) (by rfl) | exact ro_rngC (by assumption) (by rfl) | exact ro_int (by assumption) | exact ro_byte (by assumption) | exact ro_str (by assumption) | with_reducible assumption | assumption)) ?_)
          refine G.want rfl rfl rfl (G.val rfl rfl (pv_eql rfl rfl) ?_)
          refine G.op rfl (G.val rfl rfl (pv_pick rfl rfl) ?_)
          refine G.nil ?_
          exact G.meet (()) (by first | exact trivial | ((try dsimp only); exact trivial)) (.consE rfl (dec_e (by simp_all)) (.cons rfl (.cons rfl (.cons rfl .nil)))) (by repeat (first | exact Sub.nil | (apply Sub.cons; (repeat (first | with_reducible exact Sel.here | exact Sel.here | apply Sel.there)))))
        · refine G.pass rfl rfl rfl rfl rfl rfl ?_
          refine G.pass rfl rfl rfl rfl rfl rfl ?_
          refine G.pass rfl rfl rfl rfl rfl rfl ?_
          refine G.pass rfl rfl rfl rfl rfl rfl ?_
          refine G.pass rfl rfl rfl rfl rfl rfl ?_
          refine G.pass rfl rfl rfl rfl rfl rfl ?_
          refine G.op rfl (G.val rfl rfl (pv_pick rfl rfl) ?_)
          refine G.nil ?_
          exact G.meet (()) (by first | exact trivial | ((try dsimp only); exact trivial)) (.consE rfl (dec_f (by simp_all)) (.cons rfl (.cons rfl (.cons rfl .nil)))) (by repeat (first | exact Sub.nil | (apply Sub.cons; (repeat (first | with_reducible exact Sel.here | exact Sel.here | apply Sel.there)))))
      · intro _ hJ
        try dsimp only at hJ
        try dsimp only
        refine G.condP rfl (fun h36 => ?_) (fun h36 => ?_)
        · refine G.seq ?_
          refine G.region ?_
          refine G.op rfl (G.val rfl rfl (pv_assign rfl) ?_)
          refine G.nil ?_
          refine G.nThen ?_
          refine G.ret ?_
          refine G.rBlock ?_
          refine G.rThen ?_
          refine G.rThen ?_
          refine G.rBlock ?_
          refine G.rThen ?_
          exact G.done0G rfl (Rv.tmp rfl Rv.nil) (by rw [decide_eq_true (show heldM (ens xs) e from .inr ⟨xs[i].1, List.mem_map.2 ⟨_, List.getElem_mem hlt, rfl⟩, h36⟩)]; rfl)
        · have hno := h36
          refine G.skip ?_
          refine G.nBlock ?_
          refine G.nThen ?_
          refine G.region ?_
          refine G.op rfl (G.val rfl rfl (pv_move rfl) ?_)
          refine G.op rfl (G.val rfl rfl (pv_add64 rfl rfl (by omega)) ?_)
          refine G.op rfl (G.val rfl rfl (pv_assign rfl) ?_)
          refine G.nil ?_
          exact G.next (i + 1) (by first | exact trivial | ((try dsimp only); exact ⟨by omega, fun q hq hqi => by rcases Nat.lt_or_ge q i with h1 | h1; exact hJ0 q hq h1; obtain rfl : q = i := (by omega); exact hno⟩)) (by (try dsimp only); omega) (.consE rfl (by first | rfl | exact int_eq (by first | omega | (dsimp only; omega)) | exact congrArg _ (by omega)) (.cons rfl (.cons rfl .nil))) (by repeat (first | exact Sub.nil | (apply Sub.cons; (repeat (first | with_reducible exact Sel.here | exact Sel.here | apply Sel.there)))))
    · refine G.exit ?_
      refine G.eThen ?_
      refine G.eThen ?_
      refine G.eBlock ?_
      refine G.nThen ?_
      refine G.seq ?_
      refine G.region ?_
      refine G.op rfl (G.val rfl rfl (pv_assign rfl) ?_)
      refine G.nil ?_
      refine G.nThen ?_
      refine G.ret ?_
      exact G.done0G rfl (Rv.tmp rfl Rv.nil) (by rw [decide_eq_false (heldNo hpt (fun q hq => by rw [ens_get (by omega)]; exact hJ q (by omega) (by omega)))]; rfl)
set_option maxRecDepth 20000 in
set_option maxHeartbeats 4000000 in

theorem at_tr {Ps : Nat → Prop} (v : Value) (xs : List ET) (s : List UInt8) : Tr Try.prog 51 #[v, .string (sB s)] [slc rEV Ps v xs] [] (T0 (.int .i64 (atM (ens xs) s))) := by
  refine Tr.of (l := [(0, v), (1, .string (sB s))]) Try.func51 rfl (n := 20) rfl (.cons rfl (.cons rfl .nil)) (fun w0 hro => ?_)
  have hv := ro1 hro
  have hv' := hv
  obtain ⟨av, cv, bv, fv, rfl, hcapv, hmaxv, hnilv, hadv, helv⟩ := Ro.openT hv
  have hel' := ens_length xs
  refine G.seq ?_
  refine G.region ?_
  refine G.op rfl (G.val rfl rfl (pv_assign rfl) ?_)
  refine G.nil ?_
  refine G.nThen ?_
  refine G.seq ?_
  refine G.seq ?_
  refine G.region ?_
  refine G.op rfl (G.val rfl rfl (pv_assign rfl) ?_)
  refine G.nil ?_
  refine G.nThen ?_
  refine G.block ?_
  refine G.loopK (X := Nat) (ts := [0, 1]) (fun i => i ≤ xs.length ∧ (∀ q (hq : q < xs.length), q < i → ¬ xs[q].1.path = s)) (fun i => [(5, .int .i64 (i : Int))]) (fun i => []) (fun i => xs.length - i) (x0 := 0) (.cons rfl (.cons rfl .nil)) (by repeat (first | exact Sub.nil | (apply Sub.cons; (repeat (first | with_reducible exact Sel.here | exact Sel.here | apply Sel.there))))) (.cons .nil) (by repeat (first | exact Ap.nil | apply Ap.cons)) (by first | exact trivial | ((try dsimp only); exact ⟨Nat.zero_le _, fun q _ h => absurd h (by omega)⟩)) (.consE rfl (by first | rfl | exact int_eq (by first | omega | (dsimp only; omega)) | exact congrArg _ (by omega)) .nil) (fun i hJ => ?_)
  try dsimp only at hJ
  try dsimp only
  obtain ⟨hki, hJ⟩ := hJ
  refine G.seq ?_
  refine G.seq ?_
  refine G.region ?_
  refine G.op rfl (G.val rfl rfl (pv_move rfl) ?_)
  refine G.op rfl (G.val rfl rfl (pv_move rfl) ?_)
  refine G.op rfl (G.val rfl rfl (pv_lenSl Try.underlying22 rfl) ?_)
  refine G.op rfl (G.val rfl rfl (pv_lss rfl rfl) ?_)
  refine G.nil ?_
  refine G.nThen ?_
  refine G.condP rfl (fun h9 => ?_) (fun h9 => ?_)
  · have hlt : i < xs.length := by omega
    have hEv := helv i hlt
    have hRv := Ro.evRng hEv
    have hDv := Ro.evDat hEv
    obtain ⟨hk1v, hk2v, hlpv, hldv, hltv⟩ := Ro.evOk hEv
    have hCv := Ro.one1 hDv
    refine G.skip ?_
    refine G.nThen ?_
    refine G.seq ?_
    refine G.block ?_
    refine G.seq ?_
    refine G.region ?_
    refine G.op rfl (G.val rfl rfl (pv_move rfl) ?_)
    refine G.op rfl (G.val rfl rfl (pv_move rfl) ?_)
    refine G.op rfl (G.val rfl rfl (pv_ixSl (sz := 5) Try.underlying22 (by kernel_rfl) rfl rfl (by first | with_reducible assumption | assumption | exact fun _ => rfl) rfl (by omega)) ?_)
    refine G.op rfl (G.val rfl rfl (pv_fieldAddrK (sz := 0) (k := 0) Try.underlying31 rfl (by kernel_rfl) rfl rfl) ?_)
    refine G.op rfl (G.val rfl rfl (pv_load Try.underlying9 rfl rfl (by first | exact blk_cell (by (repeat (first | with_reducible exact Sel.here | exact Sel.here | apply Sel.there)); done) (by rfl) | exact rng_cell (by (repeat (first | with_reducible exact Sel.here | exact Sel.here | apply Sel.there)); done) (by rfl) | exact ro_blk (by assumption) (by rfl) | exact ro_rngC (by assumption) (by rfl) | exact ro_int (by assumption) | exact ro_byte (by assumption) | exact ro_str (by assumption) | with_reducible assumption | assumption)) ?_)
    refine G.op rfl (G.val rfl rfl (pv_move rfl) ?_)
    refine G.op rfl (G.val rfl rfl (pv_eqlS rfl rfl) ?_)
    refine G.nil ?_
    refine G.nThen ?_
    refine G.condP rfl (fun h18 => ?_) (fun h18 => ?_)
    · refine G.seq ?_
      refine G.region ?_
      refine G.op rfl (G.val rfl rfl (pv_move rfl) ?_)
      refine G.op rfl (G.val rfl rfl (pv_assign rfl) ?_)
      refine G.nil ?_
      refine G.nThen ?_
      refine G.ret ?_
      refine G.rBlock ?_
      refine G.rThen ?_
      refine G.rThen ?_
      refine G.rBlock ?_
      refine G.rThen ?_
      exact G.done0G rfl (Rv.tmp rfl Rv.nil) (by rw [at_bad (i := i) (by omega) (fun q hq hqi => by rw [ens_get (by omega)]; exact hJ q (by omega) hqi) (by rw [ens_get hlt]; assumption)]; rfl)
    · refine G.skip ?_
      refine G.nBlock ?_
      refine G.nThen ?_
      refine G.region ?_
      refine G.op rfl (G.val rfl rfl (pv_move rfl) ?_)
      refine G.op rfl (G.val rfl rfl (pv_add64 rfl rfl (by omega)) ?_)
      refine G.op rfl (G.val rfl rfl (pv_assign rfl) ?_)
      refine G.nil ?_
      exact G.next (i + 1) (by first | exact trivial | ((try dsimp only); exact ⟨by omega, fun q hq hqi => by rcases Nat.lt_or_ge q i with h1 | h1; exact hJ q hq h1; obtain rfl : q = i := (by omega); assumption⟩)) (by (try dsimp only); omega) (.consE rfl (by first | rfl | exact int_eq (by first | omega | (dsimp only; omega)) | exact congrArg _ (by omega)) (.cons rfl (.cons rfl .nil))) (by repeat (first | exact Sub.nil | (apply Sub.cons; (repeat (first | with_reducible exact Sel.here | exact Sel.here | apply Sel.there)))))
  · refine G.exit ?_
    refine G.eThen ?_
    refine G.eThen ?_
    refine G.eBlock ?_
    refine G.nThen ?_
    refine G.seq ?_
    refine G.region ?_
    refine G.op rfl (G.val rfl rfl (pv_assign rfl) ?_)
    refine G.nil ?_
    refine G.nThen ?_
    refine G.ret ?_
    exact G.done0G rfl (Rv.tmp rfl Rv.nil) (by rw [at_none (fun q hq => by rw [ens_get (by omega)]; exact hJ q (by omega) (by omega))]; rfl)
set_option maxRecDepth 20000 in
set_option maxHeartbeats 4000000 in

theorem tcheckR_tr {Ps : Nat → Prop} (v : Value) (xs : List ET) : Tr Try.prog 19 #[v] [slc rEV Ps v xs] [] (T0 (.tuple #[.int .i64 (checkT (ens xs)).1, .int .i64 (checkT (ens xs)).2])) := by
  refine Tr.of (l := [(0, v)]) Try.func19 rfl (n := 58) rfl (.cons rfl .nil) (fun w0 hro => ?_)
  have hv := ro1 hro
  have hv' := hv
  obtain ⟨av, cv, bv, fv, rfl, hcapv, hmaxv, hnilv, hadv, helv⟩ := Ro.openT hv
  have hel' := ens_length xs
  refine G.seq ?_
  refine G.region ?_
  refine G.op rfl (G.val rfl rfl (pv_assign rfl) ?_)
  refine G.op rfl (G.val rfl rfl (pv_assign rfl) ?_)
  refine G.nil ?_
  refine G.nThen ?_
  refine G.seq ?_
  refine G.seq ?_
  refine G.region ?_
  refine G.op rfl (G.val rfl rfl (pv_move rfl) ?_)
  refine G.op rfl (G.val rfl rfl (pv_lenSl Try.underlying22 rfl) ?_)
  refine G.op rfl (G.val rfl rfl (pv_gtr rfl rfl) ?_)
  refine G.nil ?_
  refine G.nThen ?_
  refine G.condP rfl (fun h8 => ?_) (fun h8 => ?_)
  · refine G.seq ?_
    refine G.region ?_
    refine G.op rfl (G.val rfl rfl (pv_assign rfl) ?_)
    refine G.op rfl (G.val rfl rfl (pv_assign rfl) ?_)
    refine G.nil ?_
    refine G.nThen ?_
    refine G.ret ?_
    refine G.rThen ?_
    exact G.done0G rfl (Rv.tmp rfl (Rv.tmp rfl Rv.nil)) (by rw [checkT_many (by omega)]; rfl)
  · refine G.skip ?_
    refine G.nThen ?_
    refine G.seq ?_
    refine G.seq ?_
    refine G.region ?_
    refine G.op rfl (G.val rfl rfl (pv_assign rfl) ?_)
    refine G.nil ?_
    refine G.nThen ?_
    refine G.block ?_
    refine G.loopK (X := Nat) (ts := [0]) (fun i => i ≤ xs.length ∧ (∀ q, q < i → errT (ens xs) q = 0)) (fun i => [(4, .int .i64 (i : Int))]) (fun i => []) (fun i => xs.length - i) (x0 := 0) (.cons rfl .nil) (by repeat (first | exact Sub.nil | (apply Sub.cons; (repeat (first | with_reducible exact Sel.here | exact Sel.here | apply Sel.there))))) (.cons .nil) (by repeat (first | exact Ap.nil | apply Ap.cons)) (by first | exact trivial | ((try dsimp only); exact ⟨Nat.zero_le _, fun q h => absurd h (by omega)⟩)) (.consE rfl (by first | rfl | exact int_eq (by first | omega | (dsimp only; omega)) | exact congrArg _ (by omega)) .nil) (fun i hJ => ?_)
    try dsimp only at hJ
    try dsimp only
    obtain ⟨hki, hJ⟩ := hJ
    refine G.seq ?_
    refine G.seq ?_
    refine G.region ?_
    refine G.op rfl (G.val rfl rfl (pv_move rfl) ?_)
    refine G.op rfl (G.val rfl rfl (pv_move rfl) ?_)
    refine G.op rfl (G.val rfl rfl (pv_lenSl Try.underlying22 rfl) ?_)
    refine G.op rfl (G.val rfl rfl (pv_lss rfl rfl) ?_)
    refine G.nil ?_
    refine G.nThen ?_
    refine G.condP rfl (fun h12 => ?_) (fun h12 => ?_)
    · have hJ0 := hJ
      have hlt : i < xs.length := by omega
      have hlt' : i < (ens xs).length := by omega
      have hg := ens_get hlt
      have hTk := Ro.takeT hv' (i := i) (by omega)
      have heq := errT_get hlt'
      rw [hg] at heq
      have hEv := helv i hlt
      have hRv := Ro.evRng hEv
      have hDv := Ro.evDat hEv
      obtain ⟨hk1v, hk2v, hlpv, hldv, hltv⟩ := Ro.evOk hEv
      have hCv := Ro.one1 hDv
      refine G.skip ?_
      refine G.nThen ?_
      refine G.seq ?_
      refine G.block ?_
      refine G.seq ?_
      refine G.region ?_
      refine G.op rfl (G.val rfl rfl (pv_move rfl) ?_)
      refine G.op rfl (G.val rfl rfl (pv_move rfl) ?_)
      refine G.op rfl (G.val rfl rfl (pv_ixSl (sz := 5) Try.underlying22 (by kernel_rfl) rfl rfl (by first | with_reducible assumption | assumption | exact fun _ => rfl) rfl (by omega)) ?_)
      refine G.op rfl (G.val rfl rfl (pv_loadN (cs := [_, _, _, _, _]) Try.underlying31 rfl (by kernel_rfl) rfl (by first | exact blk_range (k := 5) (by (repeat (first | with_reducible exact Sel.here | exact Sel.here | apply Sel.there)); done) (by rfl) | exact ro_rng0 (by assumption) | exact rng_range (k := 5) (by (repeat (first | with_reducible exact Sel.here | exact Sel.here | apply Sel.there)); done) (by rfl) | exact ro_range (k := 5) (by assumption) (by rfl) | exact ro_rngR (k := 5) (by assumption) (by rfl))) ?_)
      refine G.op rfl (G.cR rfl rfl rfl rfl Try.func48 rfl rfl (may1 (by first | (apply May.old; first | with_reducible assumption | assumption) | (apply Sel.may; (repeat (first | with_reducible exact Sel.here | exact Sel.here | apply Sel.there)); done) | (apply may_own; (repeat (first | with_reducible exact Sel.here | exact Sel.here | apply Sel.there)); exact rfl; exact (fun _ _ => trivial); done) | (apply may_ownB; (repeat (first | with_reducible exact Sel.here | exact Sel.here | apply Sel.there)); done) | (apply may_tree; (repeat (first | with_reducible exact Sel.here | exact Sel.here | apply Sel.there)); (repeat (first | with_reducible exact Sel.here | exact Sel.here | apply Sel.there)); assumption; done))) (oneR_tr _ _ (by omega)) ?_)
      refine G.op rfl (G.val rfl rfl (pv_assign rfl) ?_)
      refine G.nil ?_
      refine G.nThen ?_
      refine G.seq ?_
      refine G.cutK (X := Unit) (ts := [0, 4]) (p := []) (fun _ => True) (fun _ => [(5, .int .i64 (if oneM xs[i].1 = 0 ∧ prevBad (ens xs) i then 7 else oneM xs[i].1))]) (fun _ => []) (.cons rfl (.cons rfl .nil)) (by repeat (first | exact Sub.nil | (apply Sub.cons; (repeat (first | with_reducible exact Sel.here | exact Sel.here | apply Sel.there))))) (.cons .nil) (by repeat (first | exact Ap.nil | apply Ap.cons)) ?_ ?_
      · refine G.seq ?_
        refine G.cutK (X := Unit) (ts := [0, 4, 5]) (p := []) (fun _ => True) (fun _ => [(40, .bool (decide (oneM xs[i].1 = 0 ∧ prevBad (ens xs) i)))]) (fun _ => []) (.cons rfl (.cons rfl (.cons rfl .nil))) (by repeat (first | exact Sub.nil | (apply Sub.cons; (repeat (first | with_reducible exact Sel.here | exact Sel.here | apply Sel.there))))) (.cons .nil) (by repeat (first | exact Ap.nil | apply Ap.cons)) ?_ ?_
        · refine G.drawT (nn := 21) (p := []) (rem := 2097151) [0, 1, 2, 4, 12, 20, 36, 64, 64, 320, 704, 1088, 2112, 64, 64, 24640, 32832, 65600, 135232, 262208, 524352] [0, 1, 2, 4, 12, 20, 32, 64, 64, 320, 704, 1088, 2112, 64, 64, 24640, 32832, 65600, 135232, 262208, 524352] (by kernel_rfl) ⟨rfl, by kernel_rfl, by kernel_rfl⟩ (by repeat (first | exact Sub.nil | (apply Sub.cons; (repeat (first | with_reducible exact Sel.here | exact Sel.here | apply Sel.there))))) (by kernel_rfl) (fun hT7 => ?_)
          refine G.takeT hT7 (i := 0) (rem' := 2097150) rfl rfl rfl (by kernel_rfl) (fun _ _ _ h => h) rfl (pv_move rfl) (by repeat (first | exact Sub.nil | (apply Sub.cons; (repeat (first | with_reducible exact Sel.here | exact Sel.here | apply Sel.there))))) ?_
          refine G.takeT hT7 (i := 1) (rem' := 2097148) rfl rfl rfl (by kernel_rfl) (fun _ _ _ h => h) rfl (pv_eql rfl rfl) (by repeat (first | exact Sub.nil | (apply Sub.cons; (repeat (first | with_reducible exact Sel.here | exact Sel.here | apply Sel.there))))) ?_
          refine G.takeT hT7 (i := 2) (rem' := 2097144) rfl rfl rfl (by kernel_rfl) (fun _ _ _ h => h) rfl (pv_move rfl) (by repeat (first | exact Sub.nil | (apply Sub.cons; (repeat (first | with_reducible exact Sel.here | exact Sel.here | apply Sel.there))))) ?_
          refine G.partP (t := 22) rfl (fun h22 => ?_) (fun h22 => ?_)
          · refine G.takeT hT7 (i := 3) (rem' := 2097136) rfl rfl rfl (by kernel_rfl) (fun _ _ _ h => h) rfl (pv_move rfl) (by repeat (first | exact Sub.nil | (apply Sub.cons; (repeat (first | with_reducible exact Sel.here | exact Sel.here | apply Sel.there))))) ?_
            refine G.takeT hT7 (i := 4) (rem' := 2097120) rfl rfl rfl (by kernel_rfl) (fun _ _ _ h => h) rfl (pv_gtr rfl rfl) (by repeat (first | exact Sub.nil | (apply Sub.cons; (repeat (first | with_reducible exact Sel.here | exact Sel.here | apply Sel.there))))) ?_
            refine G.takeT hT7 (i := 5) (rem' := 2097088) rfl rfl rfl (by kernel_rfl) (fun _ _ _ h => h) rfl (pv_pick rfl rfl) (by repeat (first | exact Sub.nil | (apply Sub.cons; (repeat (first | with_reducible exact Sel.here | exact Sel.here | apply Sel.there))))) ?_
            refine G.takeT hT7 (i := 6) (rem' := 2097024) rfl rfl rfl (by kernel_rfl) (fun _ _ _ h => h) rfl (pv_move rfl) (by repeat (first | exact Sub.nil | (apply Sub.cons; (repeat (first | with_reducible exact Sel.here | exact Sel.here | apply Sel.there))))) ?_
            refine G.partP (t := 26) rfl (fun h26 => ?_) (fun h26 => ?_)
            · have hi0 : 0 < i := by omega
              have hEp := helv (i - 1) (by omega)
              have hRp := Ro.evRng hEp
              have hDp := Ro.evDat hEp
              obtain ⟨hk1p, hk2p, hlpp, hldp, hltp⟩ := Ro.evOk hEp
              have hCp := Ro.one1 hDp
              have hpv := prev_pos hi0 hlt'
              rw [hg, ens_get (show i - 1 < xs.length by omega)] at hpv
              refine G.takeT hT7 (i := 7) (rem' := 2096896) rfl rfl rfl (by kernel_rfl) (fun _ _ _ h => h) rfl (pv_move rfl) (by repeat (first | exact Sub.nil | (apply Sub.cons; (repeat (first | with_reducible exact Sel.here | exact Sel.here | apply Sel.there))))) ?_
              refine G.takeT hT7 (i := 8) (rem' := 2096640) rfl rfl rfl (by kernel_rfl) (fun _ _ _ h => h) rfl (pv_move rfl) (by repeat (first | exact Sub.nil | (apply Sub.cons; (repeat (first | with_reducible exact Sel.here | exact Sel.here | apply Sel.there))))) ?_
              refine G.takeT hT7 (i := 9) (rem' := 2096128) rfl rfl rfl (by kernel_rfl) (fun _ _ _ h => h) rfl (pv_sub64 rfl rfl (by omega)) (by repeat (first | exact Sub.nil | (apply Sub.cons; (repeat (first | with_reducible exact Sel.here | exact Sel.here | apply Sel.there))))) ?_
              refine G.takeT hT7 (i := 10) (rem' := 2095104) rfl rfl rfl (by kernel_rfl) (fun _ _ _ h => h) rfl (pv_ixSl (sz := 5) (k := i - 1) Try.underlying22 (by kernel_rfl) rfl rfl (by first | with_reducible assumption | assumption) (by omega) (by omega)) (by repeat (first | exact Sub.nil | (apply Sub.cons; (repeat (first | with_reducible exact Sel.here | exact Sel.here | apply Sel.there))))) ?_
              refine G.takeT hT7 (i := 11) (rem' := 2093056) rfl rfl rfl (by kernel_rfl) (fun _ _ _ h => h) rfl (pv_fieldAddrK (sz := 0) (k := 0) Try.underlying31 rfl (by kernel_rfl) rfl rfl) (by repeat (first | exact Sub.nil | (apply Sub.cons; (repeat (first | with_reducible exact Sel.here | exact Sel.here | apply Sel.there))))) ?_
              refine G.takeT hT7 (i := 12) (rem' := 2088960) rfl rfl rfl (by kernel_rfl) (fun _ _ _ h => h) rfl (pv_load Try.underlying9 rfl rfl (by first | exact blk_cell (by (repeat (first | with_reducible exact Sel.here | exact Sel.here | apply Sel.there)); done) (by rfl) | exact rng_cell (by (repeat (first | with_reducible exact Sel.here | exact Sel.here | apply Sel.there)); done) (by rfl) | exact ro_blk (by assumption) (by rfl) | exact ro_rngC (by assumption) (by rfl) | exact ro_int (by assumption) | exact ro_byte (by assumption) | exact ro_str (by assumption) | with_reducible assumption | assumption)) (by repeat (first | exact Sub.nil | (apply Sub.cons; (repeat (first | with_reducible exact Sel.here | exact Sel.here | apply Sel.there))))) ?_
              refine G.takeT hT7 (i := 13) (rem' := 2080768) rfl rfl rfl (by kernel_rfl) (fun _ _ _ h => h) rfl (pv_move rfl) (by repeat (first | exact Sub.nil | (apply Sub.cons; (repeat (first | with_reducible exact Sel.here | exact Sel.here | apply Sel.there))))) ?_
              refine G.takeT hT7 (i := 14) (rem' := 2064384) rfl rfl rfl (by kernel_rfl) (fun _ _ _ h => h) rfl (pv_move rfl) (by repeat (first | exact Sub.nil | (apply Sub.cons; (repeat (first | with_reducible exact Sel.here | exact Sel.here | apply Sel.there))))) ?_
              refine G.takeT hT7 (i := 15) (rem' := 2031616) rfl rfl rfl (by kernel_rfl) (fun _ _ _ h => h) rfl (pv_ixSl (sz := 5) Try.underlying22 (by kernel_rfl) rfl rfl (by first | with_reducible assumption | assumption | exact fun _ => rfl) rfl (by omega)) (by repeat (first | exact Sub.nil | (apply Sub.cons; (repeat (first | with_reducible exact Sel.here | exact Sel.here | apply Sel.there))))) ?_
              refine G.takeT hT7 (i := 16) (rem' := 1966080) rfl rfl rfl (by kernel_rfl) (fun _ _ _ h => h) rfl (pv_fieldAddrK (sz := 0) (k := 0) Try.underlying31 rfl (by kernel_rfl) rfl rfl) (by repeat (first | exact Sub.nil | (apply Sub.cons; (repeat (first | with_reducible exact Sel.here | exact Sel.here | apply Sel.there))))) ?_
              refine G.oneT hT7 (i := 17) (rem' := 1835008) (by kernel_rfl) (by kernel_rfl) ?_
              refine G.turnOp rfl rfl (G.val rfl rfl (pv_load Try.underlying9 rfl rfl (by first | exact blk_cell (by (repeat (first | with_reducible exact Sel.here | exact Sel.here | apply Sel.there)); done) (by rfl) | exact rng_cell (by (repeat (first | with_reducible exact Sel.here | exact Sel.here | apply Sel.there)); done) (by rfl) | exact ro_blk (by assumption) (by rfl) | exact ro_rngC (by assumption) (by rfl) | exact ro_int (by assumption) | exact ro_byte (by assumption) | exact ro_str (by assumption) | with_reducible assumption | assumption)) ?_)
              refine G.back (by repeat (first | exact Sub.nil | (apply Sub.cons; (repeat (first | with_reducible exact Sel.here | exact Sel.here | apply Sel.there))))) ?_
              refine G.oneT hT7 (i := 18) (rem' := 1572864) (by kernel_rfl) (by kernel_rfl) ?_
              refine G.turnOp rfl rfl (G.cR rfl rfl rfl rfl Try.func49 rfl rfl may0 (compareR_tr _ _ (by omega) (by omega)) ?_)
              refine G.back (by repeat (first | exact Sub.nil | (apply Sub.cons; (repeat (first | with_reducible exact Sel.here | exact Sel.here | apply Sel.there))))) ?_
              refine G.takeT hT7 (i := 19) (rem' := 1048576) rfl rfl rfl (by kernel_rfl) (fun _ _ _ h => h) rfl (pv_geq rfl rfl) (by repeat (first | exact Sub.nil | (apply Sub.cons; (repeat (first | with_reducible exact Sel.here | exact Sel.here | apply Sel.there))))) ?_
              refine G.takeT hT7 (i := 20) (rem' := 0) rfl rfl rfl (by kernel_rfl) (fun _ _ _ h => h) rfl (pv_pick rfl rfl) (by repeat (first | exact Sub.nil | (apply Sub.cons; (repeat (first | with_reducible exact Sel.here | exact Sel.here | apply Sel.there))))) ?_
              refine G.overT hT7 (by kernel_rfl) ?_
              exact G.meet (()) (by first | exact trivial | ((try dsimp only); exact trivial)) (.consE rfl (by first | exact dec_e ⟨fun h => ⟨by assumption, hpv.2 h⟩, fun h => hpv.1 h.2⟩ | exact dec_f (fun h => absurd h.1 (by assumption)) | exact dec_f (fun h => prev_zero (by omega) h.2)) (.cons rfl (.cons rfl (.cons rfl .nil)))) (by repeat (first | exact Sub.nil | (apply Sub.cons; (repeat (first | with_reducible exact Sel.here | exact Sel.here | apply Sel.there)))))
            · refine G.takeFT hT7 (i := 7) (rem' := 2096896) rfl rfl rfl (by kernel_rfl) (fun _ _ _ h => h) rfl (by repeat (first | exact Sub.nil | (apply Sub.cons; (repeat (first | with_reducible exact Sel.here | exact Sel.here | apply Sel.there))))) ?_
              refine G.takeFT hT7 (i := 8) (rem' := 2096640) rfl rfl rfl (by kernel_rfl) (fun _ _ _ h => h) rfl (by repeat (first | exact Sub.nil | (apply Sub.cons; (repeat (first | with_reducible exact Sel.here | exact Sel.here | apply Sel.there))))) ?_
              refine G.takeFT hT7 (i := 9) (rem' := 2096128) rfl rfl rfl (by kernel_rfl) (fun _ _ _ h => h) rfl (by repeat (first | exact Sub.nil | (apply Sub.cons; (repeat (first | with_reducible exact Sel.here | exact Sel.here | apply Sel.there))))) ?_
              refine G.takeFT hT7 (i := 10) (rem' := 2095104) rfl rfl rfl (by kernel_rfl) (fun _ _ _ h => h) rfl (by repeat (first | exact Sub.nil | (apply Sub.cons; (repeat (first | with_reducible exact Sel.here | exact Sel.here | apply Sel.there))))) ?_
              refine G.takeFT hT7 (i := 11) (rem' := 2093056) rfl rfl rfl (by kernel_rfl) (fun _ _ _ h => h) rfl (by repeat (first | exact Sub.nil | (apply Sub.cons; (repeat (first | with_reducible exact Sel.here | exact Sel.here | apply Sel.there))))) ?_
              refine G.takeFT hT7 (i := 12) (rem' := 2088960) rfl rfl rfl (by kernel_rfl) (fun _ _ _ h => h) rfl (by repeat (first | exact Sub.nil | (apply Sub.cons; (repeat (first | with_reducible exact Sel.here | exact Sel.here | apply Sel.there))))) ?_
              refine G.takeFT hT7 (i := 13) (rem' := 2080768) rfl rfl rfl (by kernel_rfl) (fun _ _ _ h => h) rfl (by repeat (first | exact Sub.nil | (apply Sub.cons; (repeat (first | with_reducible exact Sel.here | exact Sel.here | apply Sel.there))))) ?_
              refine G.takeFT hT7 (i := 14) (rem' := 2064384) rfl rfl rfl (by kernel_rfl) (fun _ _ _ h => h) rfl (by repeat (first | exact Sub.nil | (apply Sub.cons; (repeat (first | with_reducible exact Sel.here | exact Sel.here | apply Sel.there))))) ?_
              refine G.takeFT hT7 (i := 15) (rem' := 2031616) rfl rfl rfl (by kernel_rfl) (fun _ _ _ h => h) rfl (by repeat (first | exact Sub.nil | (apply Sub.cons; (repeat (first | with_reducible exact Sel.here | exact Sel.here | apply Sel.there))))) ?_
              refine G.takeFT hT7 (i := 16) (rem' := 1966080) rfl rfl rfl (by kernel_rfl) (fun _ _ _ h => h) rfl (by repeat (first | exact Sub.nil | (apply Sub.cons; (repeat (first | with_reducible exact Sel.here | exact Sel.here | apply Sel.there))))) ?_
              refine G.takeFT hT7 (i := 17) (rem' := 1835008) rfl rfl rfl (by kernel_rfl) (fun _ _ _ h => h) rfl (by repeat (first | exact Sub.nil | (apply Sub.cons; (repeat (first | with_reducible exact Sel.here | exact Sel.here | apply Sel.there))))) ?_
              refine G.takeFT hT7 (i := 18) (rem' := 1572864) rfl rfl rfl (by kernel_rfl) (fun _ _ _ h => h) rfl (by repeat (first | exact Sub.nil | (apply Sub.cons; (repeat (first | with_reducible exact Sel.here | exact Sel.here | apply Sel.there))))) ?_
              refine G.takeFT hT7 (i := 19) (rem' := 1048576) rfl rfl rfl (by kernel_rfl) (fun _ _ _ h => h) rfl (by repeat (first | exact Sub.nil | (apply Sub.cons; (repeat (first | with_reducible exact Sel.here | exact Sel.here | apply Sel.there))))) ?_
              refine G.takeT hT7 (i := 20) (rem' := 0) rfl rfl rfl (by kernel_rfl) (fun _ _ _ h => h) rfl (pv_pick rfl rfl) (by repeat (first | exact Sub.nil | (apply Sub.cons; (repeat (first | with_reducible exact Sel.here | exact Sel.here | apply Sel.there))))) ?_
              refine G.overT hT7 (by kernel_rfl) ?_
              exact G.meet (()) (by first | exact trivial | ((try dsimp only); exact trivial)) (.consE rfl (by first | exact dec_e ⟨fun h => ⟨by assumption, hpv.2 h⟩, fun h => hpv.1 h.2⟩ | exact dec_f (fun h => absurd h.1 (by assumption)) | exact dec_f (fun h => prev_zero (by omega) h.2)) (.cons rfl (.cons rfl (.cons rfl .nil)))) (by repeat (first | exact Sub.nil | (apply Sub.cons; (repeat (first | with_reducible exact Sel.here | exact Sel.here | apply Sel.there)))))
          · refine G.takeFT hT7 (i := 3) (rem' := 2097136) rfl rfl rfl (by kernel_rfl) (fun _ _ _ h => h) rfl (by repeat (first | exact Sub.nil | (apply Sub.cons; (repeat (first | with_reducible exact Sel.here | exact Sel.here | apply Sel.there))))) ?_
            refine G.takeFT hT7 (i := 4) (rem' := 2097120) rfl rfl rfl (by kernel_rfl) (fun _ _ _ h => h) rfl (by repeat (first | exact Sub.nil | (apply Sub.cons; (repeat (first | with_reducible exact Sel.here | exact Sel.here | apply Sel.there))))) ?_
            refine G.takeT hT7 (i := 5) (rem' := 2097088) rfl rfl rfl (by kernel_rfl) (fun _ _ _ h => h) rfl (pv_pick rfl rfl) (by repeat (first | exact Sub.nil | (apply Sub.cons; (repeat (first | with_reducible exact Sel.here | exact Sel.here | apply Sel.there))))) ?_
            refine G.takeT hT7 (i := 6) (rem' := 2097024) rfl rfl rfl (by kernel_rfl) (fun _ _ _ h => h) rfl (pv_move rfl) (by repeat (first | exact Sub.nil | (apply Sub.cons; (repeat (first | with_reducible exact Sel.here | exact Sel.here | apply Sel.there))))) ?_
            refine G.takeFT hT7 (i := 7) (rem' := 2096896) rfl rfl rfl (by kernel_rfl) (fun _ _ _ h => h) rfl (by repeat (first | exact Sub.nil | (apply Sub.cons; (repeat (first | with_reducible exact Sel.here | exact Sel.here | apply Sel.there))))) ?_
            refine G.takeFT hT7 (i := 8) (rem' := 2096640) rfl rfl rfl (by kernel_rfl) (fun _ _ _ h => h) rfl (by repeat (first | exact Sub.nil | (apply Sub.cons; (repeat (first | with_reducible exact Sel.here | exact Sel.here | apply Sel.there))))) ?_
            refine G.takeFT hT7 (i := 9) (rem' := 2096128) rfl rfl rfl (by kernel_rfl) (fun _ _ _ h => h) rfl (by repeat (first | exact Sub.nil | (apply Sub.cons; (repeat (first | with_reducible exact Sel.here | exact Sel.here | apply Sel.there))))) ?_
            refine G.takeFT hT7 (i := 10) (rem' := 2095104) rfl rfl rfl (by kernel_rfl) (fun _ _ _ h => h) rfl (by repeat (first | exact Sub.nil | (apply Sub.cons; (repeat (first | with_reducible exact Sel.here | exact Sel.here | apply Sel.there))))) ?_
            refine G.takeFT hT7 (i := 11) (rem' := 2093056) rfl rfl rfl (by kernel_rfl) (fun _ _ _ h => h) rfl (by repeat (first | exact Sub.nil | (apply Sub.cons; (repeat (first | with_reducible exact Sel.here | exact Sel.here | apply Sel.there))))) ?_
            refine G.takeFT hT7 (i := 12) (rem' := 2088960) rfl rfl rfl (by kernel_rfl) (fun _ _ _ h => h) rfl (by repeat (first | exact Sub.nil | (apply Sub.cons; (repeat (first | with_reducible exact Sel.here | exact Sel.here | apply Sel.there))))) ?_
            refine G.takeFT hT7 (i := 13) (rem' := 2080768) rfl rfl rfl (by kernel_rfl) (fun _ _ _ h => h) rfl (by repeat (first | exact Sub.nil | (apply Sub.cons; (repeat (first | with_reducible exact Sel.here | exact Sel.here | apply Sel.there))))) ?_
            refine G.takeFT hT7 (i := 14) (rem' := 2064384) rfl rfl rfl (by kernel_rfl) (fun _ _ _ h => h) rfl (by repeat (first | exact Sub.nil | (apply Sub.cons; (repeat (first | with_reducible exact Sel.here | exact Sel.here | apply Sel.there))))) ?_
            refine G.takeFT hT7 (i := 15) (rem' := 2031616) rfl rfl rfl (by kernel_rfl) (fun _ _ _ h => h) rfl (by repeat (first | exact Sub.nil | (apply Sub.cons; (repeat (first | with_reducible exact Sel.here | exact Sel.here | apply Sel.there))))) ?_
            refine G.takeFT hT7 (i := 16) (rem' := 1966080) rfl rfl rfl (by kernel_rfl) (fun _ _ _ h => h) rfl (by repeat (first | exact Sub.nil | (apply Sub.cons; (repeat (first | with_reducible exact Sel.here | exact Sel.here | apply Sel.there))))) ?_
            refine G.takeFT hT7 (i := 17) (rem' := 1835008) rfl rfl rfl (by kernel_rfl) (fun _ _ _ h => h) rfl (by repeat (first | exact Sub.nil | (apply Sub.cons; (repeat (first | with_reducible exact Sel.here | exact Sel.here | apply Sel.there))))) ?_
            refine G.takeFT hT7 (i := 18) (rem' := 1572864) rfl rfl rfl (by kernel_rfl) (fun _ _ _ h => h) rfl (by repeat (first | exact Sub.nil | (apply Sub.cons; (repeat (first | with_reducible exact Sel.here | exact Sel.here | apply Sel.there))))) ?_
            refine G.takeFT hT7 (i := 19) (rem' := 1048576) rfl rfl rfl (by kernel_rfl) (fun _ _ _ h => h) rfl (by repeat (first | exact Sub.nil | (apply Sub.cons; (repeat (first | with_reducible exact Sel.here | exact Sel.here | apply Sel.there))))) ?_
            refine G.takeT hT7 (i := 20) (rem' := 0) rfl rfl rfl (by kernel_rfl) (fun _ _ _ h => h) rfl (pv_pick rfl rfl) (by repeat (first | exact Sub.nil | (apply Sub.cons; (repeat (first | with_reducible exact Sel.here | exact Sel.here | apply Sel.there))))) ?_
            refine G.overT hT7 (by kernel_rfl) ?_
            exact G.meet (()) (by first | exact trivial | ((try dsimp only); exact trivial)) (.consE rfl (by first | exact dec_e ⟨fun h => ⟨by assumption, hpv.2 h⟩, fun h => hpv.1 h.2⟩ | exact dec_f (fun h => absurd h.1 (by assumption)) | exact dec_f (fun h => prev_zero (by omega) h.2)) (.cons rfl (.cons rfl (.cons rfl .nil)))) (by repeat (first | exact Sub.nil | (apply Sub.cons; (repeat (first | with_reducible exact Sel.here | exact Sel.here | apply Sel.there)))))
        · intro _ hJ
          try dsimp only at hJ
          try dsimp only
          refine G.condP rfl (fun h40 => ?_) (fun h40 => ?_)
          · refine G.region ?_
            refine G.op rfl (G.val rfl rfl (pv_assign rfl) ?_)
            refine G.nil ?_
            exact G.meet (()) (by first | exact trivial | ((try dsimp only); exact trivial)) (.consE rfl (int_eq (by rw [if_pos (by assumption)])) (.cons rfl (.cons rfl .nil))) (by repeat (first | exact Sub.nil | (apply Sub.cons; (repeat (first | with_reducible exact Sel.here | exact Sel.here | apply Sel.there)))))
          · refine G.skip ?_
            exact G.meet (()) (by first | exact trivial | ((try dsimp only); exact trivial)) (.consE rfl (int_eq (by rw [if_neg (by assumption)])) (.cons rfl (.cons rfl .nil))) (by repeat (first | exact Sub.nil | (apply Sub.cons; (repeat (first | with_reducible exact Sel.here | exact Sel.here | apply Sel.there)))))
      · intro _ hJ
        try dsimp only at hJ
        try dsimp only
        refine G.seq ?_
        refine G.cutK (X := Unit) (ts := [0, 4]) (p := []) (fun _ => True) (fun _ => [(5, .int .i64 (errT (ens xs) i))]) (fun _ => []) (.cons rfl (.cons rfl .nil)) (by repeat (first | exact Sub.nil | (apply Sub.cons; (repeat (first | with_reducible exact Sel.here | exact Sel.here | apply Sel.there))))) (.cons .nil) (by repeat (first | exact Ap.nil | apply Ap.cons)) ?_ ?_
        · refine G.seq ?_
          refine G.cutK (X := Unit) (ts := [0, 4, 5]) (p := []) (fun _ => True) (fun _ => [(53, .bool (decide ((if oneM xs[i].1 = 0 ∧ prevBad (ens xs) i then 7 else oneM xs[i].1) = 0 ∧ ¬ heldM ((ens xs).take i) xs[i].1)))]) (fun _ => []) (.cons rfl (.cons rfl (.cons rfl .nil))) (by repeat (first | exact Sub.nil | (apply Sub.cons; (repeat (first | with_reducible exact Sel.here | exact Sel.here | apply Sel.there))))) (.cons .nil) (by repeat (first | exact Ap.nil | apply Ap.cons)) ?_ ?_
          · refine G.drawT (nn := 13) (p := []) (rem := 8191) [0, 1, 2, 4, 4, 28, 4, 4, 196, 260, 548, 1028, 2052] [0, 1, 2, 4, 4, 28, 4, 4, 196, 260, 548, 1028, 2052] (by kernel_rfl) ⟨rfl, by kernel_rfl, by kernel_rfl⟩ (by repeat (first | exact Sub.nil | (apply Sub.cons; (repeat (first | with_reducible exact Sel.here | exact Sel.here | apply Sel.there))))) (by kernel_rfl) (fun hT9 => ?_)
            refine G.takeT hT9 (i := 0) (rem' := 8190) rfl rfl rfl (by kernel_rfl) (fun _ _ _ h => h) rfl (pv_move rfl) (by repeat (first | exact Sub.nil | (apply Sub.cons; (repeat (first | with_reducible exact Sel.here | exact Sel.here | apply Sel.there))))) ?_
            refine G.takeT hT9 (i := 1) (rem' := 8188) rfl rfl rfl (by kernel_rfl) (fun _ _ _ h => h) rfl (pv_eql rfl rfl) (by repeat (first | exact Sub.nil | (apply Sub.cons; (repeat (first | with_reducible exact Sel.here | exact Sel.here | apply Sel.there))))) ?_
            refine G.takeT hT9 (i := 2) (rem' := 8184) rfl rfl rfl (by kernel_rfl) (fun _ _ _ h => h) rfl (pv_move rfl) (by repeat (first | exact Sub.nil | (apply Sub.cons; (repeat (first | with_reducible exact Sel.here | exact Sel.here | apply Sel.there))))) ?_
            refine G.partP (t := 43) rfl (fun h43 => ?_) (fun h43 => ?_)
            · refine G.takeT hT9 (i := 3) (rem' := 8176) rfl rfl rfl (by kernel_rfl) (fun _ _ _ h => h) rfl (pv_move rfl) (by repeat (first | exact Sub.nil | (apply Sub.cons; (repeat (first | with_reducible exact Sel.here | exact Sel.here | apply Sel.there))))) ?_
              refine G.takeT hT9 (i := 4) (rem' := 8160) rfl rfl rfl (by kernel_rfl) (fun _ _ _ h => h) rfl (pv_move rfl) (by repeat (first | exact Sub.nil | (apply Sub.cons; (repeat (first | with_reducible exact Sel.here | exact Sel.here | apply Sel.there))))) ?_
              refine G.takeT hT9 (i := 5) (rem' := 8128) rfl rfl rfl (by kernel_rfl) (fun _ _ _ h => h) rfl (pv_subH (sz := 5) Try.underlying22 (by kernel_rfl) rfl rfl rfl (by omega)) (by repeat (first | exact Sub.nil | (apply Sub.cons; (repeat (first | with_reducible exact Sel.here | exact Sel.here | apply Sel.there))))) ?_
              refine G.takeT hT9 (i := 6) (rem' := 8064) rfl rfl rfl (by kernel_rfl) (fun _ _ _ h => h) rfl (pv_move rfl) (by repeat (first | exact Sub.nil | (apply Sub.cons; (repeat (first | with_reducible exact Sel.here | exact Sel.here | apply Sel.there))))) ?_
              refine G.takeT hT9 (i := 7) (rem' := 7936) rfl rfl rfl (by kernel_rfl) (fun _ _ _ h => h) rfl (pv_move rfl) (by repeat (first | exact Sub.nil | (apply Sub.cons; (repeat (first | with_reducible exact Sel.here | exact Sel.here | apply Sel.there))))) ?_
              refine G.takeT hT9 (i := 8) (rem' := 7680) rfl rfl rfl (by kernel_rfl) (fun _ _ _ h => h) rfl (pv_ixSl (sz := 5) Try.underlying22 (by kernel_rfl) rfl rfl (by first | with_reducible assumption | assumption | exact fun _ => rfl) rfl (by omega)) (by repeat (first | exact Sub.nil | (apply Sub.cons; (repeat (first | with_reducible exact Sel.here | exact Sel.here | apply Sel.there))))) ?_
              refine G.oneT hT9 (i := 9) (rem' := 7168) (by kernel_rfl) (by kernel_rfl) ?_
              refine G.turnOp rfl rfl (G.val rfl rfl (pv_loadN (cs := [_, _, _, _, _]) Try.underlying31 rfl (by kernel_rfl) rfl (by first | exact blk_range (k := 5) (by (repeat (first | with_reducible exact Sel.here | exact Sel.here | apply Sel.there)); done) (by rfl) | exact ro_rng0 (by assumption) | exact rng_range (k := 5) (by (repeat (first | with_reducible exact Sel.here | exact Sel.here | apply Sel.there)); done) (by rfl) | exact ro_range (k := 5) (by assumption) (by rfl) | exact ro_rngR (k := 5) (by assumption) (by rfl))) ?_)
              refine G.back (by repeat (first | exact Sub.nil | (apply Sub.cons; (repeat (first | with_reducible exact Sel.here | exact Sel.here | apply Sel.there))))) ?_
              refine G.oneT hT9 (i := 10) (rem' := 6144) (by kernel_rfl) (by kernel_rfl) ?_
              refine G.turnOp rfl rfl (G.cR rfl rfl rfl rfl Try.func50 rfl rfl (may2 (by first | (apply May.old; first | with_reducible assumption | assumption) | (apply Sel.may; (repeat (first | with_reducible exact Sel.here | exact Sel.here | apply Sel.there)); done) | (apply may_own; (repeat (first | with_reducible exact Sel.here | exact Sel.here | apply Sel.there)); exact rfl; exact (fun _ _ => trivial); done) | (apply may_ownB; (repeat (first | with_reducible exact Sel.here | exact Sel.here | apply Sel.there)); done) | (apply may_tree; (repeat (first | with_reducible exact Sel.here | exact Sel.here | apply Sel.there)); (repeat (first | with_reducible exact Sel.here | exact Sel.here | apply Sel.there)); assumption; done)) (by first | (apply May.old; first | with_reducible assumption | assumption) | (apply Sel.may; (repeat (first | with_reducible exact Sel.here | exact Sel.here | apply Sel.there)); done) | (apply may_own; (repeat (first | with_reducible exact Sel.here | exact Sel.here | apply Sel.there)); exact rfl; exact (fun _ _ => trivial); done) | (apply may_ownB; (repeat (first | with_reducible exact Sel.here | exact Sel.here | apply Sel.there)); done) | (apply may_tree; (repeat (first | with_reducible exact Sel.here | exact Sel.here | apply Sel.there)); (repeat (first | with_reducible exact Sel.here | exact Sel.here | apply Sel.there)); assumption; done))) (held_tr _ (xs.take i) _ _ (by omega)) ?_)
              rw [ens_take]
              refine G.back (by repeat (first | exact Sub.nil | (apply Sub.cons; (repeat (first | with_reducible exact Sel.here | exact Sel.here | apply Sel.there))))) ?_
              refine G.takeT hT9 (i := 11) (rem' := 4096) rfl rfl rfl (by kernel_rfl) (fun _ _ _ h => h) rfl (pv_notP rfl) (by repeat (first | exact Sub.nil | (apply Sub.cons; (repeat (first | with_reducible exact Sel.here | exact Sel.here | apply Sel.there))))) ?_
              refine G.takeT hT9 (i := 12) (rem' := 0) rfl rfl rfl (by kernel_rfl) (fun _ _ _ h => h) rfl (pv_pick rfl rfl) (by repeat (first | exact Sub.nil | (apply Sub.cons; (repeat (first | with_reducible exact Sel.here | exact Sel.here | apply Sel.there))))) ?_
              refine G.overT hT9 (by kernel_rfl) ?_
              exact G.meet (()) (by first | exact trivial | ((try dsimp only); exact trivial)) (.consE rfl (by first | exact dec_e ⟨fun h => ⟨by assumption, h⟩, fun h => h.2⟩ | exact dec_f (fun h => absurd h.1 (by assumption))) (.cons rfl (.cons rfl (.cons rfl .nil)))) (by repeat (first | exact Sub.nil | (apply Sub.cons; (repeat (first | with_reducible exact Sel.here | exact Sel.here | apply Sel.there)))))
            · refine G.takeFT hT9 (i := 3) (rem' := 8176) rfl rfl rfl (by kernel_rfl) (fun _ _ _ h => h) rfl (by repeat (first | exact Sub.nil | (apply Sub.cons; (repeat (first | with_reducible exact Sel.here | exact Sel.here | apply Sel.there))))) ?_
              refine G.takeFT hT9 (i := 4) (rem' := 8160) rfl rfl rfl (by kernel_rfl) (fun _ _ _ h => h) rfl (by repeat (first | exact Sub.nil | (apply Sub.cons; (repeat (first | with_reducible exact Sel.here | exact Sel.here | apply Sel.there))))) ?_
              refine G.takeFT hT9 (i := 5) (rem' := 8128) rfl rfl rfl (by kernel_rfl) (fun _ _ _ h => h) rfl (by repeat (first | exact Sub.nil | (apply Sub.cons; (repeat (first | with_reducible exact Sel.here | exact Sel.here | apply Sel.there))))) ?_
              refine G.takeFT hT9 (i := 6) (rem' := 8064) rfl rfl rfl (by kernel_rfl) (fun _ _ _ h => h) rfl (by repeat (first | exact Sub.nil | (apply Sub.cons; (repeat (first | with_reducible exact Sel.here | exact Sel.here | apply Sel.there))))) ?_
              refine G.takeFT hT9 (i := 7) (rem' := 7936) rfl rfl rfl (by kernel_rfl) (fun _ _ _ h => h) rfl (by repeat (first | exact Sub.nil | (apply Sub.cons; (repeat (first | with_reducible exact Sel.here | exact Sel.here | apply Sel.there))))) ?_
              refine G.takeFT hT9 (i := 8) (rem' := 7680) rfl rfl rfl (by kernel_rfl) (fun _ _ _ h => h) rfl (by repeat (first | exact Sub.nil | (apply Sub.cons; (repeat (first | with_reducible exact Sel.here | exact Sel.here | apply Sel.there))))) ?_
              refine G.takeFT hT9 (i := 9) (rem' := 7168) rfl rfl rfl (by kernel_rfl) (fun _ _ _ h => h) rfl (by repeat (first | exact Sub.nil | (apply Sub.cons; (repeat (first | with_reducible exact Sel.here | exact Sel.here | apply Sel.there))))) ?_
              refine G.takeFT hT9 (i := 10) (rem' := 6144) rfl rfl rfl (by kernel_rfl) (fun _ _ _ h => h) rfl (by repeat (first | exact Sub.nil | (apply Sub.cons; (repeat (first | with_reducible exact Sel.here | exact Sel.here | apply Sel.there))))) ?_
              refine G.takeFT hT9 (i := 11) (rem' := 4096) rfl rfl rfl (by kernel_rfl) (fun _ _ _ h => h) rfl (by repeat (first | exact Sub.nil | (apply Sub.cons; (repeat (first | with_reducible exact Sel.here | exact Sel.here | apply Sel.there))))) ?_
              refine G.takeT hT9 (i := 12) (rem' := 0) rfl rfl rfl (by kernel_rfl) (fun _ _ _ h => h) rfl (pv_pick rfl rfl) (by repeat (first | exact Sub.nil | (apply Sub.cons; (repeat (first | with_reducible exact Sel.here | exact Sel.here | apply Sel.there))))) ?_
              refine G.overT hT9 (by kernel_rfl) ?_
              exact G.meet (()) (by first | exact trivial | ((try dsimp only); exact trivial)) (.consE rfl (by first | exact dec_e ⟨fun h => ⟨by assumption, h⟩, fun h => h.2⟩ | exact dec_f (fun h => absurd h.1 (by assumption))) (.cons rfl (.cons rfl (.cons rfl .nil)))) (by repeat (first | exact Sub.nil | (apply Sub.cons; (repeat (first | with_reducible exact Sel.here | exact Sel.here | apply Sel.there)))))
          · intro _ hJ
            try dsimp only at hJ
            try dsimp only
            refine G.condP rfl (fun h53 => ?_) (fun h53 => ?_)
            · refine G.region ?_
              refine G.op rfl (G.val rfl rfl (pv_assign rfl) ?_)
              refine G.nil ?_
              exact G.meet (()) (by first | exact trivial | ((try dsimp only); exact trivial)) (.consE rfl (int_eq (heq.trans (if_pos (by assumption))).symm) (.cons rfl (.cons rfl .nil))) (by repeat (first | exact Sub.nil | (apply Sub.cons; (repeat (first | with_reducible exact Sel.here | exact Sel.here | apply Sel.there)))))
            · refine G.skip ?_
              exact G.meet (()) (by first | exact trivial | ((try dsimp only); exact trivial)) (.consE rfl (int_eq (heq.trans (if_neg (by assumption))).symm) (.cons rfl (.cons rfl .nil))) (by repeat (first | exact Sub.nil | (apply Sub.cons; (repeat (first | with_reducible exact Sel.here | exact Sel.here | apply Sel.there)))))
        · intro _ hJ
          try dsimp only at hJ
          try dsimp only
          refine G.seq ?_
          refine G.region ?_
          refine G.op rfl (G.val rfl rfl (pv_move rfl) ?_)
          refine G.op rfl (G.val rfl rfl (pv_neq rfl rfl) ?_)
          refine G.nil ?_
          refine G.nThen ?_
          refine G.condP rfl (fun h55 => ?_) (fun h55 => ?_)
          · refine G.seq ?_
            refine G.region ?_
            refine G.op rfl (G.val rfl rfl (pv_move rfl) ?_)
            refine G.op rfl (G.val rfl rfl (pv_move rfl) ?_)
            refine G.op rfl (G.val rfl rfl (pv_assign rfl) ?_)
            refine G.op rfl (G.val rfl rfl (pv_assign rfl) ?_)
            refine G.nil ?_
            refine G.nThen ?_
            refine G.ret ?_
            refine G.rBlock ?_
            refine G.rThen ?_
            refine G.rThen ?_
            refine G.rBlock ?_
            refine G.rThen ?_
            exact G.done0G rfl (Rv.tmp rfl (Rv.tmp rfl Rv.nil)) (by rw [checkT_bad (by omega) hlt' hJ0 rfl (by assumption)]; rfl)
          · have hok0 : errT (ens xs) i = 0 := by omega
            refine G.skip ?_
            refine G.nBlock ?_
            refine G.nThen ?_
            refine G.region ?_
            refine G.op rfl (G.val rfl rfl (pv_move rfl) ?_)
            refine G.op rfl (G.val rfl rfl (pv_add64 rfl rfl (by omega)) ?_)
            refine G.op rfl (G.val rfl rfl (pv_assign rfl) ?_)
            refine G.nil ?_
            exact G.next (i + 1) (by first | exact trivial | ((try dsimp only); exact ⟨by omega, fun q hq => by rcases Nat.lt_or_ge q i with h1 | h1; exact hJ0 q h1; obtain rfl : q = i := (by omega); exact hok0⟩)) (by (try dsimp only); omega) (.consE rfl (by first | rfl | exact int_eq (by first | omega | (dsimp only; omega)) | exact congrArg _ (by omega)) (.cons rfl .nil)) (by repeat (first | exact Sub.nil | (apply Sub.cons; (repeat (first | with_reducible exact Sel.here | exact Sel.here | apply Sel.there)))))
    · refine G.exit ?_
      refine G.eThen ?_
      refine G.eThen ?_
      refine G.eBlock ?_
      refine G.nThen ?_
      refine G.seq ?_
      refine G.region ?_
      refine G.op rfl (G.val rfl rfl (pv_assign rfl) ?_)
      refine G.op rfl (G.val rfl rfl (pv_assign rfl) ?_)
      refine G.nil ?_
      refine G.nThen ?_
      refine G.ret ?_
      exact G.done0G rfl (Rv.tmp rfl (Rv.tmp rfl Rv.nil)) (by rw [checkT_ok (by omega) (fun q hq => hJ q (by omega))]; rfl)
set_option maxRecDepth 20000 in
set_option maxHeartbeats 4000000 in

theorem size_tr {Ps : Nat → Prop} (v : Value) (xs : List ET) (hn : xs.length ≤ 1000) : Tr Try.prog 22 #[v] [slc rEV Ps v xs] [] (T0 (.int .i64 (sizeM (ens xs) : Int))) := by
  refine Tr.of (l := [(0, v)]) Try.func22 rfl (n := 19) rfl (.cons rfl .nil) (fun w0 hro => ?_)
  have hv := ro1 hro
  have hv' := hv
  obtain ⟨av, cv, bv, fv, rfl, hcapv, hmaxv, hnilv, hadv, helv⟩ := Ro.openT hv
  have hel' := ens_length xs
  refine G.seq ?_
  refine G.region ?_
  refine G.op rfl (G.val rfl rfl (pv_assign rfl) ?_)
  refine G.nil ?_
  refine G.nThen ?_
  refine G.seq ?_
  refine G.region ?_
  refine G.op rfl (G.val rfl rfl (pv_assign rfl) ?_)
  refine G.nil ?_
  refine G.nThen ?_
  refine G.seq ?_
  refine G.seq ?_
  refine G.region ?_
  refine G.op rfl (G.val rfl rfl (pv_move rfl) ?_)
  refine G.op rfl (G.val rfl rfl (pv_lenSl Try.underlying22 rfl) ?_)
  refine G.op rfl (G.val rfl rfl (pv_move rfl) ?_)
  refine G.nil ?_
  refine G.nThen ?_
  refine G.block ?_
  refine G.loopK (X := Nat) (ts := [2, 6, 7]) (fun i => i ≤ xs.length ∧ (sizeM ((ens xs).take i) ≤ i * 140737488355328)) (fun i => [(8, .int .i64 (i : Int)), (3, .int .i64 (sizeM ((ens xs).take i) : Int))]) (fun i => []) (fun i => xs.length - i) (x0 := 0) (.cons rfl (.cons rfl (.cons rfl .nil))) (by repeat (first | exact Sub.nil | (apply Sub.cons; (repeat (first | with_reducible exact Sel.here | exact Sel.here | apply Sel.there))))) (.cons (.cons .nil)) (by repeat (first | exact Ap.nil | apply Ap.cons)) (by first | exact trivial | ((try dsimp only); exact ⟨Nat.zero_le _, by simp [sizeM]⟩)) (.consE rfl (by first | rfl | exact int_eq (by first | omega | (dsimp only; omega)) | exact congrArg _ (by omega)) (.consE rfl (by first | rfl | exact int_eq (by first | omega | (dsimp only; omega)) | exact congrArg _ (by omega)) .nil)) (fun i hJ => ?_)
  try dsimp only at hJ
  try dsimp only
  obtain ⟨hki, hJ⟩ := hJ
  refine G.seq ?_
  refine G.region ?_
  refine G.op rfl (G.val rfl rfl (pv_lss rfl rfl) ?_)
  refine G.nil ?_
  refine G.nThen ?_
  refine G.seq ?_
  refine G.condP rfl (fun h9 => ?_) (fun h9 => ?_)
  · have hlt : i < xs.length := by omega
    have hsz := sizeM_succ hlt
    have hEv := helv i hlt
    have hRv := Ro.evRng hEv
    have hDv := Ro.evDat hEv
    obtain ⟨hk1v, hk2v, hlpv, hldv, hltv⟩ := Ro.evOk hEv
    have hCv := Ro.one1 hDv
    obtain ⟨aD, cD, hx2⟩ := Ro.slv hDv
    rw [hx2] at hRv hCv
    refine G.skip ?_
    refine G.nThen ?_
    refine G.seq ?_
    refine G.block ?_
    refine G.seq ?_
    refine G.region ?_
    refine G.op rfl (G.val rfl rfl (pv_ixSl (sz := 5) Try.underlying22 (by kernel_rfl) rfl rfl (by first | with_reducible assumption | assumption | exact fun _ => rfl) rfl (by omega)) ?_)
    refine G.op rfl (G.val rfl rfl (pv_loadN (cs := [_, _, _, _, _]) Try.underlying31 rfl (by kernel_rfl) rfl (by first | exact blk_range (k := 5) (by (repeat (first | with_reducible exact Sel.here | exact Sel.here | apply Sel.there)); done) (by rfl) | exact ro_rng0 (by assumption) | exact rng_range (k := 5) (by (repeat (first | with_reducible exact Sel.here | exact Sel.here | apply Sel.there)); done) (by rfl) | exact ro_range (k := 5) (by assumption) (by rfl) | exact ro_rngR (k := 5) (by assumption) (by rfl))) ?_)
    refine G.op rfl (G.alloc (z := .agg #[.string ⟨#[]⟩, .int .i64 0, .int .i64 0, .slice none 0 0, .string ⟨#[]⟩]) (cs := [.string ⟨#[]⟩, .int .i64 0, .int .i64 0, .slice none 0 0, .string ⟨#[]⟩]) rfl (by kernel_rfl) rfl ?_)
    intro b5
    refine G.op rfl (G.storeN (by kernel_rfl) rfl rfl (by first | exact (all1_cons (by first | rfl | with_reducible assumption) (all1_cons (by first | rfl | with_reducible assumption) (all1_cons (by first | rfl | with_reducible assumption) (all1_cons (by first | rfl | with_reducible assumption) (all1_cons (by first | rfl | with_reducible assumption) all1_nil))))) | exact List.all_eq_true.2 (vByte_one _) | rfl) (by repeat (first | with_reducible exact Sel.here | exact Sel.here | apply Sel.there)) (by first | (simp; done) | exact Nat.le_of_ble_eq_true rfl) ?_)
    refine G.nil ?_
    refine G.nThen ?_
    refine G.region ?_
    refine G.op rfl (G.val rfl rfl (pv_move rfl) ?_)
    refine G.op rfl (G.val rfl rfl (pv_fieldAddrK (sz := 0) (k := 3) Try.underlying31 rfl (by kernel_rfl) rfl rfl) ?_)
    refine G.op rfl (G.val rfl rfl (pv_load Try.underlying29 rfl rfl (by first | exact blk_cell (by (repeat (first | with_reducible exact Sel.here | exact Sel.here | apply Sel.there)); done) (by rfl) | exact rng_cell (by (repeat (first | with_reducible exact Sel.here | exact Sel.here | apply Sel.there)); done) (by rfl) | exact ro_blk (by assumption) (by rfl) | exact ro_rngC (by assumption) (by rfl) | exact ro_int (by assumption) | exact ro_byte (by assumption) | exact ro_str (by assumption) | with_reducible assumption | assumption)) ?_)
    refine G.op rfl (G.val rfl rfl (pv_lenSl Try.underlying29 rfl) ?_)
    refine G.op rfl (G.val rfl rfl (pv_add64 rfl rfl (by omega)) ?_)
    refine G.op rfl (G.val rfl rfl (pv_assign rfl) ?_)
    refine G.nil ?_
    refine G.nBlock ?_
    refine G.nThen ?_
    refine G.region ?_
    refine G.op rfl (G.val rfl rfl (pv_add64 rfl rfl (by omega)) ?_)
    refine G.op rfl (G.val rfl rfl (pv_move rfl) ?_)
    refine G.nil ?_
    exact G.next (i + 1) (by first | exact trivial | ((try dsimp only); exact ⟨by omega, by rw [hsz]; omega⟩)) (by (try dsimp only); omega) (.consE rfl (by first | rfl | exact int_eq (by first | omega | (dsimp only; omega)) | exact congrArg _ (by omega)) (.consE rfl (by first | rfl | exact int_eq (by first | omega | (dsimp only; omega)) | exact congrArg _ (by omega)) (.cons rfl (.cons rfl (.cons rfl .nil))))) (by repeat (first | exact Sub.nil | (apply Sub.cons; (repeat (first | with_reducible exact Sel.here | exact Sel.here | apply Sel.there)))))
  · refine G.exit ?_
    refine G.eThen ?_
    refine G.eThen ?_
    refine G.eBlock ?_
    refine G.nThen ?_
    refine G.seq ?_
    refine G.region ?_
    refine G.op rfl (G.val rfl rfl (pv_move rfl) ?_)
    refine G.op rfl (G.val rfl rfl (pv_assign rfl) ?_)
    refine G.nil ?_
    refine G.nThen ?_
    refine G.ret ?_
    obtain rfl : i = xs.length := by omega
    rw [← hel', List.take_length]
    exact G.done0G rfl (Rv.tmp rfl Rv.nil) (by first | rfl | exact int_eq (by omega) | (simp; done))
set_option maxRecDepth 20000 in
set_option maxHeartbeats 4000000 in

theorem sizeR_tr {Ps : Nat → Prop} (v : Value) (xs : List ET) (hn : xs.length ≤ 1000) : Tr Try.prog 23 #[v] [slc rEV Ps v xs] [] (T0 (.int .i64 (sizeM (ens xs) : Int))) := by
  refine Tr.of (l := [(0, v)]) Try.func23 rfl (n := 20) rfl (.cons rfl .nil) (fun w0 hro => ?_)
  have hv := ro1 hro
  have hv' := hv
  obtain ⟨av, cv, bv, fv, rfl, hcapv, hmaxv, hnilv, hadv, helv⟩ := Ro.openT hv
  have hel' := ens_length xs
  refine G.seq ?_
  refine G.region ?_
  refine G.op rfl (G.val rfl rfl (pv_assign rfl) ?_)
  refine G.nil ?_
  refine G.nThen ?_
  refine G.seq ?_
  refine G.region ?_
  refine G.op rfl (G.val rfl rfl (pv_assign rfl) ?_)
  refine G.nil ?_
  refine G.nThen ?_
  refine G.seq ?_
  refine G.seq ?_
  refine G.region ?_
  refine G.op rfl (G.val rfl rfl (pv_assign rfl) ?_)
  refine G.nil ?_
  refine G.nThen ?_
  refine G.block ?_
  refine G.loopK (X := Nat) (ts := [0, 2]) (fun i => i ≤ xs.length ∧ (sizeM ((ens xs).take i) ≤ i * 140737488355328)) (fun i => [(4, .int .i64 (i : Int)), (3, .int .i64 (sizeM ((ens xs).take i) : Int))]) (fun i => []) (fun i => xs.length - i) (x0 := 0) (.cons rfl (.cons rfl .nil)) (by repeat (first | exact Sub.nil | (apply Sub.cons; (repeat (first | with_reducible exact Sel.here | exact Sel.here | apply Sel.there))))) (.cons (.cons .nil)) (by repeat (first | exact Ap.nil | apply Ap.cons)) (by first | exact trivial | ((try dsimp only); exact ⟨Nat.zero_le _, by simp [sizeM]⟩)) (.consE rfl (by first | rfl | exact int_eq (by first | omega | (dsimp only; omega)) | exact congrArg _ (by omega)) (.consE rfl (by first | rfl | exact int_eq (by first | omega | (dsimp only; omega)) | exact congrArg _ (by omega)) .nil)) (fun i hJ => ?_)
  try dsimp only at hJ
  try dsimp only
  obtain ⟨hki, hJ⟩ := hJ
  refine G.seq ?_
  refine G.seq ?_
  refine G.region ?_
  refine G.op rfl (G.val rfl rfl (pv_move rfl) ?_)
  refine G.op rfl (G.val rfl rfl (pv_move rfl) ?_)
  refine G.op rfl (G.val rfl rfl (pv_lenSl Try.underlying22 rfl) ?_)
  refine G.op rfl (G.val rfl rfl (pv_lss rfl rfl) ?_)
  refine G.nil ?_
  refine G.nThen ?_
  refine G.condP rfl (fun h8 => ?_) (fun h8 => ?_)
  · have hlt : i < xs.length := by omega
    have hsz := sizeM_succ hlt
    have hEv := helv i hlt
    have hRv := Ro.evRng hEv
    have hDv := Ro.evDat hEv
    obtain ⟨hk1v, hk2v, hlpv, hldv, hltv⟩ := Ro.evOk hEv
    have hCv := Ro.one1 hDv
    obtain ⟨aD, cD, hx2⟩ := Ro.slv hDv
    rw [hx2] at hRv hCv
    refine G.skip ?_
    refine G.nThen ?_
    refine G.seq ?_
    refine G.block ?_
    refine G.region ?_
    refine G.op rfl (G.val rfl rfl (pv_move rfl) ?_)
    refine G.op rfl (G.val rfl rfl (pv_move rfl) ?_)
    refine G.op rfl (G.val rfl rfl (pv_move rfl) ?_)
    refine G.op rfl (G.val rfl rfl (pv_ixSl (sz := 5) Try.underlying22 (by kernel_rfl) rfl rfl (by first | with_reducible assumption | assumption | exact fun _ => rfl) rfl (by omega)) ?_)
    refine G.op rfl (G.val rfl rfl (pv_fieldAddrK (sz := 0) (k := 3) Try.underlying31 rfl (by kernel_rfl) rfl rfl) ?_)
    refine G.op rfl (G.val rfl rfl (pv_load Try.underlying29 rfl rfl (by first | exact blk_cell (by (repeat (first | with_reducible exact Sel.here | exact Sel.here | apply Sel.there)); done) (by rfl) | exact rng_cell (by (repeat (first | with_reducible exact Sel.here | exact Sel.here | apply Sel.there)); done) (by rfl) | exact ro_blk (by assumption) (by rfl) | exact ro_rngC (by assumption) (by rfl) | exact ro_int (by assumption) | exact ro_byte (by assumption) | exact ro_str (by assumption) | with_reducible assumption | assumption)) ?_)
    refine G.op rfl (G.val rfl rfl (pv_lenSl Try.underlying29 rfl) ?_)
    refine G.op rfl (G.val rfl rfl (pv_add64 rfl rfl (by omega)) ?_)
    refine G.op rfl (G.val rfl rfl (pv_assign rfl) ?_)
    refine G.nil ?_
    refine G.nBlock ?_
    refine G.nThen ?_
    refine G.region ?_
    refine G.op rfl (G.val rfl rfl (pv_move rfl) ?_)
    refine G.op rfl (G.val rfl rfl (pv_add64 rfl rfl (by omega)) ?_)
    refine G.op rfl (G.val rfl rfl (pv_assign rfl) ?_)
    refine G.nil ?_
    exact G.next (i + 1) (by first | exact trivial | ((try dsimp only); exact ⟨by omega, by rw [hsz]; omega⟩)) (by (try dsimp only); omega) (.consE rfl (by first | rfl | exact int_eq (by first | omega | (dsimp only; omega)) | exact congrArg _ (by omega)) (.consE rfl (by first | rfl | exact int_eq (by first | omega | (dsimp only; omega)) | exact congrArg _ (by omega)) (.cons rfl (.cons rfl .nil)))) (by repeat (first | exact Sub.nil | (apply Sub.cons; (repeat (first | with_reducible exact Sel.here | exact Sel.here | apply Sel.there)))))
  · refine G.exit ?_
    refine G.eThen ?_
    refine G.eThen ?_
    refine G.eBlock ?_
    refine G.nThen ?_
    refine G.seq ?_
    refine G.region ?_
    refine G.op rfl (G.val rfl rfl (pv_move rfl) ?_)
    refine G.op rfl (G.val rfl rfl (pv_assign rfl) ?_)
    refine G.nil ?_
    refine G.nThen ?_
    refine G.ret ?_
    obtain rfl : i = xs.length := by omega
    rw [← hel', List.take_length]
    exact G.done0G rfl (Rv.tmp rfl Rv.nil) (by first | rfl | exact int_eq (by omega) | (simp; done))
end Go.Proofs.Ytchgaedidfefoaa

/- Contracts of layer 8: great trees; whether two trees are the same, two lists of texts. Conditions: none. -/
set_option linter.unusedVariables false
set_option linter.unusedSimpArgs false
namespace Go.Proofs.Ytchgaedidfefoaa
open Go.RowKit

/-- a tree that is too great for a statement -/
def bigM (es : List En) (k r : Int) : Prop := k < es.length ∨ r < totM es
instance (es : List En) (k r : Int) : Decidable (bigM es k r) := inferInstanceAs (Decidable (_ ∨ _))
theorem totM_le {xs : List ET} (h : ∀ x ∈ xs, EnOk x.1) : totM (ens xs) ≤ xs.length * (3 * 140737488355328) := by
  induction xs with
  | nil => simp [totM, ens]
  | cons x xs ih =>
    have h1 := h x (List.mem_cons_self ..)
    have h2 := ih fun y hy => h y (List.mem_cons_of_mem _ hy)
    obtain ⟨_, _, h3, h4, h5⟩ := h1
    unfold totM ens at *
    simp at *
    omega
set_option maxRecDepth 20000 in
set_option maxHeartbeats 4000000 in

theorem big_tr {Ps : Nat → Prop} (v : Value) (xs : List ET) (k r : Int) (hk : 0 ≤ k ∧ k ≤ 1000) : Tr Try.prog 12 #[v, .int .i64 k, .int .i64 r] [slc rEV Ps v xs] [] (T0 (.bool (decide (bigM (ens xs) k r)))) := by
  refine Tr.of (l := [(0, v), (1, .int .i64 k), (2, .int .i64 r)]) Try.func12 rfl (n := 51) rfl (.cons rfl (.cons rfl (.cons rfl .nil))) (fun w0 hro => ?_)
  have hv := ro1 hro
  have hv' := hv
  obtain ⟨av, cv, bv, fv, rfl, hcapv, hmaxv, hnilv, hadv, helv⟩ := Ro.openT hv
  have hel' := ens_length xs
  refine G.seq ?_
  refine G.region ?_
  refine G.op rfl (G.val rfl rfl (pv_assign rfl) ?_)
  refine G.nil ?_
  refine G.nThen ?_
  refine G.seq ?_
  refine G.region ?_
  refine G.op rfl (G.val rfl rfl (pv_assign rfl) ?_)
  refine G.nil ?_
  refine G.nThen ?_
  refine G.seq ?_
  refine G.seq ?_
  refine G.region ?_
  refine G.op rfl (G.val rfl rfl (pv_assign rfl) ?_)
  refine G.nil ?_
  refine G.nThen ?_
  refine G.block ?_
  refine G.loopK (X := Nat) (ts := [0, 1, 2, 6]) (fun i => i ≤ xs.length ∧ (i : Int) ≤ k + 1 ∧ totM ((ens xs).take i) ≤ i * (3 * 140737488355328)) (fun i => [(7, .int .i64 (totM ((ens xs).take i) : Int)), (8, .int .i64 (i : Int))]) (fun i => []) (fun i => xs.length - i) (x0 := 0) (.cons rfl (.cons rfl (.cons rfl (.cons rfl .nil)))) (by repeat (first | exact Sub.nil | (apply Sub.cons; (repeat (first | with_reducible exact Sel.here | exact Sel.here | apply Sel.there))))) (.cons (.cons .nil)) (by repeat (first | exact Ap.nil | apply Ap.cons)) (by first | exact trivial | ((try dsimp only); exact ⟨Nat.zero_le _, by omega, by simp [totM]⟩)) (.consE rfl (by first | rfl | exact int_eq (by first | omega | (dsimp only; omega)) | exact congrArg _ (by omega)) (.consE rfl (by first | rfl | exact int_eq (by first | omega | (dsimp only; omega)) | exact congrArg _ (by omega)) .nil)) (fun i hJ => ?_)
  try dsimp only at hJ
  try dsimp only
  obtain ⟨hi1, hi2, hsum⟩ := hJ
  refine G.seq ?_
  refine G.seq ?_
  refine G.cutK (X := Unit) (ts := [0, 1, 2, 6, 7, 8]) (p := []) (fun _ => True) (fun _ => [(17, .bool (decide (i < xs.length ∧ (i : Int) ≤ k)))]) (fun _ => []) (.cons rfl (.cons rfl (.cons rfl (.cons rfl (.cons rfl (.cons rfl .nil)))))) (by repeat (first | exact Sub.nil | (apply Sub.cons; (repeat (first | with_reducible exact Sel.here | exact Sel.here | apply Sel.there))))) (.cons .nil) (by repeat (first | exact Ap.nil | apply Ap.cons)) ?_ ?_
  · refine G.region ?_
    refine G.op rfl (G.val rfl rfl (pv_move rfl) ?_)
    refine G.op rfl (G.val rfl rfl (pv_move rfl) ?_)
    refine G.op rfl (G.val rfl rfl (pv_lenSl Try.underlying22 rfl) ?_)
    refine G.op rfl (G.val rfl rfl (pv_lss rfl rfl) ?_)
    refine G.op rfl (G.val rfl rfl (pv_move rfl) ?_)
    refine G.partP (t := 13) rfl (fun h13 => ?_) (fun h13 => ?_)
    · refine G.want rfl rfl rfl (G.val rfl rfl (pv_move rfl) ?_)
      refine G.want rfl rfl rfl (G.val rfl rfl (pv_move rfl) ?_)
      refine G.want rfl rfl rfl (G.val rfl rfl (pv_leq rfl rfl) ?_)
      refine G.op rfl (G.val rfl rfl (pv_pick rfl rfl) ?_)
      refine G.nil ?_
      exact G.meet (()) (by first | exact trivial | ((try dsimp only); exact trivial)) (.consE rfl (by first | exact dec_e (by omega) | exact dec_f (by omega)) (.cons rfl (.cons rfl (.cons rfl (.cons rfl (.cons rfl (.cons rfl .nil))))))) (by repeat (first | exact Sub.nil | (apply Sub.cons; (repeat (first | with_reducible exact Sel.here | exact Sel.here | apply Sel.there)))))
    · refine G.pass rfl rfl rfl rfl rfl rfl ?_
      refine G.pass rfl rfl rfl rfl rfl rfl ?_
      refine G.pass rfl rfl rfl rfl rfl rfl ?_
      refine G.op rfl (G.val rfl rfl (pv_pick rfl rfl) ?_)
      refine G.nil ?_
      exact G.meet (()) (by first | exact trivial | ((try dsimp only); exact trivial)) (.consE rfl (by first | exact dec_e (by omega) | exact dec_f (by omega)) (.cons rfl (.cons rfl (.cons rfl (.cons rfl (.cons rfl (.cons rfl .nil))))))) (by repeat (first | exact Sub.nil | (apply Sub.cons; (repeat (first | with_reducible exact Sel.here | exact Sel.here | apply Sel.there)))))
  · intro _ hJ
    try dsimp only at hJ
    try dsimp only
    refine G.condP rfl (fun h17 => ?_) (fun h17 => ?_)
    · have hlt : i < xs.length := h17.1
      have hik := h17.2
      have hsz := totM_succ hlt
      have hEv := helv i hlt
      have hRv := Ro.evRng hEv
      have hDv := Ro.evDat hEv
      obtain ⟨hk1v, hk2v, hlpv, hldv, hltv⟩ := Ro.evOk hEv
      have hCv := Ro.one1 hDv
      obtain ⟨aD, cD, hx2⟩ := Ro.slv hDv
      rw [hx2] at hRv hCv
      refine G.skip ?_
      refine G.nThen ?_
      refine G.seq ?_
      refine G.block ?_
      refine G.drawT (nn := 23) (p := []) (rem := 8388607) [0, 0, 0, 6, 8, 16, 32, 65, 0, 0, 768, 1024, 2048, 4096, 8320, 0, 0, 98304, 131072, 262144, 524288, 1064960, 4194303] [0, 0, 0, 6, 8, 16, 32, 65, 0, 0, 768, 1024, 2048, 4096, 8320, 0, 0, 98304, 131072, 262144, 524288, 1064960, 2097153] (by kernel_rfl) ⟨rfl, by kernel_rfl, by kernel_rfl⟩ (by repeat (first | exact Sub.nil | (apply Sub.cons; (repeat (first | with_reducible exact Sel.here | exact Sel.here | apply Sel.there))))) (by kernel_rfl) (fun hT5 => ?_)
      refine G.takeT hT5 (i := 0) (rem' := 8388606) rfl rfl rfl (by kernel_rfl) (fun _ _ _ h => h) rfl (pv_move rfl) (by repeat (first | exact Sub.nil | (apply Sub.cons; (repeat (first | with_reducible exact Sel.here | exact Sel.here | apply Sel.there))))) ?_
      refine G.takeT hT5 (i := 1) (rem' := 8388604) rfl rfl rfl (by kernel_rfl) (fun _ _ _ h => h) rfl (pv_move rfl) (by repeat (first | exact Sub.nil | (apply Sub.cons; (repeat (first | with_reducible exact Sel.here | exact Sel.here | apply Sel.there))))) ?_
      refine G.takeT hT5 (i := 2) (rem' := 8388600) rfl rfl rfl (by kernel_rfl) (fun _ _ _ h => h) rfl (pv_move rfl) (by repeat (first | exact Sub.nil | (apply Sub.cons; (repeat (first | with_reducible exact Sel.here | exact Sel.here | apply Sel.there))))) ?_
      refine G.takeT hT5 (i := 3) (rem' := 8388592) rfl rfl rfl (by kernel_rfl) (fun _ _ _ h => h) rfl (pv_ixSl (sz := 5) Try.underlying22 (by kernel_rfl) rfl rfl (by first | with_reducible assumption | assumption | exact fun _ => rfl) rfl (by omega)) (by repeat (first | exact Sub.nil | (apply Sub.cons; (repeat (first | with_reducible exact Sel.here | exact Sel.here | apply Sel.there))))) ?_
      refine G.takeT hT5 (i := 4) (rem' := 8388576) rfl rfl rfl (by kernel_rfl) (fun _ _ _ h => h) rfl (pv_fieldAddrK (sz := 0) (k := 0) Try.underlying31 rfl (by kernel_rfl) rfl rfl) (by repeat (first | exact Sub.nil | (apply Sub.cons; (repeat (first | with_reducible exact Sel.here | exact Sel.here | apply Sel.there))))) ?_
      refine G.takeT hT5 (i := 8) (rem' := 8388320) rfl rfl rfl (by kernel_rfl) (fun _ _ _ h => h) rfl (pv_move rfl) (by repeat (first | exact Sub.nil | (apply Sub.cons; (repeat (first | with_reducible exact Sel.here | exact Sel.here | apply Sel.there))))) ?_
      refine G.takeT hT5 (i := 9) (rem' := 8387808) rfl rfl rfl (by kernel_rfl) (fun _ _ _ h => h) rfl (pv_move rfl) (by repeat (first | exact Sub.nil | (apply Sub.cons; (repeat (first | with_reducible exact Sel.here | exact Sel.here | apply Sel.there))))) ?_
      refine G.takeT hT5 (i := 10) (rem' := 8386784) rfl rfl rfl (by kernel_rfl) (fun _ _ _ h => h) rfl (pv_ixSl (sz := 5) Try.underlying22 (by kernel_rfl) rfl rfl (by first | with_reducible assumption | assumption | exact fun _ => rfl) rfl (by omega)) (by repeat (first | exact Sub.nil | (apply Sub.cons; (repeat (first | with_reducible exact Sel.here | exact Sel.here | apply Sel.there))))) ?_
      refine G.takeT hT5 (i := 11) (rem' := 8384736) rfl rfl rfl (by kernel_rfl) (fun _ _ _ h => h) rfl (pv_fieldAddrK (sz := 0) (k := 3) Try.underlying31 rfl (by kernel_rfl) rfl rfl) (by repeat (first | exact Sub.nil | (apply Sub.cons; (repeat (first | with_reducible exact Sel.here | exact Sel.here | apply Sel.there))))) ?_
      refine G.takeT hT5 (i := 15) (rem' := 8351968) rfl rfl rfl (by kernel_rfl) (fun _ _ _ h => h) rfl (pv_move rfl) (by repeat (first | exact Sub.nil | (apply Sub.cons; (repeat (first | with_reducible exact Sel.here | exact Sel.here | apply Sel.there))))) ?_
      refine G.takeT hT5 (i := 16) (rem' := 8286432) rfl rfl rfl (by kernel_rfl) (fun _ _ _ h => h) rfl (pv_move rfl) (by repeat (first | exact Sub.nil | (apply Sub.cons; (repeat (first | with_reducible exact Sel.here | exact Sel.here | apply Sel.there))))) ?_
      refine G.takeT hT5 (i := 17) (rem' := 8155360) rfl rfl rfl (by kernel_rfl) (fun _ _ _ h => h) rfl (pv_ixSl (sz := 5) Try.underlying22 (by kernel_rfl) rfl rfl (by first | with_reducible assumption | assumption | exact fun _ => rfl) rfl (by omega)) (by repeat (first | exact Sub.nil | (apply Sub.cons; (repeat (first | with_reducible exact Sel.here | exact Sel.here | apply Sel.there))))) ?_
      refine G.takeT hT5 (i := 18) (rem' := 7893216) rfl rfl rfl (by kernel_rfl) (fun _ _ _ h => h) rfl (pv_fieldAddrK (sz := 0) (k := 4) Try.underlying31 rfl (by kernel_rfl) rfl rfl) (by repeat (first | exact Sub.nil | (apply Sub.cons; (repeat (first | with_reducible exact Sel.here | exact Sel.here | apply Sel.there))))) ?_
      refine G.takeT hT5 (i := 5) (rem' := 7893184) rfl rfl rfl (by kernel_rfl) (fun _ _ _ h => h) rfl (pv_load Try.underlying9 rfl rfl (by first | exact blk_cell (by (repeat (first | with_reducible exact Sel.here | exact Sel.here | apply Sel.there)); done) (by rfl) | exact rng_cell (by (repeat (first | with_reducible exact Sel.here | exact Sel.here | apply Sel.there)); done) (by rfl) | exact ro_blk (by assumption) (by rfl) | exact ro_rngC (by assumption) (by rfl) | exact ro_int (by assumption) | exact ro_byte (by assumption) | exact ro_str (by assumption) | with_reducible assumption | assumption)) (by repeat (first | exact Sub.nil | (apply Sub.cons; (repeat (first | with_reducible exact Sel.here | exact Sel.here | apply Sel.there))))) ?_
      refine G.takeT hT5 (i := 6) (rem' := 7893120) rfl rfl rfl (by kernel_rfl) (fun _ _ _ h => h) rfl (pv_lenS Try.underlying9 rfl) (by repeat (first | exact Sub.nil | (apply Sub.cons; (repeat (first | with_reducible exact Sel.here | exact Sel.here | apply Sel.there))))) ?_
      refine G.takeT hT5 (i := 7) (rem' := 7892992) rfl rfl rfl (by kernel_rfl) (fun _ _ _ h => h) rfl (pv_add64 rfl rfl (by omega)) (by repeat (first | exact Sub.nil | (apply Sub.cons; (repeat (first | with_reducible exact Sel.here | exact Sel.here | apply Sel.there))))) ?_
      refine G.takeT hT5 (i := 12) (rem' := 7888896) rfl rfl rfl (by kernel_rfl) (fun _ _ _ h => h) rfl (pv_load Try.underlying29 rfl rfl (by first | exact blk_cell (by (repeat (first | with_reducible exact Sel.here | exact Sel.here | apply Sel.there)); done) (by rfl) | exact rng_cell (by (repeat (first | with_reducible exact Sel.here | exact Sel.here | apply Sel.there)); done) (by rfl) | exact ro_blk (by assumption) (by rfl) | exact ro_rngC (by assumption) (by rfl) | exact ro_int (by assumption) | exact ro_byte (by assumption) | exact ro_str (by assumption) | with_reducible assumption | assumption)) (by repeat (first | exact Sub.nil | (apply Sub.cons; (repeat (first | with_reducible exact Sel.here | exact Sel.here | apply Sel.there))))) ?_
      refine G.takeT hT5 (i := 13) (rem' := 7880704) rfl rfl rfl (by kernel_rfl) (fun _ _ _ h => h) rfl (pv_lenSl Try.underlying29 rfl) (by repeat (first | exact Sub.nil | (apply Sub.cons; (repeat (first | with_reducible exact Sel.here | exact Sel.here | apply Sel.there))))) ?_
      refine G.takeT hT5 (i := 14) (rem' := 7864320) rfl rfl rfl (by kernel_rfl) (fun _ _ _ h => h) rfl (pv_add64 rfl rfl (by omega)) (by repeat (first | exact Sub.nil | (apply Sub.cons; (repeat (first | with_reducible exact Sel.here | exact Sel.here | apply Sel.there))))) ?_
      refine G.oneT hT5 (i := 19) (rem' := 7340032) (by kernel_rfl) (by kernel_rfl) ?_
      refine G.turnOp rfl rfl (G.val rfl rfl (pv_load Try.underlying9 rfl rfl (by first | exact blk_cell (by (repeat (first | with_reducible exact Sel.here | exact Sel.here | apply Sel.there)); done) (by rfl) | exact rng_cell (by (repeat (first | with_reducible exact Sel.here | exact Sel.here | apply Sel.there)); done) (by rfl) | exact ro_blk (by assumption) (by rfl) | exact ro_rngC (by assumption) (by rfl) | exact ro_int (by assumption) | exact ro_byte (by assumption) | exact ro_str (by assumption) | with_reducible assumption | assumption)) ?_)
      refine G.back (by repeat (first | exact Sub.nil | (apply Sub.cons; (repeat (first | with_reducible exact Sel.here | exact Sel.here | apply Sel.there))))) ?_
      refine G.takeT hT5 (i := 20) (rem' := 6291456) rfl rfl rfl (by kernel_rfl) (fun _ _ _ h => h) rfl (pv_lenS Try.underlying9 rfl) (by repeat (first | exact Sub.nil | (apply Sub.cons; (repeat (first | with_reducible exact Sel.here | exact Sel.here | apply Sel.there))))) ?_
      refine G.takeT hT5 (i := 21) (rem' := 4194304) rfl rfl rfl (by kernel_rfl) (fun _ _ _ h => h) rfl (pv_add64 rfl rfl (by omega)) (by repeat (first | exact Sub.nil | (apply Sub.cons; (repeat (first | with_reducible exact Sel.here | exact Sel.here | apply Sel.there))))) ?_
      refine G.takeT hT5 (i := 22) (rem' := 0) rfl rfl rfl (by kernel_rfl) (fun _ _ _ h => h) rfl (pv_assign rfl) (by repeat (first | exact Sub.nil | (apply Sub.cons; (repeat (first | with_reducible exact Sel.here | exact Sel.here | apply Sel.there))))) ?_
      refine G.overT hT5 (by kernel_rfl) ?_
      refine G.nBlock ?_
      refine G.nThen ?_
      refine G.region ?_
      refine G.op rfl (G.val rfl rfl (pv_move rfl) ?_)
      refine G.op rfl (G.val rfl rfl (pv_add64 rfl rfl (by omega)) ?_)
      refine G.op rfl (G.val rfl rfl (pv_assign rfl) ?_)
      refine G.nil ?_
      exact G.next (i + 1) (by first | exact trivial | ((try dsimp only); exact ⟨by omega, by omega, by rw [hsz]; omega⟩)) (by (try dsimp only); omega) (.consE rfl (by first | rfl | exact int_eq (by first | omega | (dsimp only; omega)) | exact congrArg _ (by omega)) (.consE rfl (by first | rfl | exact int_eq (by first | omega | (dsimp only; omega)) | exact congrArg _ (by omega)) (.cons rfl (.cons rfl (.cons rfl (.cons rfl .nil)))))) (by repeat (first | exact Sub.nil | (apply Sub.cons; (repeat (first | with_reducible exact Sel.here | exact Sel.here | apply Sel.there)))))
    · have hmost : ¬ k < xs.length → (ens xs).take i = ens xs := fun h => List.take_of_length_le (by omega)
      refine G.exit ?_
      refine G.eThen ?_
      refine G.eThen ?_
      refine G.eBlock ?_
      refine G.nThen ?_
      refine G.seq ?_
      refine G.region ?_
      refine G.op rfl (G.val rfl rfl (pv_move rfl) ?_)
      refine G.op rfl (G.val rfl rfl (pv_lenSl Try.underlying22 rfl) ?_)
      refine G.op rfl (G.val rfl rfl (pv_move rfl) ?_)
      refine G.op rfl (G.val rfl rfl (pv_gtr rfl rfl) ?_)
      refine G.op rfl (G.val rfl rfl (pv_move rfl) ?_)
      refine G.partP (t := 46) rfl (fun h46 => ?_) (fun h46 => ?_)
      · refine G.pass rfl rfl rfl rfl rfl rfl ?_
        refine G.pass rfl rfl rfl rfl rfl rfl ?_
        refine G.pass rfl rfl rfl rfl rfl rfl ?_
        refine G.op rfl (G.val rfl rfl (pv_pick rfl rfl) ?_)
        refine G.op rfl (G.val rfl rfl (pv_assign rfl) ?_)
        refine G.nil ?_
        refine G.nThen ?_
        refine G.ret ?_
        exact G.done0G rfl (Rv.tmp rfl Rv.nil) (by rw [decide_eq_true (show bigM (ens xs) k r from .inl (by omega))]; rfl)
      · refine G.want rfl rfl rfl (G.val rfl rfl (pv_move rfl) ?_)
        refine G.want rfl rfl rfl (G.val rfl rfl (pv_move rfl) ?_)
        refine G.want rfl rfl rfl (G.val rfl rfl (pv_gtr rfl rfl) ?_)
        refine G.op rfl (G.val rfl rfl (pv_pick rfl rfl) ?_)
        refine G.op rfl (G.val rfl rfl (pv_assign rfl) ?_)
        refine G.nil ?_
        refine G.nThen ?_
        refine G.ret ?_
        exact G.done0G rfl (Rv.tmp rfl Rv.nil) (by rw [hmost (by omega)]; exact dec_e (by unfold bigM; omega))
set_option maxRecDepth 20000 in
set_option maxHeartbeats 4000000 in

theorem eqf_tr {Ps Pu : Nat → Prop} (v u : Value) (xs ys : List ET) : Tr Try.prog 54 #[v, u, .func (.func 53) #[] #[]] [slc rEV Ps v xs, slc rEV Pu u ys] [] (T0 (.bool (decide (ens xs = ens ys)))) := by
  refine Tr.of (l := [(0, v), (1, u), (2, .func (.func 53) #[] #[])]) Try.func54 rfl (n := 32) rfl (.cons rfl (.cons rfl (.cons rfl .nil))) (fun w0 hro => ?_)
  obtain ⟨hv0, hu0⟩ := ro2 hro
  have hv := hv0
  have hv' := hv
  obtain ⟨av, cv, bv, fv, rfl, hcapv, hmaxv, hnilv, hadv, helv⟩ := Ro.openT hv
  have hu := hu0
  have hu' := hu
  obtain ⟨au, cu, bu, fu, rfl, hcapu, hmaxu, hnilu, hadu, helu⟩ := Ro.openT hu
  refine G.seq ?_
  refine G.region ?_
  refine G.op rfl (G.val rfl rfl (pv_assign rfl) ?_)
  refine G.nil ?_
  refine G.nThen ?_
  refine G.seq ?_
  refine G.seq ?_
  refine G.region ?_
  refine G.op rfl (G.val rfl rfl (pv_move rfl) ?_)
  refine G.op rfl (G.val rfl rfl (pv_lenSl Try.underlying22 rfl) ?_)
  refine G.op rfl (G.val rfl rfl (pv_move rfl) ?_)
  refine G.op rfl (G.val rfl rfl (pv_lenSl Try.underlying22 rfl) ?_)
  refine G.op rfl (G.val rfl rfl (pv_neq rfl rfl) ?_)
  refine G.nil ?_
  refine G.nThen ?_
  refine G.condP rfl (fun h14 => ?_) (fun h14 => ?_)
  · refine G.seq ?_
    refine G.region ?_
    refine G.op rfl (G.val rfl rfl (pv_assign rfl) ?_)
    refine G.nil ?_
    refine G.nThen ?_
    refine G.ret ?_
    refine G.rThen ?_
    exact G.done0G rfl (Rv.tmp rfl Rv.nil) (by rw [decide_eq_false (ens_len_ne (by omega))]; rfl)
  · have hxy : xs.length = ys.length := by omega
    refine G.skip ?_
    refine G.nThen ?_
    refine G.seq ?_
    refine G.seq ?_
    refine G.region ?_
    refine G.op rfl (G.val rfl rfl (pv_move rfl) ?_)
    refine G.op rfl (G.val rfl rfl (pv_lenSl Try.underlying22 rfl) ?_)
    refine G.op rfl (G.val rfl rfl (pv_move rfl) ?_)
    refine G.nil ?_
    refine G.nThen ?_
    refine G.block ?_
    refine G.loopK (X := Nat) (ts := [1, 2, 15, 16]) (fun i => i ≤ xs.length ∧ (∀ q (hq : q < xs.length), q < i → xs[q].1 = (ys[q]'(by omega)).1)) (fun i => [(17, .int .i64 (i : Int))]) (fun i => []) (fun i => xs.length - i) (x0 := 0) (.cons rfl (.cons rfl (.cons rfl (.cons rfl .nil)))) (by repeat (first | exact Sub.nil | (apply Sub.cons; (repeat (first | with_reducible exact Sel.here | exact Sel.here | apply Sel.there))))) (.cons .nil) (by repeat (first | exact Ap.nil | apply Ap.cons)) (by first | exact trivial | ((try dsimp only); exact ⟨Nat.zero_le _, fun q _ h => absurd h (by omega)⟩)) (.consE rfl (by first | rfl | exact int_eq (by first | omega | (dsimp only; omega)) | exact congrArg _ (by omega)) .nil) (fun i hJ => ?_)
    try dsimp only at hJ
    try dsimp only
    obtain ⟨hki, hJ⟩ := hJ
    refine G.seq ?_
    refine G.region ?_
    refine G.op rfl (G.val rfl rfl (pv_lss rfl rfl) ?_)
    refine G.nil ?_
    refine G.nThen ?_
    refine G.seq ?_
    refine G.condP rfl (fun h18 => ?_) (fun h18 => ?_)
    · have hJ0 := hJ
      have hlt : i < xs.length := by omega
      have hlu : i < ys.length := by omega
      have hEv := helv i hlt
      have hRv := Ro.evRng hEv
      have hDv := Ro.evDat hEv
      obtain ⟨hk1v, hk2v, hlpv, hldv, hltv⟩ := Ro.evOk hEv
      have hCv := Ro.one1 hDv
      have hEu := helu i hlu
      have hRu := Ro.evRng hEu
      have hDu := Ro.evDat hEu
      obtain ⟨hk1u, hk2u, hlpu, hldu, hltu⟩ := Ro.evOk hEu
      have hCu := Ro.one1 hDu
      refine G.skip ?_
      refine G.nThen ?_
      refine G.seq ?_
      refine G.block ?_
      refine G.seq ?_
      refine G.region ?_
      refine G.op rfl (G.val rfl rfl (pv_move rfl) ?_)
      refine G.op rfl (G.val rfl rfl (pv_ixSl (sz := 5) Try.underlying22 (by kernel_rfl) rfl rfl (by first | with_reducible assumption | assumption | exact fun _ => rfl) rfl (by omega)) ?_)
      refine G.op rfl (G.val rfl rfl (pv_loadN (cs := [_, _, _, _, _]) Try.underlying31 rfl (by kernel_rfl) rfl (by first | exact blk_range (k := 5) (by (repeat (first | with_reducible exact Sel.here | exact Sel.here | apply Sel.there)); done) (by rfl) | exact ro_rng0 (by assumption) | exact rng_range (k := 5) (by (repeat (first | with_reducible exact Sel.here | exact Sel.here | apply Sel.there)); done) (by rfl) | exact ro_range (k := 5) (by assumption) (by rfl) | exact ro_rngR (k := 5) (by assumption) (by rfl))) ?_)
      refine G.op rfl (G.alloc (z := .agg #[.string ⟨#[]⟩, .int .i64 0, .int .i64 0, .slice none 0 0, .string ⟨#[]⟩]) (cs := [.string ⟨#[]⟩, .int .i64 0, .int .i64 0, .slice none 0 0, .string ⟨#[]⟩]) rfl (by kernel_rfl) rfl ?_)
      intro b8
      refine G.op rfl (G.val rfl rfl (pv_assign rfl) ?_)
      refine G.op rfl (G.storeN (by kernel_rfl) rfl rfl (by first | exact (all1_cons (by first | rfl | with_reducible assumption) (all1_cons (by first | rfl | with_reducible assumption) (all1_cons (by first | rfl | with_reducible assumption) (all1_cons (by first | rfl | with_reducible assumption) (all1_cons (by first | rfl | with_reducible assumption) all1_nil))))) | exact List.all_eq_true.2 (vByte_one _) | rfl) (by repeat (first | with_reducible exact Sel.here | exact Sel.here | apply Sel.there)) (by first | (simp; done) | exact Nat.le_of_ble_eq_true rfl) ?_)
      refine G.nil ?_
      refine G.nThen ?_
      refine G.seq ?_
      refine G.region ?_
      refine G.op rfl (G.val rfl rfl (pv_move rfl) ?_)
      refine G.op rfl (G.val rfl rfl (pv_move rfl) ?_)
      refine G.op rfl (G.val rfl rfl (pv_ixSl (sz := 5) Try.underlying22 (by kernel_rfl) rfl rfl (by first | with_reducible assumption | assumption | exact fun _ => rfl) rfl (by omega)) ?_)
      refine G.op rfl (G.val rfl rfl (pv_loadN (cs := [_, _, _, _, _]) Try.underlying31 rfl (by kernel_rfl) rfl (by first | exact blk_range (k := 5) (by (repeat (first | with_reducible exact Sel.here | exact Sel.here | apply Sel.there)); done) (by rfl) | exact ro_rng0 (by assumption) | exact rng_range (k := 5) (by (repeat (first | with_reducible exact Sel.here | exact Sel.here | apply Sel.there)); done) (by rfl) | exact ro_range (k := 5) (by assumption) (by rfl) | exact ro_rngR (k := 5) (by assumption) (by rfl))) ?_)
      refine G.op rfl (G.alloc (z := .agg #[.string ⟨#[]⟩, .int .i64 0, .int .i64 0, .slice none 0 0, .string ⟨#[]⟩]) (cs := [.string ⟨#[]⟩, .int .i64 0, .int .i64 0, .slice none 0 0, .string ⟨#[]⟩]) rfl (by kernel_rfl) rfl ?_)
      intro b9
      refine G.op rfl (G.storeN (by kernel_rfl) rfl rfl (by first | exact (all1_cons (by first | rfl | with_reducible assumption) (all1_cons (by first | rfl | with_reducible assumption) (all1_cons (by first | rfl | with_reducible assumption) (all1_cons (by first | rfl | with_reducible assumption) (all1_cons (by first | rfl | with_reducible assumption) all1_nil))))) | exact List.all_eq_true.2 (vByte_one _) | rfl) (by repeat (first | with_reducible exact Sel.here | exact Sel.here | apply Sel.there)) (by first | (simp; done) | exact Nat.le_of_ble_eq_true rfl) ?_)
      refine G.nil ?_
      refine G.nThen ?_
      refine G.seq ?_
      refine G.region ?_
      refine G.op rfl (G.val rfl rfl (pv_move rfl) ?_)
      refine G.op rfl (G.val rfl rfl (pv_loadN (cs := [_, _, _, _, _]) Try.underlying31 rfl (by kernel_rfl) rfl (by first | exact blk_range (k := 5) (by (repeat (first | with_reducible exact Sel.here | exact Sel.here | apply Sel.there)); done) (by rfl) | exact ro_rng0 (by assumption) | exact rng_range (k := 5) (by (repeat (first | with_reducible exact Sel.here | exact Sel.here | apply Sel.there)); done) (by rfl) | exact ro_range (k := 5) (by assumption) (by rfl) | exact ro_rngR (k := 5) (by assumption) (by rfl))) ?_)
      refine G.op rfl (G.val rfl rfl (pv_loadN (cs := [_, _, _, _, _]) Try.underlying31 rfl (by kernel_rfl) rfl (by first | exact blk_range (k := 5) (by (repeat (first | with_reducible exact Sel.here | exact Sel.here | apply Sel.there)); done) (by rfl) | exact ro_rng0 (by assumption) | exact rng_range (k := 5) (by (repeat (first | with_reducible exact Sel.here | exact Sel.here | apply Sel.there)); done) (by rfl) | exact ro_range (k := 5) (by assumption) (by rfl) | exact ro_rngR (k := 5) (by assumption) (by rfl))) ?_)
      refine G.op rfl (G.cRv rfl rfl rfl rfl rfl Try.func53 rfl rfl (by rfl) (may2 (by first | (apply May.old; first | with_reducible assumption | assumption) | (apply Sel.may; (repeat (first | with_reducible exact Sel.here | exact Sel.here | apply Sel.there)); done) | (apply may_own; (repeat (first | with_reducible exact Sel.here | exact Sel.here | apply Sel.there)); exact rfl; exact (fun _ _ => trivial); done) | (apply may_ownB; (repeat (first | with_reducible exact Sel.here | exact Sel.here | apply Sel.there)); done) | (apply may_tree; (repeat (first | with_reducible exact Sel.here | exact Sel.here | apply Sel.there)); (repeat (first | with_reducible exact Sel.here | exact Sel.here | apply Sel.there)); assumption; done)) (by first | (apply May.old; first | with_reducible assumption | assumption) | (apply Sel.may; (repeat (first | with_reducible exact Sel.here | exact Sel.here | apply Sel.there)); done) | (apply may_own; (repeat (first | with_reducible exact Sel.here | exact Sel.here | apply Sel.there)); exact rfl; exact (fun _ _ => trivial); done) | (apply may_ownB; (repeat (first | with_reducible exact Sel.here | exact Sel.here | apply Sel.there)); done) | (apply may_tree; (repeat (first | with_reducible exact Sel.here | exact Sel.here | apply Sel.there)); (repeat (first | with_reducible exact Sel.here | exact Sel.here | apply Sel.there)); assumption; done))) (alike_tr _ _ _ _) ?_)
      refine G.op rfl (G.val rfl rfl (pv_notP rfl) ?_)
      refine G.nil ?_
      refine G.nThen ?_
      refine G.condP rfl (fun h30 => ?_) (fun h30 => ?_)
      · have hne : xs[i].1 ≠ ys[i].1 := by assumption
        refine G.seq ?_
        refine G.region ?_
        refine G.op rfl (G.val rfl rfl (pv_assign rfl) ?_)
        refine G.nil ?_
        refine G.nThen ?_
        refine G.ret ?_
        refine G.rBlock ?_
        refine G.rThen ?_
        refine G.rThen ?_
        refine G.rBlock ?_
        refine G.rThen ?_
        exact G.done0G rfl (Rv.tmp rfl Rv.nil) (by rw [decide_eq_false (ens_ne hlt hlu hne)]; rfl)
      · have heq : xs[i].1 = ys[i].1 := Decidable.of_not_not (by assumption)
        refine G.skip ?_
        refine G.nBlock ?_
        refine G.nThen ?_
        refine G.region ?_
        refine G.op rfl (G.val rfl rfl (pv_add64 rfl rfl (by omega)) ?_)
        refine G.op rfl (G.val rfl rfl (pv_move rfl) ?_)
        refine G.nil ?_
        exact G.next (i + 1) (by first | exact trivial | ((try dsimp only); exact ⟨by omega, fun q hq hqi => by rcases Nat.lt_or_ge q i with h1 | h1; exact hJ0 q hq h1; obtain rfl : q = i := (by omega); exact heq⟩)) (by (try dsimp only); omega) (.consE rfl (by first | rfl | exact int_eq (by first | omega | (dsimp only; omega)) | exact congrArg _ (by omega)) (.cons rfl (.cons rfl (.cons rfl (.cons rfl .nil))))) (by repeat (first | exact Sub.nil | (apply Sub.cons; (repeat (first | with_reducible exact Sel.here | exact Sel.here | apply Sel.there)))))
    · refine G.exit ?_
      refine G.eThen ?_
      refine G.eThen ?_
      refine G.eBlock ?_
      refine G.nThen ?_
      refine G.seq ?_
      refine G.region ?_
      refine G.op rfl (G.val rfl rfl (pv_assign rfl) ?_)
      refine G.nil ?_
      refine G.nThen ?_
      refine G.ret ?_
      exact G.done0G rfl (Rv.tmp rfl Rv.nil) (by rw [decide_eq_true (ens_eq (by omega) (fun q hq => hJ q hq (by omega)))]; rfl)
set_option maxRecDepth 20000 in
set_option maxHeartbeats 4000000 in

theorem tsame_tr {Ps Pu : Nat → Prop} (v u : Value) (xs ys : List ET) : Tr Try.prog 28 #[v, u] [slc rEV Ps v xs, slc rEV Pu u ys] [] (T0 (.bool (decide (ens xs = ens ys)))) := by
  refine Tr.of (l := [(0, v), (1, u)]) Try.func28 rfl (n := 8) rfl (.cons rfl (.cons rfl .nil)) (fun w0 hro => ?_)
  obtain ⟨hv0, hu0⟩ := ro2 hro
  refine G.seq ?_
  refine G.region ?_
  refine G.op rfl (G.val rfl rfl (pv_assign rfl) ?_)
  refine G.nil ?_
  refine G.nThen ?_
  refine G.seq ?_
  refine G.region ?_
  refine G.op rfl (G.val rfl rfl (pv_move rfl) ?_)
  refine G.op rfl (G.val rfl rfl (pv_move rfl) ?_)
  refine G.op rfl (G.cR rfl rfl rfl rfl Try.func54 rfl rfl (may2 (by first | (apply May.old; first | with_reducible assumption | assumption) | (apply Sel.may; (repeat (first | with_reducible exact Sel.here | exact Sel.here | apply Sel.there)); done) | (apply may_own; (repeat (first | with_reducible exact Sel.here | exact Sel.here | apply Sel.there)); exact rfl; exact (fun _ _ => trivial); done) | (apply may_ownB; (repeat (first | with_reducible exact Sel.here | exact Sel.here | apply Sel.there)); done) | (apply may_tree; (repeat (first | with_reducible exact Sel.here | exact Sel.here | apply Sel.there)); (repeat (first | with_reducible exact Sel.here | exact Sel.here | apply Sel.there)); assumption; done)) (by first | (apply May.old; first | with_reducible assumption | assumption) | (apply Sel.may; (repeat (first | with_reducible exact Sel.here | exact Sel.here | apply Sel.there)); done) | (apply may_own; (repeat (first | with_reducible exact Sel.here | exact Sel.here | apply Sel.there)); exact rfl; exact (fun _ _ => trivial); done) | (apply may_ownB; (repeat (first | with_reducible exact Sel.here | exact Sel.here | apply Sel.there)); done) | (apply may_tree; (repeat (first | with_reducible exact Sel.here | exact Sel.here | apply Sel.there)); (repeat (first | with_reducible exact Sel.here | exact Sel.here | apply Sel.there)); assumption; done))) (eqf_tr _ _ _ _) ?_)
  refine G.op rfl (G.val rfl rfl (pv_assign rfl) ?_)
  refine G.nil ?_
  refine G.nThen ?_
  refine G.ret ?_
  exact G.done0G rfl (Rv.tmp rfl Rv.nil) (by first | rfl | exact int_eq (by omega) | (simp; done))
set_option maxRecDepth 20000 in
set_option maxHeartbeats 4000000 in

theorem tsameR_tr {Ps Pu : Nat → Prop} (v u : Value) (xs ys : List ET) : Tr Try.prog 29 #[v, u] [slc rEV Ps v xs, slc rEV Pu u ys] [] (T0 (.bool (decide (ens xs = ens ys)))) := by
  refine Tr.of (l := [(0, v), (1, u)]) Try.func29 rfl (n := 27) rfl (.cons rfl (.cons rfl .nil)) (fun w0 hro => ?_)
  obtain ⟨hv0, hu0⟩ := ro2 hro
  have hv := hv0
  have hv' := hv
  obtain ⟨av, cv, bv, fv, rfl, hcapv, hmaxv, hnilv, hadv, helv⟩ := Ro.openT hv
  have hu := hu0
  have hu' := hu
  obtain ⟨au, cu, bu, fu, rfl, hcapu, hmaxu, hnilu, hadu, helu⟩ := Ro.openT hu
  refine G.seq ?_
  refine G.region ?_
  refine G.op rfl (G.val rfl rfl (pv_assign rfl) ?_)
  refine G.nil ?_
  refine G.nThen ?_
  refine G.seq ?_
  refine G.seq ?_
  refine G.region ?_
  refine G.op rfl (G.val rfl rfl (pv_move rfl) ?_)
  refine G.op rfl (G.val rfl rfl (pv_lenSl Try.underlying22 rfl) ?_)
  refine G.op rfl (G.val rfl rfl (pv_move rfl) ?_)
  refine G.op rfl (G.val rfl rfl (pv_lenSl Try.underlying22 rfl) ?_)
  refine G.op rfl (G.val rfl rfl (pv_neq rfl rfl) ?_)
  refine G.nil ?_
  refine G.nThen ?_
  refine G.condP rfl (fun h10 => ?_) (fun h10 => ?_)
  · refine G.seq ?_
    refine G.region ?_
    refine G.op rfl (G.val rfl rfl (pv_assign rfl) ?_)
    refine G.nil ?_
    refine G.nThen ?_
    refine G.ret ?_
    refine G.rThen ?_
    exact G.done0G rfl (Rv.tmp rfl Rv.nil) (by rw [decide_eq_false (ens_len_ne (by omega))]; rfl)
  · have hxy : xs.length = ys.length := by omega
    refine G.skip ?_
    refine G.nThen ?_
    refine G.seq ?_
    refine G.seq ?_
    refine G.region ?_
    refine G.op rfl (G.val rfl rfl (pv_assign rfl) ?_)
    refine G.nil ?_
    refine G.nThen ?_
    refine G.block ?_
    refine G.loopK (X := Nat) (ts := [0, 1]) (fun i => i ≤ xs.length ∧ (∀ q (hq : q < xs.length), q < i → xs[q].1 = (ys[q]'(by omega)).1)) (fun i => [(5, .int .i64 (i : Int))]) (fun i => []) (fun i => xs.length - i) (x0 := 0) (.cons rfl (.cons rfl .nil)) (by repeat (first | exact Sub.nil | (apply Sub.cons; (repeat (first | with_reducible exact Sel.here | exact Sel.here | apply Sel.there))))) (.cons .nil) (by repeat (first | exact Ap.nil | apply Ap.cons)) (by first | exact trivial | ((try dsimp only); exact ⟨Nat.zero_le _, fun q _ h => absurd h (by omega)⟩)) (.consE rfl (by first | rfl | exact int_eq (by first | omega | (dsimp only; omega)) | exact congrArg _ (by omega)) .nil) (fun i hJ => ?_)
    try dsimp only at hJ
    try dsimp only
    obtain ⟨hki, hJ⟩ := hJ
    refine G.seq ?_
    refine G.seq ?_
    refine G.region ?_
    refine G.op rfl (G.val rfl rfl (pv_move rfl) ?_)
    refine G.op rfl (G.val rfl rfl (pv_move rfl) ?_)
    refine G.op rfl (G.val rfl rfl (pv_lenSl Try.underlying22 rfl) ?_)
    refine G.op rfl (G.val rfl rfl (pv_lss rfl rfl) ?_)
    refine G.nil ?_
    refine G.nThen ?_
    refine G.condP rfl (fun h14 => ?_) (fun h14 => ?_)
    · have hJ0 := hJ
      have hlt : i < xs.length := by omega
      have hlu : i < ys.length := by omega
      have hEv := helv i hlt
      have hRv := Ro.evRng hEv
      have hDv := Ro.evDat hEv
      obtain ⟨hk1v, hk2v, hlpv, hldv, hltv⟩ := Ro.evOk hEv
      have hCv := Ro.one1 hDv
      have hEu := helu i hlu
      have hRu := Ro.evRng hEu
      have hDu := Ro.evDat hEu
      obtain ⟨hk1u, hk2u, hlpu, hldu, hltu⟩ := Ro.evOk hEu
      have hCu := Ro.one1 hDu
      refine G.skip ?_
      refine G.nThen ?_
      refine G.seq ?_
      refine G.block ?_
      refine G.seq ?_
      refine G.drawT (nn := 10) (p := []) (rem := 1023) [0, 0, 3, 4, 0, 0, 48, 64, 136, 256] [0, 0, 3, 4, 0, 0, 48, 64, 136, 256] (by kernel_rfl) ⟨rfl, by kernel_rfl, by kernel_rfl⟩ (by repeat (first | exact Sub.nil | (apply Sub.cons; (repeat (first | with_reducible exact Sel.here | exact Sel.here | apply Sel.there))))) (by kernel_rfl) (fun hT6 => ?_)
      refine G.takeT hT6 (i := 0) (rem' := 1022) rfl rfl rfl (by kernel_rfl) (fun _ _ _ h => h) rfl (pv_move rfl) (by repeat (first | exact Sub.nil | (apply Sub.cons; (repeat (first | with_reducible exact Sel.here | exact Sel.here | apply Sel.there))))) ?_
      refine G.takeT hT6 (i := 1) (rem' := 1020) rfl rfl rfl (by kernel_rfl) (fun _ _ _ h => h) rfl (pv_move rfl) (by repeat (first | exact Sub.nil | (apply Sub.cons; (repeat (first | with_reducible exact Sel.here | exact Sel.here | apply Sel.there))))) ?_
      refine G.takeT hT6 (i := 2) (rem' := 1016) rfl rfl rfl (by kernel_rfl) (fun _ _ _ h => h) rfl (pv_ixSl (sz := 5) Try.underlying22 (by kernel_rfl) rfl rfl (by first | with_reducible assumption | assumption | exact fun _ => rfl) rfl (by omega)) (by repeat (first | exact Sub.nil | (apply Sub.cons; (repeat (first | with_reducible exact Sel.here | exact Sel.here | apply Sel.there))))) ?_
      refine G.takeT hT6 (i := 4) (rem' := 1000) rfl rfl rfl (by kernel_rfl) (fun _ _ _ h => h) rfl (pv_move rfl) (by repeat (first | exact Sub.nil | (apply Sub.cons; (repeat (first | with_reducible exact Sel.here | exact Sel.here | apply Sel.there))))) ?_
      refine G.takeT hT6 (i := 5) (rem' := 968) rfl rfl rfl (by kernel_rfl) (fun _ _ _ h => h) rfl (pv_move rfl) (by repeat (first | exact Sub.nil | (apply Sub.cons; (repeat (first | with_reducible exact Sel.here | exact Sel.here | apply Sel.there))))) ?_
      refine G.takeT hT6 (i := 6) (rem' := 904) rfl rfl rfl (by kernel_rfl) (fun _ _ _ h => h) rfl (pv_ixSl (sz := 5) Try.underlying22 (by kernel_rfl) rfl rfl (by first | with_reducible assumption | assumption | exact fun _ => rfl) rfl (by omega)) (by repeat (first | exact Sub.nil | (apply Sub.cons; (repeat (first | with_reducible exact Sel.here | exact Sel.here | apply Sel.there))))) ?_
      refine G.takeT hT6 (i := 3) (rem' := 896) rfl rfl rfl (by kernel_rfl) (fun _ _ _ h => h) rfl (pv_loadN (cs := [_, _, _, _, _]) Try.underlying31 rfl (by kernel_rfl) rfl (by first | exact blk_range (k := 5) (by (repeat (first | with_reducible exact Sel.here | exact Sel.here | apply Sel.there)); done) (by rfl) | exact ro_rng0 (by assumption) | exact rng_range (k := 5) (by (repeat (first | with_reducible exact Sel.here | exact Sel.here | apply Sel.there)); done) (by rfl) | exact ro_range (k := 5) (by assumption) (by rfl) | exact ro_rngR (k := 5) (by assumption) (by rfl))) (by repeat (first | exact Sub.nil | (apply Sub.cons; (repeat (first | with_reducible exact Sel.here | exact Sel.here | apply Sel.there))))) ?_
      refine G.oneT hT6 (i := 7) (rem' := 768) (by kernel_rfl) (by kernel_rfl) ?_
      refine G.turnOp rfl rfl (G.val rfl rfl (pv_loadN (cs := [_, _, _, _, _]) Try.underlying31 rfl (by kernel_rfl) rfl (by first | exact blk_range (k := 5) (by (repeat (first | with_reducible exact Sel.here | exact Sel.here | apply Sel.there)); done) (by rfl) | exact ro_rng0 (by assumption) | exact rng_range (k := 5) (by (repeat (first | with_reducible exact Sel.here | exact Sel.here | apply Sel.there)); done) (by rfl) | exact ro_range (k := 5) (by assumption) (by rfl) | exact ro_rngR (k := 5) (by assumption) (by rfl))) ?_)
      refine G.back (by repeat (first | exact Sub.nil | (apply Sub.cons; (repeat (first | with_reducible exact Sel.here | exact Sel.here | apply Sel.there))))) ?_
      refine G.oneT hT6 (i := 8) (rem' := 512) (by kernel_rfl) (by kernel_rfl) ?_
      refine G.turnOp rfl rfl (G.cR rfl rfl rfl rfl Try.func21 rfl rfl (may2 (by first | (apply May.old; first | with_reducible assumption | assumption) | (apply Sel.may; (repeat (first | with_reducible exact Sel.here | exact Sel.here | apply Sel.there)); done) | (apply may_own; (repeat (first | with_reducible exact Sel.here | exact Sel.here | apply Sel.there)); exact rfl; exact (fun _ _ => trivial); done) | (apply may_ownB; (repeat (first | with_reducible exact Sel.here | exact Sel.here | apply Sel.there)); done) | (apply may_tree; (repeat (first | with_reducible exact Sel.here | exact Sel.here | apply Sel.there)); (repeat (first | with_reducible exact Sel.here | exact Sel.here | apply Sel.there)); assumption; done)) (by first | (apply May.old; first | with_reducible assumption | assumption) | (apply Sel.may; (repeat (first | with_reducible exact Sel.here | exact Sel.here | apply Sel.there)); done) | (apply may_own; (repeat (first | with_reducible exact Sel.here | exact Sel.here | apply Sel.there)); exact rfl; exact (fun _ _ => trivial); done) | (apply may_ownB; (repeat (first | with_reducible exact Sel.here | exact Sel.here | apply Sel.there)); done) | (apply may_tree; (repeat (first | with_reducible exact Sel.here | exact Sel.here | apply Sel.there)); (repeat (first | with_reducible exact Sel.here | exact Sel.here | apply Sel.there)); assumption; done))) (like_tr _ _ _ _) ?_)
      refine G.back (by repeat (first | exact Sub.nil | (apply Sub.cons; (repeat (first | with_reducible exact Sel.here | exact Sel.here | apply Sel.there))))) ?_
      refine G.takeT hT6 (i := 9) (rem' := 0) rfl rfl rfl (by kernel_rfl) (fun _ _ _ h => h) rfl (pv_notP rfl) (by repeat (first | exact Sub.nil | (apply Sub.cons; (repeat (first | with_reducible exact Sel.here | exact Sel.here | apply Sel.there))))) ?_
      refine G.overT hT6 (by kernel_rfl) ?_
      refine G.nThen ?_
      refine G.condP rfl (fun h26 => ?_) (fun h26 => ?_)
      · have hne : xs[i].1 ≠ ys[i].1 := by assumption
        refine G.seq ?_
        refine G.region ?_
        refine G.op rfl (G.val rfl rfl (pv_assign rfl) ?_)
        refine G.nil ?_
        refine G.nThen ?_
        refine G.ret ?_
        refine G.rBlock ?_
        refine G.rThen ?_
        refine G.rThen ?_
        refine G.rBlock ?_
        refine G.rThen ?_
        exact G.done0G rfl (Rv.tmp rfl Rv.nil) (by rw [decide_eq_false (ens_ne hlt hlu hne)]; rfl)
      · have heq : xs[i].1 = ys[i].1 := Decidable.of_not_not (by assumption)
        refine G.skip ?_
        refine G.nBlock ?_
        refine G.nThen ?_
        refine G.region ?_
        refine G.op rfl (G.val rfl rfl (pv_move rfl) ?_)
        refine G.op rfl (G.val rfl rfl (pv_add64 rfl rfl (by omega)) ?_)
        refine G.op rfl (G.val rfl rfl (pv_assign rfl) ?_)
        refine G.nil ?_
        exact G.next (i + 1) (by first | exact trivial | ((try dsimp only); exact ⟨by omega, fun q hq hqi => by rcases Nat.lt_or_ge q i with h1 | h1; exact hJ0 q hq h1; obtain rfl : q = i := (by omega); exact heq⟩)) (by (try dsimp only); omega) (.consE rfl (by first | rfl | exact int_eq (by first | omega | (dsimp only; omega)) | exact congrArg _ (by omega)) (.cons rfl (.cons rfl .nil))) (by repeat (first | exact Sub.nil | (apply Sub.cons; (repeat (first | with_reducible exact Sel.here | exact Sel.here | apply Sel.there)))))
    · refine G.exit ?_
      refine G.eThen ?_
      refine G.eThen ?_
      refine G.eBlock ?_
      refine G.nThen ?_
      refine G.seq ?_
      refine G.region ?_
      refine G.op rfl (G.val rfl rfl (pv_assign rfl) ?_)
      refine G.nil ?_
      refine G.nThen ?_
      refine G.ret ?_
      exact G.done0G rfl (Rv.tmp rfl Rv.nil) (by rw [decide_eq_true (ens_eq (by omega) (fun q hq => hJ q hq (by omega)))]; rfl)
set_option maxRecDepth 20000 in
set_option maxHeartbeats 4000000 in

theorem sameTree_tr {Ps Pu : Nat → Prop} (v u : Value) (xs ys : List ET) : Tr Try.prog 16 #[v, u] [slc rEV Ps v xs, slc rEV Pu u ys] [] (T0 (.bool (decide (ens xs = ens ys)))) := by
  refine Tr.of (l := [(0, v), (1, u)]) Try.func16 rfl (n := 81) rfl (.cons rfl (.cons rfl .nil)) (fun w0 hro => ?_)
  obtain ⟨hv0, hu0⟩ := ro2 hro
  have hv := hv0
  have hv' := hv
  obtain ⟨av, cv, bv, fv, rfl, hcapv, hmaxv, hnilv, hadv, helv⟩ := Ro.openT hv
  have hu := hu0
  have hu' := hu
  obtain ⟨au, cu, bu, fu, rfl, hcapu, hmaxu, hnilu, hadu, helu⟩ := Ro.openT hu
  refine G.seq ?_
  refine G.region ?_
  refine G.op rfl (G.val rfl rfl (pv_assign rfl) ?_)
  refine G.nil ?_
  refine G.nThen ?_
  refine G.seq ?_
  refine G.seq ?_
  refine G.region ?_
  refine G.op rfl (G.val rfl rfl (pv_move rfl) ?_)
  refine G.op rfl (G.val rfl rfl (pv_lenSl Try.underlying22 rfl) ?_)
  refine G.op rfl (G.val rfl rfl (pv_move rfl) ?_)
  refine G.op rfl (G.val rfl rfl (pv_lenSl Try.underlying22 rfl) ?_)
  refine G.op rfl (G.val rfl rfl (pv_neq rfl rfl) ?_)
  refine G.nil ?_
  refine G.nThen ?_
  refine G.condP rfl (fun h10 => ?_) (fun h10 => ?_)
  · refine G.seq ?_
    refine G.region ?_
    refine G.op rfl (G.val rfl rfl (pv_assign rfl) ?_)
    refine G.nil ?_
    refine G.nThen ?_
    refine G.ret ?_
    refine G.rThen ?_
    exact G.done0G rfl (Rv.tmp rfl Rv.nil) (by rw [decide_eq_false (ens_len_ne (by omega))]; rfl)
  · have hxy : xs.length = ys.length := by omega
    refine G.skip ?_
    refine G.nThen ?_
    refine G.seq ?_
    refine G.seq ?_
    refine G.region ?_
    refine G.op rfl (G.val rfl rfl (pv_assign rfl) ?_)
    refine G.nil ?_
    refine G.nThen ?_
    refine G.block ?_
    refine G.loopK (X := Nat) (ts := [0, 1]) (fun i => i ≤ xs.length ∧ (∀ q (hq : q < xs.length), q < i → xs[q].1 = (ys[q]'(by omega)).1)) (fun i => [(5, .int .i64 (i : Int))]) (fun i => []) (fun i => xs.length - i) (x0 := 0) (.cons rfl (.cons rfl .nil)) (by repeat (first | exact Sub.nil | (apply Sub.cons; (repeat (first | with_reducible exact Sel.here | exact Sel.here | apply Sel.there))))) (.cons .nil) (by repeat (first | exact Ap.nil | apply Ap.cons)) (by first | exact trivial | ((try dsimp only); exact ⟨Nat.zero_le _, fun q _ h => absurd h (by omega)⟩)) (.consE rfl (by first | rfl | exact int_eq (by first | omega | (dsimp only; omega)) | exact congrArg _ (by omega)) .nil) (fun i hJ => ?_)
    try dsimp only at hJ
    try dsimp only
    obtain ⟨hki, hJ⟩ := hJ
    refine G.seq ?_
    refine G.seq ?_
    refine G.region ?_
    refine G.op rfl (G.val rfl rfl (pv_move rfl) ?_)
    refine G.op rfl (G.val rfl rfl (pv_move rfl) ?_)
    refine G.op rfl (G.val rfl rfl (pv_lenSl Try.underlying22 rfl) ?_)
    refine G.op rfl (G.val rfl rfl (pv_lss rfl rfl) ?_)
    refine G.nil ?_
    refine G.nThen ?_
    refine G.condP rfl (fun h14 => ?_) (fun h14 => ?_)
    · have hJ0 := hJ
      have hlt : i < xs.length := by omega
      have hlu : i < ys.length := by omega
      have hEv := helv i hlt
      have hRv := Ro.evRng hEv
      have hDv := Ro.evDat hEv
      obtain ⟨hk1v, hk2v, hlpv, hldv, hltv⟩ := Ro.evOk hEv
      have hCv := Ro.one1 hDv
      have hEu := helu i hlu
      have hRu := Ro.evRng hEu
      have hDu := Ro.evDat hEu
      obtain ⟨hk1u, hk2u, hlpu, hldu, hltu⟩ := Ro.evOk hEu
      have hCu := Ro.one1 hDu
      have he := en_eq (a := xs[i].1) (b := ys[i].1)
      refine G.skip ?_
      refine G.nThen ?_
      refine G.seq ?_
      refine G.block ?_
      refine G.seq ?_
      refine G.cutK (X := Unit) (ts := [0, 1, 5]) (p := []) (fun _ => True) (fun _ => [(80, .bool (decide (xs[i].1 ≠ ys[i].1)))]) (fun _ => []) (.cons rfl (.cons rfl (.cons rfl .nil))) (by repeat (first | exact Sub.nil | (apply Sub.cons; (repeat (first | with_reducible exact Sel.here | exact Sel.here | apply Sel.there))))) (.cons .nil) (by repeat (first | exact Ap.nil | apply Ap.cons)) ?_ ?_
      · refine G.drawT (nn := 64) (p := []) (rem := 18446744073709551615) [0, 0, 3, 4, 8, 0, 0, 96, 128, 256, 528, 1024, 2048, 2048, 14336, 18432, 34816, 2048, 2048, 395264, 526336, 1050624, 2164736, 4196352, 8390656, 16777216, 16777216, 117440512, 150994944, 285212672, 16777216, 16777216, 3238002688, 4311744512, 8606711808, 17733517312, 34376515584, 68736253952, 137438953472, 137438953472, 962072674304, 1236950581248, 2336462209024, 137438953472, 137438953472, 26525718020096, 35321811042304, 70506183131136, 145272973819904, 281612415664128, 563087392374784, 1407374883553280, 2251799813685248, 2251799813685248, 15762598695796736, 20266198323167232, 38280596832649216, 2251799813685248, 2251799813685248, 434597364041252864, 578712552117108736, 1155173304420532224, 2380152403065307136, 4613937818241073152] [0, 0, 3, 4, 8, 0, 0, 96, 128, 256, 528, 1024, 2048, 2048, 14336, 18432, 34816, 2048, 2048, 395264, 526336, 1050624, 2164736, 4196352, 8388608, 16777216, 16777216, 117440512, 150994944, 285212672, 16777216, 16777216, 3238002688, 4311744512, 8606711808, 17733517312, 34376515584, 68719476736, 137438953472, 137438953472, 962072674304, 1236950581248, 2336462209024, 137438953472, 137438953472, 26525718020096, 35321811042304, 70506183131136, 145272973819904, 281612415664128, 563087392374784, 1125899906842624, 2251799813685248, 2251799813685248, 15762598695796736, 20266198323167232, 38280596832649216, 2251799813685248, 2251799813685248, 434597364041252864, 578712552117108736, 1155173304420532224, 2380152403065307136, 4613937818241073152] (by kernel_rfl) ⟨rfl, by kernel_rfl, by kernel_rfl⟩ (by repeat (first | exact Sub.nil | (apply Sub.cons; (repeat (first | with_reducible exact Sel.here | exact Sel.here | apply Sel.there))))) (by kernel_rfl) (fun hT6 => ?_)
        refine G.takeT hT6 (i := 0) (rem' := 18446744073709551614) rfl rfl rfl (by kernel_rfl) (fun _ _ _ h => h) rfl (pv_move rfl) (by repeat (first | exact Sub.nil | (apply Sub.cons; (repeat (first | with_reducible exact Sel.here | exact Sel.here | apply Sel.there))))) ?_
        refine G.takeT hT6 (i := 1) (rem' := 18446744073709551612) rfl rfl rfl (by kernel_rfl) (fun _ _ _ h => h) rfl (pv_move rfl) (by repeat (first | exact Sub.nil | (apply Sub.cons; (repeat (first | with_reducible exact Sel.here | exact Sel.here | apply Sel.there))))) ?_
        refine G.takeT hT6 (i := 2) (rem' := 18446744073709551608) rfl rfl rfl (by kernel_rfl) (fun _ _ _ h => h) rfl (pv_ixSl (sz := 5) Try.underlying22 (by kernel_rfl) rfl rfl (by first | with_reducible assumption | assumption | exact fun _ => rfl) rfl (by omega)) (by repeat (first | exact Sub.nil | (apply Sub.cons; (repeat (first | with_reducible exact Sel.here | exact Sel.here | apply Sel.there))))) ?_
        refine G.takeT hT6 (i := 3) (rem' := 18446744073709551600) rfl rfl rfl (by kernel_rfl) (fun _ _ _ h => h) rfl (pv_fieldAddrK (sz := 0) (k := 0) Try.underlying31 rfl (by kernel_rfl) rfl rfl) (by repeat (first | exact Sub.nil | (apply Sub.cons; (repeat (first | with_reducible exact Sel.here | exact Sel.here | apply Sel.there))))) ?_
        refine G.takeT hT6 (i := 5) (rem' := 18446744073709551568) rfl rfl rfl (by kernel_rfl) (fun _ _ _ h => h) rfl (pv_move rfl) (by repeat (first | exact Sub.nil | (apply Sub.cons; (repeat (first | with_reducible exact Sel.here | exact Sel.here | apply Sel.there))))) ?_
        refine G.takeT hT6 (i := 6) (rem' := 18446744073709551504) rfl rfl rfl (by kernel_rfl) (fun _ _ _ h => h) rfl (pv_move rfl) (by repeat (first | exact Sub.nil | (apply Sub.cons; (repeat (first | with_reducible exact Sel.here | exact Sel.here | apply Sel.there))))) ?_
        refine G.takeT hT6 (i := 7) (rem' := 18446744073709551376) rfl rfl rfl (by kernel_rfl) (fun _ _ _ h => h) rfl (pv_ixSl (sz := 5) Try.underlying22 (by kernel_rfl) rfl rfl (by first | with_reducible assumption | assumption | exact fun _ => rfl) rfl (by omega)) (by repeat (first | exact Sub.nil | (apply Sub.cons; (repeat (first | with_reducible exact Sel.here | exact Sel.here | apply Sel.there))))) ?_
        refine G.takeT hT6 (i := 8) (rem' := 18446744073709551120) rfl rfl rfl (by kernel_rfl) (fun _ _ _ h => h) rfl (pv_fieldAddrK (sz := 0) (k := 0) Try.underlying31 rfl (by kernel_rfl) rfl rfl) (by repeat (first | exact Sub.nil | (apply Sub.cons; (repeat (first | with_reducible exact Sel.here | exact Sel.here | apply Sel.there))))) ?_
        refine G.takeT hT6 (i := 4) (rem' := 18446744073709551104) rfl rfl rfl (by kernel_rfl) (fun _ _ _ h => h) rfl (pv_load Try.underlying9 rfl rfl (by first | exact blk_cell (by (repeat (first | with_reducible exact Sel.here | exact Sel.here | apply Sel.there)); done) (by rfl) | exact rng_cell (by (repeat (first | with_reducible exact Sel.here | exact Sel.here | apply Sel.there)); done) (by rfl) | exact ro_blk (by assumption) (by rfl) | exact ro_rngC (by assumption) (by rfl) | exact ro_int (by assumption) | exact ro_byte (by assumption) | exact ro_str (by assumption) | with_reducible assumption | assumption)) (by repeat (first | exact Sub.nil | (apply Sub.cons; (repeat (first | with_reducible exact Sel.here | exact Sel.here | apply Sel.there))))) ?_
        refine G.oneT hT6 (i := 9) (rem' := 18446744073709550592) (by kernel_rfl) (by kernel_rfl) ?_
        refine G.turnOp rfl rfl (G.val rfl rfl (pv_load Try.underlying9 rfl rfl (by first | exact blk_cell (by (repeat (first | with_reducible exact Sel.here | exact Sel.here | apply Sel.there)); done) (by rfl) | exact rng_cell (by (repeat (first | with_reducible exact Sel.here | exact Sel.here | apply Sel.there)); done) (by rfl) | exact ro_blk (by assumption) (by rfl) | exact ro_rngC (by assumption) (by rfl) | exact ro_int (by assumption) | exact ro_byte (by assumption) | exact ro_str (by assumption) | with_reducible assumption | assumption)) ?_)
        refine G.back (by repeat (first | exact Sub.nil | (apply Sub.cons; (repeat (first | with_reducible exact Sel.here | exact Sel.here | apply Sel.there))))) ?_
        refine G.takeT hT6 (i := 10) (rem' := 18446744073709549568) rfl rfl rfl (by kernel_rfl) (fun _ _ _ h => h) rfl (pv_neqS rfl rfl) (by repeat (first | exact Sub.nil | (apply Sub.cons; (repeat (first | with_reducible exact Sel.here | exact Sel.here | apply Sel.there))))) ?_
        refine G.takeT hT6 (i := 11) (rem' := 18446744073709547520) rfl rfl rfl (by kernel_rfl) (fun _ _ _ h => h) rfl (pv_move rfl) (by repeat (first | exact Sub.nil | (apply Sub.cons; (repeat (first | with_reducible exact Sel.here | exact Sel.here | apply Sel.there))))) ?_
        refine G.partP (t := 28) rfl (fun h28 => ?_) (fun h28 => ?_)
        · refine G.takeFT hT6 (i := 12) (rem' := 18446744073709543424) rfl rfl rfl (by kernel_rfl) (fun _ _ _ h => h) rfl (by repeat (first | exact Sub.nil | (apply Sub.cons; (repeat (first | with_reducible exact Sel.here | exact Sel.here | apply Sel.there))))) ?_
          refine G.takeFT hT6 (i := 13) (rem' := 18446744073709535232) rfl rfl rfl (by kernel_rfl) (fun _ _ _ h => h) rfl (by repeat (first | exact Sub.nil | (apply Sub.cons; (repeat (first | with_reducible exact Sel.here | exact Sel.here | apply Sel.there))))) ?_
          refine G.takeFT hT6 (i := 14) (rem' := 18446744073709518848) rfl rfl rfl (by kernel_rfl) (fun _ _ _ h => h) rfl (by repeat (first | exact Sub.nil | (apply Sub.cons; (repeat (first | with_reducible exact Sel.here | exact Sel.here | apply Sel.there))))) ?_
          refine G.takeFT hT6 (i := 15) (rem' := 18446744073709486080) rfl rfl rfl (by kernel_rfl) (fun _ _ _ h => h) rfl (by repeat (first | exact Sub.nil | (apply Sub.cons; (repeat (first | with_reducible exact Sel.here | exact Sel.here | apply Sel.there))))) ?_
          refine G.takeFT hT6 (i := 16) (rem' := 18446744073709420544) rfl rfl rfl (by kernel_rfl) (fun _ _ _ h => h) rfl (by repeat (first | exact Sub.nil | (apply Sub.cons; (repeat (first | with_reducible exact Sel.here | exact Sel.here | apply Sel.there))))) ?_
          refine G.takeFT hT6 (i := 17) (rem' := 18446744073709289472) rfl rfl rfl (by kernel_rfl) (fun _ _ _ h => h) rfl (by repeat (first | exact Sub.nil | (apply Sub.cons; (repeat (first | with_reducible exact Sel.here | exact Sel.here | apply Sel.there))))) ?_
          refine G.takeFT hT6 (i := 18) (rem' := 18446744073709027328) rfl rfl rfl (by kernel_rfl) (fun _ _ _ h => h) rfl (by repeat (first | exact Sub.nil | (apply Sub.cons; (repeat (first | with_reducible exact Sel.here | exact Sel.here | apply Sel.there))))) ?_
          refine G.takeFT hT6 (i := 19) (rem' := 18446744073708503040) rfl rfl rfl (by kernel_rfl) (fun _ _ _ h => h) rfl (by repeat (first | exact Sub.nil | (apply Sub.cons; (repeat (first | with_reducible exact Sel.here | exact Sel.here | apply Sel.there))))) ?_
          refine G.takeFT hT6 (i := 20) (rem' := 18446744073707454464) rfl rfl rfl (by kernel_rfl) (fun _ _ _ h => h) rfl (by repeat (first | exact Sub.nil | (apply Sub.cons; (repeat (first | with_reducible exact Sel.here | exact Sel.here | apply Sel.there))))) ?_
          refine G.takeFT hT6 (i := 21) (rem' := 18446744073705357312) rfl rfl rfl (by kernel_rfl) (fun _ _ _ h => h) rfl (by repeat (first | exact Sub.nil | (apply Sub.cons; (repeat (first | with_reducible exact Sel.here | exact Sel.here | apply Sel.there))))) ?_
          refine G.takeFT hT6 (i := 22) (rem' := 18446744073701163008) rfl rfl rfl (by kernel_rfl) (fun _ _ _ h => h) rfl (by repeat (first | exact Sub.nil | (apply Sub.cons; (repeat (first | with_reducible exact Sel.here | exact Sel.here | apply Sel.there))))) ?_
          refine G.takeT hT6 (i := 23) (rem' := 18446744073692774400) rfl rfl rfl (by kernel_rfl) (fun _ _ _ h => h) rfl (pv_pick rfl rfl) (by repeat (first | exact Sub.nil | (apply Sub.cons; (repeat (first | with_reducible exact Sel.here | exact Sel.here | apply Sel.there))))) ?_
          refine G.takeT hT6 (i := 24) (rem' := 18446744073675997184) rfl rfl rfl (by kernel_rfl) (fun _ _ _ h => h) rfl (pv_move rfl) (by repeat (first | exact Sub.nil | (apply Sub.cons; (repeat (first | with_reducible exact Sel.here | exact Sel.here | apply Sel.there))))) ?_
          refine G.takeFT hT6 (i := 25) (rem' := 18446744073642442752) rfl rfl rfl (by kernel_rfl) (fun _ _ _ h => h) rfl (by repeat (first | exact Sub.nil | (apply Sub.cons; (repeat (first | with_reducible exact Sel.here | exact Sel.here | apply Sel.there))))) ?_
          refine G.takeFT hT6 (i := 26) (rem' := 18446744073575333888) rfl rfl rfl (by kernel_rfl) (fun _ _ _ h => h) rfl (by repeat (first | exact Sub.nil | (apply Sub.cons; (repeat (first | with_reducible exact Sel.here | exact Sel.here | apply Sel.there))))) ?_
          refine G.takeFT hT6 (i := 27) (rem' := 18446744073441116160) rfl rfl rfl (by kernel_rfl) (fun _ _ _ h => h) rfl (by repeat (first | exact Sub.nil | (apply Sub.cons; (repeat (first | with_reducible exact Sel.here | exact Sel.here | apply Sel.there))))) ?_
          refine G.takeFT hT6 (i := 28) (rem' := 18446744073172680704) rfl rfl rfl (by kernel_rfl) (fun _ _ _ h => h) rfl (by repeat (first | exact Sub.nil | (apply Sub.cons; (repeat (first | with_reducible exact Sel.here | exact Sel.here | apply Sel.there))))) ?_
          refine G.takeFT hT6 (i := 29) (rem' := 18446744072635809792) rfl rfl rfl (by kernel_rfl) (fun _ _ _ h => h) rfl (by repeat (first | exact Sub.nil | (apply Sub.cons; (repeat (first | with_reducible exact Sel.here | exact Sel.here | apply Sel.there))))) ?_
          refine G.takeFT hT6 (i := 30) (rem' := 18446744071562067968) rfl rfl rfl (by kernel_rfl) (fun _ _ _ h => h) rfl (by repeat (first | exact Sub.nil | (apply Sub.cons; (repeat (first | with_reducible exact Sel.here | exact Sel.here | apply Sel.there))))) ?_
          refine G.takeFT hT6 (i := 31) (rem' := 18446744069414584320) rfl rfl rfl (by kernel_rfl) (fun _ _ _ h => h) rfl (by repeat (first | exact Sub.nil | (apply Sub.cons; (repeat (first | with_reducible exact Sel.here | exact Sel.here | apply Sel.there))))) ?_
          refine G.takeFT hT6 (i := 32) (rem' := 18446744065119617024) rfl rfl rfl (by kernel_rfl) (fun _ _ _ h => h) rfl (by repeat (first | exact Sub.nil | (apply Sub.cons; (repeat (first | with_reducible exact Sel.here | exact Sel.here | apply Sel.there))))) ?_
          refine G.takeFT hT6 (i := 33) (rem' := 18446744056529682432) rfl rfl rfl (by kernel_rfl) (fun _ _ _ h => h) rfl (by repeat (first | exact Sub.nil | (apply Sub.cons; (repeat (first | with_reducible exact Sel.here | exact Sel.here | apply Sel.there))))) ?_
          refine G.takeFT hT6 (i := 34) (rem' := 18446744039349813248) rfl rfl rfl (by kernel_rfl) (fun _ _ _ h => h) rfl (by repeat (first | exact Sub.nil | (apply Sub.cons; (repeat (first | with_reducible exact Sel.here | exact Sel.here | apply Sel.there))))) ?_
          refine G.takeFT hT6 (i := 35) (rem' := 18446744004990074880) rfl rfl rfl (by kernel_rfl) (fun _ _ _ h => h) rfl (by repeat (first | exact Sub.nil | (apply Sub.cons; (repeat (first | with_reducible exact Sel.here | exact Sel.here | apply Sel.there))))) ?_
          refine G.takeT hT6 (i := 36) (rem' := 18446743936270598144) rfl rfl rfl (by kernel_rfl) (fun _ _ _ h => h) rfl (pv_pick rfl rfl) (by repeat (first | exact Sub.nil | (apply Sub.cons; (repeat (first | with_reducible exact Sel.here | exact Sel.here | apply Sel.there))))) ?_
          refine G.takeT hT6 (i := 37) (rem' := 18446743798831644672) rfl rfl rfl (by kernel_rfl) (fun _ _ _ h => h) rfl (pv_move rfl) (by repeat (first | exact Sub.nil | (apply Sub.cons; (repeat (first | with_reducible exact Sel.here | exact Sel.here | apply Sel.there))))) ?_
          refine G.takeFT hT6 (i := 38) (rem' := 18446743523953737728) rfl rfl rfl (by kernel_rfl) (fun _ _ _ h => h) rfl (by repeat (first | exact Sub.nil | (apply Sub.cons; (repeat (first | with_reducible exact Sel.here | exact Sel.here | apply Sel.there))))) ?_
          refine G.takeFT hT6 (i := 39) (rem' := 18446742974197923840) rfl rfl rfl (by kernel_rfl) (fun _ _ _ h => h) rfl (by repeat (first | exact Sub.nil | (apply Sub.cons; (repeat (first | with_reducible exact Sel.here | exact Sel.here | apply Sel.there))))) ?_
          refine G.takeFT hT6 (i := 40) (rem' := 18446741874686296064) rfl rfl rfl (by kernel_rfl) (fun _ _ _ h => h) rfl (by repeat (first | exact Sub.nil | (apply Sub.cons; (repeat (first | with_reducible exact Sel.here | exact Sel.here | apply Sel.there))))) ?_
          refine G.takeFT hT6 (i := 41) (rem' := 18446739675663040512) rfl rfl rfl (by kernel_rfl) (fun _ _ _ h => h) rfl (by repeat (first | exact Sub.nil | (apply Sub.cons; (repeat (first | with_reducible exact Sel.here | exact Sel.here | apply Sel.there))))) ?_
          refine G.takeFT hT6 (i := 42) (rem' := 18446735277616529408) rfl rfl rfl (by kernel_rfl) (fun _ _ _ h => h) rfl (by repeat (first | exact Sub.nil | (apply Sub.cons; (repeat (first | with_reducible exact Sel.here | exact Sel.here | apply Sel.there))))) ?_
          refine G.takeFT hT6 (i := 43) (rem' := 18446726481523507200) rfl rfl rfl (by kernel_rfl) (fun _ _ _ h => h) rfl (by repeat (first | exact Sub.nil | (apply Sub.cons; (repeat (first | with_reducible exact Sel.here | exact Sel.here | apply Sel.there))))) ?_
          refine G.takeFT hT6 (i := 44) (rem' := 18446708889337462784) rfl rfl rfl (by kernel_rfl) (fun _ _ _ h => h) rfl (by repeat (first | exact Sub.nil | (apply Sub.cons; (repeat (first | with_reducible exact Sel.here | exact Sel.here | apply Sel.there))))) ?_
          refine G.takeFT hT6 (i := 45) (rem' := 18446673704965373952) rfl rfl rfl (by kernel_rfl) (fun _ _ _ h => h) rfl (by repeat (first | exact Sub.nil | (apply Sub.cons; (repeat (first | with_reducible exact Sel.here | exact Sel.here | apply Sel.there))))) ?_
          refine G.takeFT hT6 (i := 46) (rem' := 18446603336221196288) rfl rfl rfl (by kernel_rfl) (fun _ _ _ h => h) rfl (by repeat (first | exact Sub.nil | (apply Sub.cons; (repeat (first | with_reducible exact Sel.here | exact Sel.here | apply Sel.there))))) ?_
          refine G.takeFT hT6 (i := 47) (rem' := 18446462598732840960) rfl rfl rfl (by kernel_rfl) (fun _ _ _ h => h) rfl (by repeat (first | exact Sub.nil | (apply Sub.cons; (repeat (first | with_reducible exact Sel.here | exact Sel.here | apply Sel.there))))) ?_
          refine G.takeFT hT6 (i := 48) (rem' := 18446181123756130304) rfl rfl rfl (by kernel_rfl) (fun _ _ _ h => h) rfl (by repeat (first | exact Sub.nil | (apply Sub.cons; (repeat (first | with_reducible exact Sel.here | exact Sel.here | apply Sel.there))))) ?_
          refine G.takeFT hT6 (i := 49) (rem' := 18445618173802708992) rfl rfl rfl (by kernel_rfl) (fun _ _ _ h => h) rfl (by repeat (first | exact Sub.nil | (apply Sub.cons; (repeat (first | with_reducible exact Sel.here | exact Sel.here | apply Sel.there))))) ?_
          refine G.takeT hT6 (i := 50) (rem' := 18444492273895866368) rfl rfl rfl (by kernel_rfl) (fun _ _ _ h => h) rfl (pv_pick rfl rfl) (by repeat (first | exact Sub.nil | (apply Sub.cons; (repeat (first | with_reducible exact Sel.here | exact Sel.here | apply Sel.there))))) ?_
          refine G.takeT hT6 (i := 51) (rem' := 18442240474082181120) rfl rfl rfl (by kernel_rfl) (fun _ _ _ h => h) rfl (pv_move rfl) (by repeat (first | exact Sub.nil | (apply Sub.cons; (repeat (first | with_reducible exact Sel.here | exact Sel.here | apply Sel.there))))) ?_
          refine G.takeFT hT6 (i := 52) (rem' := 18437736874454810624) rfl rfl rfl (by kernel_rfl) (fun _ _ _ h => h) rfl (by repeat (first | exact Sub.nil | (apply Sub.cons; (repeat (first | with_reducible exact Sel.here | exact Sel.here | apply Sel.there))))) ?_
          refine G.takeFT hT6 (i := 53) (rem' := 18428729675200069632) rfl rfl rfl (by kernel_rfl) (fun _ _ _ h => h) rfl (by repeat (first | exact Sub.nil | (apply Sub.cons; (repeat (first | with_reducible exact Sel.here | exact Sel.here | apply Sel.there))))) ?_
          refine G.takeFT hT6 (i := 54) (rem' := 18410715276690587648) rfl rfl rfl (by kernel_rfl) (fun _ _ _ h => h) rfl (by repeat (first | exact Sub.nil | (apply Sub.cons; (repeat (first | with_reducible exact Sel.here | exact Sel.here | apply Sel.there))))) ?_
          refine G.takeFT hT6 (i := 55) (rem' := 18374686479671623680) rfl rfl rfl (by kernel_rfl) (fun _ _ _ h => h) rfl (by repeat (first | exact Sub.nil | (apply Sub.cons; (repeat (first | with_reducible exact Sel.here | exact Sel.here | apply Sel.there))))) ?_
          refine G.takeFT hT6 (i := 56) (rem' := 18302628885633695744) rfl rfl rfl (by kernel_rfl) (fun _ _ _ h => h) rfl (by repeat (first | exact Sub.nil | (apply Sub.cons; (repeat (first | with_reducible exact Sel.here | exact Sel.here | apply Sel.there))))) ?_
          refine G.takeFT hT6 (i := 57) (rem' := 18158513697557839872) rfl rfl rfl (by kernel_rfl) (fun _ _ _ h => h) rfl (by repeat (first | exact Sub.nil | (apply Sub.cons; (repeat (first | with_reducible exact Sel.here | exact Sel.here | apply Sel.there))))) ?_
          refine G.takeFT hT6 (i := 58) (rem' := 17870283321406128128) rfl rfl rfl (by kernel_rfl) (fun _ _ _ h => h) rfl (by repeat (first | exact Sub.nil | (apply Sub.cons; (repeat (first | with_reducible exact Sel.here | exact Sel.here | apply Sel.there))))) ?_
          refine G.takeFT hT6 (i := 59) (rem' := 17293822569102704640) rfl rfl rfl (by kernel_rfl) (fun _ _ _ h => h) rfl (by repeat (first | exact Sub.nil | (apply Sub.cons; (repeat (first | with_reducible exact Sel.here | exact Sel.here | apply Sel.there))))) ?_
          refine G.takeFT hT6 (i := 60) (rem' := 16140901064495857664) rfl rfl rfl (by kernel_rfl) (fun _ _ _ h => h) rfl (by repeat (first | exact Sub.nil | (apply Sub.cons; (repeat (first | with_reducible exact Sel.here | exact Sel.here | apply Sel.there))))) ?_
          refine G.takeFT hT6 (i := 61) (rem' := 13835058055282163712) rfl rfl rfl (by kernel_rfl) (fun _ _ _ h => h) rfl (by repeat (first | exact Sub.nil | (apply Sub.cons; (repeat (first | with_reducible exact Sel.here | exact Sel.here | apply Sel.there))))) ?_
          refine G.takeFT hT6 (i := 62) (rem' := 9223372036854775808) rfl rfl rfl (by kernel_rfl) (fun _ _ _ h => h) rfl (by repeat (first | exact Sub.nil | (apply Sub.cons; (repeat (first | with_reducible exact Sel.here | exact Sel.here | apply Sel.there))))) ?_
          refine G.takeT hT6 (i := 63) (rem' := 0) rfl rfl rfl (by kernel_rfl) (fun _ _ _ h => h) rfl (pv_pick rfl rfl) (by repeat (first | exact Sub.nil | (apply Sub.cons; (repeat (first | with_reducible exact Sel.here | exact Sel.here | apply Sel.there))))) ?_
          refine G.overT hT6 (by kernel_rfl) ?_
          exact G.meet (()) (by first | exact trivial | ((try dsimp only); exact trivial)) (.consE rfl (by first | exact dec_t (by rw [ne_eq, he]; simp_all) | exact dec_e (by rw [ne_eq ys[i].1, he] at *; simp_all) | exact dec_e (by rw [ne_eq xs[i].1, he]; simp_all)) (.cons rfl (.cons rfl (.cons rfl .nil)))) (by repeat (first | exact Sub.nil | (apply Sub.cons; (repeat (first | with_reducible exact Sel.here | exact Sel.here | apply Sel.there)))))
        · refine G.takeT hT6 (i := 12) (rem' := 18446744073709543424) rfl rfl rfl (by kernel_rfl) (fun _ _ _ h => h) rfl (pv_move rfl) (by repeat (first | exact Sub.nil | (apply Sub.cons; (repeat (first | with_reducible exact Sel.here | exact Sel.here | apply Sel.there))))) ?_
          refine G.takeT hT6 (i := 13) (rem' := 18446744073709535232) rfl rfl rfl (by kernel_rfl) (fun _ _ _ h => h) rfl (pv_move rfl) (by repeat (first | exact Sub.nil | (apply Sub.cons; (repeat (first | with_reducible exact Sel.here | exact Sel.here | apply Sel.there))))) ?_
          refine G.takeT hT6 (i := 14) (rem' := 18446744073709518848) rfl rfl rfl (by kernel_rfl) (fun _ _ _ h => h) rfl (pv_ixSl (sz := 5) Try.underlying22 (by kernel_rfl) rfl rfl (by first | with_reducible assumption | assumption | exact fun _ => rfl) rfl (by omega)) (by repeat (first | exact Sub.nil | (apply Sub.cons; (repeat (first | with_reducible exact Sel.here | exact Sel.here | apply Sel.there))))) ?_
          refine G.takeT hT6 (i := 15) (rem' := 18446744073709486080) rfl rfl rfl (by kernel_rfl) (fun _ _ _ h => h) rfl (pv_fieldAddrK (sz := 0) (k := 1) Try.underlying31 rfl (by kernel_rfl) rfl rfl) (by repeat (first | exact Sub.nil | (apply Sub.cons; (repeat (first | with_reducible exact Sel.here | exact Sel.here | apply Sel.there))))) ?_
          refine G.takeT hT6 (i := 16) (rem' := 18446744073709420544) rfl rfl rfl (by kernel_rfl) (fun _ _ _ h => h) rfl (pv_load Try.underlying3 rfl rfl (by first | exact blk_cell (by (repeat (first | with_reducible exact Sel.here | exact Sel.here | apply Sel.there)); done) (by rfl) | exact rng_cell (by (repeat (first | with_reducible exact Sel.here | exact Sel.here | apply Sel.there)); done) (by rfl) | exact ro_blk (by assumption) (by rfl) | exact ro_rngC (by assumption) (by rfl) | exact ro_int (by assumption) | exact ro_byte (by assumption) | exact ro_str (by assumption) | with_reducible assumption | assumption)) (by repeat (first | exact Sub.nil | (apply Sub.cons; (repeat (first | with_reducible exact Sel.here | exact Sel.here | apply Sel.there))))) ?_
          refine G.takeT hT6 (i := 17) (rem' := 18446744073709289472) rfl rfl rfl (by kernel_rfl) (fun _ _ _ h => h) rfl (pv_move rfl) (by repeat (first | exact Sub.nil | (apply Sub.cons; (repeat (first | with_reducible exact Sel.here | exact Sel.here | apply Sel.there))))) ?_
          refine G.takeT hT6 (i := 18) (rem' := 18446744073709027328) rfl rfl rfl (by kernel_rfl) (fun _ _ _ h => h) rfl (pv_move rfl) (by repeat (first | exact Sub.nil | (apply Sub.cons; (repeat (first | with_reducible exact Sel.here | exact Sel.here | apply Sel.there))))) ?_
          refine G.takeT hT6 (i := 19) (rem' := 18446744073708503040) rfl rfl rfl (by kernel_rfl) (fun _ _ _ h => h) rfl (pv_ixSl (sz := 5) Try.underlying22 (by kernel_rfl) rfl rfl (by first | with_reducible assumption | assumption | exact fun _ => rfl) rfl (by omega)) (by repeat (first | exact Sub.nil | (apply Sub.cons; (repeat (first | with_reducible exact Sel.here | exact Sel.here | apply Sel.there))))) ?_
          refine G.takeT hT6 (i := 20) (rem' := 18446744073707454464) rfl rfl rfl (by kernel_rfl) (fun _ _ _ h => h) rfl (pv_fieldAddrK (sz := 0) (k := 1) Try.underlying31 rfl (by kernel_rfl) rfl rfl) (by repeat (first | exact Sub.nil | (apply Sub.cons; (repeat (first | with_reducible exact Sel.here | exact Sel.here | apply Sel.there))))) ?_
          refine G.oneT hT6 (i := 21) (rem' := 18446744073705357312) (by kernel_rfl) (by kernel_rfl) ?_
          refine G.turnOp rfl rfl (G.val rfl rfl (pv_load Try.underlying3 rfl rfl (by first | exact blk_cell (by (repeat (first | with_reducible exact Sel.here | exact Sel.here | apply Sel.there)); done) (by rfl) | exact rng_cell (by (repeat (first | with_reducible exact Sel.here | exact Sel.here | apply Sel.there)); done) (by rfl) | exact ro_blk (by assumption) (by rfl) | exact ro_rngC (by assumption) (by rfl) | exact ro_int (by assumption) | exact ro_byte (by assumption) | exact ro_str (by assumption) | with_reducible assumption | assumption)) ?_)
          refine G.back (by repeat (first | exact Sub.nil | (apply Sub.cons; (repeat (first | with_reducible exact Sel.here | exact Sel.here | apply Sel.there))))) ?_
          refine G.takeT hT6 (i := 22) (rem' := 18446744073701163008) rfl rfl rfl (by kernel_rfl) (fun _ _ _ h => h) rfl (pv_neq rfl rfl) (by repeat (first | exact Sub.nil | (apply Sub.cons; (repeat (first | with_reducible exact Sel.here | exact Sel.here | apply Sel.there))))) ?_
          refine G.takeT hT6 (i := 23) (rem' := 18446744073692774400) rfl rfl rfl (by kernel_rfl) (fun _ _ _ h => h) rfl (pv_pick rfl rfl) (by repeat (first | exact Sub.nil | (apply Sub.cons; (repeat (first | with_reducible exact Sel.here | exact Sel.here | apply Sel.there))))) ?_
          refine G.takeT hT6 (i := 24) (rem' := 18446744073675997184) rfl rfl rfl (by kernel_rfl) (fun _ _ _ h => h) rfl (pv_move rfl) (by repeat (first | exact Sub.nil | (apply Sub.cons; (repeat (first | with_reducible exact Sel.here | exact Sel.here | apply Sel.there))))) ?_
          refine G.partP (t := 41) rfl (fun h41 => ?_) (fun h41 => ?_)
          · refine G.takeFT hT6 (i := 25) (rem' := 18446744073642442752) rfl rfl rfl (by kernel_rfl) (fun _ _ _ h => h) rfl (by repeat (first | exact Sub.nil | (apply Sub.cons; (repeat (first | with_reducible exact Sel.here | exact Sel.here | apply Sel.there))))) ?_
            refine G.takeFT hT6 (i := 26) (rem' := 18446744073575333888) rfl rfl rfl (by kernel_rfl) (fun _ _ _ h => h) rfl (by repeat (first | exact Sub.nil | (apply Sub.cons; (repeat (first | with_reducible exact Sel.here | exact Sel.here | apply Sel.there))))) ?_
            refine G.takeFT hT6 (i := 27) (rem' := 18446744073441116160) rfl rfl rfl (by kernel_rfl) (fun _ _ _ h => h) rfl (by repeat (first | exact Sub.nil | (apply Sub.cons; (repeat (first | with_reducible exact Sel.here | exact Sel.here | apply Sel.there))))) ?_
            refine G.takeFT hT6 (i := 28) (rem' := 18446744073172680704) rfl rfl rfl (by kernel_rfl) (fun _ _ _ h => h) rfl (by repeat (first | exact Sub.nil | (apply Sub.cons; (repeat (first | with_reducible exact Sel.here | exact Sel.here | apply Sel.there))))) ?_
            refine G.takeFT hT6 (i := 29) (rem' := 18446744072635809792) rfl rfl rfl (by kernel_rfl) (fun _ _ _ h => h) rfl (by repeat (first | exact Sub.nil | (apply Sub.cons; (repeat (first | with_reducible exact Sel.here | exact Sel.here | apply Sel.there))))) ?_
            refine G.takeFT hT6 (i := 30) (rem' := 18446744071562067968) rfl rfl rfl (by kernel_rfl) (fun _ _ _ h => h) rfl (by repeat (first | exact Sub.nil | (apply Sub.cons; (repeat (first | with_reducible exact Sel.here | exact Sel.here | apply Sel.there))))) ?_
            refine G.takeFT hT6 (i := 31) (rem' := 18446744069414584320) rfl rfl rfl (by kernel_rfl) (fun _ _ _ h => h) rfl (by repeat (first | exact Sub.nil | (apply Sub.cons; (repeat (first | with_reducible exact Sel.here | exact Sel.here | apply Sel.there))))) ?_
            refine G.takeFT hT6 (i := 32) (rem' := 18446744065119617024) rfl rfl rfl (by kernel_rfl) (fun _ _ _ h => h) rfl (by repeat (first | exact Sub.nil | (apply Sub.cons; (repeat (first | with_reducible exact Sel.here | exact Sel.here | apply Sel.there))))) ?_
            refine G.takeFT hT6 (i := 33) (rem' := 18446744056529682432) rfl rfl rfl (by kernel_rfl) (fun _ _ _ h => h) rfl (by repeat (first | exact Sub.nil | (apply Sub.cons; (repeat (first | with_reducible exact Sel.here | exact Sel.here | apply Sel.there))))) ?_
            refine G.takeFT hT6 (i := 34) (rem' := 18446744039349813248) rfl rfl rfl (by kernel_rfl) (fun _ _ _ h => h) rfl (by repeat (first | exact Sub.nil | (apply Sub.cons; (repeat (first | with_reducible exact Sel.here | exact Sel.here | apply Sel.there))))) ?_
            refine G.takeFT hT6 (i := 35) (rem' := 18446744004990074880) rfl rfl rfl (by kernel_rfl) (fun _ _ _ h => h) rfl (by repeat (first | exact Sub.nil | (apply Sub.cons; (repeat (first | with_reducible exact Sel.here | exact Sel.here | apply Sel.there))))) ?_
            refine G.takeT hT6 (i := 36) (rem' := 18446743936270598144) rfl rfl rfl (by kernel_rfl) (fun _ _ _ h => h) rfl (pv_pick rfl rfl) (by repeat (first | exact Sub.nil | (apply Sub.cons; (repeat (first | with_reducible exact Sel.here | exact Sel.here | apply Sel.there))))) ?_
            refine G.takeT hT6 (i := 37) (rem' := 18446743798831644672) rfl rfl rfl (by kernel_rfl) (fun _ _ _ h => h) rfl (pv_move rfl) (by repeat (first | exact Sub.nil | (apply Sub.cons; (repeat (first | with_reducible exact Sel.here | exact Sel.here | apply Sel.there))))) ?_
            refine G.takeFT hT6 (i := 38) (rem' := 18446743523953737728) rfl rfl rfl (by kernel_rfl) (fun _ _ _ h => h) rfl (by repeat (first | exact Sub.nil | (apply Sub.cons; (repeat (first | with_reducible exact Sel.here | exact Sel.here | apply Sel.there))))) ?_
            refine G.takeFT hT6 (i := 39) (rem' := 18446742974197923840) rfl rfl rfl (by kernel_rfl) (fun _ _ _ h => h) rfl (by repeat (first | exact Sub.nil | (apply Sub.cons; (repeat (first | with_reducible exact Sel.here | exact Sel.here | apply Sel.there))))) ?_
            refine G.takeFT hT6 (i := 40) (rem' := 18446741874686296064) rfl rfl rfl (by kernel_rfl) (fun _ _ _ h => h) rfl (by repeat (first | exact Sub.nil | (apply Sub.cons; (repeat (first | with_reducible exact Sel.here | exact Sel.here | apply Sel.there))))) ?_
            refine G.takeFT hT6 (i := 41) (rem' := 18446739675663040512) rfl rfl rfl (by kernel_rfl) (fun _ _ _ h => h) rfl (by repeat (first | exact Sub.nil | (apply Sub.cons; (repeat (first | with_reducible exact Sel.here | exact Sel.here | apply Sel.there))))) ?_
            refine G.takeFT hT6 (i := 42) (rem' := 18446735277616529408) rfl rfl rfl (by kernel_rfl) (fun _ _ _ h => h) rfl (by repeat (first | exact Sub.nil | (apply Sub.cons; (repeat (first | with_reducible exact Sel.here | exact Sel.here | apply Sel.there))))) ?_
            refine G.takeFT hT6 (i := 43) (rem' := 18446726481523507200) rfl rfl rfl (by kernel_rfl) (fun _ _ _ h => h) rfl (by repeat (first | exact Sub.nil | (apply Sub.cons; (repeat (first | with_reducible exact Sel.here | exact Sel.here | apply Sel.there))))) ?_
            refine G.takeFT hT6 (i := 44) (rem' := 18446708889337462784) rfl rfl rfl (by kernel_rfl) (fun _ _ _ h => h) rfl (by repeat (first | exact Sub.nil | (apply Sub.cons; (repeat (first | with_reducible exact Sel.here | exact Sel.here | apply Sel.there))))) ?_
            refine G.takeFT hT6 (i := 45) (rem' := 18446673704965373952) rfl rfl rfl (by kernel_rfl) (fun _ _ _ h => h) rfl (by repeat (first | exact Sub.nil | (apply Sub.cons; (repeat (first | with_reducible exact Sel.here | exact Sel.here | apply Sel.there))))) ?_
            refine G.takeFT hT6 (i := 46) (rem' := 18446603336221196288) rfl rfl rfl (by kernel_rfl) (fun _ _ _ h => h) rfl (by repeat (first | exact Sub.nil | (apply Sub.cons; (repeat (first | with_reducible exact Sel.here | exact Sel.here | apply Sel.there))))) ?_
            refine G.takeFT hT6 (i := 47) (rem' := 18446462598732840960) rfl rfl rfl (by kernel_rfl) (fun _ _ _ h => h) rfl (by repeat (first | exact Sub.nil | (apply Sub.cons; (repeat (first | with_reducible exact Sel.here | exact Sel.here | apply Sel.there))))) ?_
            refine G.takeFT hT6 (i := 48) (rem' := 18446181123756130304) rfl rfl rfl (by kernel_rfl) (fun _ _ _ h => h) rfl (by repeat (first | exact Sub.nil | (apply Sub.cons; (repeat (first | with_reducible exact Sel.here | exact Sel.here | apply Sel.there))))) ?_
            refine G.takeFT hT6 (i := 49) (rem' := 18445618173802708992) rfl rfl rfl (by kernel_rfl) (fun _ _ _ h => h) rfl (by repeat (first | exact Sub.nil | (apply Sub.cons; (repeat (first | with_reducible exact Sel.here | exact Sel.here | apply Sel.there))))) ?_
            refine G.takeT hT6 (i := 50) (rem' := 18444492273895866368) rfl rfl rfl (by kernel_rfl) (fun _ _ _ h => h) rfl (pv_pick rfl rfl) (by repeat (first | exact Sub.nil | (apply Sub.cons; (repeat (first | with_reducible exact Sel.here | exact Sel.here | apply Sel.there))))) ?_
            refine G.takeT hT6 (i := 51) (rem' := 18442240474082181120) rfl rfl rfl (by kernel_rfl) (fun _ _ _ h => h) rfl (pv_move rfl) (by repeat (first | exact Sub.nil | (apply Sub.cons; (repeat (first | with_reducible exact Sel.here | exact Sel.here | apply Sel.there))))) ?_
            refine G.takeFT hT6 (i := 52) (rem' := 18437736874454810624) rfl rfl rfl (by kernel_rfl) (fun _ _ _ h => h) rfl (by repeat (first | exact Sub.nil | (apply Sub.cons; (repeat (first | with_reducible exact Sel.here | exact Sel.here | apply Sel.there))))) ?_
            refine G.takeFT hT6 (i := 53) (rem' := 18428729675200069632) rfl rfl rfl (by kernel_rfl) (fun _ _ _ h => h) rfl (by repeat (first | exact Sub.nil | (apply Sub.cons; (repeat (first | with_reducible exact Sel.here | exact Sel.here | apply Sel.there))))) ?_
            refine G.takeFT hT6 (i := 54) (rem' := 18410715276690587648) rfl rfl rfl (by kernel_rfl) (fun _ _ _ h => h) rfl (by repeat (first | exact Sub.nil | (apply Sub.cons; (repeat (first | with_reducible exact Sel.here | exact Sel.here | apply Sel.there))))) ?_
            refine G.takeFT hT6 (i := 55) (rem' := 18374686479671623680) rfl rfl rfl (by kernel_rfl) (fun _ _ _ h => h) rfl (by repeat (first | exact Sub.nil | (apply Sub.cons; (repeat (first | with_reducible exact Sel.here | exact Sel.here | apply Sel.there))))) ?_
            refine G.takeFT hT6 (i := 56) (rem' := 18302628885633695744) rfl rfl rfl (by kernel_rfl) (fun _ _ _ h => h) rfl (by repeat (first | exact Sub.nil | (apply Sub.cons; (repeat (first | with_reducible exact Sel.here | exact Sel.here | apply Sel.there))))) ?_
            refine G.takeFT hT6 (i := 57) (rem' := 18158513697557839872) rfl rfl rfl (by kernel_rfl) (fun _ _ _ h => h) rfl (by repeat (first | exact Sub.nil | (apply Sub.cons; (repeat (first | with_reducible exact Sel.here | exact Sel.here | apply Sel.there))))) ?_
            refine G.takeFT hT6 (i := 58) (rem' := 17870283321406128128) rfl rfl rfl (by kernel_rfl) (fun _ _ _ h => h) rfl (by repeat (first | exact Sub.nil | (apply Sub.cons; (repeat (first | with_reducible exact Sel.here | exact Sel.here | apply Sel.there))))) ?_
            refine G.takeFT hT6 (i := 59) (rem' := 17293822569102704640) rfl rfl rfl (by kernel_rfl) (fun _ _ _ h => h) rfl (by repeat (first | exact Sub.nil | (apply Sub.cons; (repeat (first | with_reducible exact Sel.here | exact Sel.here | apply Sel.there))))) ?_
            refine G.takeFT hT6 (i := 60) (rem' := 16140901064495857664) rfl rfl rfl (by kernel_rfl) (fun _ _ _ h => h) rfl (by repeat (first | exact Sub.nil | (apply Sub.cons; (repeat (first | with_reducible exact Sel.here | exact Sel.here | apply Sel.there))))) ?_
            refine G.takeFT hT6 (i := 61) (rem' := 13835058055282163712) rfl rfl rfl (by kernel_rfl) (fun _ _ _ h => h) rfl (by repeat (first | exact Sub.nil | (apply Sub.cons; (repeat (first | with_reducible exact Sel.here | exact Sel.here | apply Sel.there))))) ?_
            refine G.takeFT hT6 (i := 62) (rem' := 9223372036854775808) rfl rfl rfl (by kernel_rfl) (fun _ _ _ h => h) rfl (by repeat (first | exact Sub.nil | (apply Sub.cons; (repeat (first | with_reducible exact Sel.here | exact Sel.here | apply Sel.there))))) ?_
            refine G.takeT hT6 (i := 63) (rem' := 0) rfl rfl rfl (by kernel_rfl) (fun _ _ _ h => h) rfl (pv_pick rfl rfl) (by repeat (first | exact Sub.nil | (apply Sub.cons; (repeat (first | with_reducible exact Sel.here | exact Sel.here | apply Sel.there))))) ?_
            refine G.overT hT6 (by kernel_rfl) ?_
            exact G.meet (()) (by first | exact trivial | ((try dsimp only); exact trivial)) (.consE rfl (by first | exact dec_t (by rw [ne_eq, he]; simp_all) | exact dec_e (by rw [ne_eq ys[i].1, he] at *; simp_all) | exact dec_e (by rw [ne_eq xs[i].1, he]; simp_all)) (.cons rfl (.cons rfl (.cons rfl .nil)))) (by repeat (first | exact Sub.nil | (apply Sub.cons; (repeat (first | with_reducible exact Sel.here | exact Sel.here | apply Sel.there)))))
          · refine G.takeT hT6 (i := 25) (rem' := 18446744073642442752) rfl rfl rfl (by kernel_rfl) (fun _ _ _ h => h) rfl (pv_move rfl) (by repeat (first | exact Sub.nil | (apply Sub.cons; (repeat (first | with_reducible exact Sel.here | exact Sel.here | apply Sel.there))))) ?_
            refine G.takeT hT6 (i := 26) (rem' := 18446744073575333888) rfl rfl rfl (by kernel_rfl) (fun _ _ _ h => h) rfl (pv_move rfl) (by repeat (first | exact Sub.nil | (apply Sub.cons; (repeat (first | with_reducible exact Sel.here | exact Sel.here | apply Sel.there))))) ?_
            refine G.takeT hT6 (i := 27) (rem' := 18446744073441116160) rfl rfl rfl (by kernel_rfl) (fun _ _ _ h => h) rfl (pv_ixSl (sz := 5) Try.underlying22 (by kernel_rfl) rfl rfl (by first | with_reducible assumption | assumption | exact fun _ => rfl) rfl (by omega)) (by repeat (first | exact Sub.nil | (apply Sub.cons; (repeat (first | with_reducible exact Sel.here | exact Sel.here | apply Sel.there))))) ?_
            refine G.takeT hT6 (i := 28) (rem' := 18446744073172680704) rfl rfl rfl (by kernel_rfl) (fun _ _ _ h => h) rfl (pv_fieldAddrK (sz := 0) (k := 2) Try.underlying31 rfl (by kernel_rfl) rfl rfl) (by repeat (first | exact Sub.nil | (apply Sub.cons; (repeat (first | with_reducible exact Sel.here | exact Sel.here | apply Sel.there))))) ?_
            refine G.takeT hT6 (i := 29) (rem' := 18446744072635809792) rfl rfl rfl (by kernel_rfl) (fun _ _ _ h => h) rfl (pv_load Try.underlying3 rfl rfl (by first | exact blk_cell (by (repeat (first | with_reducible exact Sel.here | exact Sel.here | apply Sel.there)); done) (by rfl) | exact rng_cell (by (repeat (first | with_reducible exact Sel.here | exact Sel.here | apply Sel.there)); done) (by rfl) | exact ro_blk (by assumption) (by rfl) | exact ro_rngC (by assumption) (by rfl) | exact ro_int (by assumption) | exact ro_byte (by assumption) | exact ro_str (by assumption) | with_reducible assumption | assumption)) (by repeat (first | exact Sub.nil | (apply Sub.cons; (repeat (first | with_reducible exact Sel.here | exact Sel.here | apply Sel.there))))) ?_
            refine G.takeT hT6 (i := 30) (rem' := 18446744071562067968) rfl rfl rfl (by kernel_rfl) (fun _ _ _ h => h) rfl (pv_move rfl) (by repeat (first | exact Sub.nil | (apply Sub.cons; (repeat (first | with_reducible exact Sel.here | exact Sel.here | apply Sel.there))))) ?_
            refine G.takeT hT6 (i := 31) (rem' := 18446744069414584320) rfl rfl rfl (by kernel_rfl) (fun _ _ _ h => h) rfl (pv_move rfl) (by repeat (first | exact Sub.nil | (apply Sub.cons; (repeat (first | with_reducible exact Sel.here | exact Sel.here | apply Sel.there))))) ?_
            refine G.takeT hT6 (i := 32) (rem' := 18446744065119617024) rfl rfl rfl (by kernel_rfl) (fun _ _ _ h => h) rfl (pv_ixSl (sz := 5) Try.underlying22 (by kernel_rfl) rfl rfl (by first | with_reducible assumption | assumption | exact fun _ => rfl) rfl (by omega)) (by repeat (first | exact Sub.nil | (apply Sub.cons; (repeat (first | with_reducible exact Sel.here | exact Sel.here | apply Sel.there))))) ?_
            refine G.takeT hT6 (i := 33) (rem' := 18446744056529682432) rfl rfl rfl (by kernel_rfl) (fun _ _ _ h => h) rfl (pv_fieldAddrK (sz := 0) (k := 2) Try.underlying31 rfl (by kernel_rfl) rfl rfl) (by repeat (first | exact Sub.nil | (apply Sub.cons; (repeat (first | with_reducible exact Sel.here | exact Sel.here | apply Sel.there))))) ?_
            refine G.oneT hT6 (i := 34) (rem' := 18446744039349813248) (by kernel_rfl) (by kernel_rfl) ?_
            refine G.turnOp rfl rfl (G.val rfl rfl (pv_load Try.underlying3 rfl rfl (by first | exact blk_cell (by (repeat (first | with_reducible exact Sel.here | exact Sel.here | apply Sel.there)); done) (by rfl) | exact rng_cell (by (repeat (first | with_reducible exact Sel.here | exact Sel.here | apply Sel.there)); done) (by rfl) | exact ro_blk (by assumption) (by rfl) | exact ro_rngC (by assumption) (by rfl) | exact ro_int (by assumption) | exact ro_byte (by assumption) | exact ro_str (by assumption) | with_reducible assumption | assumption)) ?_)
            refine G.back (by repeat (first | exact Sub.nil | (apply Sub.cons; (repeat (first | with_reducible exact Sel.here | exact Sel.here | apply Sel.there))))) ?_
            refine G.takeT hT6 (i := 35) (rem' := 18446744004990074880) rfl rfl rfl (by kernel_rfl) (fun _ _ _ h => h) rfl (pv_neq rfl rfl) (by repeat (first | exact Sub.nil | (apply Sub.cons; (repeat (first | with_reducible exact Sel.here | exact Sel.here | apply Sel.there))))) ?_
            refine G.takeT hT6 (i := 36) (rem' := 18446743936270598144) rfl rfl rfl (by kernel_rfl) (fun _ _ _ h => h) rfl (pv_pick rfl rfl) (by repeat (first | exact Sub.nil | (apply Sub.cons; (repeat (first | with_reducible exact Sel.here | exact Sel.here | apply Sel.there))))) ?_
            refine G.takeT hT6 (i := 37) (rem' := 18446743798831644672) rfl rfl rfl (by kernel_rfl) (fun _ _ _ h => h) rfl (pv_move rfl) (by repeat (first | exact Sub.nil | (apply Sub.cons; (repeat (first | with_reducible exact Sel.here | exact Sel.here | apply Sel.there))))) ?_
            refine G.partP (t := 54) rfl (fun h54 => ?_) (fun h54 => ?_)
            · refine G.takeFT hT6 (i := 38) (rem' := 18446743523953737728) rfl rfl rfl (by kernel_rfl) (fun _ _ _ h => h) rfl (by repeat (first | exact Sub.nil | (apply Sub.cons; (repeat (first | with_reducible exact Sel.here | exact Sel.here | apply Sel.there))))) ?_
              refine G.takeFT hT6 (i := 39) (rem' := 18446742974197923840) rfl rfl rfl (by kernel_rfl) (fun _ _ _ h => h) rfl (by repeat (first | exact Sub.nil | (apply Sub.cons; (repeat (first | with_reducible exact Sel.here | exact Sel.here | apply Sel.there))))) ?_
              refine G.takeFT hT6 (i := 40) (rem' := 18446741874686296064) rfl rfl rfl (by kernel_rfl) (fun _ _ _ h => h) rfl (by repeat (first | exact Sub.nil | (apply Sub.cons; (repeat (first | with_reducible exact Sel.here | exact Sel.here | apply Sel.there))))) ?_
              refine G.takeFT hT6 (i := 41) (rem' := 18446739675663040512) rfl rfl rfl (by kernel_rfl) (fun _ _ _ h => h) rfl (by repeat (first | exact Sub.nil | (apply Sub.cons; (repeat (first | with_reducible exact Sel.here | exact Sel.here | apply Sel.there))))) ?_
              refine G.takeFT hT6 (i := 42) (rem' := 18446735277616529408) rfl rfl rfl (by kernel_rfl) (fun _ _ _ h => h) rfl (by repeat (first | exact Sub.nil | (apply Sub.cons; (repeat (first | with_reducible exact Sel.here | exact Sel.here | apply Sel.there))))) ?_
              refine G.takeFT hT6 (i := 43) (rem' := 18446726481523507200) rfl rfl rfl (by kernel_rfl) (fun _ _ _ h => h) rfl (by repeat (first | exact Sub.nil | (apply Sub.cons; (repeat (first | with_reducible exact Sel.here | exact Sel.here | apply Sel.there))))) ?_
              refine G.takeFT hT6 (i := 44) (rem' := 18446708889337462784) rfl rfl rfl (by kernel_rfl) (fun _ _ _ h => h) rfl (by repeat (first | exact Sub.nil | (apply Sub.cons; (repeat (first | with_reducible exact Sel.here | exact Sel.here | apply Sel.there))))) ?_
              refine G.takeFT hT6 (i := 45) (rem' := 18446673704965373952) rfl rfl rfl (by kernel_rfl) (fun _ _ _ h => h) rfl (by repeat (first | exact Sub.nil | (apply Sub.cons; (repeat (first | with_reducible exact Sel.here | exact Sel.here | apply Sel.there))))) ?_
              refine G.takeFT hT6 (i := 46) (rem' := 18446603336221196288) rfl rfl rfl (by kernel_rfl) (fun _ _ _ h => h) rfl (by repeat (first | exact Sub.nil | (apply Sub.cons; (repeat (first | with_reducible exact Sel.here | exact Sel.here | apply Sel.there))))) ?_
              refine G.takeFT hT6 (i := 47) (rem' := 18446462598732840960) rfl rfl rfl (by kernel_rfl) (fun _ _ _ h => h) rfl (by repeat (first | exact Sub.nil | (apply Sub.cons; (repeat (first | with_reducible exact Sel.here | exact Sel.here | apply Sel.there))))) ?_
              refine G.takeFT hT6 (i := 48) (rem' := 18446181123756130304) rfl rfl rfl (by kernel_rfl) (fun _ _ _ h => h) rfl (by repeat (first | exact Sub.nil | (apply Sub.cons; (repeat (first | with_reducible exact Sel.here | exact Sel.here | apply Sel.there))))) ?_
              refine G.takeFT hT6 (i := 49) (rem' := 18445618173802708992) rfl rfl rfl (by kernel_rfl) (fun _ _ _ h => h) rfl (by repeat (first | exact Sub.nil | (apply Sub.cons; (repeat (first | with_reducible exact Sel.here | exact Sel.here | apply Sel.there))))) ?_
              refine G.takeT hT6 (i := 50) (rem' := 18444492273895866368) rfl rfl rfl (by kernel_rfl) (fun _ _ _ h => h) rfl (pv_pick rfl rfl) (by repeat (first | exact Sub.nil | (apply Sub.cons; (repeat (first | with_reducible exact Sel.here | exact Sel.here | apply Sel.there))))) ?_
              refine G.takeT hT6 (i := 51) (rem' := 18442240474082181120) rfl rfl rfl (by kernel_rfl) (fun _ _ _ h => h) rfl (pv_move rfl) (by repeat (first | exact Sub.nil | (apply Sub.cons; (repeat (first | with_reducible exact Sel.here | exact Sel.here | apply Sel.there))))) ?_
              refine G.takeFT hT6 (i := 52) (rem' := 18437736874454810624) rfl rfl rfl (by kernel_rfl) (fun _ _ _ h => h) rfl (by repeat (first | exact Sub.nil | (apply Sub.cons; (repeat (first | with_reducible exact Sel.here | exact Sel.here | apply Sel.there))))) ?_
              refine G.takeFT hT6 (i := 53) (rem' := 18428729675200069632) rfl rfl rfl (by kernel_rfl) (fun _ _ _ h => h) rfl (by repeat (first | exact Sub.nil | (apply Sub.cons; (repeat (first | with_reducible exact Sel.here | exact Sel.here | apply Sel.there))))) ?_
              refine G.takeFT hT6 (i := 54) (rem' := 18410715276690587648) rfl rfl rfl (by kernel_rfl) (fun _ _ _ h => h) rfl (by repeat (first | exact Sub.nil | (apply Sub.cons; (repeat (first | with_reducible exact Sel.here | exact Sel.here | apply Sel.there))))) ?_
              refine G.takeFT hT6 (i := 55) (rem' := 18374686479671623680) rfl rfl rfl (by kernel_rfl) (fun _ _ _ h => h) rfl (by repeat (first | exact Sub.nil | (apply Sub.cons; (repeat (first | with_reducible exact Sel.here | exact Sel.here | apply Sel.there))))) ?_
              refine G.takeFT hT6 (i := 56) (rem' := 18302628885633695744) rfl rfl rfl (by kernel_rfl) (fun _ _ _ h => h) rfl (by repeat (first | exact Sub.nil | (apply Sub.cons; (repeat (first | with_reducible exact Sel.here | exact Sel.here | apply Sel.there))))) ?_
              refine G.takeFT hT6 (i := 57) (rem' := 18158513697557839872) rfl rfl rfl (by kernel_rfl) (fun _ _ _ h => h) rfl (by repeat (first | exact Sub.nil | (apply Sub.cons; (repeat (first | with_reducible exact Sel.here | exact Sel.here | apply Sel.there))))) ?_
              refine G.takeFT hT6 (i := 58) (rem' := 17870283321406128128) rfl rfl rfl (by kernel_rfl) (fun _ _ _ h => h) rfl (by repeat (first | exact Sub.nil | (apply Sub.cons; (repeat (first | with_reducible exact Sel.here | exact Sel.here | apply Sel.there))))) ?_
              refine G.takeFT hT6 (i := 59) (rem' := 17293822569102704640) rfl rfl rfl (by kernel_rfl) (fun _ _ _ h => h) rfl (by repeat (first | exact Sub.nil | (apply Sub.cons; (repeat (first | with_reducible exact Sel.here | exact Sel.here | apply Sel.there))))) ?_
              refine G.takeFT hT6 (i := 60) (rem' := 16140901064495857664) rfl rfl rfl (by kernel_rfl) (fun _ _ _ h => h) rfl (by repeat (first | exact Sub.nil | (apply Sub.cons; (repeat (first | with_reducible exact Sel.here | exact Sel.here | apply Sel.there))))) ?_
              refine G.takeFT hT6 (i := 61) (rem' := 13835058055282163712) rfl rfl rfl (by kernel_rfl) (fun _ _ _ h => h) rfl (by repeat (first | exact Sub.nil | (apply Sub.cons; (repeat (first | with_reducible exact Sel.here | exact Sel.here | apply Sel.there))))) ?_
              refine G.takeFT hT6 (i := 62) (rem' := 9223372036854775808) rfl rfl rfl (by kernel_rfl) (fun _ _ _ h => h) rfl (by repeat (first | exact Sub.nil | (apply Sub.cons; (repeat (first | with_reducible exact Sel.here | exact Sel.here | apply Sel.there))))) ?_
              refine G.takeT hT6 (i := 63) (rem' := 0) rfl rfl rfl (by kernel_rfl) (fun _ _ _ h => h) rfl (pv_pick rfl rfl) (by repeat (first | exact Sub.nil | (apply Sub.cons; (repeat (first | with_reducible exact Sel.here | exact Sel.here | apply Sel.there))))) ?_
              refine G.overT hT6 (by kernel_rfl) ?_
              exact G.meet (()) (by first | exact trivial | ((try dsimp only); exact trivial)) (.consE rfl (by first | exact dec_t (by rw [ne_eq, he]; simp_all) | exact dec_e (by rw [ne_eq ys[i].1, he] at *; simp_all) | exact dec_e (by rw [ne_eq xs[i].1, he]; simp_all)) (.cons rfl (.cons rfl (.cons rfl .nil)))) (by repeat (first | exact Sub.nil | (apply Sub.cons; (repeat (first | with_reducible exact Sel.here | exact Sel.here | apply Sel.there)))))
            · refine G.takeT hT6 (i := 38) (rem' := 18446743523953737728) rfl rfl rfl (by kernel_rfl) (fun _ _ _ h => h) rfl (pv_move rfl) (by repeat (first | exact Sub.nil | (apply Sub.cons; (repeat (first | with_reducible exact Sel.here | exact Sel.here | apply Sel.there))))) ?_
              refine G.takeT hT6 (i := 39) (rem' := 18446742974197923840) rfl rfl rfl (by kernel_rfl) (fun _ _ _ h => h) rfl (pv_move rfl) (by repeat (first | exact Sub.nil | (apply Sub.cons; (repeat (first | with_reducible exact Sel.here | exact Sel.here | apply Sel.there))))) ?_
              refine G.takeT hT6 (i := 40) (rem' := 18446741874686296064) rfl rfl rfl (by kernel_rfl) (fun _ _ _ h => h) rfl (pv_ixSl (sz := 5) Try.underlying22 (by kernel_rfl) rfl rfl (by first | with_reducible assumption | assumption | exact fun _ => rfl) rfl (by omega)) (by repeat (first | exact Sub.nil | (apply Sub.cons; (repeat (first | with_reducible exact Sel.here | exact Sel.here | apply Sel.there))))) ?_
              refine G.takeT hT6 (i := 41) (rem' := 18446739675663040512) rfl rfl rfl (by kernel_rfl) (fun _ _ _ h => h) rfl (pv_fieldAddrK (sz := 0) (k := 3) Try.underlying31 rfl (by kernel_rfl) rfl rfl) (by repeat (first | exact Sub.nil | (apply Sub.cons; (repeat (first | with_reducible exact Sel.here | exact Sel.here | apply Sel.there))))) ?_
              refine G.takeT hT6 (i := 42) (rem' := 18446735277616529408) rfl rfl rfl (by kernel_rfl) (fun _ _ _ h => h) rfl (pv_load Try.underlying29 rfl rfl (by first | exact blk_cell (by (repeat (first | with_reducible exact Sel.here | exact Sel.here | apply Sel.there)); done) (by rfl) | exact rng_cell (by (repeat (first | with_reducible exact Sel.here | exact Sel.here | apply Sel.there)); done) (by rfl) | exact ro_blk (by assumption) (by rfl) | exact ro_rngC (by assumption) (by rfl) | exact ro_int (by assumption) | exact ro_byte (by assumption) | exact ro_str (by assumption) | with_reducible assumption | assumption)) (by repeat (first | exact Sub.nil | (apply Sub.cons; (repeat (first | with_reducible exact Sel.here | exact Sel.here | apply Sel.there))))) ?_
              refine G.takeT hT6 (i := 43) (rem' := 18446726481523507200) rfl rfl rfl (by kernel_rfl) (fun _ _ _ h => h) rfl (pv_move rfl) (by repeat (first | exact Sub.nil | (apply Sub.cons; (repeat (first | with_reducible exact Sel.here | exact Sel.here | apply Sel.there))))) ?_
              refine G.takeT hT6 (i := 44) (rem' := 18446708889337462784) rfl rfl rfl (by kernel_rfl) (fun _ _ _ h => h) rfl (pv_move rfl) (by repeat (first | exact Sub.nil | (apply Sub.cons; (repeat (first | with_reducible exact Sel.here | exact Sel.here | apply Sel.there))))) ?_
              refine G.takeT hT6 (i := 45) (rem' := 18446673704965373952) rfl rfl rfl (by kernel_rfl) (fun _ _ _ h => h) rfl (pv_ixSl (sz := 5) Try.underlying22 (by kernel_rfl) rfl rfl (by first | with_reducible assumption | assumption | exact fun _ => rfl) rfl (by omega)) (by repeat (first | exact Sub.nil | (apply Sub.cons; (repeat (first | with_reducible exact Sel.here | exact Sel.here | apply Sel.there))))) ?_
              refine G.takeT hT6 (i := 46) (rem' := 18446603336221196288) rfl rfl rfl (by kernel_rfl) (fun _ _ _ h => h) rfl (pv_fieldAddrK (sz := 0) (k := 3) Try.underlying31 rfl (by kernel_rfl) rfl rfl) (by repeat (first | exact Sub.nil | (apply Sub.cons; (repeat (first | with_reducible exact Sel.here | exact Sel.here | apply Sel.there))))) ?_
              refine G.oneT hT6 (i := 47) (rem' := 18446462598732840960) (by kernel_rfl) (by kernel_rfl) ?_
              refine G.turnOp rfl rfl (G.val rfl rfl (pv_load Try.underlying29 rfl rfl (by first | exact blk_cell (by (repeat (first | with_reducible exact Sel.here | exact Sel.here | apply Sel.there)); done) (by rfl) | exact rng_cell (by (repeat (first | with_reducible exact Sel.here | exact Sel.here | apply Sel.there)); done) (by rfl) | exact ro_blk (by assumption) (by rfl) | exact ro_rngC (by assumption) (by rfl) | exact ro_int (by assumption) | exact ro_byte (by assumption) | exact ro_str (by assumption) | with_reducible assumption | assumption)) ?_)
              refine G.back (by repeat (first | exact Sub.nil | (apply Sub.cons; (repeat (first | with_reducible exact Sel.here | exact Sel.here | apply Sel.there))))) ?_
              refine G.oneT hT6 (i := 48) (rem' := 18446181123756130304) (by kernel_rfl) (by kernel_rfl) ?_
              refine G.turnOp rfl rfl (G.cR rfl rfl rfl rfl Try.func44 rfl rfl (may2 (by first | (apply May.old; first | with_reducible assumption | assumption) | (apply Sel.may; (repeat (first | with_reducible exact Sel.here | exact Sel.here | apply Sel.there)); done) | (apply may_own; (repeat (first | with_reducible exact Sel.here | exact Sel.here | apply Sel.there)); exact rfl; exact (fun _ _ => trivial); done) | (apply may_ownB; (repeat (first | with_reducible exact Sel.here | exact Sel.here | apply Sel.there)); done) | (apply may_tree; (repeat (first | with_reducible exact Sel.here | exact Sel.here | apply Sel.there)); (repeat (first | with_reducible exact Sel.here | exact Sel.here | apply Sel.there)); assumption; done)) (by first | (apply May.old; first | with_reducible assumption | assumption) | (apply Sel.may; (repeat (first | with_reducible exact Sel.here | exact Sel.here | apply Sel.there)); done) | (apply may_own; (repeat (first | with_reducible exact Sel.here | exact Sel.here | apply Sel.there)); exact rfl; exact (fun _ _ => trivial); done) | (apply may_ownB; (repeat (first | with_reducible exact Sel.here | exact Sel.here | apply Sel.there)); done) | (apply may_tree; (repeat (first | with_reducible exact Sel.here | exact Sel.here | apply Sel.there)); (repeat (first | with_reducible exact Sel.here | exact Sel.here | apply Sel.there)); assumption; done))) (same_tr _ _ _ _) ?_)
              refine G.back (by repeat (first | exact Sub.nil | (apply Sub.cons; (repeat (first | with_reducible exact Sel.here | exact Sel.here | apply Sel.there))))) ?_
              refine G.takeT hT6 (i := 49) (rem' := 18445618173802708992) rfl rfl rfl (by kernel_rfl) (fun _ _ _ h => h) rfl (pv_notP rfl) (by repeat (first | exact Sub.nil | (apply Sub.cons; (repeat (first | with_reducible exact Sel.here | exact Sel.here | apply Sel.there))))) ?_
              refine G.takeT hT6 (i := 50) (rem' := 18444492273895866368) rfl rfl rfl (by kernel_rfl) (fun _ _ _ h => h) rfl (pv_pick rfl rfl) (by repeat (first | exact Sub.nil | (apply Sub.cons; (repeat (first | with_reducible exact Sel.here | exact Sel.here | apply Sel.there))))) ?_
              refine G.takeT hT6 (i := 51) (rem' := 18442240474082181120) rfl rfl rfl (by kernel_rfl) (fun _ _ _ h => h) rfl (pv_move rfl) (by repeat (first | exact Sub.nil | (apply Sub.cons; (repeat (first | with_reducible exact Sel.here | exact Sel.here | apply Sel.there))))) ?_
              refine G.partP (t := 68) rfl (fun h68 => ?_) (fun h68 => ?_)
              · refine G.takeFT hT6 (i := 52) (rem' := 18437736874454810624) rfl rfl rfl (by kernel_rfl) (fun _ _ _ h => h) rfl (by repeat (first | exact Sub.nil | (apply Sub.cons; (repeat (first | with_reducible exact Sel.here | exact Sel.here | apply Sel.there))))) ?_
                refine G.takeFT hT6 (i := 53) (rem' := 18428729675200069632) rfl rfl rfl (by kernel_rfl) (fun _ _ _ h => h) rfl (by repeat (first | exact Sub.nil | (apply Sub.cons; (repeat (first | with_reducible exact Sel.here | exact Sel.here | apply Sel.there))))) ?_
                refine G.takeFT hT6 (i := 54) (rem' := 18410715276690587648) rfl rfl rfl (by kernel_rfl) (fun _ _ _ h => h) rfl (by repeat (first | exact Sub.nil | (apply Sub.cons; (repeat (first | with_reducible exact Sel.here | exact Sel.here | apply Sel.there))))) ?_
                refine G.takeFT hT6 (i := 55) (rem' := 18374686479671623680) rfl rfl rfl (by kernel_rfl) (fun _ _ _ h => h) rfl (by repeat (first | exact Sub.nil | (apply Sub.cons; (repeat (first | with_reducible exact Sel.here | exact Sel.here | apply Sel.there))))) ?_
                refine G.takeFT hT6 (i := 56) (rem' := 18302628885633695744) rfl rfl rfl (by kernel_rfl) (fun _ _ _ h => h) rfl (by repeat (first | exact Sub.nil | (apply Sub.cons; (repeat (first | with_reducible exact Sel.here | exact Sel.here | apply Sel.there))))) ?_
                refine G.takeFT hT6 (i := 57) (rem' := 18158513697557839872) rfl rfl rfl (by kernel_rfl) (fun _ _ _ h => h) rfl (by repeat (first | exact Sub.nil | (apply Sub.cons; (repeat (first | with_reducible exact Sel.here | exact Sel.here | apply Sel.there))))) ?_
                refine G.takeFT hT6 (i := 58) (rem' := 17870283321406128128) rfl rfl rfl (by kernel_rfl) (fun _ _ _ h => h) rfl (by repeat (first | exact Sub.nil | (apply Sub.cons; (repeat (first | with_reducible exact Sel.here | exact Sel.here | apply Sel.there))))) ?_
                refine G.takeFT hT6 (i := 59) (rem' := 17293822569102704640) rfl rfl rfl (by kernel_rfl) (fun _ _ _ h => h) rfl (by repeat (first | exact Sub.nil | (apply Sub.cons; (repeat (first | with_reducible exact Sel.here | exact Sel.here | apply Sel.there))))) ?_
                refine G.takeFT hT6 (i := 60) (rem' := 16140901064495857664) rfl rfl rfl (by kernel_rfl) (fun _ _ _ h => h) rfl (by repeat (first | exact Sub.nil | (apply Sub.cons; (repeat (first | with_reducible exact Sel.here | exact Sel.here | apply Sel.there))))) ?_
                refine G.takeFT hT6 (i := 61) (rem' := 13835058055282163712) rfl rfl rfl (by kernel_rfl) (fun _ _ _ h => h) rfl (by repeat (first | exact Sub.nil | (apply Sub.cons; (repeat (first | with_reducible exact Sel.here | exact Sel.here | apply Sel.there))))) ?_
                refine G.takeFT hT6 (i := 62) (rem' := 9223372036854775808) rfl rfl rfl (by kernel_rfl) (fun _ _ _ h => h) rfl (by repeat (first | exact Sub.nil | (apply Sub.cons; (repeat (first | with_reducible exact Sel.here | exact Sel.here | apply Sel.there))))) ?_
                refine G.takeT hT6 (i := 63) (rem' := 0) rfl rfl rfl (by kernel_rfl) (fun _ _ _ h => h) rfl (pv_pick rfl rfl) (by repeat (first | exact Sub.nil | (apply Sub.cons; (repeat (first | with_reducible exact Sel.here | exact Sel.here | apply Sel.there))))) ?_
                refine G.overT hT6 (by kernel_rfl) ?_
                exact G.meet (()) (by first | exact trivial | ((try dsimp only); exact trivial)) (.consE rfl (by first | exact dec_t (by rw [ne_eq, he]; simp_all) | exact dec_e (by rw [ne_eq ys[i].1, he] at *; simp_all) | exact dec_e (by rw [ne_eq xs[i].1, he]; simp_all)) (.cons rfl (.cons rfl (.cons rfl .nil)))) (by repeat (first | exact Sub.nil | (apply Sub.cons; (repeat (first | with_reducible exact Sel.here | exact Sel.here | apply Sel.there)))))
              · refine G.takeT hT6 (i := 52) (rem' := 18437736874454810624) rfl rfl rfl (by kernel_rfl) (fun _ _ _ h => h) rfl (pv_move rfl) (by repeat (first | exact Sub.nil | (apply Sub.cons; (repeat (first | with_reducible exact Sel.here | exact Sel.here | apply Sel.there))))) ?_
                refine G.takeT hT6 (i := 53) (rem' := 18428729675200069632) rfl rfl rfl (by kernel_rfl) (fun _ _ _ h => h) rfl (pv_move rfl) (by repeat (first | exact Sub.nil | (apply Sub.cons; (repeat (first | with_reducible exact Sel.here | exact Sel.here | apply Sel.there))))) ?_
                refine G.takeT hT6 (i := 54) (rem' := 18410715276690587648) rfl rfl rfl (by kernel_rfl) (fun _ _ _ h => h) rfl (pv_ixSl (sz := 5) Try.underlying22 (by kernel_rfl) rfl rfl (by first | with_reducible assumption | assumption | exact fun _ => rfl) rfl (by omega)) (by repeat (first | exact Sub.nil | (apply Sub.cons; (repeat (first | with_reducible exact Sel.here | exact Sel.here | apply Sel.there))))) ?_
                refine G.takeT hT6 (i := 55) (rem' := 18374686479671623680) rfl rfl rfl (by kernel_rfl) (fun _ _ _ h => h) rfl (pv_fieldAddrK (sz := 0) (k := 4) Try.underlying31 rfl (by kernel_rfl) rfl rfl) (by repeat (first | exact Sub.nil | (apply Sub.cons; (repeat (first | with_reducible exact Sel.here | exact Sel.here | apply Sel.there))))) ?_
                refine G.takeT hT6 (i := 56) (rem' := 18302628885633695744) rfl rfl rfl (by kernel_rfl) (fun _ _ _ h => h) rfl (pv_load Try.underlying9 rfl rfl (by first | exact blk_cell (by (repeat (first | with_reducible exact Sel.here | exact Sel.here | apply Sel.there)); done) (by rfl) | exact rng_cell (by (repeat (first | with_reducible exact Sel.here | exact Sel.here | apply Sel.there)); done) (by rfl) | exact ro_blk (by assumption) (by rfl) | exact ro_rngC (by assumption) (by rfl) | exact ro_int (by assumption) | exact ro_byte (by assumption) | exact ro_str (by assumption) | with_reducible assumption | assumption)) (by repeat (first | exact Sub.nil | (apply Sub.cons; (repeat (first | with_reducible exact Sel.here | exact Sel.here | apply Sel.there))))) ?_
                refine G.takeT hT6 (i := 57) (rem' := 18158513697557839872) rfl rfl rfl (by kernel_rfl) (fun _ _ _ h => h) rfl (pv_move rfl) (by repeat (first | exact Sub.nil | (apply Sub.cons; (repeat (first | with_reducible exact Sel.here | exact Sel.here | apply Sel.there))))) ?_
                refine G.takeT hT6 (i := 58) (rem' := 17870283321406128128) rfl rfl rfl (by kernel_rfl) (fun _ _ _ h => h) rfl (pv_move rfl) (by repeat (first | exact Sub.nil | (apply Sub.cons; (repeat (first | with_reducible exact Sel.here | exact Sel.here | apply Sel.there))))) ?_
                refine G.takeT hT6 (i := 59) (rem' := 17293822569102704640) rfl rfl rfl (by kernel_rfl) (fun _ _ _ h => h) rfl (pv_ixSl (sz := 5) Try.underlying22 (by kernel_rfl) rfl rfl (by first | with_reducible assumption | assumption | exact fun _ => rfl) rfl (by omega)) (by repeat (first | exact Sub.nil | (apply Sub.cons; (repeat (first | with_reducible exact Sel.here | exact Sel.here | apply Sel.there))))) ?_
                refine G.takeT hT6 (i := 60) (rem' := 16140901064495857664) rfl rfl rfl (by kernel_rfl) (fun _ _ _ h => h) rfl (pv_fieldAddrK (sz := 0) (k := 4) Try.underlying31 rfl (by kernel_rfl) rfl rfl) (by repeat (first | exact Sub.nil | (apply Sub.cons; (repeat (first | with_reducible exact Sel.here | exact Sel.here | apply Sel.there))))) ?_
                refine G.oneT hT6 (i := 61) (rem' := 13835058055282163712) (by kernel_rfl) (by kernel_rfl) ?_
                refine G.turnOp rfl rfl (G.val rfl rfl (pv_load Try.underlying9 rfl rfl (by first | exact blk_cell (by (repeat (first | with_reducible exact Sel.here | exact Sel.here | apply Sel.there)); done) (by rfl) | exact rng_cell (by (repeat (first | with_reducible exact Sel.here | exact Sel.here | apply Sel.there)); done) (by rfl) | exact ro_blk (by assumption) (by rfl) | exact ro_rngC (by assumption) (by rfl) | exact ro_int (by assumption) | exact ro_byte (by assumption) | exact ro_str (by assumption) | with_reducible assumption | assumption)) ?_)
                refine G.back (by repeat (first | exact Sub.nil | (apply Sub.cons; (repeat (first | with_reducible exact Sel.here | exact Sel.here | apply Sel.there))))) ?_
                refine G.takeT hT6 (i := 62) (rem' := 9223372036854775808) rfl rfl rfl (by kernel_rfl) (fun _ _ _ h => h) rfl (pv_neqS rfl rfl) (by repeat (first | exact Sub.nil | (apply Sub.cons; (repeat (first | with_reducible exact Sel.here | exact Sel.here | apply Sel.there))))) ?_
                refine G.takeT hT6 (i := 63) (rem' := 0) rfl rfl rfl (by kernel_rfl) (fun _ _ _ h => h) rfl (pv_pick rfl rfl) (by repeat (first | exact Sub.nil | (apply Sub.cons; (repeat (first | with_reducible exact Sel.here | exact Sel.here | apply Sel.there))))) ?_
                refine G.overT hT6 (by kernel_rfl) ?_
                exact G.meet (()) (by first | exact trivial | ((try dsimp only); exact trivial)) (.consE rfl (by first | exact dec_t (by rw [ne_eq, he]; simp_all) | exact dec_e (by rw [ne_eq ys[i].1, he] at *; simp_all) | exact dec_e (by rw [ne_eq xs[i].1, he]; simp_all)) (.cons rfl (.cons rfl (.cons rfl .nil)))) (by repeat (first | exact Sub.nil | (apply Sub.cons; (repeat (first | with_reducible exact Sel.here | exact Sel.here | apply Sel.there)))))
      · intro _ hJ
        try dsimp only at hJ
        try dsimp only
        refine G.condP rfl (fun h80 => ?_) (fun h80 => ?_)
        · have hne : xs[i].1 ≠ ys[i].1 := by assumption
          refine G.seq ?_
          refine G.region ?_
          refine G.op rfl (G.val rfl rfl (pv_assign rfl) ?_)
          refine G.nil ?_
          refine G.nThen ?_
          refine G.ret ?_
          refine G.rBlock ?_
          refine G.rThen ?_
          refine G.rThen ?_
          refine G.rBlock ?_
          refine G.rThen ?_
          exact G.done0G rfl (Rv.tmp rfl Rv.nil) (by rw [decide_eq_false (ens_ne hlt hlu hne)]; rfl)
        · have heq : xs[i].1 = ys[i].1 := Decidable.of_not_not (by assumption)
          refine G.skip ?_
          refine G.nBlock ?_
          refine G.nThen ?_
          refine G.region ?_
          refine G.op rfl (G.val rfl rfl (pv_move rfl) ?_)
          refine G.op rfl (G.val rfl rfl (pv_add64 rfl rfl (by omega)) ?_)
          refine G.op rfl (G.val rfl rfl (pv_assign rfl) ?_)
          refine G.nil ?_
          exact G.next (i + 1) (by first | exact trivial | ((try dsimp only); exact ⟨by omega, fun q hq hqi => by rcases Nat.lt_or_ge q i with h1 | h1; exact hJ0 q hq h1; obtain rfl : q = i := (by omega); exact heq⟩)) (by (try dsimp only); omega) (.consE rfl (by first | rfl | exact int_eq (by first | omega | (dsimp only; omega)) | exact congrArg _ (by omega)) (.cons rfl (.cons rfl .nil))) (by repeat (first | exact Sub.nil | (apply Sub.cons; (repeat (first | with_reducible exact Sel.here | exact Sel.here | apply Sel.there)))))
    · refine G.exit ?_
      refine G.eThen ?_
      refine G.eThen ?_
      refine G.eBlock ?_
      refine G.nThen ?_
      refine G.seq ?_
      refine G.region ?_
      refine G.op rfl (G.val rfl rfl (pv_assign rfl) ?_)
      refine G.nil ?_
      refine G.nThen ?_
      refine G.ret ?_
      exact G.done0G rfl (Rv.tmp rfl Rv.nil) (by rw [decide_eq_true (ens_eq (by omega) (fun q hq => hJ q hq (by omega)))]; rfl)
set_option maxRecDepth 20000 in
set_option maxHeartbeats 4000000 in

theorem sameTexts_tr {Ps Pu : Nat → Prop} {p q : List UInt8 → Prop} (v u : Value) (xs ys : List (List UInt8)) : Tr Try.prog 27 #[v, u] [slc (r1 vStr p) Ps v xs, slc (r1 vStr q) Pu u ys] [] (T0 (.bool (decide (xs = ys)))) := by
  refine Tr.of (l := [(0, v), (1, u)]) Try.func27 rfl (n := 26) rfl (.cons rfl (.cons rfl .nil)) (fun w0 hro => ?_)
  obtain ⟨hv0, hu0⟩ := ro2 hro
  have hv := hv0
  have hv' := hv
  obtain ⟨av, cv, bv, fv, rfl, hcapv, hmaxv, hnilv, hadv, helv⟩ := Ro.open hv
  have hu := hu0
  have hu' := hu
  obtain ⟨au, cu, bu, fu, rfl, hcapu, hmaxu, hnilu, hadu, helu⟩ := Ro.open hu
  refine G.seq ?_
  refine G.region ?_
  refine G.op rfl (G.val rfl rfl (pv_assign rfl) ?_)
  refine G.nil ?_
  refine G.nThen ?_
  refine G.seq ?_
  refine G.seq ?_
  refine G.region ?_
  refine G.op rfl (G.val rfl rfl (pv_move rfl) ?_)
  refine G.op rfl (G.val rfl rfl (pv_lenSl Try.underlying44 rfl) ?_)
  refine G.op rfl (G.val rfl rfl (pv_move rfl) ?_)
  refine G.op rfl (G.val rfl rfl (pv_lenSl Try.underlying44 rfl) ?_)
  refine G.op rfl (G.val rfl rfl (pv_neq rfl rfl) ?_)
  refine G.nil ?_
  refine G.nThen ?_
  refine G.condP rfl (fun h10 => ?_) (fun h10 => ?_)
  · refine G.seq ?_
    refine G.region ?_
    refine G.op rfl (G.val rfl rfl (pv_assign rfl) ?_)
    refine G.nil ?_
    refine G.nThen ?_
    refine G.ret ?_
    refine G.rThen ?_
    exact G.done0G rfl (Rv.tmp rfl Rv.nil) (by rw [decide_eq_false (fun e => absurd (congrArg List.length e) (by omega))]; rfl)
  · have hxy : xs.length = ys.length := by omega
    refine G.skip ?_
    refine G.nThen ?_
    refine G.seq ?_
    refine G.seq ?_
    refine G.region ?_
    refine G.op rfl (G.val rfl rfl (pv_assign rfl) ?_)
    refine G.nil ?_
    refine G.nThen ?_
    refine G.block ?_
    refine G.loopK (X := Nat) (ts := [0, 1]) (fun i => i ≤ xs.length ∧ (∀ q (hq : q < xs.length), q < i → xs[q] = ys[q]'(by omega))) (fun i => [(5, .int .i64 (i : Int))]) (fun i => []) (fun i => xs.length - i) (x0 := 0) (.cons rfl (.cons rfl .nil)) (by repeat (first | exact Sub.nil | (apply Sub.cons; (repeat (first | with_reducible exact Sel.here | exact Sel.here | apply Sel.there))))) (.cons .nil) (by repeat (first | exact Ap.nil | apply Ap.cons)) (by first | exact trivial | ((try dsimp only); exact ⟨Nat.zero_le _, fun q _ h => absurd h (by omega)⟩)) (.consE rfl (by first | rfl | exact int_eq (by first | omega | (dsimp only; omega)) | exact congrArg _ (by omega)) .nil) (fun i hJ => ?_)
    try dsimp only at hJ
    try dsimp only
    obtain ⟨hki, hJ⟩ := hJ
    refine G.seq ?_
    refine G.seq ?_
    refine G.region ?_
    refine G.op rfl (G.val rfl rfl (pv_move rfl) ?_)
    refine G.op rfl (G.val rfl rfl (pv_move rfl) ?_)
    refine G.op rfl (G.val rfl rfl (pv_lenSl Try.underlying44 rfl) ?_)
    refine G.op rfl (G.val rfl rfl (pv_lss rfl rfl) ?_)
    refine G.nil ?_
    refine G.nThen ?_
    refine G.condP rfl (fun h14 => ?_) (fun h14 => ?_)
    · refine G.skip ?_
      refine G.nThen ?_
      refine G.seq ?_
      refine G.block ?_
      refine G.seq ?_
      refine G.drawT (nn := 9) (p := []) (rem := 511) [0, 0, 3, 4, 0, 0, 48, 64, 136] [0, 0, 3, 4, 0, 0, 48, 64, 136] (by kernel_rfl) ⟨rfl, by kernel_rfl, by kernel_rfl⟩ (by repeat (first | exact Sub.nil | (apply Sub.cons; (repeat (first | with_reducible exact Sel.here | exact Sel.here | apply Sel.there))))) (by kernel_rfl) (fun hT6 => ?_)
      refine G.takeT hT6 (i := 0) (rem' := 510) rfl rfl rfl (by kernel_rfl) (fun _ _ _ h => h) rfl (pv_move rfl) (by repeat (first | exact Sub.nil | (apply Sub.cons; (repeat (first | with_reducible exact Sel.here | exact Sel.here | apply Sel.there))))) ?_
      refine G.takeT hT6 (i := 1) (rem' := 508) rfl rfl rfl (by kernel_rfl) (fun _ _ _ h => h) rfl (pv_move rfl) (by repeat (first | exact Sub.nil | (apply Sub.cons; (repeat (first | with_reducible exact Sel.here | exact Sel.here | apply Sel.there))))) ?_
      refine G.takeT hT6 (i := 2) (rem' := 504) rfl rfl rfl (by kernel_rfl) (fun _ _ _ h => h) rfl (pv_ixSl (sz := 1) (k := i) Try.underlying44 (by kernel_rfl) rfl rfl (by first | with_reducible assumption | assumption) (by omega) (by omega)) (by repeat (first | exact Sub.nil | (apply Sub.cons; (repeat (first | with_reducible exact Sel.here | exact Sel.here | apply Sel.there))))) ?_
      refine G.takeT hT6 (i := 4) (rem' := 488) rfl rfl rfl (by kernel_rfl) (fun _ _ _ h => h) rfl (pv_move rfl) (by repeat (first | exact Sub.nil | (apply Sub.cons; (repeat (first | with_reducible exact Sel.here | exact Sel.here | apply Sel.there))))) ?_
      refine G.takeT hT6 (i := 5) (rem' := 456) rfl rfl rfl (by kernel_rfl) (fun _ _ _ h => h) rfl (pv_move rfl) (by repeat (first | exact Sub.nil | (apply Sub.cons; (repeat (first | with_reducible exact Sel.here | exact Sel.here | apply Sel.there))))) ?_
      refine G.takeT hT6 (i := 6) (rem' := 392) rfl rfl rfl (by kernel_rfl) (fun _ _ _ h => h) rfl (pv_ixSl (sz := 1) (k := i) Try.underlying44 (by kernel_rfl) rfl rfl (by first | with_reducible assumption | assumption) (by omega) (by omega)) (by repeat (first | exact Sub.nil | (apply Sub.cons; (repeat (first | with_reducible exact Sel.here | exact Sel.here | apply Sel.there))))) ?_
      refine G.takeT hT6 (i := 3) (rem' := 384) rfl rfl rfl (by kernel_rfl) (fun _ _ _ h => h) rfl (pv_load (v := .string (sB xs[i])) Try.underlying9 rfl rfl (ro_cell (f := vStr) (helv i (by omega)))) (by repeat (first | exact Sub.nil | (apply Sub.cons; (repeat (first | with_reducible exact Sel.here | exact Sel.here | apply Sel.there))))) ?_
      refine G.oneT hT6 (i := 7) (rem' := 256) (by kernel_rfl) (by kernel_rfl) ?_
      refine G.turnOp rfl rfl (G.val rfl rfl (pv_load (v := .string (sB ys[i])) Try.underlying9 rfl rfl (ro_cell (f := vStr) (helu i (by omega)))) ?_)
      refine G.back (by repeat (first | exact Sub.nil | (apply Sub.cons; (repeat (first | with_reducible exact Sel.here | exact Sel.here | apply Sel.there))))) ?_
      refine G.takeT hT6 (i := 8) (rem' := 0) rfl rfl rfl (by kernel_rfl) (fun _ _ _ h => h) rfl (pv_neqS rfl rfl) (by repeat (first | exact Sub.nil | (apply Sub.cons; (repeat (first | with_reducible exact Sel.here | exact Sel.here | apply Sel.there))))) ?_
      refine G.overT hT6 (by kernel_rfl) ?_
      refine G.nThen ?_
      refine G.condP rfl (fun h25 => ?_) (fun h25 => ?_)
      · refine G.seq ?_
        refine G.region ?_
        refine G.op rfl (G.val rfl rfl (pv_assign rfl) ?_)
        refine G.nil ?_
        refine G.nThen ?_
        refine G.ret ?_
        refine G.rBlock ?_
        refine G.rThen ?_
        refine G.rThen ?_
        refine G.rBlock ?_
        refine G.rThen ?_
        exact G.done0G rfl (Rv.tmp rfl Rv.nil) (by rw [decide_eq_false (fun e => by subst e; exact absurd rfl (by assumption))]; rfl)
      · refine G.skip ?_
        refine G.nBlock ?_
        refine G.nThen ?_
        refine G.region ?_
        refine G.op rfl (G.val rfl rfl (pv_move rfl) ?_)
        refine G.op rfl (G.val rfl rfl (pv_add64 rfl rfl (by omega)) ?_)
        refine G.op rfl (G.val rfl rfl (pv_assign rfl) ?_)
        refine G.nil ?_
        exact G.next (i + 1) (by first | exact trivial | ((try dsimp only); exact ⟨by omega, fun q hq hqi => by rcases Nat.lt_or_ge q i with h1 | h1; exact hJ q hq h1; obtain rfl : q = i := (by omega); exact Decidable.of_not_not (by assumption)⟩)) (by (try dsimp only); omega) (.consE rfl (by first | rfl | exact int_eq (by first | omega | (dsimp only; omega)) | exact congrArg _ (by omega)) (.cons rfl (.cons rfl .nil))) (by repeat (first | exact Sub.nil | (apply Sub.cons; (repeat (first | with_reducible exact Sel.here | exact Sel.here | apply Sel.there)))))
    · refine G.exit ?_
      refine G.eThen ?_
      refine G.eThen ?_
      refine G.eBlock ?_
      refine G.nThen ?_
      refine G.seq ?_
      refine G.region ?_
      refine G.op rfl (G.val rfl rfl (pv_assign rfl) ?_)
      refine G.nil ?_
      refine G.nThen ?_
      refine G.ret ?_
      exact G.done0G rfl (Rv.tmp rfl Rv.nil) (by rw [decide_eq_true (List.ext_getElem hxy (fun q hq _ => hJ q hq (by omega)))]; rfl)
end Go.Proofs.Ytchgaedidfefoaa
