/- Merged of VK, VL, VM, ND, NE. Conditions: none. -/
import Derived.Test.YtbfpbibkklfnfaaGreatGd
set_option linter.unusedVariables false
set_option linter.unusedSimpArgs false
namespace Go.Proofs.YtbfpbibkklfnfaaGreat
open Go.RowKit
def toE (x : It) : En := ⟨x.path, x.kind, x.mode, [], x.to⟩
def toEs (ms : List It) : List En := ms.map toE
theorem toEs_length (ms : List It) : (toEs ms).length = ms.length := List.length_map ..
theorem toEs_get {ms : List It} {i : Nat} (h : i < ms.length) : (toEs ms)[i]'(by rw [toEs_length]; exact h) = toE ms[i] := List.getElem_map ..
theorem toEs_take (ms : List It) (i : Nat) : toEs (ms.take i) = (toEs ms).take i := by simp [toEs, List.map_take]
theorem its_take (xs : List IT) (i : Nat) : its (xs.take i) = (its xs).take i := by simp [its, List.map_take]
/-- what is wrong with the i-th item of a manifest -/
def errI (ms : List It) (i : Nat) : Int := match ms[i]? with
  | none => 0
  | some e => if (if oneI e = 0 ∧ prevBad (toEs ms) i then 7 else oneI e) = 0 ∧ ¬ heldM (toEs (ms.take i)) (toE e) then 6 else (if oneI e = 0 ∧ prevBad (toEs ms) i then 7 else oneI e)
theorem errI_get {ms : List It} {i : Nat} (h : i < ms.length) : errI ms i = if (if oneI ms[i] = 0 ∧ prevBad (toEs ms) i then 7 else oneI ms[i]) = 0 ∧ ¬ heldM (toEs (ms.take i)) (toE ms[i]) then 6 else (if oneI ms[i] = 0 ∧ prevBad (toEs ms) i then 7 else oneI ms[i]) := by
  unfold errI
  rw [List.getElem?_eq_getElem h]
theorem errI_one {ms : List It} {i : Nat} (h : i < ms.length) (h1 : ¬ oneI ms[i] = 0) : errI ms i = oneI ms[i] := by
  rw [errI_get h, if_neg (fun k => by rw [if_neg (fun k => h1 k.1)] at k; exact h1 k.1), if_neg (fun k => h1 k.1)]
theorem errI_prev {ms : List It} {i : Nat} (h : i < ms.length) (h1 : oneI ms[i] = 0) (h2 : prevBad (toEs ms) i) : errI ms i = 7 := by
  rw [errI_get h, if_neg (fun k => by rw [if_pos ⟨h1, h2⟩] at k; cases k.1), if_pos ⟨h1, h2⟩]
theorem errI_held {ms : List It} {i : Nat} (h : i < ms.length) (h1 : oneI ms[i] = 0) (h2 : ¬ prevBad (toEs ms) i) (h3 : ¬ heldM (toEs (ms.take i)) (toE ms[i])) : errI ms i = 6 := by
  rw [errI_get h, if_pos ⟨by rw [if_neg (fun k => h2 k.2), h1], h3⟩]
theorem errI_ok {ms : List It} {i : Nat} (h : i < ms.length) (h1 : oneI ms[i] = 0) (h2 : ¬ prevBad (toEs ms) i) (h3 : heldM (toEs (ms.take i)) (toE ms[i])) : errI ms i = 0 := by
  rw [errI_get h, if_neg (fun k => k.2 h3), if_neg (fun k => h2 k.2), h1]
theorem errI_zero {ms : List It} {i : Nat} (h : i < ms.length) (h0 : errI ms i = 0) : oneI ms[i] = 0 ∧ ¬ prevBad (toEs ms) i ∧ heldM (toEs (ms.take i)) (toE ms[i]) := by
  have a : oneI ms[i] = 0 := Decidable.byContradiction fun k => by rw [errI_one h k] at h0; exact k h0
  have b : ¬ prevBad (toEs ms) i := fun k => by rw [errI_prev h a k] at h0; cases h0
  exact ⟨a, b, Decidable.byContradiction fun k => by rw [errI_held h a b k] at h0; cases h0⟩
/-- the numbers that a manifest begins with -/
def headBad (a : Mh) : Prop := a.c < 1 ∨ 2147483647 < a.c ∨ a.k < 1 ∨ 2147483647 < a.k ∨ a.n < 0 ∨ 2147483647 < a.n ∨ a.t < 0 ∨ 2147483647 < a.t
instance (a : Mh) : Decidable (headBad a) := inferInstanceAs (Decidable (_ ∨ _))
/-- what is wrong with a manifest, and with which item -/
def checkI (a : Mh) (ms : List It) : Int × Int := if headBad a then (5, 0) else if 200 < ms.length then (3, 0) else
  let k := (List.range ms.length).findIdx fun i => ! decide (errI ms i = 0)
  (errI ms k, if errI ms k = 0 then 0 else (k : Int))
theorem checkI_head {a : Mh} {ms : List It} (h : headBad a) : checkI a ms = (5, 0) := if_pos h
theorem checkI_many {a : Mh} {ms : List It} (h0 : ¬ headBad a) (h : 200 < ms.length) : checkI a ms = (3, 0) := by
  unfold checkI
  rw [if_neg h0, if_pos h]
theorem checkI_bad {a : Mh} {ms : List It} {i : Nat} {e : Int} (h0 : ¬ headBad a) (h200 : ¬ 200 < ms.length) (hi : i < ms.length) (h : ∀ q, q < i → errI ms q = 0) (he : errI ms i = e) (hn : ¬ e = 0) : checkI a ms = (e, (i : Int)) := by
  unfold checkI
  rw [if_neg h0, if_neg h200]
  have e1 : (List.range ms.length).findIdx (fun i => ! decide (errI ms i = 0)) = i := range_idx hi (by simp [he, hn]) (fun q hq => by simp [h q hq])
  simp only [e1, he, if_neg hn]
theorem checkI_ok {a : Mh} {ms : List It} (h0 : ¬ headBad a) (h200 : ¬ 200 < ms.length) (h : ∀ q, q < ms.length → errI ms q = 0) : checkI a ms = (0, 0) := by
  unfold checkI
  rw [if_neg h0, if_neg h200]
  have e1 : (List.range ms.length).findIdx (fun i => ! decide (errI ms i = 0)) = ms.length := by
    have := List.findIdx_eq_length_of_false (p := fun i => ! decide (errI ms i = 0)) (xs := List.range ms.length) (fun x hx => by
      have := h x (by simpa using hx)
      simp [this])
    simpa using this
  have e2 : errI ms ms.length = 0 := by
    unfold errI
    rw [List.getElem?_eq_none (Nat.le_refl _)]
  simp only [e1, e2, if_true]
theorem checkI_zero {a : Mh} {ms : List It} (h : (checkI a ms).1 = 0) : ¬ headBad a ∧ ms.length ≤ 200 ∧ (∀ q, q < ms.length → errI ms q = 0) ∧ checkI a ms = (0, 0) := by
  by_cases h0 : headBad a
  · rw [checkI_head h0] at h
    cases h
  by_cases h200 : 200 < ms.length
  · rw [checkI_many h0 h200] at h
    cases h
  have all : ∀ q, q < ms.length → errI ms q = 0 := by
    intro q
    induction q using Nat.strongRecOn with
    | _ q ih =>
      intro hq
      exact Decidable.byContradiction fun k => by
        rw [checkI_bad h0 h200 hq (fun r hr => ih r hr (by omega)) rfl k] at h
        exact k h
  exact ⟨h0, by omega, all, checkI_ok h0 h200 all⟩
theorem sort_prev {es : List En} {i : Nat} (hi : i ≤ es.length) (h : ∀ q, q < i → ¬ prevBad es q) : SortT (es.take i) := by
  have step : ∀ q (hq : q + 1 < i), compareM (es[q]'(by omega)).path (es[q + 1]'(by omega)).path = -1 := fun q hq => by
    have h1 := h (q + 1) hq
    rw [prev_pos (by omega) (by omega)] at h1
    have := compareM_ord.rng (es[q]'(by omega)).path (es[q + 1]'(by omega)).path
    simp only [Nat.add_sub_cancel] at h1
    omega
  have all : ∀ r q (hr : r < i) (hqr : q < r), compareM (es[q]'(by omega)).path (es[r]'(by omega)).path = -1 := by
    intro r
    induction r with
    | zero => intro q hr hq; omega
    | succ r ih =>
      intro q hr hq
      rcases Nat.lt_or_ge q r with h1 | h1
      · exact compareM_ord.trans _ _ _ (ih q (by omega) h1) (step r hr)
      obtain rfl : q = r := by omega
      exact step q hr
  refine List.pairwise_iff_getElem.2 fun q r hq hr hqr => ?_
  simp only [List.length_take] at hq hr
  rw [List.getElem_take, List.getElem_take]
  exact all r q (by omega) hqr
theorem sort_items {ms : List It} {i : Nat} (hi : i ≤ ms.length) (h : ∀ q, q < i → errI ms q = 0) : SortT ((toEs ms).take i) := sort_prev (by rw [toEs_length]; exact hi) fun q hq => (errI_zero (by omega) (h q hq)).2.1
/-- the directories that are kept, among the first items -/
structure DirsAt (l : List (List UInt8 × Value)) (es : List En) : Prop where
  num : ∀ s, ∃ z : Int, (mget l s).getD (vInt 0) = vInt z
  dir : ∀ s, (mget l s).getD (vInt 0) = vInt 1 ↔ ∃ x ∈ es, x.path = s ∧ x.kind = 1
theorem dirs_nil : DirsAt [] [] := ⟨fun s => ⟨0, rfl⟩, fun s => ⟨fun h => by have h2 : vInt 0 = vInt 1 := h; exact absurd (vInt_inj h2) (by decide), fun ⟨x, hx, _⟩ => by cases hx⟩⟩
theorem DirsAt.put {l : List (List UInt8 × Value)} {es : List En} {e : En} (h : DirsAt l es) (hs : SortT (es ++ [e])) : DirsAt (mset l e.path (vInt e.kind)) (es ++ [e]) := by
  refine ⟨fun s => ?_, fun s => ?_⟩
  · rw [mget_mset]
    split
    · exact ⟨e.kind, rfl⟩
    exact h.num s
  rw [mget_mset]
  split
  · rename_i hp
    subst hp
    constructor
    · intro hk
      exact ⟨e, by simp, rfl, vInt_inj hk⟩
    rintro ⟨x, hx, hp, hk⟩
    have := sort_inj hs hx (by simp) hp
    subst this
    show vInt x.kind = vInt 1
    rw [hk]
  rename_i hp
  rw [h.dir s]
  constructor
  · rintro ⟨x, hx, h1⟩
    exact ⟨x, List.mem_append_left _ hx, h1⟩
  rintro ⟨x, hx, h1, h2⟩
  rcases List.mem_append.1 hx with hx | hx
  · exact ⟨x, hx, h1, h2⟩
  obtain rfl : x = e := by simpa using hx
  exact absurd h1 hp
theorem toEs_succ {xs : List IT} {i : Nat} (h : i < xs.length) : toEs ((its xs).take (i + 1)) = toEs ((its xs).take i) ++ [toE xs[i].1] := by
  have hl : i < (its xs).length := by rw [its_length]; exact h
  rw [List.take_succ_eq_append_getElem hl, its_get h, toEs, List.map_append]
  rfl
theorem held_z {l : List (List UInt8 × Value)} {es : List En} {e : En} {z : Int} (h : DirsAt l es) (hp : (parentM e.path).2 = true) (hz : (mget l (parentM e.path).1).getD (vInt 0) = vInt z) : z ≠ 1 ↔ ¬ heldM es e := by
  have h1 := h.dir (parentM e.path).1
  rw [hz] at h1
  have h2 : z = 1 ↔ vInt z = vInt 1 := ⟨fun h => by rw [h], vInt_inj⟩
  rw [ne_eq, h2, h1]
  unfold heldM
  rw [hp]
  simp
theorem heldNo' {es : List En} {e : En} (h : (parentM e.path).2 = true) (h2 : ∀ q (hq : q < es.length), ¬ (es[q].path = (parentM e.path).1 ∧ es[q].kind = 1)) : ¬ heldM es e := by
  rintro (k | ⟨x, hx, k⟩)
  · rw [h] at k
    cases k
  obtain ⟨j, hj, rfl⟩ := List.getElem_of_mem hx
  exact h2 j hj k
theorem parentI_len (s : List UInt8) (h : s.length ≤ 140737488355328) : okS9 (parentM s).1 := Nat.le_trans (parentM_len s) h
set_option maxRecDepth 20000 in
set_option maxHeartbeats 4000000 in
theorem iheld_tr {Ps Pd : Nat → Prop} (v : Value) (xs : List IT) (e : It) (d : Value) (hl : e.path.length ≤ 9223372036854775807) : Tr Tryz.prog 76 #[v, .agg #[.string (sB e.path), .int .i64 e.kind, .int .i64 e.mode, .int .i64 e.size, .string (sB e.to), d]] [slc rIT Ps v xs, slc rID Pd d e.ids] [] (T0 (.bool (decide (heldM (toEs (its xs)) (toE e))))) := by
  refine Tr.of (l := [(0, v), (1, .agg #[.string (sB e.path), .int .i64 e.kind, .int .i64 e.mode, .int .i64 e.size, .string (sB e.to), d])]) Tryz.func76 rfl (n := 40) rfl (.cons rfl (.cons rfl .nil)) (fun w0 hro => ?_)
  obtain ⟨hv0, hd0⟩ := ro2 hro
  have hv := hv0
  have hv' := hv
  obtain ⟨av, cv, bv, fv, rfl, hcapv, hmaxv, hnilv, hadv, helv⟩ := Ro.open hv
  have hel' := its_length xs
  have hel2 := toEs_length (its xs)
  have hgx : ∀ q (hq : q < xs.length), (toEs (its xs))[q]'(by omega) = toE xs[q].1 := fun q hq => by rw [toEs_get (by omega), its_get hq]
  refine G.seq (G.region ?_)
  refine G.op rfl (G.box rfl rfl (cs := [_, _, _, _, _, _]) rfl ?_)
  intro b3
  refine G.asT rfl rfl ?_
  refine G.nil ?_
  refine G.nThen (G.seq (G.region ?_))
  refine G.op rfl (G.val rfl rfl (pv_fieldAddrK (sz := 0) (k := 0) Tryz.underlying80 rfl kr rfl rfl) ?_)
  refine G.op rfl (G.val rfl rfl (pv_load Tryz.underlying9 rfl rfl celT) ?_)
  refine G.op rfl (G.cR rfl rfl rfl rfl Tryz.func111 rfl rfl may0 (parentR_tr _ (by omega)) ?_)
  refine G.mvT rfl rfl ?_
  refine G.op rfl (G.val rfl rfl (pv_extract rfl rfl) ?_)
  refine G.op rfl (G.val rfl rfl (pv_extract rfl rfl) ?_)
  refine G.asT rfl rfl ?_
  refine G.asT rfl rfl ?_
  refine G.nil ?_
  refine G.nThen (G.seq (G.seq (G.region ?_)))
  refine G.asT rfl rfl ?_
  refine G.nil ?_
  refine G.nThen ?_
  refine G.block ?_
  refine G.loopK (X := Nat) (ts := [0, 5, 6]) (fun i => i ≤ xs.length ∧ (∀ q (hq : q < xs.length), q < i → ¬ ((parentM e.path).2 = true ∧ xs[q].1.path = (parentM e.path).1 ∧ xs[q].1.kind = 1))) (fun i => [(7, .int .i64 (i : Int))]) (fun i => []) (fun i => xs.length - i) (x0 := 0) (.cons rfl (.cons rfl (.cons rfl .nil))) subT (.cons .nil) apT (by first | exact trivial | ((try dsimp only) <;> exact ⟨Nat.zero_le _, fun q _ h => absurd h (by omega)⟩)) (.consE rfl veqT .nil) (fun i hJ => ?_)
  try dsimp only at hJ
  try dsimp only
  obtain ⟨hki, hJ⟩ := hJ
  refine G.seq (G.seq (G.region ?_))
  refine G.mvT rfl rfl ?_
  refine G.mvT rfl rfl ?_
  refine G.op rfl (G.val rfl rfl (pv_lenSl Tryz.underlying26 rfl) ?_)
  refine G.op rfl (G.val rfl rfl (pv_lss rfl rfl) ?_)
  refine G.nil ?_
  refine G.nThen ?_
  refine G.condP rfl (fun h17 => ?_) (fun h17 => ?_)
  · have hJ0 := hJ
    have hlt : i < xs.length := by omega
    have hEv := helv i hlt
    have hRv := Ro.itRng hEv
    have hDv := Ro.itIds hEv
    have hOv := Ro.itOk hEv
    obtain ⟨hk1v, hk2v, hk3v, hlpv, hltv, hlnv⟩ := hOv
    have hCv := Ro.one1I hDv
    refine G.skip ?_
    refine G.nThen (G.seq ?_)
    refine G.block ?_
    refine G.seq ?_
    refine G.cutK (X := Unit) (ts := [0, 5, 6, 7]) (p := []) (fun _ => True) (fun _ => [(37, .bool (decide ((parentM e.path).2 = true ∧ xs[i].1.path = (parentM e.path).1 ∧ xs[i].1.kind = 1)))]) (fun _ => []) (.cons rfl (.cons rfl (.cons rfl (.cons rfl .nil)))) subT (.cons .nil) apT ?_ ?_
    · refine G.region ?_
      refine G.mvT rfl rfl ?_
      refine G.mvT rfl rfl ?_
      refine G.part (t := 21) rfl (fun h21 => ?_) (fun h21 => ?_)
      · refine G.want rfl rfl rfl (G.val rfl rfl (pv_move rfl) ?_)
        refine G.want rfl rfl rfl (G.val rfl rfl (pv_move rfl) ?_)
        refine G.want rfl rfl rfl (G.val rfl rfl (pv_ixSl (sz := 6) (k := i) Tryz.underlying26 kr rfl rfl (by first | with_reducible assumption | assumption | exact fun _ => rfl) (by omega) (by omega)) ?_)
        refine G.want rfl rfl rfl (G.val rfl rfl (pv_fieldAddrK (sz := 0) (k := 0) Tryz.underlying80 rfl kr rfl rfl) ?_)
        refine G.want rfl rfl rfl (G.val rfl rfl (pv_load Tryz.underlying9 rfl rfl celT) ?_)
        refine G.want rfl rfl rfl (G.val rfl rfl (pv_move rfl) ?_)
        refine G.want rfl rfl rfl (G.val rfl rfl (pv_eqlS rfl rfl) ?_)
        refine G.op rfl (G.val rfl rfl (pv_pick rfl rfl) ?_)
        refine G.mvT rfl rfl ?_
        refine G.partP (t := 30) rfl (fun h30 => ?_) (fun h30 => ?_)
        · refine G.want rfl rfl rfl (G.val rfl rfl (pv_move rfl) ?_)
          refine G.want rfl rfl rfl (G.val rfl rfl (pv_move rfl) ?_)
          refine G.want rfl rfl rfl (G.val rfl rfl (pv_ixSl (sz := 6) (k := i) Tryz.underlying26 kr rfl rfl (by first | with_reducible assumption | assumption | exact fun _ => rfl) (by omega) (by omega)) ?_)
          refine G.want rfl rfl rfl (G.val rfl rfl (pv_fieldAddrK (sz := 0) (k := 1) Tryz.underlying80 rfl kr rfl rfl) ?_)
          refine G.want rfl rfl rfl (G.val rfl rfl (pv_load Tryz.underlying3 rfl rfl celT) ?_)
          refine G.want rfl rfl rfl (G.val rfl rfl (pv_eql rfl rfl) ?_)
          refine G.op rfl (G.val rfl rfl (pv_pick rfl rfl) ?_)
          refine G.nil ?_
          exact G.meet (()) trT (.consE rfl (by first | exact dec_e (by simp_all) | exact dec_f (by simp_all)) (.cons rfl (.cons rfl (.cons rfl (.cons rfl .nil))))) subT
        refine G.pass rfl rfl rfl rfl rfl rfl ?_
        refine G.pass rfl rfl rfl rfl rfl rfl ?_
        refine G.pass rfl rfl rfl rfl rfl rfl ?_
        refine G.pass rfl rfl rfl rfl rfl rfl ?_
        refine G.pass rfl rfl rfl rfl rfl rfl ?_
        refine G.pass rfl rfl rfl rfl rfl rfl ?_
        refine G.op rfl (G.val rfl rfl (pv_pick rfl rfl) ?_)
        refine G.nil ?_
        exact G.meet (()) trT (.consE rfl (by first | exact dec_e (by simp_all) | exact dec_f (by simp_all)) (.cons rfl (.cons rfl (.cons rfl (.cons rfl .nil))))) subT
      refine G.pass rfl rfl rfl rfl rfl rfl ?_
      refine G.pass rfl rfl rfl rfl rfl rfl ?_
      refine G.pass rfl rfl rfl rfl rfl rfl ?_
      refine G.pass rfl rfl rfl rfl rfl rfl ?_
      refine G.pass rfl rfl rfl rfl rfl rfl ?_
      refine G.pass rfl rfl rfl rfl rfl rfl ?_
      refine G.pass rfl rfl rfl rfl rfl rfl ?_
      refine G.op rfl (G.val rfl rfl (pv_pick rfl rfl) ?_)
      refine G.mvT rfl rfl ?_
      refine G.pass rfl rfl rfl rfl rfl rfl ?_
      refine G.pass rfl rfl rfl rfl rfl rfl ?_
      refine G.pass rfl rfl rfl rfl rfl rfl ?_
      refine G.pass rfl rfl rfl rfl rfl rfl ?_
      refine G.pass rfl rfl rfl rfl rfl rfl ?_
      refine G.pass rfl rfl rfl rfl rfl rfl ?_
      refine G.op rfl (G.val rfl rfl (pv_pick rfl rfl) ?_)
      refine G.nil ?_
      exact G.meet (()) trT (.consE rfl (by first | exact dec_e (by simp_all) | exact dec_f (by simp_all)) (.cons rfl (.cons rfl (.cons rfl (.cons rfl .nil))))) subT
    intro _ hJ
    try dsimp only at hJ
    try dsimp only
    refine G.condP rfl (fun h37 => ?_) (fun h37 => ?_)
    · refine G.seq (G.region ?_)
      refine G.asT rfl rfl ?_
      refine G.nil ?_
      refine G.nThen ?_
      refine G.ret ?_
      refine G.rBlock ?_
      refine G.rThen ?_
      refine G.rThen ?_
      refine G.rBlock ?_
      refine G.rThen ?_
      exact G.done0G rfl (Rv.tmp rfl Rv.nil) (by rw [decide_eq_true (show heldM (toEs (its xs)) (toE e) from .inr ⟨toE xs[i].1, by rw [← hgx i hlt]; exact List.getElem_mem _, h37.2.1, h37.2.2⟩)]; rfl)
    have hno := h37
    refine G.skip ?_
    refine G.nBlock ?_
    refine G.nThen (G.region ?_)
    refine G.mvT rfl rfl ?_
    refine G.op rfl (G.val rfl rfl (pv_add64 rfl rfl (by omega)) ?_)
    refine G.asT rfl rfl ?_
    refine G.nil ?_
    exact G.next (i + 1) (by first | exact trivial | ((try dsimp only) <;> exact ⟨by omega, fun q hq hqi => by rcases Nat.lt_or_ge q i with h1 | h1; exact hJ0 q hq h1; obtain rfl : q = i := (by omega); exact hno⟩)) (by (try dsimp only); omega) (.consE rfl veqT (.cons rfl (.cons rfl (.cons rfl .nil)))) subT
  refine G.exit ?_
  refine G.eThen ?_
  refine G.eThen ?_
  refine G.eBlock ?_
  refine G.nThen (G.seq (G.region ?_))
  refine G.mvT rfl rfl ?_
  refine G.op rfl (G.val rfl rfl (pv_not rfl) ?_)
  refine G.asT rfl rfl ?_
  refine G.nil ?_
  refine G.nThen ?_
  refine G.ret ?_
  exact G.done0G rfl (Rv.tmp rfl Rv.nil) (by cases hpt : (parentM e.path).2; (rw [decide_eq_true (show heldM (toEs (its xs)) (toE e) from .inl hpt)]; rfl); (rw [decide_eq_false (heldNo' (e := toE e) hpt (fun q hq hk => by rw [hgx q (by omega)] at hk; exact hJ q (by omega) (by omega) ⟨hpt, hk.1, hk.2⟩))]; rfl))
set_option maxRecDepth 20000 in
set_option maxHeartbeats 4000000 in
theorem mcheck_tr {Ps : Nat → Prop} (a : Mh) (v : Value) (xs : List IT) : Tr Tryz.prog 31 #[.agg #[.int .i64 a.c, .int .i64 a.k, .int .i64 a.n, .int .i64 a.t, v]] [slc rIT Ps v xs] [] (T0 (.tuple #[.int .i64 (checkI a (its xs)).1, .int .i64 (checkI a (its xs)).2])) := by
  refine Tr.of (l := [(0, .agg #[.int .i64 a.c, .int .i64 a.k, .int .i64 a.n, .int .i64 a.t, v])]) Tryz.func31 rfl (n := 89) rfl (.cons rfl .nil) (fun w0 hro => ?_)
  have hv := ro1 hro
  have hv' := hv
  obtain ⟨av, cv, bv, fv, rfl, hcapv, hmaxv, hnilv, hadv, helv⟩ := Ro.open hv
  have hel' := its_length xs
  have hel2 := toEs_length (its xs)
  have hgx : ∀ q (hq : q < xs.length), (toEs (its xs))[q]'(by omega) = toE xs[q].1 := fun q hq => by rw [toEs_get (by omega), its_get hq]
  refine G.seq (G.region ?_)
  refine G.op rfl (G.box rfl rfl (cs := [_, _, _, _, _]) rfl ?_)
  intro b1
  refine G.asT rfl rfl ?_
  refine G.asT rfl rfl ?_
  refine G.nil ?_
  refine G.nThen (G.seq ?_)
  refine G.block ?_
  refine G.seq ?_
  refine G.cutK (X := Unit) (ts := [1, 2, 3]) (p := []) (fun _ => True) (fun _ => [(10, .bool (decide (headBad a)))]) (fun _ => []) (.cons rfl (.cons rfl (.cons rfl .nil))) subT (.cons .nil) apT ?_ ?_
  · refine G.region ?_
    refine G.op rfl (G.val rfl rfl (pv_fieldAddrK (sz := 0) (k := 0) Tryz.underlying28 rfl kr rfl rfl) ?_)
    refine G.op rfl (G.val rfl rfl (pv_load Tryz.underlying3 rfl rfl celT) ?_)
    refine G.op rfl (G.cR rfl rfl rfl rfl Tryz.func69 rfl rfl may0 (win_tr _ _ _) ?_)
    refine G.op rfl (G.val rfl rfl (pv_notP rfl) ?_)
    refine G.mvT rfl rfl ?_
    refine G.partP (t := 15) rfl (fun h15 => ?_) (fun h15 => ?_)
    · refine G.pass rfl rfl rfl rfl rfl rfl ?_
      refine G.pass rfl rfl rfl rfl rfl rfl ?_
      refine G.pass rfl rfl rfl rfl rfl rfl ?_
      refine G.pass rfl rfl rfl rfl rfl rfl ?_
      refine G.op rfl (G.val rfl rfl (pv_pick rfl rfl) ?_)
      refine G.mvT rfl rfl ?_
      refine G.pass rfl rfl rfl rfl rfl rfl ?_
      refine G.pass rfl rfl rfl rfl rfl rfl ?_
      refine G.pass rfl rfl rfl rfl rfl rfl ?_
      refine G.pass rfl rfl rfl rfl rfl rfl ?_
      refine G.op rfl (G.val rfl rfl (pv_pick rfl rfl) ?_)
      refine G.mvT rfl rfl ?_
      refine G.pass rfl rfl rfl rfl rfl rfl ?_
      refine G.pass rfl rfl rfl rfl rfl rfl ?_
      refine G.pass rfl rfl rfl rfl rfl rfl ?_
      refine G.pass rfl rfl rfl rfl rfl rfl ?_
      refine G.op rfl (G.val rfl rfl (pv_pick rfl rfl) ?_)
      refine G.asT rfl rfl ?_
      refine G.nil ?_
      exact G.meet (()) trT (.consE rfl (by first | exact dec_t (by unfold headBad; omega) | exact dec_f (by unfold headBad; omega) | exact dec_e (by unfold headBad; omega)) (.cons rfl (.cons rfl (.cons rfl .nil)))) subT
    refine G.want rfl rfl rfl (G.val rfl rfl (pv_fieldAddrK (sz := 0) (k := 1) Tryz.underlying28 rfl kr rfl rfl) ?_)
    refine G.want rfl rfl rfl (G.val rfl rfl (pv_load Tryz.underlying3 rfl rfl celT) ?_)
    refine G.want rfl rfl rfl (G.cR rfl rfl rfl rfl Tryz.func69 rfl rfl may0 (win_tr _ _ _) ?_)
    refine G.want rfl rfl rfl (G.val rfl rfl (pv_notP rfl) ?_)
    refine G.op rfl (G.val rfl rfl (pv_pick rfl rfl) ?_)
    refine G.mvT rfl rfl ?_
    refine G.partP (t := 21) rfl (fun h21 => ?_) (fun h21 => ?_)
    · refine G.pass rfl rfl rfl rfl rfl rfl ?_
      refine G.pass rfl rfl rfl rfl rfl rfl ?_
      refine G.pass rfl rfl rfl rfl rfl rfl ?_
      refine G.pass rfl rfl rfl rfl rfl rfl ?_
      refine G.op rfl (G.val rfl rfl (pv_pick rfl rfl) ?_)
      refine G.mvT rfl rfl ?_
      refine G.pass rfl rfl rfl rfl rfl rfl ?_
      refine G.pass rfl rfl rfl rfl rfl rfl ?_
      refine G.pass rfl rfl rfl rfl rfl rfl ?_
      refine G.pass rfl rfl rfl rfl rfl rfl ?_
      refine G.op rfl (G.val rfl rfl (pv_pick rfl rfl) ?_)
      refine G.asT rfl rfl ?_
      refine G.nil ?_
      exact G.meet (()) trT (.consE rfl (by first | exact dec_t (by unfold headBad; omega) | exact dec_f (by unfold headBad; omega) | exact dec_e (by unfold headBad; omega)) (.cons rfl (.cons rfl (.cons rfl .nil)))) subT
    refine G.want rfl rfl rfl (G.val rfl rfl (pv_fieldAddrK (sz := 0) (k := 2) Tryz.underlying28 rfl kr rfl rfl) ?_)
    refine G.want rfl rfl rfl (G.val rfl rfl (pv_load Tryz.underlying3 rfl rfl celT) ?_)
    refine G.want rfl rfl rfl (G.cR rfl rfl rfl rfl Tryz.func69 rfl rfl may0 (win_tr _ _ _) ?_)
    refine G.want rfl rfl rfl (G.val rfl rfl (pv_notP rfl) ?_)
    refine G.op rfl (G.val rfl rfl (pv_pick rfl rfl) ?_)
    refine G.mvT rfl rfl ?_
    refine G.partP (t := 27) rfl (fun h27 => ?_) (fun h27 => ?_)
    · refine G.pass rfl rfl rfl rfl rfl rfl ?_
      refine G.pass rfl rfl rfl rfl rfl rfl ?_
      refine G.pass rfl rfl rfl rfl rfl rfl ?_
      refine G.pass rfl rfl rfl rfl rfl rfl ?_
      refine G.op rfl (G.val rfl rfl (pv_pick rfl rfl) ?_)
      refine G.asT rfl rfl ?_
      refine G.nil ?_
      exact G.meet (()) trT (.consE rfl (by first | exact dec_t (by unfold headBad; omega) | exact dec_f (by unfold headBad; omega) | exact dec_e (by unfold headBad; omega)) (.cons rfl (.cons rfl (.cons rfl .nil)))) subT
    refine G.want rfl rfl rfl (G.val rfl rfl (pv_fieldAddrK (sz := 0) (k := 3) Tryz.underlying28 rfl kr rfl rfl) ?_)
    refine G.want rfl rfl rfl (G.val rfl rfl (pv_load Tryz.underlying3 rfl rfl celT) ?_)
    refine G.want rfl rfl rfl (G.cR rfl rfl rfl rfl Tryz.func69 rfl rfl may0 (win_tr _ _ _) ?_)
    refine G.want rfl rfl rfl (G.val rfl rfl (pv_notP rfl) ?_)
    refine G.op rfl (G.val rfl rfl (pv_pick rfl rfl) ?_)
    refine G.asT rfl rfl ?_
    refine G.nil ?_
    exact G.meet (()) trT (.consE rfl (by first | exact dec_t (by unfold headBad; omega) | exact dec_f (by unfold headBad; omega) | exact dec_e (by unfold headBad; omega)) (.cons rfl (.cons rfl (.cons rfl .nil)))) subT
  intro _ hJ
  try dsimp only at hJ
  try dsimp only
  refine G.condP rfl (fun h10 => ?_) (fun h10 => ?_)
  · refine G.seq (G.region ?_)
    refine G.asT rfl rfl ?_
    refine G.asT rfl rfl ?_
    refine G.nil ?_
    refine G.nThen ?_
    refine G.ret ?_
    refine G.rBlock ?_
    refine G.rThen ?_
    exact G.done0G rfl (Rv.tmp rfl (Rv.tmp rfl Rv.nil)) (by rw [checkI_head (by assumption)]; rfl)
  refine G.seq (G.region ?_)
  refine G.op rfl (G.val rfl rfl (pv_fieldAddrK (sz := 0) (k := 4) Tryz.underlying28 rfl kr rfl rfl) ?_)
  refine G.op rfl (G.val rfl rfl (pv_load Tryz.underlying26 rfl rfl celT) ?_)
  refine G.op rfl (G.val rfl rfl (pv_lenSl Tryz.underlying26 rfl) ?_)
  refine G.op rfl (G.val rfl rfl (pv_gtr rfl rfl) ?_)
  refine G.asT rfl rfl ?_
  refine G.nil ?_
  refine G.nThen ?_
  refine G.condP rfl (fun h33 => ?_) (fun h33 => ?_)
  · refine G.seq (G.region ?_)
    refine G.asT rfl rfl ?_
    refine G.asT rfl rfl ?_
    refine G.nil ?_
    refine G.nThen ?_
    refine G.ret ?_
    refine G.rBlock ?_
    refine G.rThen ?_
    exact G.done0G rfl (Rv.tmp rfl (Rv.tmp rfl Rv.nil)) (by rw [checkI_many (by assumption) (by omega)]; rfl)
  refine G.skip ?_
  refine G.nBlock ?_
  refine G.nThen (G.seq (G.region ?_))
  refine G.op rfl (G.mapNew vStr okS9 rfl ?_)
  intro b4
  refine G.asT rfl rfl ?_
  refine G.nil ?_
  refine G.nThen (G.seq (G.seq (G.region ?_)))
  refine G.op rfl (G.val rfl rfl (pv_fieldAddrK (sz := 0) (k := 4) Tryz.underlying28 rfl kr rfl rfl) ?_)
  refine G.op rfl (G.val rfl rfl (pv_load Tryz.underlying26 rfl rfl celT) ?_)
  refine G.op rfl (G.val rfl rfl (pv_lenSl Tryz.underlying26 rfl) ?_)
  refine G.mvT rfl rfl ?_
  refine G.nil ?_
  refine G.nThen ?_
  refine G.block ?_
  refine G.loopK (X := Nat × (List (List UInt8 × Value))) (ts := [1, 4, 40, 41]) (fun st => st.1 ≤ xs.length ∧ ((∀ q, q < st.1 → errI (its xs) q = 0) ∧ DirsAt st.2 (toEs ((its xs).take st.1)))) (fun st => [(42, .int .i64 (st.1 : Int))]) (fun st => [mpc vStr okS9 b4 st.2]) (fun st => xs.length - st.1) (x0 := (0, [])) (.cons rfl (.cons rfl (.cons rfl (.cons rfl .nil)))) subT (.cons .nil) apT (by first | exact trivial | ((try dsimp only) <;> exact ⟨Nat.zero_le _, ⟨fun q h => absurd h (by omega), by rw [List.take_zero]; exact dirs_nil⟩⟩)) (.consE rfl veqT .nil) (fun st hJ => ?_)
  obtain ⟨i, l⟩ := st
  try dsimp only at hJ
  try dsimp only
  obtain ⟨hki, hJ⟩ := hJ
  refine G.seq (G.region ?_)
  refine G.op rfl (G.val rfl rfl (pv_lss rfl rfl) ?_)
  refine G.nil ?_
  refine G.nThen (G.seq ?_)
  refine G.condP rfl (fun h43 => ?_) (fun h43 => ?_)
  · obtain ⟨hJ0, hdn⟩ := hJ
    have hlt : i < xs.length := by omega
    have hlt' : i < (its xs).length := by omega
    have hg := its_get hlt
    have hEv := helv i hlt
    have hRv := Ro.itRng hEv
    have hDv := Ro.itIds hEv
    have hOv := Ro.itOk hEv
    obtain ⟨hk1v, hk2v, hk3v, hlpv, hltv, hlnv⟩ := hOv
    have hCv := Ro.one1I hDv
    refine G.skip ?_
    refine G.nThen (G.seq ?_)
    refine G.block ?_
    refine G.seq (G.region ?_)
    refine G.mvT rfl rfl ?_
    refine G.op rfl (G.val rfl rfl (pv_ixSl (sz := 6) (k := i) Tryz.underlying26 kr rfl rfl (by first | with_reducible assumption | assumption | exact fun _ => rfl) (by omega) (by omega)) ?_)
    refine G.op rfl (G.val rfl rfl (pv_loadN (cs := [_, _, _, _, _, _]) Tryz.underlying80 rfl kr rfl (by first | exact blk_range (k := 6) selD (by rfl) | exact ro_rng0 (by assumption) | exact rng_range (k := 6) selD (by rfl) | exact ro_range (k := 6) (by assumption) (by rfl) | exact ro_rngR (k := 6) (by assumption) (by rfl))) ?_)
    refine G.op rfl (G.alloc (z := .agg #[.string ⟨#[]⟩, .int .i64 0, .int .i64 0, .int .i64 0, .string ⟨#[]⟩, .slice none 0 0]) (cs := [.string ⟨#[]⟩, .int .i64 0, .int .i64 0, .int .i64 0, .string ⟨#[]⟩, .slice none 0 0]) rfl kr rfl ?_)
    intro b6
    refine G.asT rfl rfl ?_
    refine G.op rfl (G.storeN kr rfl rfl allT selT leT ?_)
    refine G.nil ?_
    refine G.nThen (G.seq (G.seq (G.region ?_)))
    refine G.op rfl (G.val rfl rfl (pv_loadN (cs := [_, _, _, _, _, _]) Tryz.underlying80 rfl kr rfl (by first | exact blk_range (k := 6) selD (by rfl) | exact ro_rng0 (by assumption) | exact rng_range (k := 6) selD (by rfl) | exact ro_range (k := 6) (by assumption) (by rfl) | exact ro_rngR (k := 6) (by assumption) (by rfl))) ?_)
    refine G.op rfl (G.cR rfl rfl rfl rfl Tryz.func70 rfl rfl (may1 (by first | (apply May.old; first | with_reducible assumption | assumption) | (apply Sel.may; (repeat (first | with_reducible exact Sel.here | exact Sel.here | apply Sel.there)); done) | (apply may_own; (repeat (first | with_reducible exact Sel.here | exact Sel.here | apply Sel.there)); exact rfl; exact (fun _ _ => trivial); done) | (apply may_ownB; (repeat (first | with_reducible exact Sel.here | exact Sel.here | apply Sel.there)); done) | (apply may_ownI; (repeat (first | with_reducible exact Sel.here | exact Sel.here | apply Sel.there)); assumption; done) | (apply may_ownN; (repeat (first | with_reducible exact Sel.here | exact Sel.here | apply Sel.there)); assumption; done))) (ione_tr _ _ (by omega) (by omega) (by assumption)) ?_)
    refine G.asT rfl rfl ?_
    refine G.nil ?_
    refine G.nThen (G.seq (G.region ?_))
    refine G.mvT rfl rfl ?_
    refine G.op rfl (G.val rfl rfl (pv_neq rfl rfl) ?_)
    refine G.nil ?_
    refine G.nThen ?_
    refine G.condP rfl (fun h50 => ?_) (fun h50 => ?_)
    · refine G.seq (G.region ?_)
      refine G.mvT rfl rfl ?_
      refine G.mvT rfl rfl ?_
      refine G.asT rfl rfl ?_
      refine G.asT rfl rfl ?_
      refine G.nil ?_
      refine G.nThen ?_
      refine G.ret ?_
      refine G.rThen ?_
      refine G.rBlock ?_
      refine G.rThen ?_
      refine G.rThen ?_
      refine G.rBlock ?_
      refine G.rThen ?_
      exact G.done0G rfl (Rv.tmp rfl (Rv.tmp rfl Rv.nil)) (by rw [checkI_bad (by assumption) (by omega) hlt' hJ0 (errI_one hlt' (by rw [hg]; assumption)) (by rw [hg]; assumption), hg]; rfl)
    have h1 : oneI (its xs)[i] = 0 := by rw [hg]; omega
    refine G.skip ?_
    refine G.nThen (G.seq (G.seq ?_))
    refine G.cutK (X := Unit) (ts := [1, 4, 5, 6, 40, 41, 42]) (p := []) (fun _ => True) (fun _ => [(67, .bool (decide (prevBad (toEs (its xs)) i)))]) (fun _ => []) (.cons rfl (.cons rfl (.cons rfl (.cons rfl (.cons rfl (.cons rfl (.cons rfl .nil))))))) subT (.cons .nil) apT ?_ ?_
    · refine G.drawT (nn := 15) (p := []) (rem := 32767) [0, 1, 2, 4, 12, 4, 36, 84, 132, 260, 4, 1028, 2564, 4100, 8196] [0, 1, 2, 4, 12, 4, 36, 84, 132, 260, 4, 1028, 2564, 4100, 8196] kr ⟨rfl, by kernel_rfl, by kernel_rfl⟩ subT kr (fun hT12 => ?_)
      refine G.takeT hT12 (i := 0) (rem' := 32766) rfl rfl rfl kr (fun _ _ _ h => h) rfl (pv_move rfl) subT ?_
      refine G.takeT hT12 (i := 1) (rem' := 32764) rfl rfl rfl kr (fun _ _ _ h => h) rfl (pv_gtr rfl rfl) subT ?_
      refine G.takeT hT12 (i := 2) (rem' := 32760) rfl rfl rfl kr (fun _ _ _ h => h) rfl (pv_move rfl) subT ?_
      refine G.partP (t := 55) rfl (fun h55 => ?_) (fun h55 => ?_)
      · have hi0 : 0 < i := by omega
        have hEp := helv (i - 1) (by omega)
        have hRp := Ro.itRng hEp
        have hDp := Ro.itIds hEp
        have hOp := Ro.itOk hEp
        obtain ⟨hk1p, hk2p, hk3p, hlpp, hltp, hlnp⟩ := hOp
        have hCp := Ro.one1I hDp
        have hpv : prevBad (toEs (its xs)) i ↔ 0 ≤ compareM xs[i - 1].1.path xs[i].1.path := by have h := prev_pos (es := toEs (its xs)) hi0 (by omega); rw [hgx i hlt, hgx (i - 1) (by omega)] at h; exact h
        refine G.takeT hT12 (i := 3) (rem' := 32752) rfl rfl rfl kr (fun _ _ _ h => h) rfl (pv_fieldAddrK (sz := 0) (k := 4) Tryz.underlying28 rfl kr rfl rfl) subT ?_
        refine G.takeT hT12 (i := 4) (rem' := 32736) rfl rfl rfl kr (fun _ _ _ h => h) rfl (pv_load Tryz.underlying26 rfl rfl celT) subT ?_
        refine G.takeT hT12 (i := 5) (rem' := 32704) rfl rfl rfl kr (fun _ _ _ h => h) rfl (pv_move rfl) subT ?_
        refine G.takeT hT12 (i := 6) (rem' := 32640) rfl rfl rfl kr (fun _ _ _ h => h) rfl (pv_sub64 rfl rfl (by omega)) subT ?_
        refine G.takeT hT12 (i := 7) (rem' := 32512) rfl rfl rfl kr (fun _ _ _ h => h) rfl (pv_ixSl (sz := 6) (k := i - 1) Tryz.underlying26 kr rfl rfl (by first | with_reducible assumption | assumption | exact fun _ => rfl) (by omega) (by omega)) subT ?_
        refine G.takeT hT12 (i := 8) (rem' := 32256) rfl rfl rfl kr (fun _ _ _ h => h) rfl (pv_fieldAddrK (sz := 0) (k := 0) Tryz.underlying80 rfl kr rfl rfl) subT ?_
        refine G.takeT hT12 (i := 9) (rem' := 31744) rfl rfl rfl kr (fun _ _ _ h => h) rfl (pv_load Tryz.underlying9 rfl rfl celT) subT ?_
        refine G.takeT hT12 (i := 10) (rem' := 30720) rfl rfl rfl kr (fun _ _ _ h => h) rfl (pv_fieldAddrK (sz := 0) (k := 0) Tryz.underlying80 rfl kr rfl rfl) subT ?_
        refine G.oneT hT12 (i := 11) (rem' := 28672) kr kr ?_
        refine G.turnOp rfl rfl (G.val rfl rfl (pv_load Tryz.underlying9 rfl rfl celT) ?_)
        refine G.back subT ?_
        refine G.oneT hT12 (i := 12) (rem' := 24576) kr kr ?_
        refine G.turnOp rfl rfl (G.cR rfl rfl rfl rfl Tryz.func71 rfl rfl may0 (compare_tr _ _ (by omega) (by omega)) ?_)
        refine G.back subT ?_
        refine G.takeT hT12 (i := 13) (rem' := 16384) rfl rfl rfl kr (fun _ _ _ h => h) rfl (pv_geq rfl rfl) subT ?_
        refine G.takeT hT12 (i := 14) (rem' := 0) rfl rfl rfl kr (fun _ _ _ h => h) rfl (pv_pick rfl rfl) subT ?_
        refine G.overT hT12 kr ?_
        exact G.meet (()) trT (.consE rfl (by first | exact dec_e hpv.symm | exact dec_f (prev_zero (by omega))) (.cons rfl (.cons rfl (.cons rfl (.cons rfl (.cons rfl (.cons rfl (.cons rfl .nil)))))))) subT
      refine G.takeFT hT12 (i := 3) (rem' := 32752) rfl rfl rfl kr (fun _ _ _ h => h) rfl subT ?_
      refine G.takeFT hT12 (i := 4) (rem' := 32736) rfl rfl rfl kr (fun _ _ _ h => h) rfl subT ?_
      refine G.takeFT hT12 (i := 5) (rem' := 32704) rfl rfl rfl kr (fun _ _ _ h => h) rfl subT ?_
      refine G.takeFT hT12 (i := 6) (rem' := 32640) rfl rfl rfl kr (fun _ _ _ h => h) rfl subT ?_
      refine G.takeFT hT12 (i := 7) (rem' := 32512) rfl rfl rfl kr (fun _ _ _ h => h) rfl subT ?_
      refine G.takeFT hT12 (i := 8) (rem' := 32256) rfl rfl rfl kr (fun _ _ _ h => h) rfl subT ?_
      refine G.takeFT hT12 (i := 9) (rem' := 31744) rfl rfl rfl kr (fun _ _ _ h => h) rfl subT ?_
      refine G.takeFT hT12 (i := 10) (rem' := 30720) rfl rfl rfl kr (fun _ _ _ h => h) rfl subT ?_
      refine G.takeFT hT12 (i := 11) (rem' := 28672) rfl rfl rfl kr (fun _ _ _ h => h) rfl subT ?_
      refine G.takeFT hT12 (i := 12) (rem' := 24576) rfl rfl rfl kr (fun _ _ _ h => h) rfl subT ?_
      refine G.takeFT hT12 (i := 13) (rem' := 16384) rfl rfl rfl kr (fun _ _ _ h => h) rfl subT ?_
      refine G.takeT hT12 (i := 14) (rem' := 0) rfl rfl rfl kr (fun _ _ _ h => h) rfl (pv_pick rfl rfl) subT ?_
      refine G.overT hT12 kr ?_
      exact G.meet (()) trT (.consE rfl (by first | exact dec_e hpv.symm | exact dec_f (prev_zero (by omega))) (.cons rfl (.cons rfl (.cons rfl (.cons rfl (.cons rfl (.cons rfl (.cons rfl .nil)))))))) subT
    intro _ hJ
    try dsimp only at hJ
    try dsimp only
    refine G.condP rfl (fun h67 => ?_) (fun h67 => ?_)
    · refine G.seq (G.region ?_)
      refine G.mvT rfl rfl ?_
      refine G.asT rfl rfl ?_
      refine G.asT rfl rfl ?_
      refine G.nil ?_
      refine G.nThen ?_
      refine G.ret ?_
      refine G.rThen ?_
      refine G.rBlock ?_
      refine G.rThen ?_
      refine G.rThen ?_
      refine G.rBlock ?_
      refine G.rThen ?_
      exact G.done0G rfl (Rv.tmp rfl (Rv.tmp rfl Rv.nil)) (by rw [checkI_bad (by assumption) (by omega) hlt' hJ0 (errI_prev hlt' h1 (by assumption)) (by omega)]; rfl)
    refine G.skip ?_
    refine G.nThen (G.seq (G.seq (G.region ?_)))
    refine G.op rfl (G.val rfl rfl (pv_fieldAddrK (sz := 0) (k := 0) Tryz.underlying80 rfl kr rfl rfl) ?_)
    refine G.op rfl (G.val rfl rfl (pv_load Tryz.underlying9 rfl rfl celT) ?_)
    refine G.op rfl (G.cR rfl rfl rfl rfl Tryz.func72 rfl rfl may0 (parent_tr _ (by omega)) ?_)
    refine G.mvT rfl rfl ?_
    refine G.op rfl (G.val rfl rfl (pv_extract rfl rfl) ?_)
    refine G.op rfl (G.val rfl rfl (pv_extract rfl rfl) ?_)
    refine G.asT rfl rfl ?_
    refine G.asT rfl rfl ?_
    refine G.nil ?_
    refine G.nThen (G.seq ?_)
    refine G.cutK (X := Unit) (ts := [1, 4, 5, 6, 40, 41, 42]) (p := []) (fun _ => True) (fun _ => [(81, .bool (decide (¬ heldM (toEs ((its xs).take i)) (toE xs[i].1))))]) (fun _ => []) (.cons rfl (.cons rfl (.cons rfl (.cons rfl (.cons rfl (.cons rfl (.cons rfl .nil))))))) subT (.cons .nil) apT ?_ ?_
    · refine G.region ?_
      refine G.mvT rfl rfl ?_
      refine G.mvT rfl rfl ?_
      refine G.part (t := 76) rfl (fun h76 => ?_) (fun h76 => ?_)
      · have hpt : (parentM (toE xs[i].1).path).2 = true := by assumption
        obtain ⟨z, hz⟩ := hdn.num (parentM xs[i].1.path).1
        have hzh := held_z hdn hpt hz
        refine G.want rfl rfl rfl (G.val rfl rfl (pv_move rfl) ?_)
        refine G.want rfl rfl rfl (G.val rfl rfl (pv_move rfl) ?_)
        refine G.want rfl rfl rfl (G.val rfl rfl ((pv_mapGet (f := vStr) (ok := okS9) (x := (parentM xs[i].1.path).1) (z := vInt 0) (xs := l) keyS Tryz.underlying110 (fun w => by kernel_rfl) rfl rfl (parentI_len _ hlpv) (sel_map selT)).cast (v' := .int .i64 z) hz) ?_)
        refine G.want rfl rfl rfl (G.val rfl rfl (pv_neq rfl rfl) ?_)
        refine G.op rfl (G.val rfl rfl (pv_pick rfl rfl) ?_)
        refine G.nil ?_
        exact G.meet (()) trT (.consE rfl (by first | exact dec_e hzh | exact dec_f (fun h => h (.inl (by assumption))) | exact dec_f (fun h => h (.inl (Bool.eq_false_iff.2 (by assumption))))) (.cons rfl (.cons rfl (.cons rfl (.cons rfl (.cons rfl (.cons rfl (.cons rfl .nil)))))))) subT
      refine G.pass rfl rfl rfl rfl rfl rfl ?_
      refine G.pass rfl rfl rfl rfl rfl rfl ?_
      refine G.pass rfl rfl rfl rfl rfl rfl ?_
      refine G.pass rfl rfl rfl rfl rfl rfl ?_
      refine G.op rfl (G.val rfl rfl (pv_pick rfl rfl) ?_)
      refine G.nil ?_
      exact G.meet (()) trT (.consE rfl (by first | exact dec_e hzh | exact dec_f (fun h => h (.inl (by assumption))) | exact dec_f (fun h => h (.inl (Bool.eq_false_iff.2 (by assumption))))) (.cons rfl (.cons rfl (.cons rfl (.cons rfl (.cons rfl (.cons rfl (.cons rfl .nil)))))))) subT
    intro _ hJ
    try dsimp only at hJ
    try dsimp only
    refine G.condP rfl (fun h81 => ?_) (fun h81 => ?_)
    · refine G.seq (G.region ?_)
      refine G.mvT rfl rfl ?_
      refine G.asT rfl rfl ?_
      refine G.asT rfl rfl ?_
      refine G.nil ?_
      refine G.nThen ?_
      refine G.ret ?_
      refine G.rThen ?_
      refine G.rBlock ?_
      refine G.rThen ?_
      refine G.rThen ?_
      refine G.rBlock ?_
      refine G.rThen ?_
      exact G.done0G rfl (Rv.tmp rfl (Rv.tmp rfl Rv.nil)) (by rw [checkI_bad (by assumption) (by omega) hlt' hJ0 (errI_held hlt' h1 (by assumption) (by rw [hg]; assumption)) (by omega)]; rfl)
    have hok0 : errI (its xs) i = 0 := errI_ok hlt' h1 (by assumption) (by rw [hg]; exact Decidable.of_not_not (by assumption))
    have hall : ∀ q, q < i + 1 → errI (its xs) q = 0 := fun q hq => by rcases Nat.lt_or_ge q i with h1 | h1; exact hJ0 q h1; obtain rfl : q = i := (by omega); exact hok0
    refine G.skip ?_
    refine G.nThen (G.region ?_)
    refine G.mvT rfl rfl ?_
    refine G.op rfl (G.val rfl rfl (pv_fieldAddrK (sz := 0) (k := 0) Tryz.underlying80 rfl kr rfl rfl) ?_)
    refine G.op rfl (G.val rfl rfl (pv_load Tryz.underlying9 rfl rfl celT) ?_)
    refine G.op rfl (G.val rfl rfl (pv_fieldAddrK (sz := 0) (k := 1) Tryz.underlying80 rfl kr rfl rfl) ?_)
    refine G.op rfl (G.val rfl rfl (pv_load Tryz.underlying3 rfl rfl celT) ?_)
    refine G.op rfl (G.mapSet (f := vStr) (ok := okS9) (x := xs[i].1.path) (v := .int .i64 xs[i].1.kind) (xs := l) keyS Tryz.underlying110 rfl rfl rfl hlpv selT ?_)
    refine G.nil ?_
    refine G.nBlock ?_
    refine G.nThen (G.region ?_)
    refine G.op rfl (G.val rfl rfl (pv_add64 rfl rfl (by omega)) ?_)
    refine G.mvT rfl rfl ?_
    refine G.nil ?_
    exact G.next ((i + 1, mset l xs[i].1.path (vInt xs[i].1.kind))) (by first | exact trivial | ((try dsimp only) <;> exact ⟨by omega, ⟨hall, by rw [toEs_succ hlt]; exact DirsAt.put (e := toE xs[i].1) hdn (by have h := sort_items (ms := its xs) (i := i + 1) (by omega) hall; rwa [← toEs_take, toEs_succ hlt] at h)⟩⟩)) (by (try dsimp only); omega) (.consE rfl veqT (.cons rfl (.cons rfl (.cons rfl (.cons rfl .nil))))) subT
  obtain ⟨hJ0, -⟩ := hJ
  refine G.exit ?_
  refine G.eThen ?_
  refine G.eThen ?_
  refine G.eBlock ?_
  refine G.nThen (G.seq (G.region ?_))
  refine G.asT rfl rfl ?_
  refine G.asT rfl rfl ?_
  refine G.nil ?_
  refine G.nThen ?_
  refine G.ret ?_
  exact G.done0G rfl (Rv.tmp rfl (Rv.tmp rfl Rv.nil)) (by rw [checkI_ok (by assumption) (by omega) (fun q hq => hJ0 q (by omega))]; rfl)
set_option maxRecDepth 20000 in
set_option maxHeartbeats 4000000 in
theorem mcheckR_tr {Ps : Nat → Prop} (a : Mh) (v : Value) (xs : List IT) : Tr Tryz.prog 33 #[.agg #[.int .i64 a.c, .int .i64 a.k, .int .i64 a.n, .int .i64 a.t, v]] [slc rIT Ps v xs] [] (T0 (.tuple #[.int .i64 (checkI a (its xs)).1, .int .i64 (checkI a (its xs)).2])) := by
  refine Tr.of (l := [(0, .agg #[.int .i64 a.c, .int .i64 a.k, .int .i64 a.n, .int .i64 a.t, v])]) Tryz.func33 rfl (n := 87) rfl (.cons rfl .nil) (fun w0 hro => ?_)
  have hv := ro1 hro
  have hv' := hv
  obtain ⟨av, cv, bv, fv, rfl, hcapv, hmaxv, hnilv, hadv, helv⟩ := Ro.open hv
  have hel' := its_length xs
  have hel2 := toEs_length (its xs)
  have hgx : ∀ q (hq : q < xs.length), (toEs (its xs))[q]'(by omega) = toE xs[q].1 := fun q hq => by rw [toEs_get (by omega), its_get hq]
  refine G.seq (G.region ?_)
  refine G.op rfl (G.box rfl rfl (cs := [_, _, _, _, _]) rfl ?_)
  intro b1
  refine G.asT rfl rfl ?_
  refine G.asT rfl rfl ?_
  refine G.nil ?_
  refine G.nThen (G.seq (G.seq ?_))
  refine G.cutK (X := Unit) (ts := [1, 2, 3]) (p := []) (fun _ => True) (fun _ => [(27, .bool (decide (headBad a)))]) (fun _ => []) (.cons rfl (.cons rfl (.cons rfl .nil))) subT (.cons .nil) apT ?_ ?_
  · refine G.region ?_
    refine G.op rfl (G.val rfl rfl (pv_fieldAddrK (sz := 0) (k := 0) Tryz.underlying28 rfl kr rfl rfl) ?_)
    refine G.op rfl (G.val rfl rfl (pv_load Tryz.underlying3 rfl rfl celT) ?_)
    refine G.op rfl (G.cR rfl rfl rfl rfl Tryz.func73 rfl rfl may0 (winR_tr _ _ _) ?_)
    refine G.op rfl (G.val rfl rfl (pv_notP rfl) ?_)
    refine G.mvT rfl rfl ?_
    refine G.partP (t := 10) rfl (fun h10 => ?_) (fun h10 => ?_)
    · refine G.pass rfl rfl rfl rfl rfl rfl ?_
      refine G.pass rfl rfl rfl rfl rfl rfl ?_
      refine G.pass rfl rfl rfl rfl rfl rfl ?_
      refine G.pass rfl rfl rfl rfl rfl rfl ?_
      refine G.op rfl (G.val rfl rfl (pv_pick rfl rfl) ?_)
      refine G.mvT rfl rfl ?_
      refine G.pass rfl rfl rfl rfl rfl rfl ?_
      refine G.pass rfl rfl rfl rfl rfl rfl ?_
      refine G.pass rfl rfl rfl rfl rfl rfl ?_
      refine G.pass rfl rfl rfl rfl rfl rfl ?_
      refine G.op rfl (G.val rfl rfl (pv_pick rfl rfl) ?_)
      refine G.mvT rfl rfl ?_
      refine G.pass rfl rfl rfl rfl rfl rfl ?_
      refine G.pass rfl rfl rfl rfl rfl rfl ?_
      refine G.pass rfl rfl rfl rfl rfl rfl ?_
      refine G.pass rfl rfl rfl rfl rfl rfl ?_
      refine G.op rfl (G.val rfl rfl (pv_pick rfl rfl) ?_)
      refine G.nil ?_
      exact G.meet (()) trT (.consE rfl (by first | exact dec_t (by unfold headBad; omega) | exact dec_f (by unfold headBad; omega) | exact dec_e (by unfold headBad; omega)) (.cons rfl (.cons rfl (.cons rfl .nil)))) subT
    refine G.want rfl rfl rfl (G.val rfl rfl (pv_fieldAddrK (sz := 0) (k := 1) Tryz.underlying28 rfl kr rfl rfl) ?_)
    refine G.want rfl rfl rfl (G.val rfl rfl (pv_load Tryz.underlying3 rfl rfl celT) ?_)
    refine G.want rfl rfl rfl (G.cR rfl rfl rfl rfl Tryz.func73 rfl rfl may0 (winR_tr _ _ _) ?_)
    refine G.want rfl rfl rfl (G.val rfl rfl (pv_notP rfl) ?_)
    refine G.op rfl (G.val rfl rfl (pv_pick rfl rfl) ?_)
    refine G.mvT rfl rfl ?_
    refine G.partP (t := 16) rfl (fun h16 => ?_) (fun h16 => ?_)
    · refine G.pass rfl rfl rfl rfl rfl rfl ?_
      refine G.pass rfl rfl rfl rfl rfl rfl ?_
      refine G.pass rfl rfl rfl rfl rfl rfl ?_
      refine G.pass rfl rfl rfl rfl rfl rfl ?_
      refine G.op rfl (G.val rfl rfl (pv_pick rfl rfl) ?_)
      refine G.mvT rfl rfl ?_
      refine G.pass rfl rfl rfl rfl rfl rfl ?_
      refine G.pass rfl rfl rfl rfl rfl rfl ?_
      refine G.pass rfl rfl rfl rfl rfl rfl ?_
      refine G.pass rfl rfl rfl rfl rfl rfl ?_
      refine G.op rfl (G.val rfl rfl (pv_pick rfl rfl) ?_)
      refine G.nil ?_
      exact G.meet (()) trT (.consE rfl (by first | exact dec_t (by unfold headBad; omega) | exact dec_f (by unfold headBad; omega) | exact dec_e (by unfold headBad; omega)) (.cons rfl (.cons rfl (.cons rfl .nil)))) subT
    refine G.want rfl rfl rfl (G.val rfl rfl (pv_fieldAddrK (sz := 0) (k := 2) Tryz.underlying28 rfl kr rfl rfl) ?_)
    refine G.want rfl rfl rfl (G.val rfl rfl (pv_load Tryz.underlying3 rfl rfl celT) ?_)
    refine G.want rfl rfl rfl (G.cR rfl rfl rfl rfl Tryz.func73 rfl rfl may0 (winR_tr _ _ _) ?_)
    refine G.want rfl rfl rfl (G.val rfl rfl (pv_notP rfl) ?_)
    refine G.op rfl (G.val rfl rfl (pv_pick rfl rfl) ?_)
    refine G.mvT rfl rfl ?_
    refine G.partP (t := 22) rfl (fun h22 => ?_) (fun h22 => ?_)
    · refine G.pass rfl rfl rfl rfl rfl rfl ?_
      refine G.pass rfl rfl rfl rfl rfl rfl ?_
      refine G.pass rfl rfl rfl rfl rfl rfl ?_
      refine G.pass rfl rfl rfl rfl rfl rfl ?_
      refine G.op rfl (G.val rfl rfl (pv_pick rfl rfl) ?_)
      refine G.nil ?_
      exact G.meet (()) trT (.consE rfl (by first | exact dec_t (by unfold headBad; omega) | exact dec_f (by unfold headBad; omega) | exact dec_e (by unfold headBad; omega)) (.cons rfl (.cons rfl (.cons rfl .nil)))) subT
    refine G.want rfl rfl rfl (G.val rfl rfl (pv_fieldAddrK (sz := 0) (k := 3) Tryz.underlying28 rfl kr rfl rfl) ?_)
    refine G.want rfl rfl rfl (G.val rfl rfl (pv_load Tryz.underlying3 rfl rfl celT) ?_)
    refine G.want rfl rfl rfl (G.cR rfl rfl rfl rfl Tryz.func73 rfl rfl may0 (winR_tr _ _ _) ?_)
    refine G.want rfl rfl rfl (G.val rfl rfl (pv_notP rfl) ?_)
    refine G.op rfl (G.val rfl rfl (pv_pick rfl rfl) ?_)
    refine G.nil ?_
    exact G.meet (()) trT (.consE rfl (by first | exact dec_t (by unfold headBad; omega) | exact dec_f (by unfold headBad; omega) | exact dec_e (by unfold headBad; omega)) (.cons rfl (.cons rfl (.cons rfl .nil)))) subT
  intro _ hJ
  try dsimp only at hJ
  try dsimp only
  refine G.condP rfl (fun h27 => ?_) (fun h27 => ?_)
  · refine G.seq (G.region ?_)
    refine G.asT rfl rfl ?_
    refine G.asT rfl rfl ?_
    refine G.nil ?_
    refine G.nThen ?_
    refine G.ret ?_
    refine G.rThen ?_
    exact G.done0G rfl (Rv.tmp rfl (Rv.tmp rfl Rv.nil)) (by rw [checkI_head (by assumption)]; rfl)
  refine G.skip ?_
  refine G.nThen (G.seq (G.seq (G.region ?_)))
  refine G.op rfl (G.val rfl rfl (pv_fieldAddrK (sz := 0) (k := 4) Tryz.underlying28 rfl kr rfl rfl) ?_)
  refine G.op rfl (G.val rfl rfl (pv_load Tryz.underlying26 rfl rfl celT) ?_)
  refine G.op rfl (G.val rfl rfl (pv_lenSl Tryz.underlying26 rfl) ?_)
  refine G.op rfl (G.val rfl rfl (pv_gtr rfl rfl) ?_)
  refine G.nil ?_
  refine G.nThen ?_
  refine G.condP rfl (fun h31 => ?_) (fun h31 => ?_)
  · refine G.seq (G.region ?_)
    refine G.asT rfl rfl ?_
    refine G.asT rfl rfl ?_
    refine G.nil ?_
    refine G.nThen ?_
    refine G.ret ?_
    refine G.rThen ?_
    exact G.done0G rfl (Rv.tmp rfl (Rv.tmp rfl Rv.nil)) (by rw [checkI_many (by assumption) (by omega)]; rfl)
  refine G.skip ?_
  refine G.nThen (G.seq (G.seq (G.region ?_)))
  refine G.asT rfl rfl ?_
  refine G.nil ?_
  refine G.nThen ?_
  refine G.block ?_
  refine G.loopK (X := Nat) (ts := [1]) (fun i => i ≤ xs.length ∧ (∀ q, q < i → errI (its xs) q = 0)) (fun i => [(4, .int .i64 (i : Int))]) (fun i => []) (fun i => xs.length - i) (x0 := 0) (.cons rfl .nil) subT (.cons .nil) apT (by first | exact trivial | ((try dsimp only) <;> exact ⟨Nat.zero_le _, fun q h => absurd h (by omega)⟩)) (.consE rfl veqT .nil) (fun i hJ => ?_)
  try dsimp only at hJ
  try dsimp only
  obtain ⟨hki, hJ⟩ := hJ
  refine G.seq (G.seq (G.region ?_))
  refine G.mvT rfl rfl ?_
  refine G.op rfl (G.val rfl rfl (pv_fieldAddrK (sz := 0) (k := 4) Tryz.underlying28 rfl kr rfl rfl) ?_)
  refine G.op rfl (G.val rfl rfl (pv_load Tryz.underlying26 rfl rfl celT) ?_)
  refine G.op rfl (G.val rfl rfl (pv_lenSl Tryz.underlying26 rfl) ?_)
  refine G.op rfl (G.val rfl rfl (pv_lss rfl rfl) ?_)
  refine G.nil ?_
  refine G.nThen ?_
  refine G.condP rfl (fun h36 => ?_) (fun h36 => ?_)
  · have hJ0 := hJ
    have hlt : i < xs.length := by omega
    have hlt' : i < (its xs).length := by omega
    have hg := its_get hlt
    have hTk := Ro.takeT hv' (i := i) (by omega)
    have heq := errI_get hlt'
    rw [hg] at heq
    have hEv := helv i hlt
    have hRv := Ro.itRng hEv
    have hDv := Ro.itIds hEv
    have hOv := Ro.itOk hEv
    obtain ⟨hk1v, hk2v, hk3v, hlpv, hltv, hlnv⟩ := hOv
    have hCv := Ro.one1I hDv
    refine G.skip ?_
    refine G.nThen (G.seq ?_)
    refine G.block ?_
    refine G.seq (G.region ?_)
    refine G.op rfl (G.val rfl rfl (pv_fieldAddrK (sz := 0) (k := 4) Tryz.underlying28 rfl kr rfl rfl) ?_)
    refine G.op rfl (G.val rfl rfl (pv_load Tryz.underlying26 rfl rfl celT) ?_)
    refine G.mvT rfl rfl ?_
    refine G.op rfl (G.val rfl rfl (pv_ixSl (sz := 6) (k := i) Tryz.underlying26 kr rfl rfl (by first | with_reducible assumption | assumption | exact fun _ => rfl) (by omega) (by omega)) ?_)
    refine G.op rfl (G.val rfl rfl (pv_loadN (cs := [_, _, _, _, _, _]) Tryz.underlying80 rfl kr rfl (by first | exact blk_range (k := 6) selD (by rfl) | exact ro_rng0 (by assumption) | exact rng_range (k := 6) selD (by rfl) | exact ro_range (k := 6) (by assumption) (by rfl) | exact ro_rngR (k := 6) (by assumption) (by rfl))) ?_)
    refine G.op rfl (G.cR rfl rfl rfl rfl Tryz.func74 rfl rfl (may1 (by first | (apply May.old; first | with_reducible assumption | assumption) | (apply Sel.may; (repeat (first | with_reducible exact Sel.here | exact Sel.here | apply Sel.there)); done) | (apply may_own; (repeat (first | with_reducible exact Sel.here | exact Sel.here | apply Sel.there)); exact rfl; exact (fun _ _ => trivial); done) | (apply may_ownB; (repeat (first | with_reducible exact Sel.here | exact Sel.here | apply Sel.there)); done) | (apply may_ownI; (repeat (first | with_reducible exact Sel.here | exact Sel.here | apply Sel.there)); assumption; done) | (apply may_ownN; (repeat (first | with_reducible exact Sel.here | exact Sel.here | apply Sel.there)); assumption; done))) (ioneR_tr _ _ (by omega) (by omega) (by assumption)) ?_)
    refine G.asT rfl rfl ?_
    refine G.nil ?_
    refine G.nThen (G.seq ?_)
    refine G.cutK (X := Unit) (ts := [1, 4]) (p := []) (fun _ => True) (fun _ => [(5, .int .i64 (if oneI xs[i].1 = 0 ∧ prevBad (toEs (its xs)) i then 7 else oneI xs[i].1))]) (fun _ => []) (.cons rfl (.cons rfl .nil)) subT (.cons .nil) apT ?_ ?_
    · refine G.seq ?_
      refine G.cutK (X := Unit) (ts := [1, 4, 5]) (p := []) (fun _ => True) (fun _ => [(67, .bool (decide (oneI xs[i].1 = 0 ∧ prevBad (toEs (its xs)) i)))]) (fun _ => []) (.cons rfl (.cons rfl (.cons rfl .nil))) subT (.cons .nil) apT ?_ ?_
      · refine G.drawT (nn := 23) (p := []) (rem := 8388607) [0, 1, 2, 4, 12, 20, 36, 64, 192, 64, 576, 1344, 2112, 4160, 64, 16448, 64, 98368, 131136, 262208, 532544, 1048640, 2097216] [0, 1, 2, 4, 12, 20, 32, 64, 192, 64, 576, 1344, 2112, 4160, 64, 16448, 64, 98368, 131136, 262208, 532544, 1048640, 2097216] kr ⟨rfl, by kernel_rfl, by kernel_rfl⟩ subT kr (fun hT9 => ?_)
        refine G.takeT hT9 (i := 0) (rem' := 8388606) rfl rfl rfl kr (fun _ _ _ h => h) rfl (pv_move rfl) subT ?_
        refine G.takeT hT9 (i := 1) (rem' := 8388604) rfl rfl rfl kr (fun _ _ _ h => h) rfl (pv_eql rfl rfl) subT ?_
        refine G.takeT hT9 (i := 2) (rem' := 8388600) rfl rfl rfl kr (fun _ _ _ h => h) rfl (pv_move rfl) subT ?_
        refine G.partP (t := 47) rfl (fun h47 => ?_) (fun h47 => ?_)
        · refine G.takeT hT9 (i := 3) (rem' := 8388592) rfl rfl rfl kr (fun _ _ _ h => h) rfl (pv_move rfl) subT ?_
          refine G.takeT hT9 (i := 4) (rem' := 8388576) rfl rfl rfl kr (fun _ _ _ h => h) rfl (pv_gtr rfl rfl) subT ?_
          refine G.takeT hT9 (i := 5) (rem' := 8388544) rfl rfl rfl kr (fun _ _ _ h => h) rfl (pv_pick rfl rfl) subT ?_
          refine G.takeT hT9 (i := 6) (rem' := 8388480) rfl rfl rfl kr (fun _ _ _ h => h) rfl (pv_move rfl) subT ?_
          refine G.partP (t := 51) rfl (fun h51 => ?_) (fun h51 => ?_)
          · have hi0 : 0 < i := by omega
            have hEp := helv (i - 1) (by omega)
            have hRp := Ro.itRng hEp
            have hDp := Ro.itIds hEp
            have hOp := Ro.itOk hEp
            obtain ⟨hk1p, hk2p, hk3p, hlpp, hltp, hlnp⟩ := hOp
            have hCp := Ro.one1I hDp
            have hpv : prevBad (toEs (its xs)) i ↔ 0 ≤ compareM xs[i - 1].1.path xs[i].1.path := by have h := prev_pos (es := toEs (its xs)) hi0 (by omega); rw [hgx i hlt, hgx (i - 1) (by omega)] at h; exact h
            refine G.takeT hT9 (i := 7) (rem' := 8388352) rfl rfl rfl kr (fun _ _ _ h => h) rfl (pv_fieldAddrK (sz := 0) (k := 4) Tryz.underlying28 rfl kr rfl rfl) subT ?_
            refine G.takeT hT9 (i := 8) (rem' := 8388096) rfl rfl rfl kr (fun _ _ _ h => h) rfl (pv_load Tryz.underlying26 rfl rfl celT) subT ?_
            refine G.takeT hT9 (i := 9) (rem' := 8387584) rfl rfl rfl kr (fun _ _ _ h => h) rfl (pv_move rfl) subT ?_
            refine G.takeT hT9 (i := 10) (rem' := 8386560) rfl rfl rfl kr (fun _ _ _ h => h) rfl (pv_sub64 rfl rfl (by omega)) subT ?_
            refine G.takeT hT9 (i := 11) (rem' := 8384512) rfl rfl rfl kr (fun _ _ _ h => h) rfl (pv_ixSl (sz := 6) (k := i - 1) Tryz.underlying26 kr rfl rfl (by first | with_reducible assumption | assumption | exact fun _ => rfl) (by omega) (by omega)) subT ?_
            refine G.takeT hT9 (i := 12) (rem' := 8380416) rfl rfl rfl kr (fun _ _ _ h => h) rfl (pv_fieldAddrK (sz := 0) (k := 0) Tryz.underlying80 rfl kr rfl rfl) subT ?_
            refine G.takeT hT9 (i := 13) (rem' := 8372224) rfl rfl rfl kr (fun _ _ _ h => h) rfl (pv_load Tryz.underlying9 rfl rfl celT) subT ?_
            refine G.takeT hT9 (i := 14) (rem' := 8355840) rfl rfl rfl kr (fun _ _ _ h => h) rfl (pv_fieldAddrK (sz := 0) (k := 4) Tryz.underlying28 rfl kr rfl rfl) subT ?_
            refine G.takeT hT9 (i := 15) (rem' := 8323072) rfl rfl rfl kr (fun _ _ _ h => h) rfl (pv_load Tryz.underlying26 rfl rfl celT) subT ?_
            refine G.takeT hT9 (i := 16) (rem' := 8257536) rfl rfl rfl kr (fun _ _ _ h => h) rfl (pv_move rfl) subT ?_
            refine G.takeT hT9 (i := 17) (rem' := 8126464) rfl rfl rfl kr (fun _ _ _ h => h) rfl (pv_ixSl (sz := 6) (k := i) Tryz.underlying26 kr rfl rfl (by first | with_reducible assumption | assumption | exact fun _ => rfl) (by omega) (by omega)) subT ?_
            refine G.takeT hT9 (i := 18) (rem' := 7864320) rfl rfl rfl kr (fun _ _ _ h => h) rfl (pv_fieldAddrK (sz := 0) (k := 0) Tryz.underlying80 rfl kr rfl rfl) subT ?_
            refine G.oneT hT9 (i := 19) (rem' := 7340032) kr kr ?_
            refine G.turnOp rfl rfl (G.val rfl rfl (pv_load Tryz.underlying9 rfl rfl celT) ?_)
            refine G.back subT ?_
            refine G.oneT hT9 (i := 20) (rem' := 6291456) kr kr ?_
            refine G.turnOp rfl rfl (G.cR rfl rfl rfl rfl Tryz.func75 rfl rfl may0 (compareR_tr _ _ (by omega) (by omega)) ?_)
            refine G.back subT ?_
            refine G.takeT hT9 (i := 21) (rem' := 4194304) rfl rfl rfl kr (fun _ _ _ h => h) rfl (pv_geq rfl rfl) subT ?_
            refine G.takeT hT9 (i := 22) (rem' := 0) rfl rfl rfl kr (fun _ _ _ h => h) rfl (pv_pick rfl rfl) subT ?_
            refine G.overT hT9 kr ?_
            exact G.meet (()) trT (.consE rfl (by first | exact dec_e ⟨fun h => ⟨by assumption, hpv.2 h⟩, fun h => hpv.1 h.2⟩ | exact dec_f (fun h => absurd h.1 (by assumption)) | exact dec_f (fun h => prev_zero (by omega) h.2)) (.cons rfl (.cons rfl (.cons rfl .nil)))) subT
          refine G.takeFT hT9 (i := 7) (rem' := 8388352) rfl rfl rfl kr (fun _ _ _ h => h) rfl subT ?_
          refine G.takeFT hT9 (i := 8) (rem' := 8388096) rfl rfl rfl kr (fun _ _ _ h => h) rfl subT ?_
          refine G.takeFT hT9 (i := 9) (rem' := 8387584) rfl rfl rfl kr (fun _ _ _ h => h) rfl subT ?_
          refine G.takeFT hT9 (i := 10) (rem' := 8386560) rfl rfl rfl kr (fun _ _ _ h => h) rfl subT ?_
          refine G.takeFT hT9 (i := 11) (rem' := 8384512) rfl rfl rfl kr (fun _ _ _ h => h) rfl subT ?_
          refine G.takeFT hT9 (i := 12) (rem' := 8380416) rfl rfl rfl kr (fun _ _ _ h => h) rfl subT ?_
          refine G.takeFT hT9 (i := 13) (rem' := 8372224) rfl rfl rfl kr (fun _ _ _ h => h) rfl subT ?_
          refine G.takeFT hT9 (i := 14) (rem' := 8355840) rfl rfl rfl kr (fun _ _ _ h => h) rfl subT ?_
          refine G.takeFT hT9 (i := 15) (rem' := 8323072) rfl rfl rfl kr (fun _ _ _ h => h) rfl subT ?_
          refine G.takeFT hT9 (i := 16) (rem' := 8257536) rfl rfl rfl kr (fun _ _ _ h => h) rfl subT ?_
          refine G.takeFT hT9 (i := 17) (rem' := 8126464) rfl rfl rfl kr (fun _ _ _ h => h) rfl subT ?_
          refine G.takeFT hT9 (i := 18) (rem' := 7864320) rfl rfl rfl kr (fun _ _ _ h => h) rfl subT ?_
          refine G.takeFT hT9 (i := 19) (rem' := 7340032) rfl rfl rfl kr (fun _ _ _ h => h) rfl subT ?_
          refine G.takeFT hT9 (i := 20) (rem' := 6291456) rfl rfl rfl kr (fun _ _ _ h => h) rfl subT ?_
          refine G.takeFT hT9 (i := 21) (rem' := 4194304) rfl rfl rfl kr (fun _ _ _ h => h) rfl subT ?_
          refine G.takeT hT9 (i := 22) (rem' := 0) rfl rfl rfl kr (fun _ _ _ h => h) rfl (pv_pick rfl rfl) subT ?_
          refine G.overT hT9 kr ?_
          exact G.meet (()) trT (.consE rfl (by first | exact dec_e ⟨fun h => ⟨by assumption, hpv.2 h⟩, fun h => hpv.1 h.2⟩ | exact dec_f (fun h => absurd h.1 (by assumption)) | exact dec_f (fun h => prev_zero (by omega) h.2)) (.cons rfl (.cons rfl (.cons rfl .nil)))) subT
        refine G.takeFT hT9 (i := 3) (rem' := 8388592) rfl rfl rfl kr (fun _ _ _ h => h) rfl subT ?_
        refine G.takeFT hT9 (i := 4) (rem' := 8388576) rfl rfl rfl kr (fun _ _ _ h => h) rfl subT ?_
        refine G.takeT hT9 (i := 5) (rem' := 8388544) rfl rfl rfl kr (fun _ _ _ h => h) rfl (pv_pick rfl rfl) subT ?_
        refine G.takeT hT9 (i := 6) (rem' := 8388480) rfl rfl rfl kr (fun _ _ _ h => h) rfl (pv_move rfl) subT ?_
        refine G.takeFT hT9 (i := 7) (rem' := 8388352) rfl rfl rfl kr (fun _ _ _ h => h) rfl subT ?_
        refine G.takeFT hT9 (i := 8) (rem' := 8388096) rfl rfl rfl kr (fun _ _ _ h => h) rfl subT ?_
        refine G.takeFT hT9 (i := 9) (rem' := 8387584) rfl rfl rfl kr (fun _ _ _ h => h) rfl subT ?_
        refine G.takeFT hT9 (i := 10) (rem' := 8386560) rfl rfl rfl kr (fun _ _ _ h => h) rfl subT ?_
        refine G.takeFT hT9 (i := 11) (rem' := 8384512) rfl rfl rfl kr (fun _ _ _ h => h) rfl subT ?_
        refine G.takeFT hT9 (i := 12) (rem' := 8380416) rfl rfl rfl kr (fun _ _ _ h => h) rfl subT ?_
        refine G.takeFT hT9 (i := 13) (rem' := 8372224) rfl rfl rfl kr (fun _ _ _ h => h) rfl subT ?_
        refine G.takeFT hT9 (i := 14) (rem' := 8355840) rfl rfl rfl kr (fun _ _ _ h => h) rfl subT ?_
        refine G.takeFT hT9 (i := 15) (rem' := 8323072) rfl rfl rfl kr (fun _ _ _ h => h) rfl subT ?_
        refine G.takeFT hT9 (i := 16) (rem' := 8257536) rfl rfl rfl kr (fun _ _ _ h => h) rfl subT ?_
        refine G.takeFT hT9 (i := 17) (rem' := 8126464) rfl rfl rfl kr (fun _ _ _ h => h) rfl subT ?_
        refine G.takeFT hT9 (i := 18) (rem' := 7864320) rfl rfl rfl kr (fun _ _ _ h => h) rfl subT ?_
        refine G.takeFT hT9 (i := 19) (rem' := 7340032) rfl rfl rfl kr (fun _ _ _ h => h) rfl subT ?_
        refine G.takeFT hT9 (i := 20) (rem' := 6291456) rfl rfl rfl kr (fun _ _ _ h => h) rfl subT ?_
        refine G.takeFT hT9 (i := 21) (rem' := 4194304) rfl rfl rfl kr (fun _ _ _ h => h) rfl subT ?_
        refine G.takeT hT9 (i := 22) (rem' := 0) rfl rfl rfl kr (fun _ _ _ h => h) rfl (pv_pick rfl rfl) subT ?_
        refine G.overT hT9 kr ?_
        exact G.meet (()) trT (.consE rfl (by first | exact dec_e ⟨fun h => ⟨by assumption, hpv.2 h⟩, fun h => hpv.1 h.2⟩ | exact dec_f (fun h => absurd h.1 (by assumption)) | exact dec_f (fun h => prev_zero (by omega) h.2)) (.cons rfl (.cons rfl (.cons rfl .nil)))) subT
      intro _ hJ
      try dsimp only at hJ
      try dsimp only
      refine G.condP rfl (fun h67 => ?_) (fun h67 => ?_)
      · refine G.region ?_
        refine G.asT rfl rfl ?_
        refine G.nil ?_
        exact G.meet (()) trT (.consE rfl (int_eq (by rw [if_pos (by assumption)])) (.cons rfl (.cons rfl .nil))) subT
      refine G.skip ?_
      exact G.meet (()) trT (.consE rfl (int_eq (by rw [if_neg (by assumption)])) (.cons rfl (.cons rfl .nil))) subT
    intro _ hJ
    try dsimp only at hJ
    try dsimp only
    refine G.seq ?_
    refine G.cutK (X := Unit) (ts := [1, 4]) (p := []) (fun _ => True) (fun _ => [(5, .int .i64 (errI (its xs) i))]) (fun _ => []) (.cons rfl (.cons rfl .nil)) subT (.cons .nil) apT ?_ ?_
    · refine G.seq ?_
      refine G.cutK (X := Unit) (ts := [1, 4, 5]) (p := []) (fun _ => True) (fun _ => [(82, .bool (decide ((if oneI xs[i].1 = 0 ∧ prevBad (toEs (its xs)) i then 7 else oneI xs[i].1) = 0 ∧ ¬ heldM (toEs ((its xs).take i)) (toE xs[i].1))))]) (fun _ => []) (.cons rfl (.cons rfl (.cons rfl .nil))) subT (.cons .nil) apT ?_ ?_
      · refine G.drawT (nn := 15) (p := []) (rem := 32767) [0, 1, 2, 4, 12, 4, 52, 4, 132, 4, 772, 1028, 2116, 4100, 8196] [0, 1, 2, 4, 12, 4, 52, 4, 132, 4, 772, 1028, 2116, 4100, 8196] kr ⟨rfl, by kernel_rfl, by kernel_rfl⟩ subT kr (fun hT11 => ?_)
        refine G.takeT hT11 (i := 0) (rem' := 32766) rfl rfl rfl kr (fun _ _ _ h => h) rfl (pv_move rfl) subT ?_
        refine G.takeT hT11 (i := 1) (rem' := 32764) rfl rfl rfl kr (fun _ _ _ h => h) rfl (pv_eql rfl rfl) subT ?_
        refine G.takeT hT11 (i := 2) (rem' := 32760) rfl rfl rfl kr (fun _ _ _ h => h) rfl (pv_move rfl) subT ?_
        refine G.partP (t := 70) rfl (fun h70 => ?_) (fun h70 => ?_)
        · refine G.takeT hT11 (i := 3) (rem' := 32752) rfl rfl rfl kr (fun _ _ _ h => h) rfl (pv_fieldAddrK (sz := 0) (k := 4) Tryz.underlying28 rfl kr rfl rfl) subT ?_
          refine G.takeT hT11 (i := 4) (rem' := 32736) rfl rfl rfl kr (fun _ _ _ h => h) rfl (pv_load Tryz.underlying26 rfl rfl celT) subT ?_
          refine G.takeT hT11 (i := 5) (rem' := 32704) rfl rfl rfl kr (fun _ _ _ h => h) rfl (pv_move rfl) subT ?_
          refine G.takeT hT11 (i := 6) (rem' := 32640) rfl rfl rfl kr (fun _ _ _ h => h) rfl (pv_subH (sz := 6) Tryz.underlying26 kr rfl rfl rfl (by omega)) subT ?_
          refine G.takeT hT11 (i := 7) (rem' := 32512) rfl rfl rfl kr (fun _ _ _ h => h) rfl (pv_fieldAddrK (sz := 0) (k := 4) Tryz.underlying28 rfl kr rfl rfl) subT ?_
          refine G.takeT hT11 (i := 8) (rem' := 32256) rfl rfl rfl kr (fun _ _ _ h => h) rfl (pv_load Tryz.underlying26 rfl rfl celT) subT ?_
          refine G.takeT hT11 (i := 9) (rem' := 31744) rfl rfl rfl kr (fun _ _ _ h => h) rfl (pv_move rfl) subT ?_
          refine G.takeT hT11 (i := 10) (rem' := 30720) rfl rfl rfl kr (fun _ _ _ h => h) rfl (pv_ixSl (sz := 6) (k := i) Tryz.underlying26 kr rfl rfl (by first | with_reducible assumption | assumption | exact fun _ => rfl) (by omega) (by omega)) subT ?_
          refine G.oneT hT11 (i := 11) (rem' := 28672) kr kr ?_
          refine G.turnOp rfl rfl (G.val rfl rfl (pv_loadN (cs := [_, _, _, _, _, _]) Tryz.underlying80 rfl kr rfl (by first | exact blk_range (k := 6) selD (by rfl) | exact ro_rng0 (by assumption) | exact rng_range (k := 6) selD (by rfl) | exact ro_range (k := 6) (by assumption) (by rfl) | exact ro_rngR (k := 6) (by assumption) (by rfl))) ?_)
          refine G.back subT ?_
          refine G.oneT hT11 (i := 12) (rem' := 24576) kr kr ?_
          refine G.turnOp rfl rfl (G.cR rfl rfl rfl rfl Tryz.func76 rfl rfl (may2 (by first | (apply May.old; first | with_reducible assumption | assumption) | (apply Sel.may; (repeat (first | with_reducible exact Sel.here | exact Sel.here | apply Sel.there)); done) | (apply may_own; (repeat (first | with_reducible exact Sel.here | exact Sel.here | apply Sel.there)); exact rfl; exact (fun _ _ => trivial); done) | (apply may_ownB; (repeat (first | with_reducible exact Sel.here | exact Sel.here | apply Sel.there)); done) | (apply may_ownI; (repeat (first | with_reducible exact Sel.here | exact Sel.here | apply Sel.there)); assumption; done) | (apply may_ownN; (repeat (first | with_reducible exact Sel.here | exact Sel.here | apply Sel.there)); assumption; done)) (by first | (apply May.old; first | with_reducible assumption | assumption) | (apply Sel.may; (repeat (first | with_reducible exact Sel.here | exact Sel.here | apply Sel.there)); done) | (apply may_own; (repeat (first | with_reducible exact Sel.here | exact Sel.here | apply Sel.there)); exact rfl; exact (fun _ _ => trivial); done) | (apply may_ownB; (repeat (first | with_reducible exact Sel.here | exact Sel.here | apply Sel.there)); done) | (apply may_ownI; (repeat (first | with_reducible exact Sel.here | exact Sel.here | apply Sel.there)); assumption; done) | (apply may_ownN; (repeat (first | with_reducible exact Sel.here | exact Sel.here | apply Sel.there)); assumption; done))) (iheld_tr _ (xs.take i) _ _ (by omega)) ?_)
          rw [its_take]
          refine G.back subT ?_
          refine G.takeT hT11 (i := 13) (rem' := 16384) rfl rfl rfl kr (fun _ _ _ h => h) rfl (pv_notP rfl) subT ?_
          refine G.takeT hT11 (i := 14) (rem' := 0) rfl rfl rfl kr (fun _ _ _ h => h) rfl (pv_pick rfl rfl) subT ?_
          refine G.overT hT11 kr ?_
          exact G.meet (()) trT (.consE rfl (by first | exact dec_e ⟨fun h => ⟨by assumption, h⟩, fun h => h.2⟩ | exact dec_f (fun h => absurd h.1 (by assumption))) (.cons rfl (.cons rfl (.cons rfl .nil)))) subT
        refine G.takeFT hT11 (i := 3) (rem' := 32752) rfl rfl rfl kr (fun _ _ _ h => h) rfl subT ?_
        refine G.takeFT hT11 (i := 4) (rem' := 32736) rfl rfl rfl kr (fun _ _ _ h => h) rfl subT ?_
        refine G.takeFT hT11 (i := 5) (rem' := 32704) rfl rfl rfl kr (fun _ _ _ h => h) rfl subT ?_
        refine G.takeFT hT11 (i := 6) (rem' := 32640) rfl rfl rfl kr (fun _ _ _ h => h) rfl subT ?_
        refine G.takeFT hT11 (i := 7) (rem' := 32512) rfl rfl rfl kr (fun _ _ _ h => h) rfl subT ?_
        refine G.takeFT hT11 (i := 8) (rem' := 32256) rfl rfl rfl kr (fun _ _ _ h => h) rfl subT ?_
        refine G.takeFT hT11 (i := 9) (rem' := 31744) rfl rfl rfl kr (fun _ _ _ h => h) rfl subT ?_
        refine G.takeFT hT11 (i := 10) (rem' := 30720) rfl rfl rfl kr (fun _ _ _ h => h) rfl subT ?_
        refine G.takeFT hT11 (i := 11) (rem' := 28672) rfl rfl rfl kr (fun _ _ _ h => h) rfl subT ?_
        refine G.takeFT hT11 (i := 12) (rem' := 24576) rfl rfl rfl kr (fun _ _ _ h => h) rfl subT ?_
        refine G.takeFT hT11 (i := 13) (rem' := 16384) rfl rfl rfl kr (fun _ _ _ h => h) rfl subT ?_
        refine G.takeT hT11 (i := 14) (rem' := 0) rfl rfl rfl kr (fun _ _ _ h => h) rfl (pv_pick rfl rfl) subT ?_
        refine G.overT hT11 kr ?_
        exact G.meet (()) trT (.consE rfl (by first | exact dec_e ⟨fun h => ⟨by assumption, h⟩, fun h => h.2⟩ | exact dec_f (fun h => absurd h.1 (by assumption))) (.cons rfl (.cons rfl (.cons rfl .nil)))) subT
      intro _ hJ
      try dsimp only at hJ
      try dsimp only
      refine G.condP rfl (fun h82 => ?_) (fun h82 => ?_)
      · refine G.region ?_
        refine G.asT rfl rfl ?_
        refine G.nil ?_
        exact G.meet (()) trT (.consE rfl (int_eq (heq.trans (if_pos (by assumption))).symm) (.cons rfl (.cons rfl .nil))) subT
      refine G.skip ?_
      exact G.meet (()) trT (.consE rfl (int_eq (heq.trans (if_neg (by assumption))).symm) (.cons rfl (.cons rfl .nil))) subT
    intro _ hJ
    try dsimp only at hJ
    try dsimp only
    refine G.seq (G.region ?_)
    refine G.mvT rfl rfl ?_
    refine G.op rfl (G.val rfl rfl (pv_neq rfl rfl) ?_)
    refine G.nil ?_
    refine G.nThen ?_
    refine G.condP rfl (fun h84 => ?_) (fun h84 => ?_)
    · refine G.seq (G.region ?_)
      refine G.mvT rfl rfl ?_
      refine G.mvT rfl rfl ?_
      refine G.asT rfl rfl ?_
      refine G.asT rfl rfl ?_
      refine G.nil ?_
      refine G.nThen ?_
      refine G.ret ?_
      refine G.rBlock ?_
      refine G.rThen ?_
      refine G.rThen ?_
      refine G.rBlock ?_
      refine G.rThen ?_
      exact G.done0G rfl (Rv.tmp rfl (Rv.tmp rfl Rv.nil)) (by rw [checkI_bad (by assumption) (by omega) hlt' hJ0 rfl (by assumption)]; rfl)
    have hok0 : errI (its xs) i = 0 := by omega
    refine G.skip ?_
    refine G.nBlock ?_
    refine G.nThen (G.region ?_)
    refine G.mvT rfl rfl ?_
    refine G.op rfl (G.val rfl rfl (pv_add64 rfl rfl (by omega)) ?_)
    refine G.asT rfl rfl ?_
    refine G.nil ?_
    exact G.next (i + 1) (by first | exact trivial | ((try dsimp only) <;> exact ⟨by omega, fun q hq => by rcases Nat.lt_or_ge q i with h1 | h1; exact hJ0 q h1; obtain rfl : q = i := (by omega); exact hok0⟩)) (by (try dsimp only); omega) (.consE rfl veqT (.cons rfl .nil)) subT
  refine G.exit ?_
  refine G.eThen ?_
  refine G.eThen ?_
  refine G.eBlock ?_
  refine G.nThen (G.seq (G.region ?_))
  refine G.asT rfl rfl ?_
  refine G.asT rfl rfl ?_
  refine G.nil ?_
  refine G.nThen ?_
  refine G.ret ?_
  exact G.done0G rfl (Rv.tmp rfl (Rv.tmp rfl Rv.nil)) (by rw [checkI_ok (by assumption) (by omega) (fun q hq => hJ q (by omega))]; rfl)
end Go.Proofs.YtbfpbibkklfnfaaGreat

set_option linter.unusedVariables false
set_option linter.unusedSimpArgs false
namespace Go.Proofs.YtbfpbibkklfnfaaGreat
open Go.RowKit
/-- numbers, IDs, as bytes, one behind the other -/
def numsB (l : List Int) (k : Nat) : List UInt8 := (l.take k).flatMap putM
def idsB (ids : List (List UInt8)) (k : Nat) : List UInt8 := (ids.take k).flatten
def numL (a : Mh) (n : Nat) : List Int := [a.c, a.k, a.n, a.t, (n : Int)]
def hdT (x : It) : List UInt8 := bytesM x.path ++ putM x.kind ++ putM x.mode ++ putM x.size ++ bytesM x.to ++ putM (x.ids.length : Int)
def itB (x : It) : List UInt8 := hdT x ++ idsB x.ids x.ids.length
def itsB (ms : List It) (k : Nat) : List UInt8 := (ms.take k).flatMap itB
def hdM (a : Mh) (n : Nat) : List UInt8 := numsB (numL a n) 5
/-- a manifest's bytes -/
def manB (a : Mh) (ms : List It) : List UInt8 := hdM a ms.length ++ itsB ms ms.length
def bytesE (a : Mh) (ms : List It) : Int := if (checkI a ms).1 = 0 then (if 262144 < (manB a ms).length then 3 else 0) else (checkI a ms).1
def bytesO (a : Mh) (ms : List It) : List UInt8 := if bytesE a ms = 0 then manB a ms else []
theorem bytesE_bad {a : Mh} {ms : List It} (h : ¬ (checkI a ms).1 = 0) : bytesE a ms = (checkI a ms).1 ∧ bytesO a ms = [] := by
  have h1 : bytesE a ms = (checkI a ms).1 := if_neg h
  exact ⟨h1, if_neg (by rw [h1]; exact h)⟩
theorem bytesE_long {a : Mh} {ms : List It} (h : (checkI a ms).1 = 0) (h2 : 262144 < (manB a ms).length) : bytesE a ms = 3 ∧ bytesO a ms = [] := by
  have h1 : bytesE a ms = 3 := by
    unfold bytesE
    rw [if_pos h, if_pos h2]
  exact ⟨h1, if_neg (by rw [h1]; decide)⟩
theorem bytesE_ok {a : Mh} {ms : List It} (h : (checkI a ms).1 = 0) (h2 : ¬ 262144 < (manB a ms).length) : bytesE a ms = 0 ∧ bytesO a ms = manB a ms := by
  have h1 : bytesE a ms = 0 := by
    unfold bytesE
    rw [if_pos h, if_neg h2]
  exact ⟨h1, if_pos h1⟩
theorem numsB_zero (h : List UInt8) (l : List Int) : h ++ numsB l 0 = h := by simp [numsB]
theorem idsB_zero (h : List UInt8) (ids : List (List UInt8)) : h ++ idsB ids 0 = h := by simp [idsB]
theorem itsB_zero (h : List UInt8) (ms : List It) : h ++ itsB ms 0 = h := by simp [itsB]
theorem numsB_app (h : List UInt8) {l : List Int} {k : Nat} (hk : k < l.length) : h ++ numsB l k ++ putM l[k] = h ++ numsB l (k + 1) := by
  unfold numsB
  rw [List.take_succ_eq_append_getElem hk, List.flatMap_append, List.append_assoc]
  simp
theorem idsB_app (h : List UInt8) {ids : List (List UInt8)} {k : Nat} (hk : k < ids.length) : h ++ idsB ids k ++ ids[k] = h ++ idsB ids (k + 1) := by
  unfold idsB
  rw [List.take_succ_eq_append_getElem hk, List.flatten_append, List.append_assoc]
  simp
theorem itsB_app (h : List UInt8) {ms : List It} {k : Nat} (hk : k < ms.length) : h ++ itsB ms k ++ itB ms[k] = h ++ itsB ms (k + 1) := by
  unfold itsB
  rw [List.take_succ_eq_append_getElem hk, List.flatMap_append, List.append_assoc]
  simp
theorem hdT_app (h : List UInt8) (x : It) : h ++ bytesM x.path ++ putM x.kind ++ putM x.mode ++ putM x.size ++ bytesM x.to ++ putM (x.ids.length : Int) = h ++ hdT x := by
  unfold hdT
  simp only [List.append_assoc]
theorem itB_app (h : List UInt8) (x : It) : h ++ hdT x ++ idsB x.ids x.ids.length = h ++ itB x := by
  unfold itB
  rw [List.append_assoc]
theorem numsB_len (l : List Int) (k : Nat) : (numsB l k).length ≤ 5 * k := by
  unfold numsB
  have : ∀ l : List Int, (l.flatMap putM).length ≤ 5 * l.length := by
    intro l
    induction l with
    | nil => exact Nat.zero_le _
    | cons x l ih =>
      rw [List.flatMap_cons, List.length_append, putM_length, List.length_cons]
      have := sizeM_le x
      omega
  have h1 := this (l.take k)
  rw [List.length_take] at h1
  omega
theorem idsB_len {ids : List (List UInt8)} (h : all16 ids) (k : Nat) : (idsB ids k).length ≤ 16 * k := by
  unfold idsB
  have : ∀ l : List (List UInt8), all16 l → l.flatten.length ≤ 16 * l.length := by
    intro l
    induction l with
    | nil => intro _; exact Nat.zero_le _
    | cons x l ih =>
      intro hl
      rw [List.flatten_cons, List.length_append, hl.cons.1, List.length_cons]
      have := ih hl.cons.2
      omega
  have h1 := this (ids.take k) fun x hx => h x (List.mem_of_mem_take hx)
  rw [List.length_take] at h1
  omega
theorem bytesM_len' (bs : List UInt8) : (bytesM bs).length ≤ 5 + bs.length := by
  unfold bytesM
  have := sizeM_le (bs.length : Int)
  simp only [List.length_append, putM_length]
  omega
/-- an item that may be written -/
structure ItW (x : It) : Prop where
  path : x.path.length ≤ 200
  kind : 0 ≤ x.kind ∧ x.kind ≤ 2147483647
  mode : 0 ≤ x.mode ∧ x.mode ≤ 2147483647
  size : 0 ≤ x.size ∧ x.size ≤ 2147483647
  to : x.to.length ≤ 200
  ids : x.ids.length ≤ 16384
theorem oneI_w {x : It} (h : oneI x = 0) : ItW x := by
  obtain ⟨h1, h2, h3⟩ := oneI_zero h
  have h4 := okP_len h1
  unfold numI at h2
  unfold rngI at h3
  exact ⟨h4, by omega, by omega, by omega, by omega, by omega⟩
theorem checkI_w {a : Mh} {ms : List It} (h : (checkI a ms).1 = 0) : (∀ x ∈ numL a ms.length, 0 ≤ x ∧ x ≤ 2147483647) ∧ ms.length ≤ 200 ∧ ∀ x ∈ ms, ItW x := by
  obtain ⟨h0, h1, h2, -⟩ := checkI_zero h
  unfold headBad at h0
  refine ⟨fun x hx => ?_, h1, fun x hx => ?_⟩
  · simp only [numL, List.mem_cons, List.not_mem_nil, or_false] at hx
    rcases hx with rfl | rfl | rfl | rfl | rfl <;> omega
  obtain ⟨i, hi, rfl⟩ := List.getElem_of_mem hx
  exact oneI_w (errI_zero hi (h2 i hi)).1
theorem hdT_len {x : It} (h : ItW x) : (hdT x).length ≤ 430 := by
  unfold hdT
  have h1 := bytesM_len' x.path
  have h2 := bytesM_len' x.to
  have h3 := sizeM_le x.kind
  have h4 := sizeM_le x.mode
  have h5 := sizeM_le x.size
  have h6 := sizeM_le (x.ids.length : Int)
  have h7 := h.path
  have h8 := h.to
  simp only [List.length_append, putM_length]
  omega
theorem itB_len {x : It} (h : ItW x) (h16 : all16 x.ids) : (itB x).length ≤ 300000 := by
  unfold itB
  have h1 := hdT_len h
  have h2 := idsB_len h16 x.ids.length
  have h3 := h.ids
  rw [List.length_append]
  omega
theorem itsB_len {ms : List It} (h : ∀ x ∈ ms, ItW x) (h16 : ∀ x ∈ ms, all16 x.ids) (k : Nat) : (itsB ms k).length ≤ 300000 * k := by
  unfold itsB
  have : ∀ l : List It, (∀ x ∈ l, ItW x ∧ all16 x.ids) → (l.flatMap itB).length ≤ 300000 * l.length := by
    intro l
    induction l with
    | nil => intro _; exact Nat.zero_le _
    | cons x l ih =>
      intro hl
      have h1 := itB_len (hl x (List.mem_cons_self ..)).1 (hl x (List.mem_cons_self ..)).2
      have h2 := ih fun y hy => hl y (List.mem_cons_of_mem _ hy)
      rw [List.flatMap_cons, List.length_append, List.length_cons]
      omega
  have h1 := this (ms.take k) fun x hx => ⟨h x (List.mem_of_mem_take hx), h16 x (List.mem_of_mem_take hx)⟩
  rw [List.length_take] at h1
  omega
theorem hdM_len (a : Mh) (n : Nat) : (hdM a n).length ≤ 25 := numsB_len _ 5
theorem goodW {x : Int} (h : 0 ≤ x ∧ x ≤ 2147483647) : (false || decide (sizeM x = 0)) = false := by
  have := sizeM_ok h.1 h.2
  rw [Bool.false_or]
  exact decide_eq_false (by omega)
theorem wintF (D : Nat) (v : Value) (bs : List UInt8) (x : Int) (hx : 0 ≤ x ∧ x ≤ 2147483647) (hb : bs.length ≤ 1000000000) : Tr Tryz.prog 66 #[.pointer (some ⟨D, 0, none⟩), .int .i64 x] [] [blk D 134 [.bool true, .bool false, v], own 5 1 v (bs : List UInt8).length ((bs : List UInt8).map vByte)]
    (TX (fun _ : Value => True) (fun _ => .tuple #[]) (fun v => [blk D 134 [.bool true, .bool false, v], own 5 1 v ((bs ++ putM x) : List UInt8).length (((bs ++ putM x) : List UInt8).map vByte)])) := by
  have := wint_any D false v bs x hb
  rwa [goodW hx] at this
theorem wtextF (D : Nat) (v : Value) (bs b : List UInt8) (hl : b.length ≤ 200) (hb : bs.length ≤ 900000000) : Tr Tryz.prog 99 #[.pointer (some ⟨D, 0, none⟩), .string (sB b)] [] [blk D 134 [.bool true, .bool false, v], own 5 1 v (bs : List UInt8).length ((bs : List UInt8).map vByte)]
    (TX (fun _ : Value => True) (fun _ => .tuple #[]) (fun v => [blk D 134 [.bool true, .bool false, v], own 5 1 v ((bs ++ bytesM b) : List UInt8).length (((bs ++ bytesM b) : List UInt8).map vByte)])) := by
  have := wtext_tr D false v bs b hb (by omega)
  rwa [goodW ⟨by omega, by omega⟩] at this
set_option maxRecDepth 20000 in
set_option maxHeartbeats 4000000 in
theorem mwrite_tr {Pd : Nat → Prop} (D : Nat) (v : Value) (bs : List UInt8) (e : It) (d : Value) (hw : ItW e) (hb : bs.length ≤ 800000000) : Tr Tryz.prog 67 #[.pointer (some ⟨D, 0, none⟩), .agg #[.string (sB e.path), .int .i64 e.kind, .int .i64 e.mode, .int .i64 e.size, .string (sB e.to), d]] [slc rID Pd d e.ids] [blk D 134 [.bool true, .bool false, v], own 5 1 v (bs : List UInt8).length ((bs : List UInt8).map vByte)]
    (TX (fun _ : Value => True) (fun _ => .tuple #[]) (fun v => [blk D 134 [.bool true, .bool false, v], own 5 1 v ((bs ++ itB e) : List UInt8).length (((bs ++ itB e) : List UInt8).map vByte)])) := by
  refine Tr.of (l := [(0, .pointer (some ⟨D, 0, none⟩)), (1, .agg #[.string (sB e.path), .int .i64 e.kind, .int .i64 e.mode, .int .i64 e.size, .string (sB e.to), d])]) Tryz.func67 rfl (n := 42) rfl (.cons rfl (.cons rfl .nil)) (fun w0 hro => ?_)
  have hd := ro1 hro
  have h16 := Ro.all16 hd
  obtain ⟨ad, cap, bd, od, rfl, hcap, hmax, -, had, hel⟩ := Ro.open hd
  have s1 := sizeM_le e.kind
  have s2 := sizeM_le e.mode
  have s3 := sizeM_le e.size
  have s4 := sizeM_le (e.ids.length : Int)
  have s5 := bytesM_len' e.path
  have s6 := bytesM_len' e.to
  have s7 := hdT_len hw
  obtain ⟨w1, w2, w3, w4, w5, w6⟩ := hw
  refine G.seq (G.region ?_)
  refine G.op rfl (G.box rfl rfl (cs := [_, _, _, _, _, _]) rfl ?_)
  intro b3
  refine G.nil ?_
  refine G.nThen (G.seq (G.region ?_))
  refine G.mvT rfl rfl ?_
  refine G.op rfl (G.val rfl rfl (pv_fieldAddrK (sz := 0) (k := 0) Tryz.underlying80 rfl kr rfl rfl) ?_)
  refine G.op rfl (G.val rfl rfl (pv_load Tryz.underlying9 rfl rfl celT) ?_)
  refine G.op rfl (G.cS rfl rfl rfl rfl Tryz.func99 rfl rfl subT may0 (wtextF _ _ _ _ (by omega) (by first | omega | (simp only [List.length_append, List.length_nil, putM_length]; omega))) apT ?_)
  intro x9 hJ
  try dsimp only at hJ
  try dsimp only
  refine G.nil ?_
  refine G.nThen (G.seq (G.region ?_))
  refine G.mvT rfl rfl ?_
  refine G.op rfl (G.val rfl rfl (pv_fieldAddrK (sz := 0) (k := 1) Tryz.underlying80 rfl kr rfl rfl) ?_)
  refine G.op rfl (G.val rfl rfl (pv_load Tryz.underlying3 rfl rfl celT) ?_)
  refine G.op rfl (G.cS rfl rfl rfl rfl Tryz.func66 rfl rfl subT may0 (wintF _ _ _ _ (by constructor <;> omega) (by first | omega | (simp only [List.length_append, List.length_nil, putM_length]; omega))) apT ?_)
  intro x13 hJ
  try dsimp only at hJ
  try dsimp only
  refine G.nil ?_
  refine G.nThen (G.seq (G.region ?_))
  refine G.mvT rfl rfl ?_
  refine G.op rfl (G.val rfl rfl (pv_fieldAddrK (sz := 0) (k := 2) Tryz.underlying80 rfl kr rfl rfl) ?_)
  refine G.op rfl (G.val rfl rfl (pv_load Tryz.underlying3 rfl rfl celT) ?_)
  refine G.op rfl (G.cS rfl rfl rfl rfl Tryz.func66 rfl rfl subT may0 (wintF _ _ _ _ (by constructor <;> omega) (by first | omega | (simp only [List.length_append, List.length_nil, putM_length]; omega))) apT ?_)
  intro x17 hJ
  try dsimp only at hJ
  try dsimp only
  refine G.nil ?_
  refine G.nThen (G.seq (G.region ?_))
  refine G.mvT rfl rfl ?_
  refine G.op rfl (G.val rfl rfl (pv_fieldAddrK (sz := 0) (k := 3) Tryz.underlying80 rfl kr rfl rfl) ?_)
  refine G.op rfl (G.val rfl rfl (pv_load Tryz.underlying3 rfl rfl celT) ?_)
  refine G.op rfl (G.cS rfl rfl rfl rfl Tryz.func66 rfl rfl subT may0 (wintF _ _ _ _ (by constructor <;> omega) (by first | omega | (simp only [List.length_append, List.length_nil, putM_length]; omega))) apT ?_)
  intro x21 hJ
  try dsimp only at hJ
  try dsimp only
  refine G.nil ?_
  refine G.nThen (G.seq (G.region ?_))
  refine G.mvT rfl rfl ?_
  refine G.op rfl (G.val rfl rfl (pv_fieldAddrK (sz := 0) (k := 4) Tryz.underlying80 rfl kr rfl rfl) ?_)
  refine G.op rfl (G.val rfl rfl (pv_load Tryz.underlying9 rfl rfl celT) ?_)
  refine G.op rfl (G.cS rfl rfl rfl rfl Tryz.func99 rfl rfl subT may0 (wtextF _ _ _ _ (by omega) (by first | omega | (simp only [List.length_append, List.length_nil, putM_length]; omega))) apT ?_)
  intro x25 hJ
  try dsimp only at hJ
  try dsimp only
  refine G.nil ?_
  refine G.nThen (G.seq (G.region ?_))
  refine G.mvT rfl rfl ?_
  refine G.op rfl (G.val rfl rfl (pv_fieldAddrK (sz := 0) (k := 5) Tryz.underlying80 rfl kr rfl rfl) ?_)
  refine G.op rfl (G.val rfl rfl (pv_load Tryz.underlying60 rfl rfl celT) ?_)
  refine G.op rfl (G.val rfl rfl (pv_lenSl Tryz.underlying60 rfl) ?_)
  refine G.op rfl (G.cS rfl rfl rfl rfl Tryz.func66 rfl rfl subT may0 (wintF _ _ _ _ (by constructor <;> omega) (by first | omega | (simp only [List.length_append, List.length_nil, putM_length]; omega))) apT ?_)
  intro x30 hJ
  try dsimp only at hJ
  try dsimp only
  refine G.nil ?_
  refine G.nThen (G.seq (G.region ?_))
  refine G.op rfl (G.val rfl rfl (pv_fieldAddrK (sz := 0) (k := 5) Tryz.underlying80 rfl kr rfl rfl) ?_)
  refine G.op rfl (G.val rfl rfl (pv_load Tryz.underlying60 rfl rfl celT) ?_)
  refine G.op rfl (G.val rfl rfl (pv_lenSl Tryz.underlying60 rfl) ?_)
  refine G.mvT rfl rfl ?_
  refine G.nil ?_
  refine G.nThen ?_
  refine G.block ?_
  rw [hdT_app, ← idsB_zero (bs ++ hdT e) e.ids]
  refine G.loopK (X := Nat × Value) (ts := [0, 32, 33]) (fun st => st.1 ≤ e.ids.length) (fun st => [(34, .int .i64 (st.1 : Int))]) (fun st => [blk D 134 [.bool true, .bool false, st.2], own 5 1 st.2 ((bs ++ hdT e ++ idsB e.ids st.1) : List UInt8).length (((bs ++ hdT e ++ idsB e.ids st.1) : List UInt8).map vByte)]) (fun st => e.ids.length - st.1) (x0 := (0, x30)) (.cons rfl (.cons rfl (.cons rfl .nil))) subT (.cons .nil) apT (by first | exact trivial | ((try dsimp only) <;> exact Nat.zero_le _)) (.consE rfl veqT .nil) (fun st hJ => ?_)
  obtain ⟨q, vw⟩ := st
  try dsimp only at hJ
  try dsimp only
  have hkq := hJ
  have qj := idsB_len h16 q
  have qj1 := idsB_len h16 (q + 1)
  refine G.seq (G.region ?_)
  refine G.op rfl (G.val rfl rfl (pv_lss rfl rfl) ?_)
  refine G.nil ?_
  refine G.nThen (G.seq ?_)
  refine G.condP rfl (fun h35 => ?_) (fun h35 => ?_)
  · have hlq : q < e.ids.length := by omega
    obtain ⟨lq, rq⟩ := Ro.arr8 (hel q hlq)
    refine G.skip ?_
    refine G.nThen (G.seq ?_)
    refine G.block ?_
    refine G.seq (G.region ?_)
    refine G.op rfl (G.val rfl rfl (pv_ixSl (sz := 16) Tryz.underlying60 kr rfl rfl (by first | with_reducible assumption | assumption | exact fun _ => rfl) rfl (by omega)) ?_)
    refine G.op rfl (G.val rfl rfl (pv_loadN (cs := e.ids[q].map vByte) Tryz.underlying66 rfl (by rw [List.length_map, lq]; kernel_rfl) rfl rq) ?_)
    refine G.op rfl (G.alloc (z := .agg #[.int .u8 0, .int .u8 0, .int .u8 0, .int .u8 0, .int .u8 0, .int .u8 0, .int .u8 0, .int .u8 0, .int .u8 0, .int .u8 0, .int .u8 0, .int .u8 0, .int .u8 0, .int .u8 0, .int .u8 0, .int .u8 0]) (cs := [.int .u8 0, .int .u8 0, .int .u8 0, .int .u8 0, .int .u8 0, .int .u8 0, .int .u8 0, .int .u8 0, .int .u8 0, .int .u8 0, .int .u8 0, .int .u8 0, .int .u8 0, .int .u8 0, .int .u8 0, .int .u8 0]) rfl kr rfl ?_)
    intro b5
    refine G.op rfl (G.storeN (by rw [List.length_map, lq]; kernel_rfl) rfl rfl (List.all_eq_true.2 (vByte_one _)) selT (by simp [lq]) ?_)
    rw [putN_whole _ _ (by rw [List.length_map, lq]; rfl)]
    refine G.nil ?_
    refine G.nThen (G.region ?_)
    refine G.mvT rfl rfl ?_
    refine G.op rfl (G.val rfl rfl (pv_loadN (cs := e.ids[q].map vByte) Tryz.underlying66 rfl (by rw [List.length_map, lq]; kernel_rfl) rfl (blk_range (k := 16) selT (List.take_of_length_le (by rw [List.drop_zero, List.length_map, lq]; exact Nat.le_refl _)))) ?_)
    refine G.op rfl (G.cS rfl rfl rfl rfl Tryz.func100 rfl rfl subT may0 (wid_tr _ _ _ _ e.ids[q] lq (by first | omega | (simp only [List.length_append, List.length_nil, putM_length]; omega))) apT ?_)
    intro x40 hJ
    try dsimp only at hJ
    try dsimp only
    rw [idsB_app (bs ++ hdT e) hlq]
    refine G.nil ?_
    refine G.nBlock ?_
    refine G.nThen (G.region ?_)
    refine G.op rfl (G.val rfl rfl (pv_add64 rfl rfl (by omega)) ?_)
    refine G.mvT rfl rfl ?_
    refine G.nil ?_
    exact G.next ((q + 1, x40)) (by first | exact trivial | ((try dsimp only) <;> exact by omega)) (by (try dsimp only); omega) (.consE rfl veqT (.cons rfl (.cons rfl (.cons rfl .nil)))) subT
  obtain rfl : q = e.ids.length := by omega
  rw [itB_app]
  refine G.exit ?_
  refine G.eThen ?_
  refine G.eThen ?_
  refine G.eBlock ?_
  exact G.doneXE (vw) trT rfl (by first | rfl | exact int_eq (by omega) | (simp; done)) subT
end Go.Proofs.YtbfpbibkklfnfaaGreat

set_option linter.unusedVariables false
set_option linter.unusedSimpArgs false
namespace Go.Proofs.YtbfpbibkklfnfaaGreat
open Go.RowKit
set_option maxRecDepth 20000 in
set_option maxHeartbeats 4000000 in
theorem woutM_tr (D : Nat) (v : Value) (bs : List UInt8) (hb : bs.length ≤ 1000000000) : Tr Tryz.prog 68 #[.pointer (some ⟨D, 0, none⟩)] [blk D 134 [.bool true, .bool false, v], own 5 1 v bs.length (bs.map vByte)] []
    (TX (fun _ : Value => True) (fun x => .tuple #[x, .int .i64 0]) (fun x => [ownB 5 x bs])) := by
  refine Tr.of (l := [(0, .pointer (some ⟨D, 0, none⟩))]) Tryz.func68 rfl (n := 24) rfl (.cons rfl .nil) (fun w0 hro => ?_)
  obtain ⟨hr, ho⟩ := ro2 hro
  refine G.seq (G.region ?_)
  refine G.asT rfl rfl ?_
  refine G.asT rfl rfl ?_
  refine G.nil ?_
  refine G.nThen (G.seq ?_)
  refine G.block ?_
  refine G.seq (G.region ?_)
  refine G.mvT rfl rfl ?_
  refine G.op rfl (G.val rfl rfl (pv_eqlP0 Tryz.underlying103 rfl rfl) ?_)
  refine G.mvT rfl rfl ?_
  refine G.want rfl rfl rfl (G.val rfl rfl (pv_move rfl) ?_)
  refine G.want rfl rfl rfl (G.val rfl rfl (pv_nilCheck rfl) ?_)
  refine G.want rfl rfl rfl (G.val rfl rfl (pv_fieldAddrK (sz := 0) (k := 0) Tryz.underlying134 rfl kr rfl rfl) ?_)
  refine G.want rfl rfl rfl (G.val rfl rfl (pv_load Tryz.underlying4 rfl rfl (ro_blk (v := .bool true) hr rfl)) ?_)
  refine G.want rfl rfl rfl (G.val rfl rfl (pv_not rfl) ?_)
  refine G.op rfl (G.val rfl rfl (pv_pick rfl rfl) ?_)
  refine G.asT rfl rfl ?_
  refine G.nil ?_
  refine G.nThen ?_
  refine G.condF rfl (rfl) ?_
  refine G.seq (G.region ?_)
  refine G.mvT rfl rfl ?_
  refine G.op rfl (G.val rfl rfl (pv_nilCheck rfl) ?_)
  refine G.op rfl (G.val rfl rfl (pv_fieldAddrK (sz := 0) (k := 1) Tryz.underlying134 rfl kr rfl rfl) ?_)
  refine G.op rfl (G.val rfl rfl (pv_load Tryz.underlying4 rfl rfl (ro_blk (v := .bool false) hr rfl)) ?_)
  refine G.asT rfl rfl ?_
  refine G.nil ?_
  refine G.nThen ?_
  refine G.condF rfl (rfl) ?_
  refine G.skip ?_
  refine G.nBlock ?_
  refine G.nThen (G.seq (G.region ?_))
  refine G.mvT rfl rfl ?_
  refine G.op rfl (G.val rfl rfl (pv_nilCheck rfl) ?_)
  refine G.op rfl (G.val rfl rfl (pv_fieldAddrK (sz := 0) (k := 2) Tryz.underlying134 rfl kr rfl rfl) ?_)
  refine G.op rfl (G.val rfl rfl (pv_load Tryz.underlying39 rfl rfl (ro_blk (v := v) hr rfl)) ?_)
  refine G.ownBNil 5 ?_
  refine G.op rfl (G.appendB (xs := []) (ys := bs) (Ps := fun k => v.ownBlock = some k) rfl Tryz.underlying39 Tryz.infoByte rfl rfl .here (ro_own ho) (by simp only [List.length_nil]; omega) (by simp only [List.length_nil]; omega) ?_)
  intro v'
  rw [List.nil_append bs]
  refine G.asT rfl rfl ?_
  refine G.asT rfl rfl ?_
  refine G.nil ?_
  refine G.nThen ?_
  refine G.ret ?_
  exact G.doneX2 (v') trT rfl rfl rfl (by first | rfl | exact int_eq (by omega) | (simp; done)) subT
set_option maxRecDepth 20000 in
set_option maxHeartbeats 4000000 in
theorem mbytes_tr {Ps : Nat → Prop} (a : Mh) (v : Value) (xs : List IT) : Tr Tryz.prog 30 #[.agg #[.int .i64 a.c, .int .i64 a.k, .int .i64 a.n, .int .i64 a.t, v]] [slc rIT Ps v xs] []
    (TX (fun _ : Value => True) (fun x => .tuple #[x, .int .i64 (bytesE a (its xs))]) (fun x => [ownB 5 x (bytesO a (its xs))])) := by
  refine Tr.of (l := [(0, .agg #[.int .i64 a.c, .int .i64 a.k, .int .i64 a.n, .int .i64 a.t, v])]) Tryz.func30 rfl (n := 68) rfl (.cons rfl .nil) (fun w0 hro => ?_)
  have hv := ro1 hro
  have hv' := hv
  obtain ⟨av, cv, bv, fv, rfl, hcapv, hmaxv, hnilv, hadv, helv⟩ := Ro.open hv
  have hel' := its_length xs
  have hI := Ro.allI helv
  have h16 : ∀ x ∈ its xs, all16 x.ids := fun x hx => by obtain ⟨y, hy, rfl⟩ := List.mem_map.1 hx; exact (hI y hy).2.1
  have hq := hdM_len a xs.length
  refine G.seq (G.region ?_)
  refine G.op rfl (G.box rfl rfl (cs := [_, _, _, _, _]) rfl ?_)
  intro b1
  refine G.asT rfl rfl ?_
  refine G.asT rfl rfl ?_
  refine G.nil ?_
  refine G.nThen (G.seq (G.seq (G.region ?_)))
  refine G.op rfl (G.val rfl rfl (pv_loadN (cs := [_, _, _, _, _]) Tryz.underlying28 rfl kr rfl (by first | exact blk_range (k := 5) selD (by rfl) | exact ro_rng0 (by assumption) | exact rng_range (k := 5) selD (by rfl) | exact ro_range (k := 5) (by assumption) (by rfl) | exact ro_rngR (k := 5) (by assumption) (by rfl))) ?_)
  refine G.op rfl (G.cR rfl rfl rfl rfl Tryz.func31 rfl rfl (may1 (by first | (apply May.old; first | with_reducible assumption | assumption) | (apply Sel.may; (repeat (first | with_reducible exact Sel.here | exact Sel.here | apply Sel.there)); done) | (apply may_own; (repeat (first | with_reducible exact Sel.here | exact Sel.here | apply Sel.there)); exact rfl; exact (fun _ _ => trivial); done) | (apply may_ownB; (repeat (first | with_reducible exact Sel.here | exact Sel.here | apply Sel.there)); done) | (apply may_ownI; (repeat (first | with_reducible exact Sel.here | exact Sel.here | apply Sel.there)); assumption; done) | (apply may_ownN; (repeat (first | with_reducible exact Sel.here | exact Sel.here | apply Sel.there)); assumption; done))) (mcheck_tr _ _ _ ) ?_)
  refine G.mvT rfl rfl ?_
  refine G.op rfl (G.val rfl rfl (pv_extract rfl rfl) ?_)
  refine G.op rfl (G.val rfl rfl (pv_extract rfl rfl) ?_)
  refine G.asT rfl rfl ?_
  refine G.asT rfl rfl ?_
  refine G.nil ?_
  refine G.nThen (G.seq (G.region ?_))
  refine G.mvT rfl rfl ?_
  refine G.op rfl (G.val rfl rfl (pv_neq rfl rfl) ?_)
  refine G.nil ?_
  refine G.nThen ?_
  refine G.condP rfl (fun h19 => ?_) (fun h19 => ?_)
  · obtain ⟨he1, he2⟩ := bytesE_bad h19
    rw [he1, he2]
    refine G.seq (G.region ?_)
    refine G.mvT rfl rfl ?_
    refine G.asT rfl rfl ?_
    refine G.asT rfl rfl ?_
    refine G.nil ?_
    refine G.nThen ?_
    refine G.ret ?_
    refine G.rThen ?_
    refine G.ownBNil 5 ?_
    exact G.doneX2 (.slice none 0 0) trT rfl rfl rfl (by first | rfl | exact int_eq (by omega) | (simp; done)) subT
  have hz : (checkI a (its xs)).1 = 0 := by omega
  obtain ⟨hn5, h200, hall⟩ := checkI_w hz
  refine G.skip ?_
  refine G.nThen (G.seq (G.region ?_))
  refine G.op rfl (G.cS rfl rfl rfl rfl Tryz.func65 rfl rfl subT may0 (new_tr) apT ?_)
  intro x21 hJ
  try dsimp only at hJ
  try dsimp only
  refine G.asT rfl rfl ?_
  refine G.nil ?_
  refine G.nThen (G.seq (G.seq (G.region ?_)))
  refine G.op rfl (G.val rfl rfl (pv_fieldAddrK (sz := 0) (k := 0) Tryz.underlying28 rfl kr rfl rfl) ?_)
  refine G.op rfl (G.val rfl rfl (pv_load Tryz.underlying3 rfl rfl celT) ?_)
  refine G.op rfl (G.val rfl rfl (pv_fieldAddrK (sz := 0) (k := 1) Tryz.underlying28 rfl kr rfl rfl) ?_)
  refine G.op rfl (G.val rfl rfl (pv_load Tryz.underlying3 rfl rfl celT) ?_)
  refine G.op rfl (G.val rfl rfl (pv_fieldAddrK (sz := 0) (k := 2) Tryz.underlying28 rfl kr rfl rfl) ?_)
  refine G.op rfl (G.val rfl rfl (pv_load Tryz.underlying3 rfl rfl celT) ?_)
  refine G.op rfl (G.val rfl rfl (pv_fieldAddrK (sz := 0) (k := 3) Tryz.underlying28 rfl kr rfl rfl) ?_)
  refine G.op rfl (G.val rfl rfl (pv_load Tryz.underlying3 rfl rfl celT) ?_)
  refine G.op rfl (G.val rfl rfl (pv_fieldAddrK (sz := 0) (k := 4) Tryz.underlying28 rfl kr rfl rfl) ?_)
  refine G.op rfl (G.val rfl rfl (pv_load Tryz.underlying26 rfl rfl celT) ?_)
  refine G.op rfl (G.val rfl rfl (pv_lenSl Tryz.underlying26 rfl) ?_)
  refine G.op rfl (G.lit1 (vs := [_, _, _, _, _]) rfl Tryz.underlying105 kr rfl (by decide) (by decide) rfl rfl ?_)
  intro b33
  rw [show ([.int .i64 a.c, .int .i64 a.k, .int .i64 a.n, .int .i64 a.t, .int .i64 (xs.length : Int)] : List Value) = (numL a xs.length).map vInt from rfl]
  refine G.op rfl (G.val rfl rfl (pv_lenSl Tryz.underlying105 rfl) ?_)
  refine G.mvT rfl rfl ?_
  refine G.nil ?_
  refine G.nThen ?_
  refine G.block ?_
  have hz0 := numsB_zero [] (numL a xs.length)
  refine G.loopK (X := Nat × Value) (ts := [1, 2, 3, 6, 33, 34]) (fun st => st.1 ≤ 5) (fun st => [(35, .int .i64 (st.1 : Int))]) (fun st => [blk x21 134 [.bool true, .bool false, st.2], own 5 1 st.2 (([] ++ numsB (numL a xs.length) st.1) : List UInt8).length ((([] ++ numsB (numL a xs.length) st.1) : List UInt8).map vByte)]) (fun st => 5 - st.1) (x0 := (0, .slice none 0 0)) (.cons rfl (.cons rfl (.cons rfl (.cons rfl (.cons rfl (.cons rfl .nil)))))) subT (.cons .nil) apT (by first | exact trivial | ((try dsimp only) <;> exact Nat.zero_le _)) (.consE rfl veqT .nil) (fun st hJ => ?_)
  obtain ⟨i, vw⟩ := st
  try dsimp only at hJ
  try dsimp only
  have hki := hJ
  have qj := numsB_len (numL a xs.length) i
  refine G.seq (G.region ?_)
  refine G.op rfl (G.val rfl rfl (pv_lss rfl rfl) ?_)
  refine G.nil ?_
  refine G.nThen (G.seq ?_)
  refine G.condP rfl (fun h36 => ?_) (fun h36 => ?_)
  · have hlt : i < (numL a xs.length).length := by show i < 5; omega
    have hx5 := hn5 _ (by rw [hel']; exact List.getElem_mem hlt)
    have hel5 : ((numL a xs.length).map vInt)[0 + i * 1]? = some (.int .i64 (numL a xs.length)[i]) := (by rw [show 0 + i * 1 = i by omega, List.getElem?_map, List.getElem?_eq_getElem hlt]; rfl)
    refine G.skip ?_
    refine G.nThen (G.seq ?_)
    refine G.block ?_
    refine G.seq (G.region ?_)
    refine G.op rfl (G.val rfl rfl (pv_ixSl (sz := 1) (k := i) Tryz.underlying105 kr rfl rfl (fun _ => rfl) (by omega) (by omega)) ?_)
    refine G.op rfl (G.val rfl rfl (pv_load Tryz.underlying3 rfl rfl (blk_cell selD hel5)) ?_)
    refine G.asT rfl rfl ?_
    refine G.nil ?_
    refine G.nThen (G.region ?_)
    refine G.mvT rfl rfl ?_
    refine G.mvT rfl rfl ?_
    refine G.op rfl (G.cS rfl rfl rfl rfl Tryz.func66 rfl rfl subT may0 (wintF _ _ _ (numL a xs.length)[i] hx5 (by first | omega | (simp only [List.length_append, List.length_nil, putM_length]; omega))) apT ?_)
    intro x41 hJ
    try dsimp only at hJ
    try dsimp only
    rw [numsB_app [] hlt]
    refine G.nil ?_
    refine G.nBlock ?_
    refine G.nThen (G.region ?_)
    refine G.op rfl (G.val rfl rfl (pv_add64 rfl rfl (by omega)) ?_)
    refine G.mvT rfl rfl ?_
    refine G.nil ?_
    exact G.next ((i + 1, x41)) (by first | exact trivial | ((try dsimp only) <;> exact by omega)) (by (try dsimp only); omega) (.consE rfl veqT (.cons rfl (.cons rfl (.cons rfl (.cons rfl (.cons rfl (.cons rfl .nil))))))) subT
  obtain rfl : i = 5 := by omega
  rw [List.nil_append (numsB (numL a xs.length) 5), show numsB (numL a xs.length) 5 = hdM a xs.length from rfl]
  refine G.exit ?_
  refine G.eThen ?_
  refine G.eThen ?_
  refine G.eBlock ?_
  refine G.nThen (G.seq (G.seq (G.region ?_)))
  refine G.op rfl (G.val rfl rfl (pv_fieldAddrK (sz := 0) (k := 4) Tryz.underlying28 rfl kr rfl rfl) ?_)
  refine G.op rfl (G.val rfl rfl (pv_load Tryz.underlying26 rfl rfl celT) ?_)
  refine G.op rfl (G.val rfl rfl (pv_lenSl Tryz.underlying26 rfl) ?_)
  refine G.mvT rfl rfl ?_
  refine G.nil ?_
  refine G.nThen ?_
  refine G.block ?_
  rw [← itsB_zero (hdM a xs.length) (its xs)]
  refine G.loopK (X := Nat × Value) (ts := [2, 3, 6, 44, 45]) (fun st => st.1 ≤ xs.length) (fun st => [(46, .int .i64 (st.1 : Int))]) (fun st => [blk x21 134 [.bool true, .bool false, st.2], own 5 1 st.2 ((hdM a xs.length ++ itsB (its xs) st.1) : List UInt8).length (((hdM a xs.length ++ itsB (its xs) st.1) : List UInt8).map vByte)]) (fun st => xs.length - st.1) (x0 := (0, vw)) (.cons rfl (.cons rfl (.cons rfl (.cons rfl (.cons rfl .nil))))) subT (.cons .nil) apT (by first | exact trivial | ((try dsimp only) <;> exact Nat.zero_le _)) (.consE rfl veqT .nil) (fun st hJ => ?_)
  obtain ⟨i, vi⟩ := st
  try dsimp only at hJ
  try dsimp only
  have hki := hJ
  have qk := itsB_len hall h16 i
  refine G.seq (G.region ?_)
  refine G.op rfl (G.val rfl rfl (pv_lss rfl rfl) ?_)
  refine G.nil ?_
  refine G.nThen (G.seq ?_)
  refine G.condP rfl (fun h47 => ?_) (fun h47 => ?_)
  · have hlt : i < xs.length := by omega
    have hEv := helv i hlt
    have hRv := Ro.itRng hEv
    have hDv := Ro.itIds hEv
    have hOv := Ro.itOk hEv
    obtain ⟨hk1v, hk2v, hk3v, hlpv, hltv, hlnv⟩ := hOv
    have hCv := Ro.one1I hDv
    have hw : ItW xs[i].1 := hall _ (List.mem_map.2 ⟨_, List.getElem_mem hlt, rfl⟩)
    have hg := its_get hlt
    have hlt' : i < (its xs).length := by omega
    have hap := itsB_app (hdM a xs.length) hlt'
    rw [hg] at hap
    refine G.skip ?_
    refine G.nThen (G.seq ?_)
    refine G.block ?_
    refine G.seq (G.region ?_)
    refine G.op rfl (G.val rfl rfl (pv_ixSl (sz := 6) (k := i) Tryz.underlying26 kr rfl rfl (by first | with_reducible assumption | assumption | exact fun _ => rfl) (by omega) (by omega)) ?_)
    refine G.op rfl (G.val rfl rfl (pv_loadN (cs := [_, _, _, _, _, _]) Tryz.underlying80 rfl kr rfl (by first | exact blk_range (k := 6) selD (by rfl) | exact ro_rng0 (by assumption) | exact rng_range (k := 6) selD (by rfl) | exact ro_range (k := 6) (by assumption) (by rfl) | exact ro_rngR (k := 6) (by assumption) (by rfl))) ?_)
    refine G.op rfl (G.alloc (z := .agg #[.string ⟨#[]⟩, .int .i64 0, .int .i64 0, .int .i64 0, .string ⟨#[]⟩, .slice none 0 0]) (cs := [.string ⟨#[]⟩, .int .i64 0, .int .i64 0, .int .i64 0, .string ⟨#[]⟩, .slice none 0 0]) rfl kr rfl ?_)
    intro b10
    refine G.op rfl (G.storeN kr rfl rfl allT selT leT ?_)
    refine G.nil ?_
    refine G.nThen (G.region ?_)
    refine G.mvT rfl rfl ?_
    refine G.op rfl (G.val rfl rfl (pv_loadN (cs := [_, _, _, _, _, _]) Tryz.underlying80 rfl kr rfl (by first | exact blk_range (k := 6) selD (by rfl) | exact ro_rng0 (by assumption) | exact rng_range (k := 6) selD (by rfl) | exact ro_range (k := 6) (by assumption) (by rfl) | exact ro_rngR (k := 6) (by assumption) (by rfl))) ?_)
    refine G.op rfl (G.cS rfl rfl rfl rfl Tryz.func67 rfl rfl subT (may1 (by first | (apply May.old; first | with_reducible assumption | assumption) | (apply Sel.may; (repeat (first | with_reducible exact Sel.here | exact Sel.here | apply Sel.there)); done) | (apply may_own; (repeat (first | with_reducible exact Sel.here | exact Sel.here | apply Sel.there)); exact rfl; exact (fun _ _ => trivial); done) | (apply may_ownB; (repeat (first | with_reducible exact Sel.here | exact Sel.here | apply Sel.there)); done) | (apply may_ownI; (repeat (first | with_reducible exact Sel.here | exact Sel.here | apply Sel.there)); assumption; done) | (apply may_ownN; (repeat (first | with_reducible exact Sel.here | exact Sel.here | apply Sel.there)); assumption; done))) (mwrite_tr _ _ _ xs[i].1 _ hw (by first | omega | (simp only [List.length_append, List.length_nil, putM_length]; omega))) apT ?_)
    intro x52 hJ
    try dsimp only at hJ
    try dsimp only
    rw [hap]
    refine G.nil ?_
    refine G.nBlock ?_
    refine G.nThen (G.region ?_)
    refine G.op rfl (G.val rfl rfl (pv_add64 rfl rfl (by omega)) ?_)
    refine G.mvT rfl rfl ?_
    refine G.nil ?_
    exact G.next ((i + 1, x52)) (by first | exact trivial | ((try dsimp only) <;> exact by omega)) (by (try dsimp only); omega) (.consE rfl veqT (.cons rfl (.cons rfl (.cons rfl (.cons rfl (.cons rfl .nil)))))) subT
  obtain rfl : i = xs.length := by omega
  have hman : hdM a xs.length ++ itsB (its xs) xs.length = manB a (its xs) := by unfold manB; rw [hel']
  have qk := itsB_len hall h16 xs.length
  have hml : (manB a (its xs)).length ≤ 100000000 := by rw [← hman, List.length_append]; omega
  rw [hman]
  refine G.exit ?_
  refine G.eThen ?_
  refine G.eThen ?_
  refine G.eBlock ?_
  refine G.nThen (G.seq (G.region ?_))
  refine G.mvT rfl rfl ?_
  refine G.op rfl (G.cS rfl rfl rfl rfl Tryz.func68 rfl rfl subT (may2 (by first | (apply May.old; first | with_reducible assumption | assumption) | (apply Sel.may; (repeat (first | with_reducible exact Sel.here | exact Sel.here | apply Sel.there)); done) | (apply may_own; (repeat (first | with_reducible exact Sel.here | exact Sel.here | apply Sel.there)); exact rfl; exact (fun _ _ => trivial); done) | (apply may_ownB; (repeat (first | with_reducible exact Sel.here | exact Sel.here | apply Sel.there)); done) | (apply may_ownI; (repeat (first | with_reducible exact Sel.here | exact Sel.here | apply Sel.there)); assumption; done) | (apply may_ownN; (repeat (first | with_reducible exact Sel.here | exact Sel.here | apply Sel.there)); assumption; done)) (by first | (apply May.old; first | with_reducible assumption | assumption) | (apply Sel.may; (repeat (first | with_reducible exact Sel.here | exact Sel.here | apply Sel.there)); done) | (apply may_own; (repeat (first | with_reducible exact Sel.here | exact Sel.here | apply Sel.there)); exact rfl; exact (fun _ _ => trivial); done) | (apply may_ownB; (repeat (first | with_reducible exact Sel.here | exact Sel.here | apply Sel.there)); done) | (apply may_ownI; (repeat (first | with_reducible exact Sel.here | exact Sel.here | apply Sel.there)); assumption; done) | (apply may_ownN; (repeat (first | with_reducible exact Sel.here | exact Sel.here | apply Sel.there)); assumption; done))) (woutM_tr _ _ _ (by omega)) apT ?_)
  intro x56 hJ
  try dsimp only at hJ
  try dsimp only
  refine G.mvT rfl rfl ?_
  refine G.op rfl (G.val rfl rfl (pv_extract rfl rfl) ?_)
  refine G.op rfl (G.val rfl rfl (pv_extract rfl rfl) ?_)
  refine G.asT rfl rfl ?_
  refine G.asT rfl rfl ?_
  refine G.nil ?_
  refine G.nThen (G.seq ?_)
  refine G.block ?_
  refine G.seq (G.region ?_)
  refine G.mvT rfl rfl ?_
  refine G.op rfl (G.val rfl rfl (pv_neq rfl rfl) ?_)
  refine G.asT rfl rfl ?_
  refine G.nil ?_
  refine G.nThen ?_
  refine G.condF rfl (rfl) ?_
  refine G.seq (G.region ?_)
  refine G.ownBSl (v := x56) selT (fun ad9 cap9 hv9 => ?_)
  subst hv9
  refine G.mvT rfl rfl ?_
  refine G.op rfl (G.val rfl rfl (pv_lenSl Tryz.underlying39 rfl) ?_)
  refine G.op rfl (G.val rfl rfl (pv_gtr rfl rfl) ?_)
  refine G.asT rfl rfl ?_
  refine G.nil ?_
  refine G.nThen ?_
  refine G.condP rfl (fun h63 => ?_) (fun h63 => ?_)
  · refine G.seq (G.region ?_)
    refine G.asT rfl rfl ?_
    refine G.asT rfl rfl ?_
    refine G.nil ?_
    refine G.nThen ?_
    refine G.ret ?_
    refine G.rBlock ?_
    refine G.rThen ?_
    obtain ⟨he1, he2⟩ := bytesE_long hz (by omega)
    rw [he1, he2]
    refine G.ownBNil 5 ?_
    exact G.doneX2 (.slice none 0 0) trT rfl rfl rfl (by first | rfl | exact int_eq (by omega) | (simp; done)) subT
  refine G.skip ?_
  refine G.nBlock ?_
  refine G.nThen (G.seq (G.region ?_))
  refine G.mvT rfl rfl ?_
  refine G.asT rfl rfl ?_
  refine G.asT rfl rfl ?_
  refine G.nil ?_
  refine G.nThen ?_
  refine G.ret ?_
  obtain ⟨he1, he2⟩ := bytesE_ok hz (by omega)
  rw [he1, he2]
  exact G.doneX2 (.slice ad9 (manB a (its xs)).length cap9) trT rfl rfl rfl (by first | rfl | exact int_eq (by omega) | (simp; done)) subT
end Go.Proofs.YtbfpbibkklfnfaaGreat

set_option linter.unusedVariables false
set_option linter.unusedSimpArgs false
namespace Go.Proofs.YtbfpbibkklfnfaaGreat
open Go.RowKit
/-- a reader's state: where it stands, its fault -/
structure Rs where
  a : Nat
  e : Nat
  p : Int
def numS (b : List UInt8) (low high above : Int) (s : Rs) : Nat × Rs := if s.e = 0 then (numN (bndM b s.a low high above), ⟨nextN s.a (bndM b s.a low high above), errN (bndM b s.a low high above), posN s.p (bndM b s.a low high above)⟩) else (0, s)
def bytS (b : List UInt8) (high : Int) (s : Rs) : List UInt8 × Rs := if s.e = 0 then (outB b (bytR b s.a high), ⟨endB s.a (bytR b s.a high), errN (bytR b s.a high), posN s.p (bytR b s.a high)⟩) else ([], s)
def idS (b : List UInt8) (s : Rs) : List UInt8 × Rs := if s.e = 0 then (outI b s.a, ⟨endB s.a (idR b s.a), errN (idR b s.a), posN s.p (idR b s.a)⟩) else (List.replicate 16 0, s)
def endS (b : List UInt8) (s : Rs) : Nat × Int := if s.e = 0 ∧ s.a < b.length then (4, s.a) else (s.e, s.p)
def rs0 : Rs := ⟨0, 0, 0⟩
/-- what a state is -/
def okS (b : List UInt8) (s : Rs) : Prop := s.a ≤ b.length ∧ (s.e = 0 → s.p = 0)
theorem bnd_next {b : List UInt8} {a : Nat} {low high above : Int} (ha : a ≤ b.length) : nextN a (bndM b a low high above) ≤ b.length := by
  cases h : bndM b a low high above with
  | ok n nx => exact getM_next (bnd_get h).1
  | bad e p => exact ha
theorem bytR_end {b : List UInt8} {a : Nat} {high : Int} (ha : a ≤ b.length) : endB a (bytR b a high) ≤ b.length := by
  unfold bytR
  cases h : bndM b a 0 high 3 with
  | bad e p => exact ha
  | ok n nx =>
    simp only
    split
    · exact ha
    show nx + n ≤ _; omega
theorem idR_end {b : List UInt8} {a : Nat} (ha : a ≤ b.length) : endB a (idR b a) ≤ b.length := by
  unfold idR
  split
  · exact ha
  show a + 16 ≤ _; omega
theorem Rn.errPos {r : Rn} {p : Int} (h : errN r = 0) (hb : ∀ q, r ≠ .bad 0 q) : posN p r = p := by
  cases r with
  | ok n nx => rfl
  | bad e q => exact absurd (show Rn.bad e q = .bad 0 q by have : e = 0 := h; rw [this]) (hb q)
theorem getGo_bad {b : List UInt8} {a : Nat} : ∀ (f k n q : Nat), getGo b a f k n ≠ .bad 0 q := by
  intro f
  induction f with
  | zero => intro k n q h; cases h
  | succ f ih =>
    intro k n q h
    unfold getGo at h
    split at h
    · cases h
    split at h
    · exact ih _ _ _ h
    split at h <;> cases h
theorem getM_bad0 {b : List UInt8} {a q : Nat} : getM b a ≠ .bad 0 q := by
  unfold getM
  split
  · intro h; cases h
  exact getGo_bad _ _ _ _
theorem bnd_bad0 {b : List UInt8} {a q : Nat} {low high above : Int} (h0 : 1 ≤ above) : bndM b a low high above ≠ .bad 0 q := by
  unfold bndM
  split
  · rename_i e p h
    intro h2
    injection h2 with h3 h4
    subst h3
    exact getM_bad0 h
  split
  · intro h; injection h with h; omega
  split
  · intro h; cases h
  intro h; cases h
theorem bytR_bad0 {b : List UInt8} {a q : Nat} {high : Int} : bytR b a high ≠ .bad 0 q := by
  unfold bytR
  split
  · rename_i e p h
    intro h2
    injection h2 with h3 h4
    subst h3
    exact bnd_bad0 (by decide) h
  split
  · intro h; cases h
  intro h; cases h
theorem idR_bad0 {b : List UInt8} {a q : Nat} : idR b a ≠ .bad 0 q := by
  unfold idR
  split <;> intro h <;> cases h
theorem numS_ok {b : List UInt8} {low high above : Int} {s : Rs} (h : okS b s) (h0 : 1 ≤ above) : okS b (numS b low high above s).2 := by
  unfold numS
  split
  · exact ⟨bnd_next h.1, fun h2 => (Rn.errPos h2 fun q => bnd_bad0 h0).trans (h.2 (by assumption))⟩
  exact h
theorem bytS_ok {b : List UInt8} {high : Int} {s : Rs} (h : okS b s) : okS b (bytS b high s).2 := by
  unfold bytS
  split
  · exact ⟨bytR_end h.1, fun h2 => (Rn.errPos h2 fun q => bytR_bad0).trans (h.2 (by assumption))⟩
  exact h
theorem idS_ok {b : List UInt8} {s : Rs} (h : okS b s) : okS b (idS b s).2 := by
  unfold idS
  split
  · exact ⟨idR_end h.1, fun h2 => (Rn.errPos h2 fun q => idR_bad0).trans (h.2 (by assumption))⟩
  exact h
theorem rs0_ok (b : List UInt8) : okS b rs0 := ⟨Nat.zero_le _, fun _ => rfl⟩
theorem outI_len (b : List UInt8) (a : Nat) : (outI b a).length = 16 := by
  unfold outI
  split
  · rfl
  exact subB_length (by omega)
theorem idS_len (b : List UInt8) (s : Rs) : (idS b s).1.length = 16 := by
  unfold idS
  split
  · exact outI_len b s.a
  rfl
theorem intF (D : Nat) (v : Value) (b : List UInt8) (s : Rs) (low high : Int) (hs : okS b s) (hb : b.length ≤ 1000000000) : Tr Tryz.prog 52 #[.pointer (some ⟨D, 0, none⟩), .int .i64 low, .int .i64 high] [] [blk D 127 [.bool true, v, .int .i64 (s.a : Int), .int .i64 (s.e : Int), .int .i64 s.p], own 5 1 v b.length (b.map vByte)]
    (TX (fun _ : Unit => True) (fun _ => .int .i64 ((numS b low high 5 s).1 : Int)) (fun _ => [blk D 127 [.bool true, v, .int .i64 ((numS b low high 5 s).2.a : Int), .int .i64 ((numS b low high 5 s).2.e : Int), .int .i64 (numS b low high 5 s).2.p], own 5 1 v b.length (b.map vByte)])) := by
  obtain ⟨a, e, p⟩ := s
  by_cases h : e = 0
  · subst h
    exact int_tr D a v b p low high hs.1 hb
  have := (int_off (off_rd D v true a e p (.inr (by omega))) rfl low high).keep (q := [blk D 127 [.bool true, v, .int .i64 ((⟨a, e, p⟩ : Rs).a : Int), .int .i64 ((⟨a, e, p⟩ : Rs).e : Int), .int .i64 (⟨a, e, p⟩ : Rs).p], own 5 1 v b.length (b.map vByte)]) (fun c hc => by obtain rfl : c = _ := (by simpa using hc); exact List.mem_cons_self ..)
  have e1 : numS b low high 5 ⟨a, e, p⟩ = (0, ⟨a, e, p⟩) := if_neg h
  rw [e1]
  exact this
theorem countF (D : Nat) (v : Value) (b : List UInt8) (s : Rs) (high : Int) (hs : okS b s) (hb : b.length ≤ 1000000000) : Tr Tryz.prog 53 #[.pointer (some ⟨D, 0, none⟩), .int .i64 high] [] [blk D 127 [.bool true, v, .int .i64 (s.a : Int), .int .i64 (s.e : Int), .int .i64 s.p], own 5 1 v b.length (b.map vByte)]
    (TX (fun _ : Unit => True) (fun _ => .int .i64 ((numS b 0 high 3 s).1 : Int)) (fun _ => [blk D 127 [.bool true, v, .int .i64 ((numS b 0 high 3 s).2.a : Int), .int .i64 ((numS b 0 high 3 s).2.e : Int), .int .i64 (numS b 0 high 3 s).2.p], own 5 1 v b.length (b.map vByte)])) := by
  obtain ⟨a, e, p⟩ := s
  by_cases h : e = 0
  · subst h
    exact count_tr D a v b p high hs.1 hb
  have := (count_off (off_rd D v true a e p (.inr (by omega))) rfl high).keep (q := [blk D 127 [.bool true, v, .int .i64 ((⟨a, e, p⟩ : Rs).a : Int), .int .i64 ((⟨a, e, p⟩ : Rs).e : Int), .int .i64 (⟨a, e, p⟩ : Rs).p], own 5 1 v b.length (b.map vByte)]) (fun c hc => by obtain rfl : c = _ := (by simpa using hc); exact List.mem_cons_self ..)
  have e1 : numS b 0 high 3 ⟨a, e, p⟩ = (0, ⟨a, e, p⟩) := if_neg h
  rw [e1]
  exact this
theorem idF (D : Nat) (v : Value) (b : List UInt8) (s : Rs) (hs : okS b s) (hb : b.length ≤ 1000000000) : Tr Tryz.prog 92 #[.pointer (some ⟨D, 0, none⟩)] [] [blk D 127 [.bool true, v, .int .i64 (s.a : Int), .int .i64 (s.e : Int), .int .i64 s.p], own 5 1 v b.length (b.map vByte)]
    (TX (fun _ : Unit => True) (fun _ => .agg ((idS b s).1.map vByte).toArray) (fun _ => [blk D 127 [.bool true, v, .int .i64 ((idS b s).2.a : Int), .int .i64 ((idS b s).2.e : Int), .int .i64 (idS b s).2.p], own 5 1 v b.length (b.map vByte)])) := by
  obtain ⟨a, e, p⟩ := s
  by_cases h : e = 0
  · subst h
    exact id_tr D a v b p hs.1 hb
  have := (id_off (off_rd D v true a e p (.inr (by omega))) rfl).keep (q := [blk D 127 [.bool true, v, .int .i64 ((⟨a, e, p⟩ : Rs).a : Int), .int .i64 ((⟨a, e, p⟩ : Rs).e : Int), .int .i64 (⟨a, e, p⟩ : Rs).p], own 5 1 v b.length (b.map vByte)]) (fun c hc => by obtain rfl : c = _ := (by simpa using hc); exact List.mem_cons_self ..)
  have e1 : idS b ⟨a, e, p⟩ = (List.replicate 16 0, ⟨a, e, p⟩) := if_neg h
  rw [e1]
  exact this
theorem bytesF (D : Nat) (v : Value) (b : List UInt8) (s : Rs) (high : Int) (hs : okS b s) (hb : b.length ≤ 1000000000) : Tr Tryz.prog 128 #[.pointer (some ⟨D, 0, none⟩), .int .i64 high] [] [blk D 127 [.bool true, v, .int .i64 (s.a : Int), .int .i64 (s.e : Int), .int .i64 s.p], own 5 1 v b.length (b.map vByte)]
    (TX (fun _ : Value => True) (fun x => x) (fun x => [blk D 127 [.bool true, v, .int .i64 ((bytS b high s).2.a : Int), .int .i64 ((bytS b high s).2.e : Int), .int .i64 (bytS b high s).2.p], own 5 1 v b.length (b.map vByte), own 5 1 x (bytS b high s).1.length ((bytS b high s).1.map vByte)])) := by
  obtain ⟨a, e, p⟩ := s
  by_cases h : e = 0
  · subst h
    exact bytes_tr D a v b p high hs.1 hb
  have := (bytes_off (off_rd D v true a e p (.inr (by omega))) rfl high).keep (q := [blk D 127 [.bool true, v, .int .i64 ((⟨a, e, p⟩ : Rs).a : Int), .int .i64 ((⟨a, e, p⟩ : Rs).e : Int), .int .i64 (⟨a, e, p⟩ : Rs).p], own 5 1 v b.length (b.map vByte)]) (fun c hc => by obtain rfl : c = _ := (by simpa using hc); exact List.mem_cons_self ..)
  have e1 : bytS b high ⟨a, e, p⟩ = ([], ⟨a, e, p⟩) := if_neg h
  rw [e1]
  refine this.impH fun u m ⟨x, _, hu, hm⟩ => ⟨_, ⟨.slice none 0 0, trivial, hu, rfl⟩, fun w0 S w hw => ?_⟩
  subst hm
  exact (hp_ownNil 5 1 hw).perm (List.perm_append_comm (l₁ := [own 5 1 (.slice none 0 0) 0 []]))
theorem faultF (D : Nat) (v : Value) (s : Rs) : Tr Tryz.prog 54 #[.pointer (some ⟨D, 0, none⟩)] [blk D 127 [.bool true, v, .int .i64 (s.a : Int), .int .i64 (s.e : Int), .int .i64 s.p]] [] (T0 (.agg #[.int .i64 (s.e : Int), .int .i64 s.p])) := fault_tr D v true s.a s.e s.p
theorem ro_ownOpen {w0 : World} {S : Nat → Prop} {e sz k : Nat} {v : Value} {cs : List Value} (h : Ro w0 S (own e sz v k cs)) : ∃ ad cap, v = .slice ad k cap := by
  rcases (h.1 : w0.ownsRow 0 e sz v k cs).2 with ⟨rfl, rfl⟩ | ⟨g', cap, cur, rfl, _⟩
  · exact ⟨none, 0, rfl⟩
  exact ⟨_, cap, rfl⟩
set_option maxRecDepth 20000 in
set_option maxHeartbeats 4000000 in
theorem endF (D : Nat) (v : Value) (b : List UInt8) (s : Rs) : Tr Tryz.prog 56 #[.pointer (some ⟨D, 0, none⟩)] [blk D 127 [.bool true, v, .int .i64 (s.a : Int), .int .i64 (s.e : Int), .int .i64 s.p], own 5 1 v b.length (b.map vByte)] [] (T0 (.agg #[.int .i64 ((endS b s).1 : Int), .int .i64 (endS b s).2])) := by
  refine Tr.of (l := [(0, .pointer (some ⟨D, 0, none⟩))]) Tryz.func56 rfl (n := 27) rfl (.cons rfl .nil) (fun w0 hro => ?_)
  obtain ⟨hr, ho⟩ := ro2 hro
  obtain ⟨ad, cap, rfl⟩ := ro_ownOpen ho
  refine G.seq (G.region ?_)
  refine G.op rfl (G.alloc (z := .agg #[.int .i64 0, .int .i64 0]) (cs := [.int .i64 0, .int .i64 0]) rfl kr rfl ?_)
  intro b2
  refine G.nil ?_
  refine G.nThen (G.seq (G.region ?_))
  refine G.mvT rfl rfl ?_
  refine G.op rfl (G.cR rfl rfl rfl rfl Tryz.func54 rfl rfl (may1 (by first | (apply May.old; first | with_reducible assumption | assumption) | (apply Sel.may; (repeat (first | with_reducible exact Sel.here | exact Sel.here | apply Sel.there)); done) | (apply may_own; (repeat (first | with_reducible exact Sel.here | exact Sel.here | apply Sel.there)); exact rfl; exact (fun _ _ => trivial); done) | (apply may_ownB; (repeat (first | with_reducible exact Sel.here | exact Sel.here | apply Sel.there)); done) | (apply may_ownI; (repeat (first | with_reducible exact Sel.here | exact Sel.here | apply Sel.there)); assumption; done) | (apply may_ownN; (repeat (first | with_reducible exact Sel.here | exact Sel.here | apply Sel.there)); assumption; done))) (faultF _ _ _) ?_)
  refine G.op rfl (G.alloc (z := .agg #[.int .i64 0, .int .i64 0]) (cs := [.int .i64 0, .int .i64 0]) rfl kr rfl ?_)
  intro b3
  refine G.op rfl (G.storeN kr rfl rfl allT selT leT ?_)
  refine G.nil ?_
  refine G.nThen (G.seq (G.seq ?_))
  refine G.drawT (nn := 15) (p := []) (rem := 32767) [0, 1, 2, 4, 8, 24, 40, 72, 8, 264, 520, 1032, 2056, 4232, 8200] [0, 1, 2, 4, 8, 24, 40, 72, 8, 264, 520, 1032, 2056, 4232, 8200] kr ⟨rfl, by kernel_rfl, by kernel_rfl⟩ subT kr (fun hT2 => ?_)
  refine G.takeT hT2 (i := 0) (rem' := 32766) rfl rfl rfl kr (fun _ _ _ h => h) rfl (pv_fieldAddrK (sz := 0) (k := 0) Tryz.underlying42 rfl kr rfl rfl) subT ?_
  refine G.oneT hT2 (i := 1) (rem' := 32764) kr kr ?_
  refine G.turnOp rfl rfl (G.val rfl rfl (pv_load Tryz.underlying30 rfl rfl celT) ?_)
  refine G.back subT ?_
  refine G.takeT hT2 (i := 2) (rem' := 32760) rfl rfl rfl kr (fun _ _ _ h => h) rfl (pv_eql rfl rfl) subT ?_
  refine G.takeT hT2 (i := 3) (rem' := 32752) rfl rfl rfl kr (fun _ _ _ h => h) rfl (pv_move rfl) subT ?_
  refine G.partP (t := 9) rfl (fun h9 => ?_) (fun h9 => ?_)
  · refine G.takeT hT2 (i := 4) (rem' := 32736) rfl rfl rfl kr (fun _ _ _ h => h) rfl (pv_move rfl) subT ?_
    refine G.takeT hT2 (i := 5) (rem' := 32704) rfl rfl rfl kr (fun _ _ _ h => h) rfl (pv_nilCheck rfl) subT ?_
    refine G.takeT hT2 (i := 6) (rem' := 32640) rfl rfl rfl kr (fun _ _ _ h => h) rfl (pv_fieldAddrK (sz := 0) (k := 2) Tryz.underlying127 rfl kr rfl rfl) subT ?_
    refine G.takeT hT2 (i := 7) (rem' := 32512) rfl rfl rfl kr (fun _ _ _ h => h) rfl (pv_load Tryz.underlying3 rfl rfl celT) subT ?_
    refine G.takeT hT2 (i := 8) (rem' := 32256) rfl rfl rfl kr (fun _ _ _ h => h) rfl (pv_move rfl) subT ?_
    refine G.takeT hT2 (i := 9) (rem' := 31744) rfl rfl rfl kr (fun _ _ _ h => h) rfl (pv_nilCheck rfl) subT ?_
    refine G.takeT hT2 (i := 10) (rem' := 30720) rfl rfl rfl kr (fun _ _ _ h => h) rfl (pv_fieldAddrK (sz := 0) (k := 1) Tryz.underlying127 rfl kr rfl rfl) subT ?_
    refine G.oneT hT2 (i := 11) (rem' := 28672) kr kr ?_
    refine G.turnOp rfl rfl (G.val rfl rfl (pv_load Tryz.underlying39 rfl rfl celT) ?_)
    refine G.back subT ?_
    refine G.takeT hT2 (i := 12) (rem' := 24576) rfl rfl rfl kr (fun _ _ _ h => h) rfl (pv_lenSl Tryz.underlying39 rfl) subT ?_
    refine G.takeT hT2 (i := 13) (rem' := 16384) rfl rfl rfl kr (fun _ _ _ h => h) rfl (pv_lss rfl rfl) subT ?_
    refine G.takeT hT2 (i := 14) (rem' := 0) rfl rfl rfl kr (fun _ _ _ h => h) rfl (pv_pick rfl rfl) subT ?_
    refine G.overT hT2 kr ?_
    refine G.nThen ?_
    refine G.condP rfl (fun h20 => ?_) (fun h20 => ?_)
    · refine G.region ?_
      refine G.mvT rfl rfl ?_
      refine G.op rfl (G.val rfl rfl (pv_nilCheck rfl) ?_)
      refine G.op rfl (G.val rfl rfl (pv_fieldAddrK (sz := 0) (k := 2) Tryz.underlying127 rfl kr rfl rfl) ?_)
      refine G.op rfl (G.val rfl rfl (pv_load Tryz.underlying3 rfl rfl celT) ?_)
      refine G.op rfl (G.val rfl rfl (pv_buildSt (z := [.int .i64 0, .int .i64 0]) (pl := [(0, 1), (1, 1)]) Tryz.underlying42 kr kr rfl flT) ?_)
      refine G.op rfl (G.storeN kr rfl rfl allT selT leT ?_)
      refine G.nil ?_
      refine G.nThen (G.seq (G.region ?_))
      refine G.op rfl (G.val rfl rfl (pv_loadN (cs := [_, _]) Tryz.underlying42 rfl kr rfl (by first | exact blk_range (k := 2) selD (by rfl) | exact rng_range (k := 2) selD (by rfl) | exact ro_range (k := 2) (by assumption) (by rfl) | exact ro_rngR (k := 2) (by assumption) (by rfl))) ?_)
      refine G.op rfl (G.storeN kr rfl rfl allT selT leT ?_)
      refine G.nil ?_
      refine G.nThen ?_
      refine G.ret ?_
      exact G.done0G rfl (Rv.cellN (cs := [_, _]) rfl Tryz.underlying42 rfl kr (by first | exact blk_range (k := 2) selD (by rfl)) Rv.nil) (by unfold endS; first | (rw [if_pos (by omega)]; rfl) | (rw [if_neg (by omega)]; rfl))
    refine G.skip ?_
    refine G.nThen (G.seq (G.region ?_))
    refine G.op rfl (G.val rfl rfl (pv_loadN (cs := [_, _]) Tryz.underlying42 rfl kr rfl (by first | exact blk_range (k := 2) selD (by rfl) | exact rng_range (k := 2) selD (by rfl) | exact ro_range (k := 2) (by assumption) (by rfl) | exact ro_rngR (k := 2) (by assumption) (by rfl))) ?_)
    refine G.op rfl (G.storeN kr rfl rfl allT selT leT ?_)
    refine G.nil ?_
    refine G.nThen ?_
    refine G.ret ?_
    exact G.done0G rfl (Rv.cellN (cs := [_, _]) rfl Tryz.underlying42 rfl kr (by first | exact blk_range (k := 2) selD (by rfl)) Rv.nil) (by unfold endS; first | (rw [if_pos (by omega)]; rfl) | (rw [if_neg (by omega)]; rfl))
  refine G.takeFT hT2 (i := 4) (rem' := 32736) rfl rfl rfl kr (fun _ _ _ h => h) rfl subT ?_
  refine G.takeFT hT2 (i := 5) (rem' := 32704) rfl rfl rfl kr (fun _ _ _ h => h) rfl subT ?_
  refine G.takeFT hT2 (i := 6) (rem' := 32640) rfl rfl rfl kr (fun _ _ _ h => h) rfl subT ?_
  refine G.takeFT hT2 (i := 7) (rem' := 32512) rfl rfl rfl kr (fun _ _ _ h => h) rfl subT ?_
  refine G.takeFT hT2 (i := 8) (rem' := 32256) rfl rfl rfl kr (fun _ _ _ h => h) rfl subT ?_
  refine G.takeFT hT2 (i := 9) (rem' := 31744) rfl rfl rfl kr (fun _ _ _ h => h) rfl subT ?_
  refine G.takeFT hT2 (i := 10) (rem' := 30720) rfl rfl rfl kr (fun _ _ _ h => h) rfl subT ?_
  refine G.takeFT hT2 (i := 11) (rem' := 28672) rfl rfl rfl kr (fun _ _ _ h => h) rfl subT ?_
  refine G.takeFT hT2 (i := 12) (rem' := 24576) rfl rfl rfl kr (fun _ _ _ h => h) rfl subT ?_
  refine G.takeFT hT2 (i := 13) (rem' := 16384) rfl rfl rfl kr (fun _ _ _ h => h) rfl subT ?_
  refine G.takeT hT2 (i := 14) (rem' := 0) rfl rfl rfl kr (fun _ _ _ h => h) rfl (pv_pick rfl rfl) subT ?_
  refine G.overT hT2 kr ?_
  refine G.nThen ?_
  refine G.condF rfl (rfl) ?_
  refine G.skip ?_
  refine G.nThen (G.seq (G.region ?_))
  refine G.op rfl (G.val rfl rfl (pv_loadN (cs := [_, _]) Tryz.underlying42 rfl kr rfl (by first | exact blk_range (k := 2) selD (by rfl) | exact rng_range (k := 2) selD (by rfl) | exact ro_range (k := 2) (by assumption) (by rfl) | exact ro_rngR (k := 2) (by assumption) (by rfl))) ?_)
  refine G.op rfl (G.storeN kr rfl rfl allT selT leT ?_)
  refine G.nil ?_
  refine G.nThen ?_
  refine G.ret ?_
  exact G.done0G rfl (Rv.cellN (cs := [_, _]) rfl Tryz.underlying42 rfl kr (by first | exact blk_range (k := 2) selD (by rfl)) Rv.nil) (by unfold endS; first | (rw [if_pos (by omega)]; rfl) | (rw [if_neg (by omega)]; rfl))
set_option maxRecDepth 20000 in
set_option maxHeartbeats 4000000 in
theorem openR (v : Value) (hv : v.oneCell' = true) : Tr Tryz.prog 57 #[v] [] [] (TX (fun _ : Nat => True) (fun D => .pointer (some ⟨D, 0, none⟩)) (fun D => [blk D 95 [v, .int .i64 (rs0.a : Int), .int .i64 (rs0.e : Int), .int .i64 rs0.p]])) := by
  refine Tr.of (l := [(0, v)]) Tryz.func57 rfl (n := 6) rfl (.cons rfl .nil) (fun w0 hro => ?_)
  refine G.seq (G.region ?_)
  refine G.asT rfl rfl ?_
  refine G.nil ?_
  refine G.nThen (G.seq (G.region ?_))
  refine G.mvT rfl rfl ?_
  refine G.op rfl (G.val rfl rfl (pv_buildSt (z := [.slice none 0 0, .int .i64 0, .int .i64 0, .int .i64 0]) (pl := [(0, 1), (1, 1), (2, 2)]) Tryz.underlying95 kr kr rfl flT) ?_)
  refine G.op rfl (G.box rfl rfl (cs := [_, _, _, _]) rfl ?_)
  intro b5
  refine G.asT rfl rfl ?_
  refine G.nil ?_
  refine G.nThen ?_
  refine G.ret ?_
  exact G.doneX1 (b5) (by first | exact trivial | ((try dsimp only); exact trivial)) rfl rfl (by first | rfl | exact int_eq (by omega) | (simp; done)) subT
set_option maxRecDepth 20000 in
set_option maxHeartbeats 4000000 in
theorem getR (v : Value) (b : List UInt8) (a : Nat) (ha : a ≤ b.length) (hb : b.length ≤ 1000000000) {Pu : Nat → Prop} : Tr Tryz.prog 131 #[v, .int .i64 (a : Int)] [slc rByte Pu v b] [] (T0 (.tuple #[.int .i64 (numN (getM b a) : Int), .int .i64 (nextN 0 (getM b a) : Int), .agg #[.int .i64 (errN (getM b a) : Int), .int .i64 (posN 0 (getM b a))]])) := by
  refine Tr.of (l := [(0, v), (1, .int .i64 (a : Int))]) Tryz.func131 rfl (n := 64) rfl (.cons rfl (.cons rfl .nil)) (fun w0 hro => ?_)
  obtain ⟨ad, cap, bb, off, rfl, -, -, -, had, hel⟩ := Ro.open (ro1 hro)
  refine G.seq (G.region ?_)
  refine G.asT rfl rfl ?_
  refine G.asT rfl rfl ?_
  refine G.op rfl (G.alloc (z := .agg #[.int .i64 0, .int .i64 0]) (cs := [.int .i64 0, .int .i64 0]) rfl kr rfl ?_)
  intro b6
  refine G.nil ?_
  refine G.nThen (G.seq (G.seq ?_))
  refine G.cutK (X := Bool) (ts := [0, 1, 4, 5, 6]) (p := []) (fun q => (q = true → ∃ h : a < b.length, (b[a].toNat : Int) = 128) ∧ (q = false → getM b a = getGo b a (5 - 0) 0 0)) (fun q => [(20, .bool q)]) (fun q => []) (.cons rfl (.cons rfl (.cons rfl (.cons rfl (.cons rfl .nil))))) subT (.cons .nil) apT ?_ ?_
  · refine G.region ?_
    refine G.mvT rfl rfl ?_
    refine G.mvT rfl rfl ?_
    refine G.op rfl (G.val rfl rfl (pv_lenSl Tryz.underlying39 rfl) ?_)
    refine G.op rfl (G.val rfl rfl (pv_lss rfl rfl) ?_)
    refine G.mvT rfl rfl ?_
    refine G.partP (t := 14) rfl (fun h14 => ?_) (fun h14 => ?_)
    · have hlt : a < b.length := by omega
      have hA := hel a hlt
      refine G.want rfl rfl rfl (G.val rfl rfl (pv_move rfl) ?_)
      refine G.want rfl rfl rfl (G.val rfl rfl (pv_move rfl) ?_)
      refine G.want rfl rfl rfl (G.val rfl rfl (pv_ixSl (sz := 1) Tryz.underlying39 kr rfl rfl (by first | with_reducible assumption | assumption | exact fun _ => rfl) rfl (by omega)) ?_)
      refine G.want rfl rfl rfl (G.val rfl rfl (pv_load Tryz.underlying5 rfl rfl celT) ?_)
      refine G.want rfl rfl rfl (G.val rfl rfl (pv_eql rfl rfl) ?_)
      refine G.op rfl (G.val rfl rfl (pv_pick rfl rfl) ?_)
      refine G.nil ?_
      exact G.meet (decide ((b[a].toNat : Int) = 128)) (by first | exact trivial | ((try dsimp only); exact ⟨fun h => ⟨hlt, of_decide_eq_true h⟩, fun h => getM_go fun _ => of_decide_eq_false h⟩)) (.consE rfl veqT (.cons rfl (.cons rfl (.cons rfl (.cons rfl (.cons rfl .nil)))))) subT
    refine G.pass rfl rfl rfl rfl rfl rfl ?_
    refine G.pass rfl rfl rfl rfl rfl rfl ?_
    refine G.pass rfl rfl rfl rfl rfl rfl ?_
    refine G.pass rfl rfl rfl rfl rfl rfl ?_
    refine G.pass rfl rfl rfl rfl rfl rfl ?_
    refine G.op rfl (G.val rfl rfl (pv_pick rfl rfl) ?_)
    refine G.nil ?_
    exact G.meet (false) (by first | exact trivial | ((try dsimp only); exact ⟨(fun h => by cases h), fun _ => getM_go fun h => absurd h (by omega)⟩)) (.consE rfl veqT (.cons rfl (.cons rfl (.cons rfl (.cons rfl (.cons rfl .nil)))))) subT
  intro q hJ
  try dsimp only at hJ
  try dsimp only
  obtain ⟨hq1, hq2⟩ := hJ
  refine G.cond rfl (fun h20 => ?_) (fun h20 => ?_)
  · obtain ⟨hlt, hc⟩ := hq1 h20
    refine G.seq (G.region ?_)
    refine G.mvT rfl rfl ?_
    refine G.op rfl (G.val rfl rfl (pv_buildSt (z := [.int .i64 0, .int .i64 0]) (pl := [(0, 1), (1, 1)]) Tryz.underlying42 kr kr rfl flT) ?_)
    refine G.asT rfl rfl ?_
    refine G.asT rfl rfl ?_
    refine G.op rfl (G.storeN kr rfl rfl allT selT leT ?_)
    refine G.nil ?_
    refine G.nThen ?_
    refine G.ret ?_
    refine G.rThen ?_
    exact G.done0G rfl (Rv.tmp rfl (Rv.tmp rfl (Rv.cellN (cs := [_, _]) rfl Tryz.underlying42 rfl kr (by first | exact blk_range (k := 2) selD (by rfl)) Rv.nil))) (by rw [getM_128 hlt hc]; rfl)
  have hgo := hq2 h20
  refine G.skip ?_
  refine G.nThen (G.seq (G.region ?_))
  refine G.asT rfl rfl ?_
  refine G.nil ?_
  refine G.nThen (G.seq (G.seq (G.region ?_)))
  refine G.asT rfl rfl ?_
  refine G.nil ?_
  refine G.nThen ?_
  refine G.block ?_
  refine G.loopK (X := Nat × Nat) (ts := [0, 1, 6]) (fun st => st.1 ≤ 5 ∧ (st.2 < 128 ^ st.1 ∧ a + st.1 ≤ b.length ∧ getM b a = getGo b a (5 - st.1) st.1 st.2)) (fun st => [(8, .int .i64 (st.1 : Int)), (7, .int .i64 (st.2 : Int))]) (fun st => []) (fun st => 5 - st.1) (x0 := (0, 0)) (.cons rfl (.cons rfl (.cons rfl .nil))) subT (.cons (.cons .nil)) apT (by first | exact trivial | ((try dsimp only); exact ⟨Nat.zero_le _, ⟨by decide, by omega, hgo⟩⟩)) (.consE rfl veqT (.consE rfl veqT .nil)) (fun st hJ => ?_)
  obtain ⟨k, nn⟩ := st
  try dsimp only at hJ
  try dsimp only
  obtain ⟨hkk, hJ⟩ := hJ
  obtain ⟨hnn, hak, hg⟩ := hJ
  have hnn' := pow_bound hkk hnn
  refine G.seq (G.seq (G.region ?_))
  refine G.mvT rfl rfl ?_
  refine G.op rfl (G.val rfl rfl (pv_lss rfl rfl) ?_)
  refine G.nil ?_
  refine G.nThen ?_
  refine G.condP rfl (fun h24 => ?_) (fun h24 => ?_)
  · refine G.skip ?_
    refine G.nThen (G.seq ?_)
    refine G.block ?_
    refine G.seq (G.seq (G.region ?_))
    refine G.mvT rfl rfl ?_
    refine G.mvT rfl rfl ?_
    refine G.op rfl (G.val rfl rfl ((pv_add64 rfl rfl (by omega)).int (show _ = ((a + k : Nat) : Int) by omega)) ?_)
    refine G.mvT rfl rfl ?_
    refine G.op rfl (G.val rfl rfl (pv_lenSl Tryz.underlying39 rfl) ?_)
    refine G.op rfl (G.val rfl rfl (pv_geq rfl rfl) ?_)
    refine G.nil ?_
    refine G.nThen ?_
    refine G.condP rfl (fun h32 => ?_) (fun h32 => ?_)
    · refine G.seq (G.region ?_)
      refine G.mvT rfl rfl ?_
      refine G.op rfl (G.val rfl rfl (pv_lenSl Tryz.underlying39 rfl) ?_)
      refine G.op rfl (G.val rfl rfl (pv_buildSt (z := [.int .i64 0, .int .i64 0]) (pl := [(0, 1), (1, 1)]) Tryz.underlying42 kr kr rfl flT) ?_)
      refine G.asT rfl rfl ?_
      refine G.asT rfl rfl ?_
      refine G.op rfl (G.storeN kr rfl rfl allT selT leT ?_)
      refine G.nil ?_
      refine G.nThen ?_
      refine G.ret ?_
      refine G.rThen ?_
      refine G.rBlock ?_
      refine G.rThen ?_
      refine G.rThen ?_
      refine G.rBlock ?_
      refine G.rThen ?_
      exact G.done0G rfl (Rv.tmp rfl (Rv.tmp rfl (Rv.cellN (cs := [_, _]) rfl Tryz.underlying42 rfl kr (by first | exact blk_range (k := 2) selD (by rfl)) Rv.nil))) (by rw [hg, getGo_none (by omega) (by omega)]; rfl)
    have hlt : a + k < b.length := by omega
    have hA := hel (a + k) hlt
    have hc0 := b[a + k].toNat_lt
    refine G.skip ?_
    refine G.nThen (G.seq (G.region ?_))
    refine G.mvT rfl rfl ?_
    refine G.mvT rfl rfl ?_
    refine G.mvT rfl rfl ?_
    refine G.op rfl (G.val rfl rfl ((pv_add64 rfl rfl (by omega)).int (show _ = ((a + k : Nat) : Int) by omega)) ?_)
    refine G.op rfl (G.val rfl rfl (pv_ixSl (sz := 1) Tryz.underlying39 kr rfl rfl (by first | with_reducible assumption | assumption | exact fun _ => rfl) rfl (by omega)) ?_)
    refine G.op rfl (G.val rfl rfl (pv_load Tryz.underlying5 rfl rfl celT) ?_)
    refine G.op rfl (G.val rfl rfl ((pv_conv (by rw [Tryz.underlying5]; rfl) Tryz.underlying3 rfl).int (wrap_i64 (by unfold I64; omega))) ?_)
    refine G.asT rfl rfl ?_
    refine G.nil ?_
    refine G.nThen (G.seq (G.region ?_))
    refine G.mvT rfl rfl ?_
    refine G.op rfl (G.val rfl rfl (pv_mul64 rfl rfl (by omega)) ?_)
    refine G.mvT rfl rfl ?_
    refine G.op rfl (G.val rfl rfl (pv_rem64 rfl rfl (by omega) (by omega)) ?_)
    refine G.op rfl (G.val rfl rfl ((pv_add64 rfl rfl (by omega)).int (show _ = ((nn * 128 + b[a + k].toNat % 128 : Nat) : Int) by omega)) ?_)
    refine G.asT rfl rfl ?_
    refine G.nil ?_
    refine G.nThen (G.seq (G.seq (G.region ?_)))
    refine G.mvT rfl rfl ?_
    refine G.op rfl (G.val rfl rfl (pv_lss rfl rfl) ?_)
    refine G.mvT rfl rfl ?_
    refine G.partP (t := 50) rfl (fun h50 => ?_) (fun h50 => ?_)
    · refine G.want rfl rfl rfl (G.val rfl rfl (pv_move rfl) ?_)
      refine G.want rfl rfl rfl (G.val rfl rfl (pv_leq rfl rfl) ?_)
      refine G.op rfl (G.val rfl rfl (pv_pick rfl rfl) ?_)
      refine G.nil ?_
      refine G.nThen ?_
      refine G.condP rfl (fun h53 => ?_) (fun h53 => ?_)
      · refine G.seq (G.region ?_)
        refine G.mvT rfl rfl ?_
        refine G.mvT rfl rfl ?_
        refine G.mvT rfl rfl ?_
        refine G.op rfl (G.val rfl rfl ((pv_add64 rfl rfl (by omega)).int (show _ = ((a + k : Nat) : Int) by omega)) ?_)
        refine G.op rfl (G.val rfl rfl ((pv_add64 rfl rfl (by omega)).int (show _ = ((a + k + 1 : Nat) : Int) by omega)) ?_)
        refine G.op rfl (G.val rfl rfl (pv_buildSt (z := [.int .i64 0, .int .i64 0]) (pl := [(0, 1), (1, 1)]) Tryz.underlying42 kr kr rfl flT) ?_)
        refine G.asT rfl rfl ?_
        refine G.asT rfl rfl ?_
        refine G.op rfl (G.storeN kr rfl rfl allT selT leT ?_)
        refine G.nil ?_
        refine G.nThen ?_
        refine G.ret ?_
        refine G.rThen ?_
        refine G.rBlock ?_
        refine G.rThen ?_
        refine G.rThen ?_
        refine G.rBlock ?_
        refine G.rThen ?_
        exact G.done0G rfl (Rv.tmp rfl (Rv.tmp rfl (Rv.cellN (cs := [_, _]) rfl Tryz.underlying42 rfl kr (by first | exact blk_range (k := 2) selD (by rfl)) Rv.nil))) (by rw [hg, getGo_ok (by omega) hlt (by omega) (by omega)]; rfl)
      refine G.skip ?_
      refine G.nThen (G.seq (G.region ?_))
      refine G.mvT rfl rfl ?_
      refine G.op rfl (G.val rfl rfl (pv_lss rfl rfl) ?_)
      refine G.nil ?_
      refine G.nThen ?_
      refine G.condP rfl (fun h61 => ?_) (fun h61 => ?_)
      · refine G.exit ?_
        refine G.ePass rfl ?_
        refine G.eThen ?_
        refine G.eThen ?_
        refine G.eBlock ?_
        refine G.nThen (G.seq (G.region ?_))
        refine G.mvT rfl rfl ?_
        refine G.op rfl (G.val rfl rfl (pv_buildSt (z := [.int .i64 0, .int .i64 0]) (pl := [(0, 1), (1, 1)]) Tryz.underlying42 kr kr rfl flT) ?_)
        refine G.asT rfl rfl ?_
        refine G.asT rfl rfl ?_
        refine G.op rfl (G.storeN kr rfl rfl allT selT leT ?_)
        refine G.nil ?_
        refine G.nThen ?_
        refine G.ret ?_
        exact G.done0G rfl (Rv.tmp rfl (Rv.tmp rfl (Rv.cellN (cs := [_, _]) rfl Tryz.underlying42 rfl kr (by first | exact blk_range (k := 2) selD (by rfl)) Rv.nil))) (by rw [hg, getGo_big (by omega) hlt (by omega) (by omega)]; rfl)
      refine G.skip ?_
      refine G.nBlock ?_
      refine G.nThen (G.region ?_)
      refine G.mvT rfl rfl ?_
      refine G.op rfl (G.val rfl rfl (pv_add64 rfl rfl (by omega)) ?_)
      refine G.asT rfl rfl ?_
      refine G.nil ?_
      exact G.next ((k + 1, nn * 128 + b[a + k].toNat % 128)) (by first | exact trivial | ((try dsimp only); exact ⟨by omega, ⟨pow_step hnn (by omega), by omega, hg.trans (getGo_hi (by omega) hlt (by omega))⟩⟩)) (by (try dsimp only); omega) (.consE rfl veqT (.consE rfl veqT (.cons rfl (.cons rfl (.cons rfl .nil))))) subT
    refine G.pass rfl rfl rfl rfl rfl rfl ?_
    refine G.pass rfl rfl rfl rfl rfl rfl ?_
    refine G.op rfl (G.val rfl rfl (pv_pick rfl rfl) ?_)
    refine G.nil ?_
    refine G.nThen ?_
    refine G.condF rfl (rfl) ?_
    refine G.skip ?_
    refine G.nThen (G.seq (G.region ?_))
    refine G.mvT rfl rfl ?_
    refine G.op rfl (G.val rfl rfl (pv_lss rfl rfl) ?_)
    refine G.nil ?_
    refine G.nThen ?_
    refine G.condP rfl (fun h61 => ?_) (fun h61 => ?_)
    · refine G.exit ?_
      refine G.ePass rfl ?_
      refine G.eThen ?_
      refine G.eThen ?_
      refine G.eBlock ?_
      refine G.nThen (G.seq (G.region ?_))
      refine G.mvT rfl rfl ?_
      refine G.op rfl (G.val rfl rfl (pv_buildSt (z := [.int .i64 0, .int .i64 0]) (pl := [(0, 1), (1, 1)]) Tryz.underlying42 kr kr rfl flT) ?_)
      refine G.asT rfl rfl ?_
      refine G.asT rfl rfl ?_
      refine G.op rfl (G.storeN kr rfl rfl allT selT leT ?_)
      refine G.nil ?_
      refine G.nThen ?_
      refine G.ret ?_
      exact G.done0G rfl (Rv.tmp rfl (Rv.tmp rfl (Rv.cellN (cs := [_, _]) rfl Tryz.underlying42 rfl kr (by first | exact blk_range (k := 2) selD (by rfl)) Rv.nil))) (by rw [hg, getGo_big (by omega) hlt (by omega) (by omega)]; rfl)
    refine G.skip ?_
    refine G.nBlock ?_
    refine G.nThen (G.region ?_)
    refine G.mvT rfl rfl ?_
    refine G.op rfl (G.val rfl rfl (pv_add64 rfl rfl (by omega)) ?_)
    refine G.asT rfl rfl ?_
    refine G.nil ?_
    exact G.next ((k + 1, nn * 128 + b[a + k].toNat % 128)) (by first | exact trivial | ((try dsimp only); exact ⟨by omega, ⟨pow_step hnn (by omega), by omega, hg.trans (getGo_hi (by omega) hlt (by omega))⟩⟩)) (by (try dsimp only); omega) (.consE rfl veqT (.consE rfl veqT (.cons rfl (.cons rfl (.cons rfl .nil))))) subT
  refine G.exit ?_
  refine G.eThen ?_
  refine G.eThen ?_
  refine G.eBlock ?_
  refine G.nThen (G.seq (G.region ?_))
  refine G.mvT rfl rfl ?_
  refine G.op rfl (G.val rfl rfl (pv_buildSt (z := [.int .i64 0, .int .i64 0]) (pl := [(0, 1), (1, 1)]) Tryz.underlying42 kr kr rfl flT) ?_)
  refine G.asT rfl rfl ?_
  refine G.asT rfl rfl ?_
  refine G.op rfl (G.storeN kr rfl rfl allT selT leT ?_)
  refine G.nil ?_
  refine G.nThen ?_
  refine G.ret ?_
  obtain rfl : k = 5 := by omega
  exact G.done0G rfl (Rv.tmp rfl (Rv.tmp rfl (Rv.cellN (cs := [_, _]) rfl Tryz.underlying42 rfl kr (by first | exact blk_range (k := 2) selD (by rfl)) Rv.nil))) (by rw [hg]; rfl)
end Go.Proofs.YtbfpbibkklfnfaaGreat

set_option linter.unusedVariables false
set_option linter.unusedSimpArgs false
namespace Go.Proofs.YtbfpbibkklfnfaaGreat
open Go.RowKit
def numF1 (g : Rn) (a : Nat) (high above : Int) : Int × Int := if errN g = 0 ∧ high < numN g then (above, a) else (errN g, posN 0 g)
def numF2 (f : Int × Int) (g : Rn) (a : Nat) (low : Int) : Int × Int := if f.1 = 0 ∧ (numN g : Int) < low then (5, a) else f
theorem getM_err {b : List UInt8} {a e q : Nat} (h : getM b a = .bad e q) : e ≠ 0 := fun h0 => by subst h0; exact getM_bad0 h
theorem numS_bad {b : List UInt8} {low high above : Int} {s : Rs} {g : Rn} (hg : getM b s.a = g) (h0 : s.e = 0) (ha : 1 ≤ above) (h : (numF2 (numF1 g s.a high above) g s.a low).1 ≠ 0) :
    numS b low high above s = (0, ⟨s.a, (numF2 (numF1 g s.a high above) g s.a low).1.toNat, (numF2 (numF1 g s.a high above) g s.a low).2⟩) ∧ 0 ≤ (numF2 (numF1 g s.a high above) g s.a low).1 := by
  unfold numS
  rw [if_pos h0]
  cases g with
  | bad e q =>
    have he := getM_err hg
    have f1 : numF1 (Rn.bad e q) s.a high above = ((e : Int), (q : Int)) := if_neg fun h => he h.1
    have f2 : numF2 ((e : Int), (q : Int)) (Rn.bad e q) s.a low = ((e : Int), (q : Int)) := if_neg fun h => he (by have := h.1; simp at this; exact this)
    rw [f1, f2]
    unfold bndM
    rw [hg]
    exact ⟨by simp [numN, nextN, errN, posN], Int.natCast_nonneg _⟩
  | ok n nx =>
    by_cases h1 : high < n
    · have f1 : numF1 (Rn.ok n nx) s.a high above = (above, (s.a : Int)) := if_pos ⟨rfl, h1⟩
      have f2 : numF2 (above, (s.a : Int)) (Rn.ok n nx) s.a low = (above, (s.a : Int)) := if_neg fun h => by have := h.1; simp at this; omega
      rw [f1, f2]
      have := bnd_hi (low := low) (above := above) hg h1
      rw [this]
      exact ⟨rfl, by show 0 ≤ above; omega⟩
    have f1 : numF1 (Rn.ok n nx) s.a high above = (0, 0) := if_neg fun h => h1 h.2
    rw [f1] at h ⊢
    by_cases h2 : (n : Int) < low
    · have f2 : numF2 (0, 0) (Rn.ok n nx) s.a low = (5, (s.a : Int)) := if_pos ⟨rfl, h2⟩
      rw [f2]
      have := bnd_lo (above := above) hg h1 h2
      rw [this]
      exact ⟨rfl, by show (0 : Int) ≤ 5; decide⟩
    have f2 : numF2 (0, 0) (Rn.ok n nx) s.a low = (0, 0) := if_neg fun h => h2 h.2
    rw [f2] at h
    exact absurd rfl h
theorem numS_good {b : List UInt8} {low high above : Int} {s : Rs} {g : Rn} (hg : getM b s.a = g) (h0 : s.e = 0) (hp : s.p = 0) (ha : 1 ≤ above) (h : (numF2 (numF1 g s.a high above) g s.a low).1 = 0) :
    numS b low high above s = (numN g, ⟨nextN 0 g, s.e, s.p⟩) := by
  unfold numS
  rw [if_pos h0]
  cases g with
  | bad e q =>
    have he := getM_err hg
    have f1 : numF1 (Rn.bad e q) s.a high above = ((e : Int), (q : Int)) := if_neg fun h => he h.1
    have f2 : numF2 ((e : Int), (q : Int)) (Rn.bad e q) s.a low = ((e : Int), (q : Int)) := if_neg fun h => he (by have := h.1; simp at this; exact this)
    rw [f1, f2] at h
    exact absurd (by simpa using h) he
  | ok n nx =>
    by_cases h1 : high < n
    · have f1 : numF1 (Rn.ok n nx) s.a high above = (above, (s.a : Int)) := if_pos ⟨rfl, h1⟩
      have f2 : numF2 (above, (s.a : Int)) (Rn.ok n nx) s.a low = (above, (s.a : Int)) := if_neg fun h => by have := h.1; simp at this; omega
      rw [f1, f2] at h
      have h : above = 0 := h
      omega
    have f1 : numF1 (Rn.ok n nx) s.a high above = (0, 0) := if_neg fun h => h1 h.2
    rw [f1] at h
    by_cases h2 : (n : Int) < low
    · have f2 : numF2 (0, 0) (Rn.ok n nx) s.a low = (5, (s.a : Int)) := if_pos ⟨rfl, h2⟩
      rw [f2] at h
      cases h
    rw [bnd_ok hg h1 h2]
    show (n, (⟨nx, 0, s.p⟩ : Rs)) = (n, ⟨nx, s.e, s.p⟩)
    rw [h0]
def someS (b : List UInt8) (n a0 : Nat) (s : Rs) : List UInt8 × Rs := if s.e = 0 then (if b.length < s.a + n then ([], ⟨a0, 4, b.length⟩) else (subB b s.a n, ⟨s.a + n, s.e, s.p⟩)) else ([], s)
set_option maxRecDepth 20000 in
set_option maxHeartbeats 4000000 in
theorem numberR (D : Nat) (v : Value) (b : List UInt8) (s : Rs) (low high above : Int) (ha : 1 ≤ above) (hs : okS b s) (hb : b.length ≤ 1000000000) {Pu : Nat → Prop} : Tr Tryz.prog 93 #[.pointer (some ⟨D, 0, none⟩), .int .i64 low, .int .i64 high, .int .i64 above] [slc rByte Pu v b] [blk D 95 [v, .int .i64 (s.a : Int), .int .i64 (s.e : Int), .int .i64 s.p]]
    (TX (fun _ : Unit => True) (fun _ => .int .i64 ((numS b low high above s).1 : Int)) (fun _ => [blk D 95 [v, .int .i64 ((numS b low high above s).2.a : Int), .int .i64 ((numS b low high above s).2.e : Int), .int .i64 (numS b low high above s).2.p]])) := by
  refine Tr.of (l := [(0, .pointer (some ⟨D, 0, none⟩)), (1, .int .i64 low), (2, .int .i64 high), (3, .int .i64 above)]) Tryz.func93 rfl (n := 70) rfl (.cons rfl (.cons rfl (.cons rfl (.cons rfl .nil)))) (fun w0 hro => ?_)
  have hv := ro1 hro
  have hv' := hv
  obtain ⟨ad, cap, bb, off, rfl, -⟩ := Ro.open hv'
  refine G.seq (G.region ?_)
  refine G.asT rfl rfl ?_
  refine G.nil ?_
  refine G.nThen (G.seq (G.seq (G.region ?_)))
  refine G.mvT rfl rfl ?_
  refine G.op rfl (G.val rfl rfl (pv_nilCheck rfl) ?_)
  refine G.op rfl (G.val rfl rfl (pv_fieldAddrK (sz := 1) (k := 2) Tryz.underlying95 rfl kr rfl rfl) ?_)
  refine G.op rfl (G.val rfl rfl (pv_fieldAddrK (sz := 0) (k := 0) Tryz.underlying42 rfl kr rfl rfl) ?_)
  refine G.op rfl (G.val rfl rfl (pv_load Tryz.underlying30 rfl rfl celT) ?_)
  refine G.op rfl (G.val rfl rfl (pv_neq rfl rfl) ?_)
  refine G.nil ?_
  refine G.nThen ?_
  refine G.condP rfl (fun h17 => ?_) (fun h17 => ?_)
  · have e1 : numS b low high above s = (0, s) := if_neg (by omega)
    rw [e1]
    refine G.seq (G.region ?_)
    refine G.asT rfl rfl ?_
    refine G.nil ?_
    refine G.nThen ?_
    refine G.ret ?_
    refine G.rThen ?_
    exact G.doneX1 (()) (by first | exact trivial | ((try dsimp only); exact trivial)) rfl rfl (by first | rfl | exact int_eq (by omega) | (simp; done)) subT
  have hs0 : s.e = 0 := by omega
  obtain ⟨g, hg⟩ : ∃ g, getM b s.a = g := ⟨_, rfl⟩
  refine G.skip ?_
  refine G.nThen (G.seq ?_)
  refine G.cutK (X := Nat) (ts := [0, 1, 2, 3, 8]) (p := []) (fun q => True) (fun q => [(9, .int .i64 (numN g : Int)), (10, .int .i64 (nextN 0 g : Int)), (11, .pointer (some ⟨q, 0, none⟩))]) (fun q => [blk q 42 [.int .i64 (errN g : Int), .int .i64 (posN 0 g)]]) (.cons rfl (.cons rfl (.cons rfl (.cons rfl (.cons rfl .nil))))) subT (.cons (.cons (.cons .nil))) apT ?_ ?_
  · refine G.drawT (nn := 17) (p := []) (rem := 131071) [0, 1, 2, 4, 0, 16, 32, 64, 136, 256, 512, 512, 512, 0, 10239, 28671, 65535] [0, 1, 2, 4, 0, 16, 32, 64, 136, 256, 512, 512, 512, 0, 1024, 2048, 12288] kr ⟨rfl, by kernel_rfl, by kernel_rfl⟩ subT kr (fun hT3 => ?_)
    refine G.takeT hT3 (i := 0) (rem' := 131070) rfl rfl rfl kr (fun _ _ _ h => h) rfl (pv_move rfl) subT ?_
    refine G.takeT hT3 (i := 1) (rem' := 131068) rfl rfl rfl kr (fun _ _ _ h => h) rfl (pv_nilCheck rfl) subT ?_
    refine G.takeT hT3 (i := 2) (rem' := 131064) rfl rfl rfl kr (fun _ _ _ h => h) rfl (pv_fieldAddrK (sz := 0) (k := 0) Tryz.underlying95 rfl kr rfl rfl) subT ?_
    refine G.takeT hT3 (i := 4) (rem' := 131048) rfl rfl rfl kr (fun _ _ _ h => h) rfl (pv_move rfl) subT ?_
    refine G.takeT hT3 (i := 5) (rem' := 131016) rfl rfl rfl kr (fun _ _ _ h => h) rfl (pv_nilCheck rfl) subT ?_
    refine G.takeT hT3 (i := 6) (rem' := 130952) rfl rfl rfl kr (fun _ _ _ h => h) rfl (pv_fieldAddrK (sz := 0) (k := 1) Tryz.underlying95 rfl kr rfl rfl) subT ?_
    refine G.takeT hT3 (i := 3) (rem' := 130944) rfl rfl rfl kr (fun _ _ _ h => h) rfl (pv_load Tryz.underlying39 rfl rfl celT) subT ?_
    refine G.takeT hT3 (i := 7) (rem' := 130816) rfl rfl rfl kr (fun _ _ _ h => h) rfl (pv_load Tryz.underlying3 rfl rfl celT) subT ?_
    refine G.twoT hT3 (i := 8) (j := 13) (rem' := 130560) (rem'' := 122624) kr kr kr ?_ ?_
    · refine G.turnOp rfl rfl (G.cR rfl rfl rfl rfl Tryz.func131 rfl rfl (may1 (by first | (apply May.old; first | with_reducible assumption | assumption) | (apply Sel.may; (repeat (first | with_reducible exact Sel.here | exact Sel.here | apply Sel.there)); done) | (apply may_own; (repeat (first | with_reducible exact Sel.here | exact Sel.here | apply Sel.there)); exact rfl; exact (fun _ _ => trivial); done) | (apply may_ownB; (repeat (first | with_reducible exact Sel.here | exact Sel.here | apply Sel.there)); done) | (apply may_ownI; (repeat (first | with_reducible exact Sel.here | exact Sel.here | apply Sel.there)); assumption; done) | (apply may_ownN; (repeat (first | with_reducible exact Sel.here | exact Sel.here | apply Sel.there)); assumption; done))) (getR _ _ s.a hs.1 hb) ?_)
      rw [hg]
      refine G.back subT ?_
      refine G.takeT hT3 (i := 9) (rem' := 130048) rfl rfl rfl kr (fun _ _ _ h => h) rfl (pv_move rfl) subT ?_
      refine G.takeT hT3 (i := 10) (rem' := 129024) rfl rfl rfl kr (fun _ _ _ h => h) rfl (pv_extract rfl rfl) subT ?_
      refine G.takeT hT3 (i := 11) (rem' := 126976) rfl rfl rfl kr (fun _ _ _ h => h) rfl (pv_extract rfl rfl) subT ?_
      refine G.takeT hT3 (i := 12) (rem' := 122880) rfl rfl rfl kr (fun _ _ _ h => h) rfl (pv_extract rfl rfl) subT ?_
      refine G.oneT hT3 (i := 13) (rem' := 114688) kr kr ?_
      refine G.turnOp rfl rfl (G.alloc (z := .agg #[.int .i64 0, .int .i64 0]) (cs := [.int .i64 0, .int .i64 0]) rfl kr rfl ?_)
      intro b11
      refine G.back subT ?_
      refine G.takeT hT3 (i := 14) (rem' := 98304) rfl rfl rfl kr (fun _ _ _ h => h) rfl (pv_assign rfl) subT ?_
      refine G.takeT hT3 (i := 15) (rem' := 65536) rfl rfl rfl kr (fun _ _ _ h => h) rfl (pv_assign rfl) subT ?_
      refine G.oneT hT3 (i := 16) (rem' := 0) kr kr ?_
      refine G.turnOp rfl rfl (G.storeN kr rfl rfl allT selT leT ?_)
      refine G.back subT ?_
      refine G.overT hT3 kr ?_
      try rw [hg]
      exact G.meet (b11) (by first | exact trivial | ((try dsimp only); exact trivial)) (.consE rfl veqT (.consE rfl veqT (.consE rfl veqT (.cons rfl (.cons rfl (.cons rfl (.cons rfl (.cons rfl .nil)))))))) subT
    refine G.turnOp rfl rfl (G.alloc (z := .agg #[.int .i64 0, .int .i64 0]) (cs := [.int .i64 0, .int .i64 0]) rfl kr rfl ?_)
    intro b11
    refine G.back subT ?_
    refine G.oneT hT3 (i := 8) (rem' := 122368) kr kr ?_
    refine G.turnOp rfl rfl (G.cR rfl rfl rfl rfl Tryz.func131 rfl rfl (may1 (by first | (apply May.old; first | with_reducible assumption | assumption) | (apply Sel.may; (repeat (first | with_reducible exact Sel.here | exact Sel.here | apply Sel.there)); done) | (apply may_own; (repeat (first | with_reducible exact Sel.here | exact Sel.here | apply Sel.there)); exact rfl; exact (fun _ _ => trivial); done) | (apply may_ownB; (repeat (first | with_reducible exact Sel.here | exact Sel.here | apply Sel.there)); done) | (apply may_ownI; (repeat (first | with_reducible exact Sel.here | exact Sel.here | apply Sel.there)); assumption; done) | (apply may_ownN; (repeat (first | with_reducible exact Sel.here | exact Sel.here | apply Sel.there)); assumption; done))) (getR _ _ s.a hs.1 hb) ?_)
    rw [hg]
    refine G.back subT ?_
    refine G.takeT hT3 (i := 9) (rem' := 121856) rfl rfl rfl kr (fun _ _ _ h => h) rfl (pv_move rfl) subT ?_
    refine G.takeT hT3 (i := 10) (rem' := 120832) rfl rfl rfl kr (fun _ _ _ h => h) rfl (pv_extract rfl rfl) subT ?_
    refine G.takeT hT3 (i := 11) (rem' := 118784) rfl rfl rfl kr (fun _ _ _ h => h) rfl (pv_extract rfl rfl) subT ?_
    refine G.takeT hT3 (i := 12) (rem' := 114688) rfl rfl rfl kr (fun _ _ _ h => h) rfl (pv_extract rfl rfl) subT ?_
    refine G.takeT hT3 (i := 14) (rem' := 98304) rfl rfl rfl kr (fun _ _ _ h => h) rfl (pv_assign rfl) subT ?_
    refine G.takeT hT3 (i := 15) (rem' := 65536) rfl rfl rfl kr (fun _ _ _ h => h) rfl (pv_assign rfl) subT ?_
    refine G.oneT hT3 (i := 16) (rem' := 0) kr kr ?_
    refine G.turnOp rfl rfl (G.storeN kr rfl rfl allT selT leT ?_)
    refine G.back subT ?_
    refine G.overT hT3 kr ?_
    try rw [hg]
    exact G.meet (b11) (by first | exact trivial | ((try dsimp only); exact trivial)) (.consE rfl veqT (.consE rfl veqT (.consE rfl veqT (.cons rfl (.cons rfl (.cons rfl (.cons rfl (.cons rfl .nil)))))))) subT
  intro q hJ
  try dsimp only at hJ
  try dsimp only
  refine G.seq ?_
  refine G.cutK (X := (Int × Int)) (ts := [0, 1, 8, 9, 10, 11]) (p := [blk q _ _]) (fun f => f = numF1 g s.a high above) (fun f => []) (fun f => [blk q 42 [.int .i64 f.1, .int .i64 f.2]]) (.cons rfl (.cons rfl (.cons rfl (.cons rfl (.cons rfl (.cons rfl .nil)))))) subT Ap.nil apT ?_ ?_
  · refine G.seq (G.region ?_)
    refine G.op rfl (G.val rfl rfl (pv_fieldAddrK (sz := 0) (k := 0) Tryz.underlying42 rfl kr rfl rfl) ?_)
    refine G.op rfl (G.val rfl rfl (pv_load Tryz.underlying30 rfl rfl celT) ?_)
    refine G.op rfl (G.val rfl rfl (pv_eql rfl rfl) ?_)
    refine G.mvT rfl rfl ?_
    refine G.partP (t := 34) rfl (fun h34 => ?_) (fun h34 => ?_)
    · refine G.want rfl rfl rfl (G.val rfl rfl (pv_move rfl) ?_)
      refine G.want rfl rfl rfl (G.val rfl rfl (pv_move rfl) ?_)
      refine G.want rfl rfl rfl (G.val rfl rfl (pv_gtr rfl rfl) ?_)
      refine G.op rfl (G.val rfl rfl (pv_pick rfl rfl) ?_)
      refine G.nil ?_
      refine G.nThen ?_
      refine G.condP rfl (fun h38 => ?_) (fun h38 => ?_)
      · refine G.region ?_
        refine G.mvT rfl rfl ?_
        refine G.mvT rfl rfl ?_
        refine G.op rfl (G.val rfl rfl (pv_nilCheck rfl) ?_)
        refine G.op rfl (G.val rfl rfl (pv_fieldAddrK (sz := 0) (k := 1) Tryz.underlying95 rfl kr rfl rfl) ?_)
        refine G.op rfl (G.val rfl rfl (pv_load Tryz.underlying3 rfl rfl celT) ?_)
        refine G.op rfl (G.val rfl rfl (pv_buildSt (z := [.int .i64 0, .int .i64 0]) (pl := [(0, 1), (1, 1)]) Tryz.underlying42 kr kr rfl flT) ?_)
        refine G.op rfl (G.storeN kr rfl rfl allT selT leT ?_)
        refine G.nil ?_
        exact G.meet ((above, (s.a : Int))) (by first | exact trivial | ((try dsimp only); exact (if_pos (by omega)).symm)) (.cons rfl (.cons rfl (.cons rfl (.cons rfl (.cons rfl (.cons rfl .nil)))))) subT
      refine G.skip ?_
      exact G.meet (((errN g : Int), posN 0 g)) (by first | exact trivial | ((try dsimp only); exact (if_neg (by omega)).symm)) (.cons rfl (.cons rfl (.cons rfl (.cons rfl (.cons rfl (.cons rfl .nil)))))) subT
    refine G.pass rfl rfl rfl rfl rfl rfl ?_
    refine G.pass rfl rfl rfl rfl rfl rfl ?_
    refine G.pass rfl rfl rfl rfl rfl rfl ?_
    refine G.op rfl (G.val rfl rfl (pv_pick rfl rfl) ?_)
    refine G.nil ?_
    refine G.nThen ?_
    refine G.condF rfl (rfl) ?_
    refine G.skip ?_
    exact G.meet (((errN g : Int), posN 0 g)) (by first | exact trivial | ((try dsimp only); exact (if_neg (by omega)).symm)) (.cons rfl (.cons rfl (.cons rfl (.cons rfl (.cons rfl (.cons rfl .nil)))))) subT
  intro f hJ
  try dsimp only at hJ
  try dsimp only
  have hf := hJ
  clear hJ
  refine G.seq ?_
  refine G.cutK (X := (Int × Int)) (ts := [0, 8, 9, 10, 11]) (p := [blk q _ _]) (fun f2 => f2 = numF2 f g s.a low) (fun f2 => []) (fun f2 => [blk q 42 [.int .i64 f2.1, .int .i64 f2.2]]) (.cons rfl (.cons rfl (.cons rfl (.cons rfl (.cons rfl .nil))))) subT Ap.nil apT ?_ ?_
  · refine G.seq (G.region ?_)
    refine G.op rfl (G.val rfl rfl (pv_fieldAddrK (sz := 0) (k := 0) Tryz.underlying42 rfl kr rfl rfl) ?_)
    refine G.op rfl (G.val rfl rfl (pv_load Tryz.underlying30 rfl rfl celT) ?_)
    refine G.op rfl (G.val rfl rfl (pv_eql rfl rfl) ?_)
    refine G.mvT rfl rfl ?_
    refine G.partP (t := 48) rfl (fun h48 => ?_) (fun h48 => ?_)
    · refine G.want rfl rfl rfl (G.val rfl rfl (pv_move rfl) ?_)
      refine G.want rfl rfl rfl (G.val rfl rfl (pv_move rfl) ?_)
      refine G.want rfl rfl rfl (G.val rfl rfl (pv_lss rfl rfl) ?_)
      refine G.op rfl (G.val rfl rfl (pv_pick rfl rfl) ?_)
      refine G.nil ?_
      refine G.nThen ?_
      refine G.condP rfl (fun h52 => ?_) (fun h52 => ?_)
      · refine G.region ?_
        refine G.mvT rfl rfl ?_
        refine G.op rfl (G.val rfl rfl (pv_nilCheck rfl) ?_)
        refine G.op rfl (G.val rfl rfl (pv_fieldAddrK (sz := 0) (k := 1) Tryz.underlying95 rfl kr rfl rfl) ?_)
        refine G.op rfl (G.val rfl rfl (pv_load Tryz.underlying3 rfl rfl celT) ?_)
        refine G.op rfl (G.val rfl rfl (pv_buildSt (z := [.int .i64 0, .int .i64 0]) (pl := [(0, 1), (1, 1)]) Tryz.underlying42 kr kr rfl flT) ?_)
        refine G.op rfl (G.storeN kr rfl rfl allT selT leT ?_)
        refine G.nil ?_
        exact G.meet ((5, (s.a : Int))) (by first | exact trivial | ((try dsimp only); exact (if_pos (by omega)).symm)) (.cons rfl (.cons rfl (.cons rfl (.cons rfl (.cons rfl .nil))))) subT
      refine G.skip ?_
      exact G.meet (f) (by first | exact trivial | ((try dsimp only); exact (if_neg (by omega)).symm)) (.cons rfl (.cons rfl (.cons rfl (.cons rfl (.cons rfl .nil))))) subT
    refine G.pass rfl rfl rfl rfl rfl rfl ?_
    refine G.pass rfl rfl rfl rfl rfl rfl ?_
    refine G.pass rfl rfl rfl rfl rfl rfl ?_
    refine G.op rfl (G.val rfl rfl (pv_pick rfl rfl) ?_)
    refine G.nil ?_
    refine G.nThen ?_
    refine G.condF rfl (rfl) ?_
    refine G.skip ?_
    exact G.meet (f) (by first | exact trivial | ((try dsimp only); exact (if_neg (by omega)).symm)) (.cons rfl (.cons rfl (.cons rfl (.cons rfl (.cons rfl .nil))))) subT
  intro f2 hJ
  try dsimp only at hJ
  try dsimp only
  rw [hf] at hJ
  refine G.seq (G.seq (G.region ?_))
  refine G.op rfl (G.val rfl rfl (pv_fieldAddrK (sz := 0) (k := 0) Tryz.underlying42 rfl kr rfl rfl) ?_)
  refine G.op rfl (G.val rfl rfl (pv_load Tryz.underlying30 rfl rfl celT) ?_)
  refine G.op rfl (G.val rfl rfl (pv_neq rfl rfl) ?_)
  refine G.nil ?_
  refine G.nThen ?_
  refine G.condP rfl (fun h60 => ?_) (fun h60 => ?_)
  · have hN := numS_bad (low := low) (high := high) (above := above) hg hs0 ha (by rw [← hJ]; exact h60)
    rw [← hJ] at hN
    rw [hN.1]
    refine G.seq (G.region ?_)
    refine G.mvT rfl rfl ?_
    refine G.op rfl (G.val rfl rfl (pv_loadN (cs := [_, _]) Tryz.underlying42 rfl kr rfl (by first | exact blk_range (k := 2) selD (by rfl) | exact rng_range (k := 2) selD (by rfl) | exact ro_range (k := 2) (by assumption) (by rfl) | exact ro_rngR (k := 2) (by assumption) (by rfl))) ?_)
    refine G.op rfl (G.val rfl rfl (pv_nilCheck rfl) ?_)
    refine G.op rfl (G.val rfl rfl (pv_fieldAddrK (sz := 1) (k := 2) Tryz.underlying95 rfl kr rfl rfl) ?_)
    refine G.op rfl (G.storeN kr rfl rfl allT selT leT ?_)
    refine G.nil ?_
    refine G.nThen (G.seq (G.region ?_))
    refine G.asT rfl rfl ?_
    refine G.nil ?_
    refine G.nThen ?_
    refine G.ret ?_
    refine G.rThen ?_
    obtain ⟨ee, he⟩ : ∃ ee : Nat, f2.1 = (ee : Int) := ⟨f2.1.toNat, by omega⟩
    rw [he]
    simp only [Int.toNat_natCast]
    exact G.doneX1 (()) (by first | exact trivial | ((try dsimp only); exact trivial)) rfl rfl rfl subT
  have hN := numS_good (low := low) (high := high) (above := above) hg hs0 (hs.2 hs0) ha (by rw [← hJ]; omega)
  rw [hN]
  refine G.skip ?_
  refine G.nThen (G.seq (G.region ?_))
  refine G.mvT rfl rfl ?_
  refine G.mvT rfl rfl ?_
  refine G.op rfl (G.val rfl rfl (pv_nilCheck rfl) ?_)
  refine G.op rfl (G.val rfl rfl (pv_fieldAddrK (sz := 0) (k := 1) Tryz.underlying95 rfl kr rfl rfl) ?_)
  refine G.op rfl (G.store kr rfl rfl eqT selT leT ?_)
  refine G.nil ?_
  refine G.nThen (G.seq (G.region ?_))
  refine G.mvT rfl rfl ?_
  refine G.asT rfl rfl ?_
  refine G.nil ?_
  refine G.nThen ?_
  refine G.ret ?_
  exact G.doneX1 (()) (by first | exact trivial | ((try dsimp only); exact trivial)) rfl rfl (by first | rfl | exact int_eq (by omega) | (simp; done)) subT
set_option maxRecDepth 20000 in
set_option maxHeartbeats 4000000 in
theorem someR (D : Nat) (v : Value) (b : List UInt8) (s : Rs) (n a0 : Nat) (hn : n ≤ 9000000000) (hs : okS b s) (hb : b.length ≤ 1000000000) {Pu : Nat → Prop} : Tr Tryz.prog 133 #[.pointer (some ⟨D, 0, none⟩), .int .i64 (n : Int), .int .i64 (a0 : Int)] [slc rByte Pu v b] [blk D 95 [v, .int .i64 (s.a : Int), .int .i64 (s.e : Int), .int .i64 s.p]]
    (TX (fun _ : Value => True) (fun x => x) (fun x => [blk D 95 [v, .int .i64 ((someS b n a0 s).2.a : Int), .int .i64 ((someS b n a0 s).2.e : Int), .int .i64 (someS b n a0 s).2.p], own 5 1 x (someS b n a0 s).1.length ((someS b n a0 s).1.map vByte)])) := by
  refine Tr.of (l := [(0, .pointer (some ⟨D, 0, none⟩)), (1, .int .i64 (n : Int)), (2, .int .i64 (a0 : Int))]) Tryz.func133 rfl (n := 66) rfl (.cons rfl (.cons rfl (.cons rfl .nil))) (fun w0 hro => ?_)
  have hv := ro1 hro
  have hv' := hv
  obtain ⟨ad, cap, bb, off, rfl, hcap, hmax, -⟩ := Ro.open hv'
  have hsl := hs.1
  refine G.seq (G.region ?_)
  refine G.asT rfl rfl ?_
  refine G.nil ?_
  refine G.nThen (G.seq (G.seq (G.region ?_)))
  refine G.mvT rfl rfl ?_
  refine G.op rfl (G.val rfl rfl (pv_nilCheck rfl) ?_)
  refine G.op rfl (G.val rfl rfl (pv_fieldAddrK (sz := 1) (k := 2) Tryz.underlying95 rfl kr rfl rfl) ?_)
  refine G.op rfl (G.val rfl rfl (pv_fieldAddrK (sz := 0) (k := 0) Tryz.underlying42 rfl kr rfl rfl) ?_)
  refine G.op rfl (G.val rfl rfl (pv_load Tryz.underlying30 rfl rfl celT) ?_)
  refine G.op rfl (G.val rfl rfl (pv_neq rfl rfl) ?_)
  refine G.nil ?_
  refine G.nThen ?_
  refine G.condP rfl (fun h13 => ?_) (fun h13 => ?_)
  · have e1 : someS b n a0 s = ([], s) := if_neg (by omega)
    rw [e1]
    refine G.seq (G.region ?_)
    refine G.asT rfl rfl ?_
    refine G.nil ?_
    refine G.nThen ?_
    refine G.ret ?_
    refine G.rThen ?_
    refine G.ownNil 5 1 ?_
    exact G.doneX1 (.slice none 0 0) (by first | exact trivial | ((try dsimp only); exact trivial)) rfl rfl (by first | rfl | exact int_eq (by omega) | (simp; done)) subT
  have hs0 : s.e = 0 := by omega
  refine G.skip ?_
  refine G.nThen (G.seq (G.seq ?_))
  refine G.drawT (nn := 12) (p := []) (rem := 4095) [0, 1, 2, 4, 8, 0, 32, 64, 128, 272, 0, 1536] [0, 1, 2, 4, 8, 0, 32, 64, 128, 272, 0, 1536] kr ⟨rfl, by kernel_rfl, by kernel_rfl⟩ subT kr (fun hT3 => ?_)
  refine G.takeT hT3 (i := 0) (rem' := 4094) rfl rfl rfl kr (fun _ _ _ h => h) rfl (pv_move rfl) subT ?_
  refine G.takeT hT3 (i := 1) (rem' := 4092) rfl rfl rfl kr (fun _ _ _ h => h) rfl (pv_nilCheck rfl) subT ?_
  refine G.takeT hT3 (i := 2) (rem' := 4088) rfl rfl rfl kr (fun _ _ _ h => h) rfl (pv_fieldAddrK (sz := 0) (k := 0) Tryz.underlying95 rfl kr rfl rfl) subT ?_
  refine G.takeT hT3 (i := 5) (rem' := 4056) rfl rfl rfl kr (fun _ _ _ h => h) rfl (pv_move rfl) subT ?_
  refine G.takeT hT3 (i := 6) (rem' := 3992) rfl rfl rfl kr (fun _ _ _ h => h) rfl (pv_nilCheck rfl) subT ?_
  refine G.takeT hT3 (i := 7) (rem' := 3864) rfl rfl rfl kr (fun _ _ _ h => h) rfl (pv_fieldAddrK (sz := 0) (k := 1) Tryz.underlying95 rfl kr rfl rfl) subT ?_
  refine G.takeT hT3 (i := 10) (rem' := 2840) rfl rfl rfl kr (fun _ _ _ h => h) rfl (pv_move rfl) subT ?_
  refine G.takeT hT3 (i := 3) (rem' := 2832) rfl rfl rfl kr (fun _ _ _ h => h) rfl (pv_load Tryz.underlying39 rfl rfl celT) subT ?_
  refine G.takeT hT3 (i := 4) (rem' := 2816) rfl rfl rfl kr (fun _ _ _ h => h) rfl (pv_lenSl Tryz.underlying39 rfl) subT ?_
  refine G.oneT hT3 (i := 8) (rem' := 2560) kr kr ?_
  refine G.turnOp rfl rfl (G.val rfl rfl (pv_load Tryz.underlying3 rfl rfl celT) ?_)
  refine G.back subT ?_
  refine G.takeT hT3 (i := 9) (rem' := 2048) rfl rfl rfl kr (fun _ _ _ h => h) rfl (pv_sub64 rfl rfl (by omega)) subT ?_
  refine G.takeT hT3 (i := 11) (rem' := 0) rfl rfl rfl kr (fun _ _ _ h => h) rfl (pv_lss rfl rfl) subT ?_
  refine G.overT hT3 kr ?_
  refine G.nThen ?_
  refine G.condP rfl (fun h25 => ?_) (fun h25 => ?_)
  · have e1 : someS b n a0 s = ([], ⟨a0, 4, b.length⟩) := (if_pos hs0).trans (if_pos (by omega))
    rw [e1]
    refine G.seq (G.region ?_)
    refine G.mvT rfl rfl ?_
    refine G.mvT rfl rfl ?_
    refine G.op rfl (G.val rfl rfl (pv_nilCheck rfl) ?_)
    refine G.op rfl (G.val rfl rfl (pv_fieldAddrK (sz := 0) (k := 0) Tryz.underlying95 rfl kr rfl rfl) ?_)
    refine G.op rfl (G.val rfl rfl (pv_load Tryz.underlying39 rfl rfl celT) ?_)
    refine G.op rfl (G.val rfl rfl (pv_lenSl Tryz.underlying39 rfl) ?_)
    refine G.op rfl (G.val rfl rfl (pv_buildSt (z := [.int .i64 0, .int .i64 0]) (pl := [(0, 1), (1, 1)]) Tryz.underlying42 kr kr rfl flT) ?_)
    refine G.op rfl (G.val rfl rfl (pv_nilCheck rfl) ?_)
    refine G.op rfl (G.val rfl rfl (pv_fieldAddrK (sz := 1) (k := 2) Tryz.underlying95 rfl kr rfl rfl) ?_)
    refine G.op rfl (G.storeN kr rfl rfl allT selT leT ?_)
    refine G.nil ?_
    refine G.nThen (G.seq (G.region ?_))
    refine G.mvT rfl rfl ?_
    refine G.mvT rfl rfl ?_
    refine G.op rfl (G.val rfl rfl (pv_nilCheck rfl) ?_)
    refine G.op rfl (G.val rfl rfl (pv_fieldAddrK (sz := 0) (k := 1) Tryz.underlying95 rfl kr rfl rfl) ?_)
    refine G.op rfl (G.store kr rfl rfl eqT selT leT ?_)
    refine G.nil ?_
    refine G.nThen (G.seq (G.region ?_))
    refine G.asT rfl rfl ?_
    refine G.nil ?_
    refine G.nThen ?_
    refine G.ret ?_
    refine G.rThen ?_
    refine G.ownNil 5 1 ?_
    exact G.doneX1 (.slice none 0 0) (by first | exact trivial | ((try dsimp only); exact trivial)) rfl rfl (by first | rfl | exact int_eq (by omega) | (simp; done)) subT
  have hle : s.a + n ≤ b.length := by omega
  have e1 : someS b n a0 s = (subB b s.a n, ⟨s.a + n, s.e, s.p⟩) := (if_pos hs0).trans (if_neg (by omega))
  rw [e1]
  refine G.skip ?_
  refine G.nThen (G.seq ?_)
  refine G.drawT (nn := 18) (p := []) (rem := 262143) [0, 0, 2, 4, 8, 0, 32, 64, 128, 0, 512, 1024, 2048, 0, 12288, 16656, 32769, 131071] [0, 0, 2, 4, 8, 0, 32, 64, 128, 0, 512, 1024, 2048, 0, 12288, 16656, 32769, 65536] kr ⟨rfl, by kernel_rfl, by kernel_rfl⟩ subT kr (fun hT7 => ?_)
  refine G.takeT hT7 (i := 1) (rem' := 262141) rfl rfl rfl kr (fun _ _ _ h => h) rfl (pv_move rfl) subT ?_
  refine G.takeT hT7 (i := 2) (rem' := 262137) rfl rfl rfl kr (fun _ _ _ h => h) rfl (pv_nilCheck rfl) subT ?_
  refine G.takeT hT7 (i := 3) (rem' := 262129) rfl rfl rfl kr (fun _ _ _ h => h) rfl (pv_fieldAddrK (sz := 0) (k := 0) Tryz.underlying95 rfl kr rfl rfl) subT ?_
  refine G.takeT hT7 (i := 5) (rem' := 262097) rfl rfl rfl kr (fun _ _ _ h => h) rfl (pv_move rfl) subT ?_
  refine G.takeT hT7 (i := 6) (rem' := 262033) rfl rfl rfl kr (fun _ _ _ h => h) rfl (pv_nilCheck rfl) subT ?_
  refine G.takeT hT7 (i := 7) (rem' := 261905) rfl rfl rfl kr (fun _ _ _ h => h) rfl (pv_fieldAddrK (sz := 0) (k := 1) Tryz.underlying95 rfl kr rfl rfl) subT ?_
  refine G.takeT hT7 (i := 9) (rem' := 261393) rfl rfl rfl kr (fun _ _ _ h => h) rfl (pv_move rfl) subT ?_
  refine G.takeT hT7 (i := 10) (rem' := 260369) rfl rfl rfl kr (fun _ _ _ h => h) rfl (pv_nilCheck rfl) subT ?_
  refine G.takeT hT7 (i := 11) (rem' := 258321) rfl rfl rfl kr (fun _ _ _ h => h) rfl (pv_fieldAddrK (sz := 0) (k := 1) Tryz.underlying95 rfl kr rfl rfl) subT ?_
  refine G.takeT hT7 (i := 13) (rem' := 250129) rfl rfl rfl kr (fun _ _ _ h => h) rfl (pv_move rfl) subT ?_
  refine G.takeT hT7 (i := 4) (rem' := 250113) rfl rfl rfl kr (fun _ _ _ h => h) rfl (pv_load Tryz.underlying39 rfl rfl celT) subT ?_
  refine G.takeT hT7 (i := 8) (rem' := 249857) rfl rfl rfl kr (fun _ _ _ h => h) rfl (pv_load Tryz.underlying3 rfl rfl celT) subT ?_
  refine G.takeT hT7 (i := 12) (rem' := 245761) rfl rfl rfl kr (fun _ _ _ h => h) rfl (pv_load Tryz.underlying3 rfl rfl celT) subT ?_
  refine G.takeT hT7 (i := 14) (rem' := 229377) rfl rfl rfl kr (fun _ _ _ h => h) rfl ((pv_add64 rfl rfl (by omega)).int (show _ = ((s.a + n : Nat) : Int) by omega)) subT ?_
  refine G.takeT hT7 (i := 15) (rem' := 196609) rfl rfl rfl kr (fun _ _ _ h => h) rfl (pv_subLH (sz := 1) Tryz.underlying39 Tryz.sizeByte rfl rfl rfl rfl rfl (Nat.le_add_right s.a n) (by omega)) subT ?_
  refine G.oneT hT7 (i := 0) (rem' := 196608) kr kr ?_
  refine G.turnOp rfl rfl (G.lit0 rfl Tryz.underlying39 kr rfl ?_)
  intro b39
  refine G.ownBlk (b := b39) (k := 0) (sz := 1) selT rfl (by omega) ?_
  refine G.back subT ?_
  refine G.oneT hT7 (i := 16) (rem' := 131072) kr kr ?_
  refine G.turnOp rfl rfl (G.appendS (k := 0) (cs := []) (xs := subB b s.a n) (f := vByte) (p := fun _ => True) (Ps := Pu) rfl Tryz.underlying39 Tryz.infoByte' rfl rfl selT (fun w hw => (ro_sl hv w hw).sub (E := rByte) (Nat.le_add_right s.a n) hle) (vByte_one _) (by rw [subB_length hle]; omega) (by rw [subB_length hle]; omega) ?_)
  intro v'
  rw [Nat.zero_add (subB b s.a n).length, List.nil_append]
  refine G.ownFact (v := v') selT (fun hv1 _ => ?_)
  refine G.back subT ?_
  refine G.takeT hT7 (i := 17) (rem' := 0) rfl rfl rfl kr (fun _ _ _ h => h) rfl (pv_assign rfl) subT ?_
  refine G.overT hT7 kr ?_
  refine G.nThen (G.seq (G.region ?_))
  refine G.mvT rfl rfl ?_
  refine G.mvT rfl rfl ?_
  refine G.op rfl (G.val rfl rfl (pv_nilCheck rfl) ?_)
  refine G.op rfl (G.val rfl rfl (pv_fieldAddrK (sz := 0) (k := 1) Tryz.underlying95 rfl kr rfl rfl) ?_)
  refine G.op rfl (G.val rfl rfl (pv_load Tryz.underlying3 rfl rfl celT) ?_)
  refine G.mvT rfl rfl ?_
  refine G.op rfl (G.val rfl rfl ((pv_add64 rfl rfl (by omega)).int (show _ = ((s.a + n : Nat) : Int) by omega)) ?_)
  refine G.op rfl (G.val rfl rfl (pv_nilCheck rfl) ?_)
  refine G.op rfl (G.val rfl rfl (pv_fieldAddrK (sz := 0) (k := 1) Tryz.underlying95 rfl kr rfl rfl) ?_)
  refine G.op rfl (G.store kr rfl rfl eqT selT leT ?_)
  refine G.nil ?_
  refine G.nThen (G.seq (G.region ?_))
  refine G.mvT rfl rfl ?_
  refine G.asT rfl rfl ?_
  refine G.nil ?_
  refine G.nThen ?_
  refine G.ret ?_
  exact G.doneX1 (v') (by first | exact trivial | ((try dsimp only); exact trivial)) rfl rfl (by first | rfl | exact int_eq (by omega) | (simp; done)) subT
set_option maxRecDepth 20000 in
set_option maxHeartbeats 4000000 in
theorem intR (D : Nat) (v : Value) (b : List UInt8) (s : Rs) (low high : Int) (hs : okS b s) (hb : b.length ≤ 1000000000) {Pu : Nat → Prop} : Tr Tryz.prog 58 #[.pointer (some ⟨D, 0, none⟩), .int .i64 low, .int .i64 high] [slc rByte Pu v b] [blk D 95 [v, .int .i64 (s.a : Int), .int .i64 (s.e : Int), .int .i64 s.p]]
    (TX (fun _ : Unit => True) (fun _ => .int .i64 ((numS b low high 5 s).1 : Int)) (fun _ => [blk D 95 [v, .int .i64 ((numS b low high 5 s).2.a : Int), .int .i64 ((numS b low high 5 s).2.e : Int), .int .i64 (numS b low high 5 s).2.p]])) := by
  refine Tr.of (l := [(0, .pointer (some ⟨D, 0, none⟩)), (1, .int .i64 low), (2, .int .i64 high)]) Tryz.func58 rfl (n := 11) rfl (.cons rfl (.cons rfl (.cons rfl .nil))) (fun w0 hro => ?_)
  have hv := ro1 hro
  refine G.seq (G.region ?_)
  refine G.asT rfl rfl ?_
  refine G.nil ?_
  refine G.nThen (G.seq (G.region ?_))
  refine G.mvT rfl rfl ?_
  refine G.mvT rfl rfl ?_
  refine G.mvT rfl rfl ?_
  refine G.op rfl (G.cS rfl rfl rfl rfl Tryz.func93 rfl rfl subT (may1 (by first | (apply May.old; first | with_reducible assumption | assumption) | (apply Sel.may; (repeat (first | with_reducible exact Sel.here | exact Sel.here | apply Sel.there)); done) | (apply may_own; (repeat (first | with_reducible exact Sel.here | exact Sel.here | apply Sel.there)); exact rfl; exact (fun _ _ => trivial); done) | (apply may_ownB; (repeat (first | with_reducible exact Sel.here | exact Sel.here | apply Sel.there)); done) | (apply may_ownI; (repeat (first | with_reducible exact Sel.here | exact Sel.here | apply Sel.there)); assumption; done) | (apply may_ownN; (repeat (first | with_reducible exact Sel.here | exact Sel.here | apply Sel.there)); assumption; done))) (numberR _ _ _ _ _ _ _ (by decide) hs hb) apT ?_)
  intro x10 hJ
  try dsimp only at hJ
  try dsimp only
  refine G.asT rfl rfl ?_
  refine G.nil ?_
  refine G.nThen ?_
  refine G.ret ?_
  exact G.doneX1 (()) (by first | exact trivial | ((try dsimp only); exact trivial)) rfl rfl (by first | rfl | exact int_eq (by omega) | (simp; done)) subT
set_option maxRecDepth 20000 in
set_option maxHeartbeats 4000000 in
theorem countR (D : Nat) (v : Value) (b : List UInt8) (s : Rs) (high : Int) (hs : okS b s) (hb : b.length ≤ 1000000000) {Pu : Nat → Prop} : Tr Tryz.prog 59 #[.pointer (some ⟨D, 0, none⟩), .int .i64 high] [slc rByte Pu v b] [blk D 95 [v, .int .i64 (s.a : Int), .int .i64 (s.e : Int), .int .i64 s.p]]
    (TX (fun _ : Unit => True) (fun _ => .int .i64 ((numS b 0 high 3 s).1 : Int)) (fun _ => [blk D 95 [v, .int .i64 ((numS b 0 high 3 s).2.a : Int), .int .i64 ((numS b 0 high 3 s).2.e : Int), .int .i64 (numS b 0 high 3 s).2.p]])) := by
  refine Tr.of (l := [(0, .pointer (some ⟨D, 0, none⟩)), (1, .int .i64 high)]) Tryz.func59 rfl (n := 8) rfl (.cons rfl (.cons rfl .nil)) (fun w0 hro => ?_)
  have hv := ro1 hro
  refine G.seq (G.region ?_)
  refine G.asT rfl rfl ?_
  refine G.nil ?_
  refine G.nThen (G.seq (G.region ?_))
  refine G.mvT rfl rfl ?_
  refine G.mvT rfl rfl ?_
  refine G.op rfl (G.cS rfl rfl rfl rfl Tryz.func93 rfl rfl subT (may1 (by first | (apply May.old; first | with_reducible assumption | assumption) | (apply Sel.may; (repeat (first | with_reducible exact Sel.here | exact Sel.here | apply Sel.there)); done) | (apply may_own; (repeat (first | with_reducible exact Sel.here | exact Sel.here | apply Sel.there)); exact rfl; exact (fun _ _ => trivial); done) | (apply may_ownB; (repeat (first | with_reducible exact Sel.here | exact Sel.here | apply Sel.there)); done) | (apply may_ownI; (repeat (first | with_reducible exact Sel.here | exact Sel.here | apply Sel.there)); assumption; done) | (apply may_ownN; (repeat (first | with_reducible exact Sel.here | exact Sel.here | apply Sel.there)); assumption; done))) (numberR _ _ _ _ _ _ _ (by decide) hs hb) apT ?_)
  intro x7 hJ
  try dsimp only at hJ
  try dsimp only
  refine G.asT rfl rfl ?_
  refine G.nil ?_
  refine G.nThen ?_
  refine G.ret ?_
  exact G.doneX1 (()) (by first | exact trivial | ((try dsimp only); exact trivial)) rfl rfl (by first | rfl | exact int_eq (by omega) | (simp; done)) subT
theorem someS_byt {b : List UInt8} {high : Int} {s : Rs} (hs : okS b s) : someS b (numS b 0 high 3 s).1 s.a (numS b 0 high 3 s).2 = bytS b high s := by
  unfold bytS numS
  by_cases h : s.e = 0
  · rw [if_pos h, if_pos h]
    unfold bytR
    cases hb : bndM b s.a 0 high 3 with
    | bad e q =>
      have he : e ≠ 0 := fun h0 => by subst h0; exact bnd_bad0 (by decide) hb
      show someS b 0 s.a ⟨s.a, e, q⟩ = ([], ⟨s.a, e, q⟩)
      exact if_neg he
    | ok n nx =>
      have hp := hs.2 h
      show someS b n s.a ⟨nx, 0, s.p⟩ = _
      unfold someS
      rw [if_pos rfl]
      by_cases hl : b.length < nx + n
      · rw [if_pos hl]
        simp only [if_pos hl]
        rfl
      rw [if_neg hl]
      simp only [if_neg hl]
      rfl
  rw [if_neg h, if_neg h]
  exact if_neg h
theorem numS_small {b : List UInt8} {low high above : Int} {s : Rs} : (numS b low high above s).1 ≤ 2147483647 := by
  unfold numS
  split
  · cases h : bndM b s.a low high above with
    | ok n nx => exact getM_small (bnd_get h).1
    | bad e q => show 0 ≤ _; omega
  show 0 ≤ _; omega
/-- what an ID's cells are while so many bytes have come -/
def idTo (o : List UInt8) (k : Nat) : List Value := (o.take k).map vByte ++ List.replicate (16 - k) (.int .u8 0)
theorem idTo_len {o : List UInt8} {k : Nat} (hk : k ≤ o.length) (ho : o.length ≤ 16) : (idTo o k).length = 16 := by unfold idTo; simp; omega
theorem idTo_set {o : List UInt8} {k : Nat} (hk : k < o.length) (ho : o.length ≤ 16) : (idTo o k).set k (.int .u8 (o[k].toNat : Int)) = idTo o (k + 1) := by
  unfold idTo
  have e1 : ((o.take k).map vByte).length = k := by simp; omega
  rw [show 16 - k = (16 - (k + 1)) + 1 by omega, List.replicate_succ, List.set_append_right _ _ (by omega), e1, Nat.sub_self, List.set_cons_zero, List.take_succ_eq_append_getElem hk, List.map_append, List.append_assoc]
  rfl
theorem someS_len {b : List UInt8} {s : Rs} : (someS b 16 s.a s).1.length ≤ 16 := by
  unfold someS
  split
  · split
    · exact Nat.zero_le _
    have := subB_length (b := b) (a := s.a) (n := 16) (by omega); show (subB b s.a 16).length ≤ 16; omega
  exact Nat.zero_le _
theorem idTo_end {b : List UInt8} {s : Rs} : idTo (someS b 16 s.a s).1 (someS b 16 s.a s).1.length = (idS b s).1.map vByte ∧ (someS b 16 s.a s).2 = (idS b s).2 := by
  unfold someS idS
  by_cases h : s.e = 0
  · rw [if_pos h, if_pos h]
    unfold idR outI
    by_cases hl : b.length < s.a + 16
    · rw [if_pos hl, if_pos hl, if_pos hl]
      exact ⟨rfl, rfl⟩
    rw [if_neg hl, if_neg hl, if_neg hl]
    have := subB_length (b := b) (a := s.a) (n := 16) (by omega)
    refine ⟨?_, by simp [endB, errN, posN, h]⟩
    show idTo (subB b s.a 16) (subB b s.a 16).length = (subB b s.a 16).map vByte
    unfold idTo
    rw [this, List.take_of_length_le (by omega)]
    simp
  rw [if_neg h, if_neg h]
  exact ⟨rfl, rfl⟩
set_option maxRecDepth 20000 in
set_option maxHeartbeats 4000000 in
theorem bytesR (D : Nat) (v : Value) (b : List UInt8) (s : Rs) (high : Int) (hs : okS b s) (hb : b.length ≤ 1000000000) {Pu : Nat → Prop} : Tr Tryz.prog 132 #[.pointer (some ⟨D, 0, none⟩), .int .i64 high] [slc rByte Pu v b] [blk D 95 [v, .int .i64 (s.a : Int), .int .i64 (s.e : Int), .int .i64 s.p]]
    (TX (fun _ : Value => True) (fun x => x) (fun x => [blk D 95 [v, .int .i64 ((bytS b high s).2.a : Int), .int .i64 ((bytS b high s).2.e : Int), .int .i64 (bytS b high s).2.p], own 5 1 x (bytS b high s).1.length ((bytS b high s).1.map vByte)])) := by
  refine Tr.of (l := [(0, .pointer (some ⟨D, 0, none⟩)), (1, .int .i64 high)]) Tryz.func132 rfl (n := 18) rfl (.cons rfl (.cons rfl .nil)) (fun w0 hro => ?_)
  have hv := ro1 hro
  have hsm := numS_small (b := b) (low := 0) (high := high) (above := 3) (s := s)
  refine G.seq (G.region ?_)
  refine G.asT rfl rfl ?_
  refine G.nil ?_
  refine G.nThen (G.seq (G.region ?_))
  refine G.mvT rfl rfl ?_
  refine G.op rfl (G.val rfl rfl (pv_nilCheck rfl) ?_)
  refine G.op rfl (G.val rfl rfl (pv_fieldAddrK (sz := 0) (k := 1) Tryz.underlying95 rfl kr rfl rfl) ?_)
  refine G.op rfl (G.val rfl rfl (pv_load Tryz.underlying3 rfl rfl celT) ?_)
  refine G.asT rfl rfl ?_
  refine G.nil ?_
  refine G.nThen (G.seq (G.region ?_))
  refine G.mvT rfl rfl ?_
  refine G.mvT rfl rfl ?_
  refine G.op rfl (G.cS rfl rfl rfl rfl Tryz.func59 rfl rfl subT (may1 (by first | (apply May.old; first | with_reducible assumption | assumption) | (apply Sel.may; (repeat (first | with_reducible exact Sel.here | exact Sel.here | apply Sel.there)); done) | (apply may_own; (repeat (first | with_reducible exact Sel.here | exact Sel.here | apply Sel.there)); exact rfl; exact (fun _ _ => trivial); done) | (apply may_ownB; (repeat (first | with_reducible exact Sel.here | exact Sel.here | apply Sel.there)); done) | (apply may_ownI; (repeat (first | with_reducible exact Sel.here | exact Sel.here | apply Sel.there)); assumption; done) | (apply may_ownN; (repeat (first | with_reducible exact Sel.here | exact Sel.here | apply Sel.there)); assumption; done))) (countR _ _ _ _ _ hs hb) apT ?_)
  intro x13 hJ
  try dsimp only at hJ
  try dsimp only
  refine G.asT rfl rfl ?_
  refine G.nil ?_
  refine G.nThen (G.seq (G.region ?_))
  refine G.mvT rfl rfl ?_
  refine G.mvT rfl rfl ?_
  refine G.mvT rfl rfl ?_
  refine G.op rfl (G.cS rfl rfl rfl rfl Tryz.func133 rfl rfl subT (may1 (by first | (apply May.old; first | with_reducible assumption | assumption) | (apply Sel.may; (repeat (first | with_reducible exact Sel.here | exact Sel.here | apply Sel.there)); done) | (apply may_own; (repeat (first | with_reducible exact Sel.here | exact Sel.here | apply Sel.there)); exact rfl; exact (fun _ _ => trivial); done) | (apply may_ownB; (repeat (first | with_reducible exact Sel.here | exact Sel.here | apply Sel.there)); done) | (apply may_ownI; (repeat (first | with_reducible exact Sel.here | exact Sel.here | apply Sel.there)); assumption; done) | (apply may_ownN; (repeat (first | with_reducible exact Sel.here | exact Sel.here | apply Sel.there)); assumption; done))) (someR _ _ _ _ _ _ (by omega) (numS_ok hs (by decide)) hb) apT ?_)
  intro x17 hJ
  try dsimp only at hJ
  try dsimp only
  rw [someS_byt hs]
  refine G.asT rfl rfl ?_
  refine G.nil ?_
  refine G.nThen ?_
  refine G.ret ?_
  exact G.doneX1 (x17) (by first | exact trivial | ((try dsimp only); exact trivial)) rfl rfl (by first | rfl | exact int_eq (by omega) | (simp; done)) subT
set_option maxRecDepth 20000 in
set_option maxHeartbeats 4000000 in
theorem idRR (D : Nat) (v : Value) (b : List UInt8) (s : Rs) (hs : okS b s) (hb : b.length ≤ 1000000000) {Pu : Nat → Prop} : Tr Tryz.prog 95 #[.pointer (some ⟨D, 0, none⟩)] [slc rByte Pu v b] [blk D 95 [v, .int .i64 (s.a : Int), .int .i64 (s.e : Int), .int .i64 s.p]]
    (TX (fun _ : Unit => True) (fun _ => .agg ((idS b s).1.map vByte).toArray) (fun _ => [blk D 95 [v, .int .i64 ((idS b s).2.a : Int), .int .i64 ((idS b s).2.e : Int), .int .i64 (idS b s).2.p]])) := by
  refine Tr.of (l := [(0, .pointer (some ⟨D, 0, none⟩))]) Tryz.func95 rfl (n := 25) rfl (.cons rfl .nil) (fun w0 hro => ?_)
  have hv := ro1 hro
  have hsl := someS_len (b := b) (s := s)
  have hid := idS_len b s
  refine G.seq (G.region ?_)
  refine G.op rfl (G.alloc (z := .agg #[.int .u8 0, .int .u8 0, .int .u8 0, .int .u8 0, .int .u8 0, .int .u8 0, .int .u8 0, .int .u8 0, .int .u8 0, .int .u8 0, .int .u8 0, .int .u8 0, .int .u8 0, .int .u8 0, .int .u8 0, .int .u8 0]) (cs := [.int .u8 0, .int .u8 0, .int .u8 0, .int .u8 0, .int .u8 0, .int .u8 0, .int .u8 0, .int .u8 0, .int .u8 0, .int .u8 0, .int .u8 0, .int .u8 0, .int .u8 0, .int .u8 0, .int .u8 0, .int .u8 0]) rfl kr rfl ?_)
  intro b2
  refine G.nil ?_
  refine G.nThen (G.seq (G.region ?_))
  refine G.op rfl (G.alloc (z := .agg #[.int .u8 0, .int .u8 0, .int .u8 0, .int .u8 0, .int .u8 0, .int .u8 0, .int .u8 0, .int .u8 0, .int .u8 0, .int .u8 0, .int .u8 0, .int .u8 0, .int .u8 0, .int .u8 0, .int .u8 0, .int .u8 0]) (cs := [.int .u8 0, .int .u8 0, .int .u8 0, .int .u8 0, .int .u8 0, .int .u8 0, .int .u8 0, .int .u8 0, .int .u8 0, .int .u8 0, .int .u8 0, .int .u8 0, .int .u8 0, .int .u8 0, .int .u8 0, .int .u8 0]) rfl kr rfl ?_)
  intro b3
  refine G.nil ?_
  refine G.nThen (G.seq (G.region ?_))
  refine G.mvT rfl rfl ?_
  refine G.mvT rfl rfl ?_
  refine G.op rfl (G.val rfl rfl (pv_nilCheck rfl) ?_)
  refine G.op rfl (G.val rfl rfl (pv_fieldAddrK (sz := 0) (k := 1) Tryz.underlying95 rfl kr rfl rfl) ?_)
  refine G.op rfl (G.val rfl rfl (pv_load Tryz.underlying3 rfl rfl celT) ?_)
  refine G.op rfl (G.cS rfl rfl rfl rfl Tryz.func133 rfl rfl subT (may1 (by first | (apply May.old; first | with_reducible assumption | assumption) | (apply Sel.may; (repeat (first | with_reducible exact Sel.here | exact Sel.here | apply Sel.there)); done) | (apply may_own; (repeat (first | with_reducible exact Sel.here | exact Sel.here | apply Sel.there)); exact rfl; exact (fun _ _ => trivial); done) | (apply may_ownB; (repeat (first | with_reducible exact Sel.here | exact Sel.here | apply Sel.there)); done) | (apply may_ownI; (repeat (first | with_reducible exact Sel.here | exact Sel.here | apply Sel.there)); assumption; done) | (apply may_ownN; (repeat (first | with_reducible exact Sel.here | exact Sel.here | apply Sel.there)); assumption; done))) (someR _ _ _ _ 16 s.a (by decide) hs hb) apT ?_)
  intro x11 hJ
  try dsimp only at hJ
  try dsimp only
  generalize ho : (someS b 16 s.a s).1 = o at *
  refine G.ownNews (v := x11) selT (fun ad cap bb hv2 hcap hmax had hnil hnews => ?_)
  subst hv2
  refine G.asT rfl rfl ?_
  refine G.nil ?_
  refine G.nThen (G.seq (G.seq (G.region ?_)))
  refine G.asT rfl rfl ?_
  refine G.nil ?_
  refine G.nThen ?_
  refine G.block ?_
  refine G.loopK (X := Nat) (ts := [2, 3, 4]) (fun k => k ≤ o.length) (fun k => [(5, .int .i64 (k : Int))]) (fun k => [blk b3 66 (idTo o k)]) (fun k => o.length - k) (x0 := 0) (.cons rfl (.cons rfl (.cons rfl .nil))) subT (.cons .nil) apT (by first | exact trivial | ((try dsimp only); exact Nat.zero_le _)) (.consE rfl veqT .nil) (fun k hJ => ?_)
  try dsimp only at hJ
  try dsimp only
  have hkk := hJ
  refine G.seq (G.seq (G.region ?_))
  refine G.mvT rfl rfl ?_
  refine G.mvT rfl rfl ?_
  refine G.op rfl (G.val rfl rfl (pv_lenSl Tryz.underlying39 rfl) ?_)
  refine G.op rfl (G.val rfl rfl (pv_lss rfl rfl) ?_)
  refine G.nil ?_
  refine G.nThen ?_
  refine G.condP rfl (fun h15 => ?_) (fun h15 => ?_)
  · have hlt : k < o.length := by omega
    refine G.skip ?_
    refine G.nThen (G.seq ?_)
    refine G.block ?_
    refine G.region ?_
    refine G.mvT rfl rfl ?_
    refine G.mvT rfl rfl ?_
    refine G.mvT rfl rfl ?_
    refine G.op rfl (G.val rfl rfl (pv_ixSl (sz := 1) (k := k) Tryz.underlying39 Tryz.sizeByte rfl rfl had rfl (by omega)) ?_)
    refine G.op rfl (G.val rfl rfl (pv_load Tryz.underlying5 rfl rfl (fun w hw => (hnews selT w hw).byte k hlt)) ?_)
    refine G.op rfl (G.val rfl rfl (pv_ixA (sz := 1) (k := k) Tryz.underlying66 Tryz.sizeByte rfl rfl rfl (by omega)) ?_)
    refine G.op rfl (G.store (o := k) (T := 66) (b := b3) (cs := idTo o k) Tryz.sizeByte (by simp [ev, Fr.get]) rfl rfl selT (by rw [idTo_len (by omega) (by omega)]; omega) ?_)
    rw [idTo_set hlt (by omega)]
    refine G.nil ?_
    refine G.nBlock ?_
    refine G.nThen (G.region ?_)
    refine G.mvT rfl rfl ?_
    refine G.op rfl (G.val rfl rfl (pv_add64 rfl rfl (by omega)) ?_)
    refine G.asT rfl rfl ?_
    refine G.nil ?_
    exact G.next (k + 1) (by first | exact trivial | ((try dsimp only); exact by omega)) (by (try dsimp only); omega) (.consE rfl veqT (.cons rfl (.cons rfl (.cons rfl .nil)))) subT
  obtain rfl : k = o.length := by omega
  have hfin := idTo_end (b := b) (s := s)
  rw [ho] at hfin
  refine G.exit ?_
  refine G.eThen ?_
  refine G.eThen ?_
  refine G.eBlock ?_
  refine G.nThen (G.seq (G.region ?_))
  rw [hfin.1, hfin.2]
  refine G.op rfl (G.val rfl rfl (pv_loadN (cs := (idS b s).1.map vByte) Tryz.underlying66 rfl (by rw [List.length_map, hid]; kernel_rfl) rfl (blk_range (k := 16) (b := b3) selT (List.take_of_length_le (by rw [List.drop_zero, List.length_map, hid]; exact Nat.le_refl _)))) ?_)
  refine G.op rfl (G.storeN (by rw [List.length_map, hid]; kernel_rfl) rfl rfl (List.all_eq_true.2 (vByte_one _)) selT (by simp [hid]) ?_)
  refine G.nil ?_
  refine G.nThen ?_
  refine G.ret ?_
  exact G.doneG (()) (by first | exact trivial | ((try dsimp only); exact trivial)) rfl (Rv.cellN (cs := (idS b s).1.map vByte) rfl Tryz.underlying66 rfl (by rw [List.length_map, hid]; kernel_rfl) (blk_range (k := 16) (b := b2) selT (by rw [putN_whole _ _ (by rw [List.length_map, hid]; rfl)]; exact List.take_of_length_le (by rw [List.drop_zero, List.length_map, hid]; exact Nat.le_refl _))) Rv.nil) (by first | rfl | exact int_eq (by omega) | (simp; done)) subT
set_option maxRecDepth 20000 in
set_option maxHeartbeats 4000000 in
theorem endR (D : Nat) (v : Value) (b : List UInt8) (s : Rs) {Pu : Nat → Prop} : Tr Tryz.prog 61 #[.pointer (some ⟨D, 0, none⟩)] [blk D 95 [v, .int .i64 (s.a : Int), .int .i64 (s.e : Int), .int .i64 s.p], slc rByte Pu v b] [] (T0 (.agg #[.int .i64 ((endS b s).1 : Int), .int .i64 (endS b s).2])) := by
  refine Tr.of (l := [(0, .pointer (some ⟨D, 0, none⟩))]) Tryz.func61 rfl (n := 30) rfl (.cons rfl .nil) (fun w0 hro => ?_)
  obtain ⟨hr, ho⟩ := ro2 hro
  obtain ⟨ad, cap, bb, off, rfl, -⟩ := Ro.open ho
  refine G.seq (G.region ?_)
  refine G.op rfl (G.alloc (z := .agg #[.int .i64 0, .int .i64 0]) (cs := [.int .i64 0, .int .i64 0]) rfl kr rfl ?_)
  intro b2
  refine G.nil ?_
  refine G.nThen (G.seq (G.seq ?_))
  refine G.drawT (nn := 18) (p := []) (rem := 262143) [0, 1, 2, 4, 8, 16, 32, 64, 192, 320, 576, 64, 2112, 4160, 8256, 16448, 33856, 65600] [0, 1, 2, 4, 8, 16, 32, 64, 192, 320, 576, 64, 2112, 4160, 8256, 16448, 33856, 65600] kr ⟨rfl, by kernel_rfl, by kernel_rfl⟩ subT kr (fun hT1 => ?_)
  refine G.takeT hT1 (i := 0) (rem' := 262142) rfl rfl rfl kr (fun _ _ _ h => h) rfl (pv_move rfl) subT ?_
  refine G.takeT hT1 (i := 1) (rem' := 262140) rfl rfl rfl kr (fun _ _ _ h => h) rfl (pv_nilCheck rfl) subT ?_
  refine G.takeT hT1 (i := 2) (rem' := 262136) rfl rfl rfl kr (fun _ _ _ h => h) rfl (pv_fieldAddrK (sz := 1) (k := 2) Tryz.underlying95 rfl kr rfl rfl) subT ?_
  refine G.takeT hT1 (i := 3) (rem' := 262128) rfl rfl rfl kr (fun _ _ _ h => h) rfl (pv_fieldAddrK (sz := 0) (k := 0) Tryz.underlying42 rfl kr rfl rfl) subT ?_
  refine G.oneT hT1 (i := 4) (rem' := 262112) kr kr ?_
  refine G.turnOp rfl rfl (G.val rfl rfl (pv_load Tryz.underlying30 rfl rfl celT) ?_)
  refine G.back subT ?_
  refine G.takeT hT1 (i := 5) (rem' := 262080) rfl rfl rfl kr (fun _ _ _ h => h) rfl (pv_eql rfl rfl) subT ?_
  refine G.takeT hT1 (i := 6) (rem' := 262016) rfl rfl rfl kr (fun _ _ _ h => h) rfl (pv_move rfl) subT ?_
  refine G.partP (t := 9) rfl (fun h9 => ?_) (fun h9 => ?_)
  · refine G.takeT hT1 (i := 7) (rem' := 261888) rfl rfl rfl kr (fun _ _ _ h => h) rfl (pv_move rfl) subT ?_
    refine G.takeT hT1 (i := 8) (rem' := 261632) rfl rfl rfl kr (fun _ _ _ h => h) rfl (pv_nilCheck rfl) subT ?_
    refine G.takeT hT1 (i := 9) (rem' := 261120) rfl rfl rfl kr (fun _ _ _ h => h) rfl (pv_fieldAddrK (sz := 0) (k := 1) Tryz.underlying95 rfl kr rfl rfl) subT ?_
    refine G.takeT hT1 (i := 10) (rem' := 260096) rfl rfl rfl kr (fun _ _ _ h => h) rfl (pv_load Tryz.underlying3 rfl rfl celT) subT ?_
    refine G.takeT hT1 (i := 11) (rem' := 258048) rfl rfl rfl kr (fun _ _ _ h => h) rfl (pv_move rfl) subT ?_
    refine G.takeT hT1 (i := 12) (rem' := 253952) rfl rfl rfl kr (fun _ _ _ h => h) rfl (pv_nilCheck rfl) subT ?_
    refine G.takeT hT1 (i := 13) (rem' := 245760) rfl rfl rfl kr (fun _ _ _ h => h) rfl (pv_fieldAddrK (sz := 0) (k := 0) Tryz.underlying95 rfl kr rfl rfl) subT ?_
    refine G.oneT hT1 (i := 14) (rem' := 229376) kr kr ?_
    refine G.turnOp rfl rfl (G.val rfl rfl (pv_load Tryz.underlying39 rfl rfl celT) ?_)
    refine G.back subT ?_
    refine G.takeT hT1 (i := 15) (rem' := 196608) rfl rfl rfl kr (fun _ _ _ h => h) rfl (pv_lenSl Tryz.underlying39 rfl) subT ?_
    refine G.takeT hT1 (i := 16) (rem' := 131072) rfl rfl rfl kr (fun _ _ _ h => h) rfl (pv_lss rfl rfl) subT ?_
    refine G.takeT hT1 (i := 17) (rem' := 0) rfl rfl rfl kr (fun _ _ _ h => h) rfl (pv_pick rfl rfl) subT ?_
    refine G.overT hT1 kr ?_
    refine G.nThen ?_
    refine G.condP rfl (fun h20 => ?_) (fun h20 => ?_)
    · refine G.seq (G.region ?_)
      refine G.mvT rfl rfl ?_
      refine G.op rfl (G.val rfl rfl (pv_nilCheck rfl) ?_)
      refine G.op rfl (G.val rfl rfl (pv_fieldAddrK (sz := 0) (k := 1) Tryz.underlying95 rfl kr rfl rfl) ?_)
      refine G.op rfl (G.val rfl rfl (pv_load Tryz.underlying3 rfl rfl celT) ?_)
      refine G.op rfl (G.val rfl rfl (pv_buildSt (z := [.int .i64 0, .int .i64 0]) (pl := [(0, 1), (1, 1)]) Tryz.underlying42 kr kr rfl flT) ?_)
      refine G.op rfl (G.storeN kr rfl rfl allT selT leT ?_)
      refine G.nil ?_
      refine G.nThen ?_
      refine G.ret ?_
      refine G.rThen ?_
      exact G.done0G rfl (Rv.cellN (cs := [_, _]) rfl Tryz.underlying42 rfl kr (by first | exact blk_range (k := 2) selD (by rfl)) Rv.nil) (by unfold endS; first | (rw [if_pos (by omega)]; rfl) | (rw [if_neg (by omega)]; rfl))
    refine G.skip ?_
    refine G.nThen (G.seq (G.region ?_))
    refine G.mvT rfl rfl ?_
    refine G.op rfl (G.val rfl rfl (pv_nilCheck rfl) ?_)
    refine G.op rfl (G.val rfl rfl (pv_fieldAddrK (sz := 1) (k := 2) Tryz.underlying95 rfl kr rfl rfl) ?_)
    refine G.op rfl (G.val rfl rfl (pv_loadN (cs := [_, _]) Tryz.underlying42 rfl kr rfl (by first | exact blk_range (k := 2) selD (by rfl) | exact rng_range (k := 2) selD (by rfl) | exact ro_range (k := 2) (by assumption) (by rfl) | exact ro_rngR (k := 2) (by assumption) (by rfl))) ?_)
    refine G.op rfl (G.storeN kr rfl rfl allT selT leT ?_)
    refine G.nil ?_
    refine G.nThen ?_
    refine G.ret ?_
    exact G.done0G rfl (Rv.cellN (cs := [_, _]) rfl Tryz.underlying42 rfl kr (by first | exact blk_range (k := 2) selD (by rfl)) Rv.nil) (by unfold endS; first | (rw [if_pos (by omega)]; rfl) | (rw [if_neg (by omega)]; rfl))
  refine G.takeFT hT1 (i := 7) (rem' := 261888) rfl rfl rfl kr (fun _ _ _ h => h) rfl subT ?_
  refine G.takeFT hT1 (i := 8) (rem' := 261632) rfl rfl rfl kr (fun _ _ _ h => h) rfl subT ?_
  refine G.takeFT hT1 (i := 9) (rem' := 261120) rfl rfl rfl kr (fun _ _ _ h => h) rfl subT ?_
  refine G.takeFT hT1 (i := 10) (rem' := 260096) rfl rfl rfl kr (fun _ _ _ h => h) rfl subT ?_
  refine G.takeFT hT1 (i := 11) (rem' := 258048) rfl rfl rfl kr (fun _ _ _ h => h) rfl subT ?_
  refine G.takeFT hT1 (i := 12) (rem' := 253952) rfl rfl rfl kr (fun _ _ _ h => h) rfl subT ?_
  refine G.takeFT hT1 (i := 13) (rem' := 245760) rfl rfl rfl kr (fun _ _ _ h => h) rfl subT ?_
  refine G.takeFT hT1 (i := 14) (rem' := 229376) rfl rfl rfl kr (fun _ _ _ h => h) rfl subT ?_
  refine G.takeFT hT1 (i := 15) (rem' := 196608) rfl rfl rfl kr (fun _ _ _ h => h) rfl subT ?_
  refine G.takeFT hT1 (i := 16) (rem' := 131072) rfl rfl rfl kr (fun _ _ _ h => h) rfl subT ?_
  refine G.takeT hT1 (i := 17) (rem' := 0) rfl rfl rfl kr (fun _ _ _ h => h) rfl (pv_pick rfl rfl) subT ?_
  refine G.overT hT1 kr ?_
  refine G.nThen ?_
  refine G.condF rfl (rfl) ?_
  refine G.skip ?_
  refine G.nThen (G.seq (G.region ?_))
  refine G.mvT rfl rfl ?_
  refine G.op rfl (G.val rfl rfl (pv_nilCheck rfl) ?_)
  refine G.op rfl (G.val rfl rfl (pv_fieldAddrK (sz := 1) (k := 2) Tryz.underlying95 rfl kr rfl rfl) ?_)
  refine G.op rfl (G.val rfl rfl (pv_loadN (cs := [_, _]) Tryz.underlying42 rfl kr rfl (by first | exact blk_range (k := 2) selD (by rfl) | exact rng_range (k := 2) selD (by rfl) | exact ro_range (k := 2) (by assumption) (by rfl) | exact ro_rngR (k := 2) (by assumption) (by rfl))) ?_)
  refine G.op rfl (G.storeN kr rfl rfl allT selT leT ?_)
  refine G.nil ?_
  refine G.nThen ?_
  refine G.ret ?_
  exact G.done0G rfl (Rv.cellN (cs := [_, _]) rfl Tryz.underlying42 rfl kr (by first | exact blk_range (k := 2) selD (by rfl)) Rv.nil) (by unfold endS; first | (rw [if_pos (by omega)]; rfl) | (rw [if_neg (by omega)]; rfl))
end Go.Proofs.YtbfpbibkklfnfaaGreat

