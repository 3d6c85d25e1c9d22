/- Contracts of layer 8: where a path is among entries that are in order. Conditions: none. -/
import Derived.Test.YtchgaedidfefoaaTC
set_option linter.unusedVariables false
set_option linter.unusedSimpArgs false
namespace Go.Proofs.Ytchgaedidfefoaa
open Go.RowKit

/-- entries in the order of their paths -/
def SortT (es : List En) : Prop := es.Pairwise fun a b => compareM a.path b.path = -1
/-- how many are ahead of a path -/
def placeK (es : List En) (s : List UInt8) : Nat := es.findIdx fun e => ! decide (compareM e.path s < 0)
def isAt (es : List En) (s : List UInt8) : Prop := ∃ e ∈ es, e.path = s
instance (es : List En) (s : List UInt8) : Decidable (isAt es s) := inferInstanceAs (Decidable (∃ e ∈ es, e.path = s))
theorem cmp_lt_iff (a b : List UInt8) : compareM a b < 0 ↔ compareM a b = -1 := by
  have := compareM_ord.rng a b
  omega
theorem sort_mono {es : List En} (h : SortT es) {s : List UInt8} {q r : Nat} (hr : r < es.length) (hq : q ≤ r) (hc : compareM es[r].path s < 0) : compareM (es[q]'(by omega)).path s < 0 := by
  rcases Nat.lt_or_ge q r with h1 | h1
  · have h2 := (List.pairwise_iff_getElem.1 h) q r (by omega) hr h1
    rw [cmp_lt_iff] at hc ⊢
    exact compareM_ord.trans _ _ _ h2 hc
  · obtain rfl : q = r := by omega
    exact hc
theorem placeK_at {es : List En} {s : List UInt8} {k : Nat} (hk : k ≤ es.length) (h1 : ∀ q (hq : q < es.length), q < k → compareM es[q].path s < 0) (h2 : ∀ q (hq : q < es.length), k ≤ q → ¬ compareM es[q].path s < 0) : placeK es s = k := by
  unfold placeK
  rcases Nat.lt_or_ge k es.length with h | h
  · refine (List.findIdx_eq h).2 ⟨by simpa using h2 k h (Nat.le_refl _), fun j hj => ?_⟩
    simpa using h1 j (by omega) hj
  · obtain rfl : k = es.length := by omega
    exact List.findIdx_eq_length_of_false fun x hx => by
      obtain ⟨j, hj, rfl⟩ := List.getElem_of_mem hx
      simpa using h1 j hj hj
theorem isAt_iff {es : List En} (hs : SortT es) {s : List UInt8} {k : Nat} (h1 : ∀ q (hq : q < es.length), q < k → compareM es[q].path s < 0) (hk : k < es.length) (h2 : ¬ compareM es[k].path s < 0) : isAt es s ↔ compareM es[k].path s = 0 := by
  constructor
  · rintro ⟨e, he, rfl⟩
    obtain ⟨j, hj, rfl⟩ := List.getElem_of_mem he
    have hjj : compareM es[j].path es[j].path = 0 := (compareM_ord.zero _ _).2 rfl
    rcases Nat.lt_or_ge j k with h | h
    · have := h1 j hj h
      omega
    · rcases Nat.lt_or_ge k j with h3 | h3
      · have := (List.pairwise_iff_getElem.1 hs) k j hk hj h3
        omega
      · obtain rfl : j = k := by omega
        exact hjj
  · intro h
    exact ⟨es[k], List.getElem_mem hk, (compareM_ord.zero _ _).1 h⟩
theorem isAt_none {es : List En} {s : List UInt8} (h1 : ∀ q (hq : q < es.length), compareM es[q].path s < 0) : ¬ isAt es s := by
  rintro ⟨e, he, rfl⟩
  obtain ⟨j, hj, rfl⟩ := List.getElem_of_mem he
  have := h1 j hj
  have : compareM es[j].path es[j].path = 0 := (compareM_ord.zero _ _).2 rfl
  omega
theorem search_end {xs : List ET} {s : List UInt8} {i : Nat} (hso : SortT (ens xs)) (hlt : i < xs.length) (hlo : ∀ q (hq : q < xs.length), q < i → compareM xs[q].1.path s < 0) (hhi : ∀ q (hq : q < xs.length), i ≤ q → ¬ compareM xs[q].1.path s < 0) : placeK (ens xs) s = i ∧ (isAt (ens xs) s ↔ compareM xs[i].1.path s = 0) := by
  have hl := ens_length xs
  have g1 : ∀ q (hq : q < (ens xs).length), q < i → compareM (ens xs)[q].path s < 0 := fun q hq hqi => by
    rw [ens_get (by omega)]
    exact hlo q (by omega) hqi
  have g2 : ∀ q (hq : q < (ens xs).length), i ≤ q → ¬ compareM (ens xs)[q].path s < 0 := fun q hq hqi => by
    rw [ens_get (by omega)]
    exact hhi q (by omega) hqi
  have h := isAt_iff hso g1 (show i < (ens xs).length by omega) (g2 i (by omega) (Nat.le_refl _))
  rw [ens_get hlt] at h
  exact ⟨placeK_at (by omega) g1 g2, h⟩
theorem search_none {xs : List ET} {s : List UInt8} (hlo : ∀ q (hq : q < xs.length), q < xs.length → compareM xs[q].1.path s < 0) : placeK (ens xs) s = xs.length ∧ ¬ isAt (ens xs) s := by
  have hl := ens_length xs
  have g1 : ∀ q (hq : q < (ens xs).length), compareM (ens xs)[q].path s < 0 := fun q hq => by
    rw [ens_get (by omega)]
    exact hlo q (by omega) (by omega)
  exact ⟨placeK_at (by omega) (fun q hq _ => g1 q hq) (fun q hq h => by omega), isAt_none g1⟩
/-- paths that lie in memory -/
def PathOk (es : List En) : Prop := ∀ e ∈ es, e.path.length ≤ 9223372036854775807
set_option maxRecDepth 20000 in
set_option maxHeartbeats 4000000 in

theorem place1_tr (e : En) (d : Value) (s : List UInt8) (hl : e.path.length ≤ 9223372036854775807) (hs : s.length ≤ 9223372036854775807) : Tr Try.prog 63 #[.agg #[.string (sB e.path), .int .i64 e.kind, .int .i64 e.mode, d, .string (sB e.to)], .string (sB s)] [] [] (T0 (.int .i64 (compareM e.path s))) := by
  refine Tr.of (l := [(0, .agg #[.string (sB e.path), .int .i64 e.kind, .int .i64 e.mode, d, .string (sB e.to)]), (1, .string (sB s))]) Try.func63 rfl (n := 9) rfl (.cons rfl (.cons rfl .nil)) (fun w0 hro => ?_)
  refine G.seq ?_
  refine G.region ?_
  refine G.op rfl (G.box rfl rfl (cs := [_, _, _, _, _]) rfl ?_)
  intro b2
  refine G.op rfl (G.val rfl rfl (pv_assign rfl) ?_)
  refine G.nil ?_
  refine G.nThen ?_
  refine G.seq ?_
  refine G.region ?_
  refine G.op rfl (G.val rfl rfl (pv_fieldAddrK (sz := 0) (k := 0) Try.underlying31 rfl (by kernel_rfl) rfl rfl) ?_)
  refine G.op rfl (G.val rfl rfl (pv_load Try.underlying9 rfl rfl (by first | exact blk_cell (by (repeat (first | with_reducible exact Sel.here | exact Sel.here | apply Sel.there)); done) (by rfl) | exact rng_cell (by (repeat (first | with_reducible exact Sel.here | exact Sel.here | apply Sel.there)); done) (by rfl) | exact ro_blk (by assumption) (by rfl) | exact ro_rngC (by assumption) (by rfl) | exact ro_int (by assumption) | exact ro_byte (by assumption) | exact ro_str (by assumption) | with_reducible assumption | assumption)) ?_)
  refine G.op rfl (G.val rfl rfl (pv_move rfl) ?_)
  refine G.op rfl (G.cR rfl rfl rfl rfl Try.func17 rfl rfl may0 (compare_tr _ _ (by omega) (by omega)) ?_)
  refine G.op rfl (G.val rfl rfl (pv_assign rfl) ?_)
  refine G.nil ?_
  refine G.nThen ?_
  refine G.ret ?_
  exact G.done0G rfl (Rv.tmp rfl Rv.nil) (by first | rfl | exact int_eq (by omega) | (simp; done))
set_option maxRecDepth 20000 in
set_option maxHeartbeats 4000000 in

theorem search_tr {Ps : Nat → Prop} (v : Value) (xs : List ET) (s : List UInt8) (hs : s.length ≤ 9223372036854775807) (hn : xs.length ≤ 1000000) (hso : SortT (ens xs)) : Tr Try.prog 62 #[v, .string (sB s), .func (.func 63) #[] #[]] [slc rEV Ps v xs] [] (T0 (.tuple #[.int .i64 (placeK (ens xs) s : Int), .bool (decide (isAt (ens xs) s))])) := by
  refine Tr.of (l := [(0, v), (1, .string (sB s)), (2, .func (.func 63) #[] #[])]) Try.func62 rfl (n := 49) rfl (.cons rfl (.cons rfl (.cons rfl .nil))) (fun w0 hro => ?_)
  have hv := ro1 hro
  have hv' := hv
  obtain ⟨av, cv, bv, fv, rfl, hcapv, hmaxv, hnilv, hadv, helv⟩ := Ro.openT hv
  have hel' := ens_length xs
  refine G.seq ?_
  refine G.region ?_
  refine G.op rfl (G.val rfl rfl (pv_assign rfl) ?_)
  refine G.op rfl (G.val rfl rfl (pv_assign rfl) ?_)
  refine G.nil ?_
  refine G.nThen ?_
  refine G.seq ?_
  refine G.region ?_
  refine G.op rfl (G.val rfl rfl (pv_move rfl) ?_)
  refine G.op rfl (G.val rfl rfl (pv_lenSl Try.underlying22 rfl) ?_)
  refine G.op rfl (G.val rfl rfl (pv_assign rfl) ?_)
  refine G.nil ?_
  refine G.nThen ?_
  refine G.seq ?_
  refine G.region ?_
  refine G.op rfl (G.val rfl rfl (pv_move rfl) ?_)
  refine G.op rfl (G.val rfl rfl (pv_assign rfl) ?_)
  refine G.op rfl (G.val rfl rfl (pv_assign rfl) ?_)
  refine G.nil ?_
  refine G.nThen ?_
  refine G.seq ?_
  refine G.block ?_
  refine G.loopK (X := Nat × Nat) (ts := [0, 1, 2, 6, 7, 8]) (fun st => st.1 ≤ st.2 ∧ st.2 ≤ xs.length ∧ (∀ q (hq : q < xs.length), q < st.1 → compareM xs[q].1.path s < 0) ∧ (∀ q (hq : q < xs.length), st.2 ≤ q → ¬ compareM xs[q].1.path s < 0)) (fun st => [(9, .int .i64 (st.1 : Int)), (10, .int .i64 (st.2 : Int))]) (fun st => []) (fun st => st.2 - st.1) (x0 := (0, xs.length)) (.cons rfl (.cons rfl (.cons rfl (.cons rfl (.cons rfl (.cons rfl .nil)))))) (by repeat (first | exact Sub.nil | (apply Sub.cons; (repeat (first | with_reducible exact Sel.here | exact Sel.here | apply Sel.there))))) (.cons (.cons .nil)) (by repeat (first | exact Ap.nil | apply Ap.cons)) (by first | exact trivial | ((try dsimp only); exact ⟨Nat.zero_le _, Nat.le_refl _, fun q _ h => absurd h (by omega), fun q h1 h2 => absurd h1 (by omega)⟩)) (.consE rfl (by first | rfl | exact int_eq (by first | omega | (dsimp only; omega)) | exact congrArg _ (by omega)) (.consE rfl (by first | rfl | exact int_eq (by first | omega | (dsimp only; omega)) | exact congrArg _ (by omega)) .nil)) (fun st hJ => ?_)
  obtain ⟨i, j⟩ := st
  try dsimp only at hJ
  try dsimp only
  obtain ⟨hij, hj, hlo, hhi⟩ := hJ
  refine G.seq ?_
  refine G.seq ?_
  refine G.region ?_
  refine G.op rfl (G.val rfl rfl (pv_move rfl) ?_)
  refine G.op rfl (G.val rfl rfl (pv_move rfl) ?_)
  refine G.op rfl (G.val rfl rfl (pv_lss rfl rfl) ?_)
  refine G.nil ?_
  refine G.nThen ?_
  refine G.condP rfl (fun h17 => ?_) (fun h17 => ?_)
  · have hlt : (i + j) / 2 < xs.length := by omega
    have hEv := helv ((i + j) / 2) hlt
    have hRv := Ro.evRng hEv
    have hDv := Ro.evDat hEv
    obtain ⟨hk1v, hk2v, hlpv, hldv, hltv⟩ := Ro.evOk hEv
    refine G.skip ?_
    refine G.nThen ?_
    refine G.block ?_
    refine G.seq ?_
    refine G.region ?_
    refine G.op rfl (G.val rfl rfl (pv_move rfl) ?_)
    refine G.op rfl (G.val rfl rfl (pv_move rfl) ?_)
    refine G.op rfl (G.val rfl rfl (pv_add64 rfl rfl (by omega)) ?_)
    refine G.op rfl (G.val rfl rfl ((pv_conv (by rw [Try.underlying3]; rfl) Try.underlying88 rfl).int (b := ((i + j : Nat) : Int)) (by rw [IntWalk.u64_in _ (by omega)]; omega)) ?_)
    refine G.op rfl (G.val rfl rfl ((pv_shr (s := 1) rfl rfl (by decide)).int (b := (((i + j) / 2 : Nat) : Int)) (by omega)) ?_)
    refine G.op rfl (G.val rfl rfl ((pv_conv (by rw [Try.underlying88]; rfl) Try.underlying3 rfl).int (b := (((i + j) / 2 : Nat) : Int)) (by rw [IntWalk.i64_in _ (by omega)])) ?_)
    refine G.op rfl (G.val rfl rfl (pv_assign rfl) ?_)
    refine G.nil ?_
    refine G.nThen ?_
    refine G.seq ?_
    refine G.region ?_
    refine G.op rfl (G.val rfl rfl (pv_move rfl) ?_)
    refine G.op rfl (G.val rfl rfl (pv_move rfl) ?_)
    refine G.op rfl (G.val rfl rfl (pv_move rfl) ?_)
    refine G.op rfl (G.val rfl rfl (pv_ixSl (sz := 5) Try.underlying22 (by kernel_rfl) rfl rfl (by first | with_reducible assumption | assumption | exact fun _ => rfl) rfl (by omega)) ?_)
    refine G.op rfl (G.val rfl rfl (pv_loadN (cs := [_, _, _, _, _]) Try.underlying31 rfl (by kernel_rfl) rfl (by first | exact blk_range (k := 5) (by (repeat (first | with_reducible exact Sel.here | exact Sel.here | apply Sel.there)); done) (by rfl) | exact ro_rng0 (by assumption) | exact rng_range (k := 5) (by (repeat (first | with_reducible exact Sel.here | exact Sel.here | apply Sel.there)); done) (by rfl) | exact ro_range (k := 5) (by assumption) (by rfl) | exact ro_rngR (k := 5) (by assumption) (by rfl))) ?_)
    refine G.op rfl (G.val rfl rfl (pv_move rfl) ?_)
    refine G.op rfl (G.cRv rfl rfl rfl rfl rfl Try.func63 rfl rfl (by rfl) may0 (place1_tr xs[(i + j) / 2].1 _ s (by omega) hs) ?_)
    refine G.op rfl (G.val rfl rfl (pv_lss rfl rfl) ?_)
    refine G.nil ?_
    refine G.nThen ?_
    refine G.condP rfl (fun h31 => ?_) (fun h31 => ?_)
    · have hneg := h31
      refine G.region ?_
      refine G.op rfl (G.val rfl rfl (pv_move rfl) ?_)
      refine G.op rfl (G.val rfl rfl (pv_add64 rfl rfl (by omega)) ?_)
      refine G.op rfl (G.val rfl rfl (pv_assign rfl) ?_)
      refine G.nil ?_
      refine G.nBlock ?_
      exact G.next (((i + j) / 2 + 1, j)) (by first | exact trivial | ((try dsimp only); exact ⟨by omega, hj, fun q hq hqi => by have := sort_mono hso (r := (i + j) / 2) (q := q) (s := s) (by omega) (by omega) (by rw [ens_get hlt]; exact hneg); rwa [ens_get hq] at this, hhi⟩)) (by (try dsimp only); omega) (.consE rfl (by first | rfl | exact int_eq (by first | omega | (dsimp only; omega)) | exact congrArg _ (by omega)) (.consE rfl (by first | rfl | exact int_eq (by first | omega | (dsimp only; omega)) | exact congrArg _ (by omega)) (.cons rfl (.cons rfl (.cons rfl (.cons rfl (.cons rfl (.cons rfl .nil)))))))) (by repeat (first | exact Sub.nil | (apply Sub.cons; (repeat (first | with_reducible exact Sel.here | exact Sel.here | apply Sel.there)))))
    · have hneg := h31
      refine G.region ?_
      refine G.op rfl (G.val rfl rfl (pv_move rfl) ?_)
      refine G.op rfl (G.val rfl rfl (pv_assign rfl) ?_)
      refine G.nil ?_
      refine G.nBlock ?_
      exact G.next ((i, (i + j) / 2)) (by first | exact trivial | ((try dsimp only); exact ⟨by omega, by omega, hlo, fun q hq hqi h => hneg (by have := sort_mono hso (r := q) (q := (i + j) / 2) (s := s) (by omega) hqi (by rw [ens_get hq]; exact h); rwa [ens_get hlt] at this)⟩)) (by (try dsimp only); omega) (.consE rfl (by first | rfl | exact int_eq (by first | omega | (dsimp only; omega)) | exact congrArg _ (by omega)) (.consE rfl (by first | rfl | exact int_eq (by first | omega | (dsimp only; omega)) | exact congrArg _ (by omega)) (.cons rfl (.cons rfl (.cons rfl (.cons rfl (.cons rfl (.cons rfl .nil)))))))) (by repeat (first | exact Sub.nil | (apply Sub.cons; (repeat (first | with_reducible exact Sel.here | exact Sel.here | apply Sel.there)))))
  · refine G.exit ?_
    refine G.eThen ?_
    refine G.eThen ?_
    refine G.eBlock ?_
    refine G.nThen ?_
    refine G.seq ?_
    refine G.region ?_
    refine G.op rfl (G.val rfl rfl (pv_move rfl) ?_)
    refine G.op rfl (G.val rfl rfl (pv_move rfl) ?_)
    refine G.op rfl (G.val rfl rfl (pv_move rfl) ?_)
    refine G.op rfl (G.val rfl rfl (pv_lss rfl rfl) ?_)
    refine G.op rfl (G.val rfl rfl (pv_move rfl) ?_)
    refine G.partP (t := 39) rfl (fun h39 => ?_) (fun h39 => ?_)
    · obtain rfl : i = j := by omega
      have hlt : i < xs.length := by omega
      have hEv := helv i hlt
      have hRv := Ro.evRng hEv
      have hDv := Ro.evDat hEv
      obtain ⟨hk1v, hk2v, hlpv, hldv, hltv⟩ := Ro.evOk hEv
      refine G.want rfl rfl rfl (G.val rfl rfl (pv_move rfl) ?_)
      refine G.want rfl rfl rfl (G.val rfl rfl (pv_move rfl) ?_)
      refine G.want rfl rfl rfl (G.val rfl rfl (pv_move rfl) ?_)
      refine G.want rfl rfl rfl (G.val rfl rfl (pv_ixSl (sz := 5) Try.underlying22 (by kernel_rfl) rfl rfl (by first | with_reducible assumption | assumption | exact fun _ => rfl) rfl (by omega)) ?_)
      refine G.want rfl rfl rfl (G.val rfl rfl (pv_loadN (cs := [_, _, _, _, _]) Try.underlying31 rfl (by kernel_rfl) rfl (by first | exact blk_range (k := 5) (by (repeat (first | with_reducible exact Sel.here | exact Sel.here | apply Sel.there)); done) (by rfl) | exact ro_rng0 (by assumption) | exact rng_range (k := 5) (by (repeat (first | with_reducible exact Sel.here | exact Sel.here | apply Sel.there)); done) (by rfl) | exact ro_range (k := 5) (by assumption) (by rfl) | exact ro_rngR (k := 5) (by assumption) (by rfl))) ?_)
      refine G.want rfl rfl rfl (G.val rfl rfl (pv_move rfl) ?_)
      refine G.want rfl rfl rfl (G.cRv rfl rfl rfl rfl rfl Try.func63 rfl rfl (by rfl) may0 (place1_tr xs[i].1 _ s (by omega) hs) ?_)
      refine G.want rfl rfl rfl (G.val rfl rfl (pv_eql rfl rfl) ?_)
      refine G.op rfl (G.val rfl rfl (pv_pick rfl rfl) ?_)
      refine G.op rfl (G.val rfl rfl (pv_assign rfl) ?_)
      refine G.op rfl (G.val rfl rfl (pv_assign rfl) ?_)
      refine G.nil ?_
      refine G.nThen ?_
      refine G.ret ?_
      obtain ⟨hp, hi⟩ := search_end hso hlt hlo hhi
      exact G.done0G rfl (Rv.tmp rfl (Rv.tmp rfl Rv.nil)) (by rw [hp]; simp [retV2, hi])
    · refine G.pass rfl rfl rfl rfl rfl rfl ?_
      refine G.pass rfl rfl rfl rfl rfl rfl ?_
      refine G.pass rfl rfl rfl rfl rfl rfl ?_
      refine G.pass rfl rfl rfl rfl rfl rfl ?_
      refine G.pass rfl rfl rfl rfl rfl rfl ?_
      refine G.pass rfl rfl rfl rfl rfl rfl ?_
      refine G.pass rfl rfl rfl rfl rfl rfl ?_
      refine G.pass rfl rfl rfl rfl rfl rfl ?_
      refine G.op rfl (G.val rfl rfl (pv_pick rfl rfl) ?_)
      refine G.op rfl (G.val rfl rfl (pv_assign rfl) ?_)
      refine G.op rfl (G.val rfl rfl (pv_assign rfl) ?_)
      refine G.nil ?_
      refine G.nThen ?_
      refine G.ret ?_
      obtain rfl : i = xs.length := by omega
      obtain ⟨hp, hi⟩ := search_none (s := s) hlo
      exact G.done0G rfl (Rv.tmp rfl (Rv.tmp rfl Rv.nil)) (by rw [hp, decide_eq_false hi]; rfl)
set_option maxRecDepth 20000 in
set_option maxHeartbeats 4000000 in

theorem place_tr {Ps : Nat → Prop} (v : Value) (xs : List ET) (s : List UInt8) (hn : xs.length ≤ 1000000) (hso : SortT (ens xs)) (hs : s.length ≤ 9223372036854775807) : Tr Try.prog 40 #[v, .string (sB s)] [slc rEV Ps v xs] [] (T0 (.tuple #[.int .i64 (placeK (ens xs) s : Int), .bool (decide (isAt (ens xs) s))])) := by
  refine Tr.of (l := [(0, v), (1, .string (sB s))]) Try.func40 rfl (n := 11) rfl (.cons rfl (.cons rfl .nil)) (fun w0 hro => ?_)
  have hv := ro1 hro
  refine G.seq ?_
  refine G.region ?_
  refine G.op rfl (G.val rfl rfl (pv_assign rfl) ?_)
  refine G.op rfl (G.val rfl rfl (pv_assign rfl) ?_)
  refine G.nil ?_
  refine G.nThen ?_
  refine G.seq ?_
  refine G.region ?_
  refine G.op rfl (G.val rfl rfl (pv_move rfl) ?_)
  refine G.op rfl (G.val rfl rfl (pv_move rfl) ?_)
  refine G.op rfl (G.cR rfl rfl rfl rfl Try.func62 rfl rfl (may1 (by first | (apply May.old; first | with_reducible assumption | assumption) | (apply Sel.may; (repeat (first | with_reducible exact Sel.here | exact Sel.here | apply Sel.there)); done) | (apply may_own; (repeat (first | with_reducible exact Sel.here | exact Sel.here | apply Sel.there)); exact rfl; exact (fun _ _ => trivial); done) | (apply may_ownB; (repeat (first | with_reducible exact Sel.here | exact Sel.here | apply Sel.there)); done) | (apply may_tree; (repeat (first | with_reducible exact Sel.here | exact Sel.here | apply Sel.there)); (repeat (first | with_reducible exact Sel.here | exact Sel.here | apply Sel.there)); assumption; done))) (search_tr _ xs s hs hn hso) ?_)
  refine G.op rfl (G.val rfl rfl (pv_extract rfl rfl) ?_)
  refine G.op rfl (G.val rfl rfl (pv_extract rfl rfl) ?_)
  refine G.op rfl (G.val rfl rfl (pv_assign rfl) ?_)
  refine G.op rfl (G.val rfl rfl (pv_assign rfl) ?_)
  refine G.nil ?_
  refine G.nThen ?_
  refine G.ret ?_
  exact G.done0G rfl (Rv.tmp rfl (Rv.tmp rfl Rv.nil)) (by first | rfl | exact int_eq (by omega) | (simp; done))
end Go.Proofs.Ytchgaedidfefoaa
