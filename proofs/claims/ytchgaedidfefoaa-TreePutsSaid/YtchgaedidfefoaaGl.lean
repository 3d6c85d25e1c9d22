/- Merged of TV, TW, TX. Conditions: none. -/
import Derived.Test.YtchgaedidfefoaaGk
import Derived.Test.YtchgaedidfefoaaGc
/- Contracts of layer 8: a tree that is written over. Conditions: none. -/
set_option linter.unusedVariables false
set_option linter.unusedSimpArgs false
namespace Go.Proofs.Ytchgaedidfefoaa
open Go.RowKit

section
variable {P : Program} {n : Nat} {w0 : World} {S : Nat → Prop} {l : Fr} {m : List Ck} {K : Act → World → Prop}
theorem G.datCons {e : TypeId} {x : ET} {xs : List ET} {r : List Ck} (h1 : Sel m (datC e (x :: xs)) r) (h : G n w0 S l (ownB e x.2 x.1.data :: datC e xs :: r) K) : G n w0 S l m K := G.mem (fun w hw => by
  have h2 : Hp w0 S w ((ownB e x.2 x.1.data :: xs.map fun x => ownB e x.2 x.1.data) ++ r) := Hp.unstar (hw.sel h1)
  have h3 : Hp w0 S w ((xs.map fun x => ownB e x.2 x.1.data) ++ (ownB e x.2 x.1.data :: r)) := h2.perm (by
    rw [List.cons_append]
    exact List.perm_middle.symm)
  exact (Hp.star h3).perm (List.Perm.swap ..)) h
end
def overX : ET := (⟨[111, 118, 101, 114], -7, 0, [], []⟩, .slice none 0 0)
theorem drop_cons {α : Type} {zs : List α} {i : Nat} (h : i < zs.length) : zs.drop i = zs[i] :: zs.drop (i + 1) := List.drop_eq_getElem_cons h
set_option maxRecDepth 20000 in
set_option maxHeartbeats 4000000 in

theorem overT_tr (v : Value) (zs : List ET) (hn : zs.length ≤ 1000) : Tr Try.prog 34 #[v] [] [ownT 31 v zs, datC 5 zs] (TX (fun _ : Unit => True) (fun _ => .tuple #[]) (fun _ => [])) := by
  refine Tr.of (l := [(0, v)]) Try.func34 rfl (n := 19) rfl (.cons rfl .nil) (fun w0 hro => ?_)
  rw [show ownT 31 v zs = own 31 5 v zs.length (flatT zs) from rfl]
  refine G.ownOpen (v := v) (by repeat (first | with_reducible exact Sel.here | exact Sel.here | apply Sel.there)) (fun a3 c3 h3 hk3 hm3 => ?_)
  subst h3
  refine G.seq ?_
  refine G.region ?_
  refine G.op rfl (G.val rfl rfl (pv_assign rfl) ?_)
  refine G.nil ?_
  refine G.nThen ?_
  refine G.block ?_
  refine G.loopK (X := Nat × (List ET)) (ts := [0]) (fun st => st.1 ≤ zs.length ∧ (st.2.length = zs.length ∧ ∀ q (h1 : q < st.2.length) (h2 : q < zs.length), st.1 ≤ q → st.2[q] = zs[q])) (fun st => [(2, .int .i64 (st.1 : Int))]) (fun st => [own 31 5 (.slice a3 zs.length c3) zs.length (flatT st.2), datC 5 (zs.drop st.1)]) (fun st => zs.length - st.1) (x0 := (0, zs)) (.cons rfl .nil) (by repeat (first | exact Sub.nil | (apply Sub.cons; (repeat (first | with_reducible exact Sel.here | exact Sel.here | apply Sel.there))))) (.cons .nil) (by repeat (first | exact Ap.nil | apply Ap.cons)) (by first | exact trivial | ((try dsimp only); exact ⟨Nat.zero_le _, ⟨rfl, fun q _ _ _ => rfl⟩⟩)) (.consE rfl (by first | rfl | exact int_eq (by first | omega | (dsimp only; omega)) | exact congrArg _ (by omega)) .nil) (fun st hJ => ?_)
  obtain ⟨i, ws⟩ := st
  try dsimp only at hJ
  try dsimp only
  obtain ⟨hki, hJ⟩ := hJ
  obtain ⟨hwl, hwz0⟩ := hJ
  refine G.seq ?_
  refine G.seq ?_
  refine G.region ?_
  refine G.op rfl (G.val rfl rfl (pv_move rfl) ?_)
  refine G.op rfl (G.val rfl rfl (pv_move rfl) ?_)
  refine G.op rfl (G.val rfl rfl (pv_lenSl Try.underlying22 rfl) ?_)
  refine G.op rfl (G.val rfl rfl (pv_lss rfl rfl) ?_)
  refine G.nil ?_
  refine G.nThen ?_
  refine G.condP rfl (fun h6 => ?_) (fun h6 => ?_)
  · have hlt : i < zs.length := by omega
    have hlt' : i < ws.length := by omega
    have hwz : ws[i] = zs[i] := hwz0 i hlt' hlt (Nat.le_refl _)
    rw [drop_cons hlt]
    refine G.datCons (by repeat (first | with_reducible exact Sel.here | exact Sel.here | apply Sel.there)) ?_
    refine G.ownTo (v := .slice a3 zs.length c3) (by repeat (first | with_reducible exact Sel.here | exact Sel.here | apply Sel.there)) (by omega) (fun g cap sp hvv hkc hmx hl hlen => ?_)
    injection hvv with e1 e2 e3
    subst e1
    subst e3
    refine G.skip ?_
    refine G.nThen ?_
    refine G.seq ?_
    refine G.block ?_
    refine G.seq ?_
    refine G.region ?_
    refine G.op rfl (G.val rfl rfl (pv_move rfl) ?_)
    refine G.op rfl (G.val rfl rfl (pv_move rfl) ?_)
    refine G.op rfl (G.val rfl rfl (pv_ixSl (sz := 5) (k := i) Try.underlying22 (by kernel_rfl) rfl rfl (fun _ => rfl) (by omega) (by omega)) ?_)
    refine G.op rfl (G.val rfl rfl (pv_fieldAddrK (sz := 0) (k := 3) Try.underlying31 rfl (by kernel_rfl) rfl rfl) ?_)
    refine G.op rfl (G.val rfl rfl (pv_load (v := zs[i].2) Try.underlying29 rfl rfl (blk_cell (by (repeat (first | with_reducible exact Sel.here | exact Sel.here | apply Sel.there)); done) (by rw [← hwz]; exact flat_dat hlt'))) ?_)
    refine G.op rfl (G.cS rfl rfl rfl rfl Try.func24 rfl rfl (by repeat (first | exact Sub.nil | (apply Sub.cons; (repeat (first | with_reducible exact Sel.here | exact Sel.here | apply Sel.there))))) may0 (overB_tr _ _) (by repeat (first | exact Ap.nil | apply Ap.cons)) ?_)
    intro x14 hJ
    try dsimp only at hJ
    try dsimp only
    refine G.nil ?_
    refine G.nThen ?_
    refine G.region ?_
    refine G.op rfl (G.val rfl rfl (pv_move rfl) ?_)
    refine G.op rfl (G.val rfl rfl (pv_move rfl) ?_)
    refine G.op rfl (G.val rfl rfl (pv_buildSt (z := [.string ⟨#[]⟩, .int .i64 0, .int .i64 0, .slice none 0 0, .string ⟨#[]⟩]) (pl := [(0, 1), (1, 1), (2, 1), (3, 1), (4, 1)]) Try.underlying31 (by kernel_rfl) (by kernel_rfl) rfl (by repeat (first | exact Fl.nil | (apply Fl.cons; exact rfl; (first | exact cells_of (by first | rfl | with_reducible assumption) | exact rfl); exact rfl; exact rfl; repeat (first | exact Sn.nil | (apply Sn.cons; repeat (first | exact St.zero | apply St.succ))))))) ?_)
    refine G.op rfl (G.val rfl rfl (pv_ixSl (sz := 5) (k := i) Try.underlying22 (by kernel_rfl) rfl rfl (fun _ => rfl) (by omega) (by omega)) ?_)
    refine G.op rfl (G.storeN (vs := evC overX) (by kernel_rfl) rfl rfl (by rfl) (by repeat (first | with_reducible exact Sel.here | exact Sel.here | apply Sel.there)) (by rw [evC_length, List.length_append, flatT_length]; omega) ?_)
    rw [flat_put hlt']
    refine G.nil ?_
    refine G.nBlock ?_
    refine G.nThen ?_
    refine G.region ?_
    refine G.op rfl (G.val rfl rfl (pv_move rfl) ?_)
    refine G.op rfl (G.val rfl rfl (pv_add64 rfl rfl (by omega)) ?_)
    refine G.op rfl (G.val rfl rfl (pv_assign rfl) ?_)
    refine G.nil ?_
    refine G.ownOf (sz := 5) (k := zs.length) (cs := flatT (ws.set i overX)) (sp := sp) (by repeat (first | with_reducible exact Sel.here | exact Sel.here | apply Sel.there)) (by rw [flatT_length, List.length_set, hwl]) (by omega) hmx (by rw [List.length_append, flatT_length, List.length_set]; rw [List.length_append, flatT_length] at hl; exact hl) ?_
    exact G.next ((i + 1, ws.set i overX)) (by first | exact trivial | ((try dsimp only); exact ⟨by omega, ⟨by rw [List.length_set, hwl], fun q h1 h2 hq => by rw [List.getElem_set_ne (by omega)]; exact hwz0 q (by rw [List.length_set] at h1; exact h1) h2 (by omega)⟩⟩)) (by (try dsimp only); omega) (.consE rfl (by first | rfl | exact int_eq (by first | omega | (dsimp only; omega)) | exact congrArg _ (by omega)) (.cons rfl .nil)) (by repeat (first | exact Sub.nil | (apply Sub.cons; (repeat (first | with_reducible exact Sel.here | exact Sel.here | apply Sel.there)))))
  · refine G.exit ?_
    refine G.eThen ?_
    refine G.eThen ?_
    refine G.eBlock ?_
    exact G.doneXE (()) (by first | exact trivial | ((try dsimp only); exact trivial)) rfl rfl (by repeat (first | exact Sub.nil | (apply Sub.cons; (repeat (first | with_reducible exact Sel.here | exact Sel.here | apply Sel.there)))))
end Go.Proofs.Ytchgaedidfefoaa

/- Contracts of layer 8: the reference's Put. Conditions: none. -/
set_option linter.unusedVariables false
set_option linter.unusedSimpArgs false
namespace Go.Proofs.Ytchgaedidfefoaa
open Go.RowKit

/-- what is behind a path's place -/
def restL (es : List En) (s : List UInt8) : List En := if isAt es s then es.drop (placeK es s + 1) else es.drop (placeK es s)
/-- a tree with an entry laid into it, whether it may be or not -/
def putL (es : List En) (e : En) : List En := es.take (placeK es e.path) ++ [e] ++ restL es e.path
def putM (es : List En) (e : En) : List En × Int := if (checkT es).1 = 0 then (if (checkT (putL es e)).1 = 0 then (putL es e, 0) else ([], (checkT (putL es e)).1)) else ([], (checkT es).1)
theorem put_bad {es : List En} {e : En} (h : ¬ (checkT es).1 = 0) : putM es e = ([], (checkT es).1) := if_neg h
theorem put_bad2 {es : List En} {e : En} (h : (checkT es).1 = 0) (h2 : ¬ (checkT (putL es e)).1 = 0) : putM es e = ([], (checkT (putL es e)).1) := by unfold putM; rw [if_pos h, if_neg h2]
theorem put_ok {es : List En} {e : En} (h : (checkT es).1 = 0) (h2 : (checkT (putL es e)).1 = 0) : putM es e = (putL es e, 0) := by unfold putM; rw [if_pos h, if_pos h2]
def goP (xs : List ET) (s : List UInt8) (i : Nat) : Prop := ∃ h : i < xs.length, compareM (xs[i]'h).1.path s < 0
instance (xs : List ET) (s : List UInt8) (i : Nat) : Decidable (goP xs s i) := if h : i < xs.length then decidable_of_iff (compareM (xs[i]'h).1.path s < 0) ⟨fun k => ⟨h, k⟩, fun ⟨_, k⟩ => k⟩ else .isFalse fun ⟨k, _⟩ => h k
theorem place_end {xs : List ET} {s : List UInt8} {i : Nat} (hs : SortT (ens xs)) (hi : i ≤ xs.length) (h1 : ∀ q (hq : q < xs.length), q < i → compareM xs[q].1.path s < 0) (h2 : ¬ goP xs s i) : placeK (ens xs) s = i := by
  have hl := ens_length xs
  refine placeK_at (by omega) (fun q hq hqi => by rw [ens_get (by omega)]; exact h1 q (by omega) hqi) fun q hq hqi h => h2 ⟨by omega, ?_⟩
  have := sort_mono hs hq hqi h
  rwa [ens_get (by omega)] at this
theorem ens_drop (xs : List ET) (i : Nat) : ens (xs.drop i) = (ens xs).drop i := by simp [ens, List.map_drop]
theorem rest_at {xs : List ET} {s : List UInt8} {i : Nat} (hp : placeK (ens xs) s = i) (h0 : 0 < (xs.drop i).length) (he : (xs.drop i)[0].1.path = s) : ens (xs.drop (i + 1)) = restL (ens xs) s := by
  have hi : i < xs.length := by rw [List.length_drop] at h0; omega
  have ha : isAt (ens xs) s := ⟨xs[i].1, by rw [← ens_get hi]; exact List.getElem_mem _, by rw [List.getElem_drop] at he; exact he⟩
  unfold restL
  rw [if_pos ha, hp, ens_drop]
theorem rest_no {xs : List ET} {s : List UInt8} {i : Nat} (hs : SortT (ens xs)) (hp : placeK (ens xs) s = i) (he : ∀ h : 0 < (xs.drop i).length, ¬ (xs.drop i)[0].1.path = s) : ens (xs.drop i) = restL (ens xs) s := by
  have hn : ¬ isAt (ens xs) s := fun ha => by
    obtain ⟨hk, hkp⟩ := placeK_spec hs ha
    have hl := ens_length xs
    simp only [hp] at hk hkp
    have h0 : 0 < (xs.drop i).length := by rw [List.length_drop]; omega
    refine he h0 ?_
    rw [List.getElem_drop]
    rw [ens_get (by omega)] at hkp
    exact hkp
  unfold restL
  rw [if_neg hn, hp, ens_drop]
theorem ok_list {us : List ET} {l : List En} (h : ens us = l) (hl : ∀ x ∈ l, EnOk x) : ∀ x ∈ us, EnOk x.1 := fun x hx => hl _ (by rw [← h]; exact List.mem_map.2 ⟨x, hx, rfl⟩)
theorem ok_ensl {xs : List ET} (h : ∀ x ∈ xs, EnOk x.1) : ∀ x ∈ ens xs, EnOk x := fun x hx => by
  obtain ⟨y, hy, rfl⟩ := List.mem_map.1 hx
  exact h y hy
theorem take_snoc_ens {xs : List ET} {p : Nat} (h : p < xs.length) : (ens xs).take (p + 1) = (ens xs).take p ++ [xs[p].1] := by
  rw [List.take_succ_eq_append_getElem (by rw [ens_length]; exact h), ens_get h]
set_option maxRecDepth 20000 in
set_option maxHeartbeats 4000000 in

theorem putR_tr {Ps Pd : Nat → Prop} (v : Value) (xs : List ET) (e : En) (d : Value) (hok : EnOk e) : Tr Try.prog 31 #[v, .agg #[.string (sB e.path), .int .i64 e.kind, .int .i64 e.mode, d, .string (sB e.to)]] [slc rEV Ps v xs, slc rByte Pd d e.data] []
    (TX (fun z : Value × List ET => ens z.2 = (putM (ens xs) e).1) (fun z => .tuple #[z.1, .int .i64 (putM (ens xs) e).2]) (fun z => [ownT 31 z.1 z.2, datC 5 z.2])) := by
  refine Tr.of (l := [(0, v), (1, .agg #[.string (sB e.path), .int .i64 e.kind, .int .i64 e.mode, d, .string (sB e.to)])]) Try.func31 rfl (n := 96) rfl (.cons rfl (.cons rfl .nil)) (fun w0 hro => ?_)
  obtain ⟨hv0, hd0⟩ := ro2 hro
  have hv := hv0
  have hv' := hv
  obtain ⟨av, cv, bv, fv, rfl, hcapv, hmaxv, hnilv, hadv, helv⟩ := Ro.openT hv
  have hlx := ens_length xs
  have hd1 := Ro.one1 hd0
  obtain ⟨hok1, hok2, hok3, hok4, hok5⟩ := id hok
  refine G.seq ?_
  refine G.region ?_
  refine G.op rfl (G.box rfl rfl (cs := [_, _, _, _, _]) rfl ?_)
  intro b3
  refine G.op rfl (G.val rfl rfl (pv_assign rfl) ?_)
  refine G.op rfl (G.val rfl rfl (pv_assign rfl) ?_)
  refine G.nil ?_
  refine G.nThen ?_
  refine G.seq ?_
  refine G.region ?_
  refine G.op rfl (G.val rfl rfl (pv_move rfl) ?_)
  refine G.op rfl (G.cR rfl rfl rfl rfl Try.func19 rfl rfl (may1 (by first | (apply May.old; first | with_reducible assumption | assumption) | (apply Sel.may; (repeat (first | with_reducible exact Sel.here | exact Sel.here | apply Sel.there)); done) | (apply may_own; (repeat (first | with_reducible exact Sel.here | exact Sel.here | apply Sel.there)); exact rfl; exact (fun _ _ => trivial); done) | (apply may_ownB; (repeat (first | with_reducible exact Sel.here | exact Sel.here | apply Sel.there)); done) | (apply may_tree; (repeat (first | with_reducible exact Sel.here | exact Sel.here | apply Sel.there)); (repeat (first | with_reducible exact Sel.here | exact Sel.here | apply Sel.there)); assumption; done))) (tcheckR_tr _ _) ?_)
  refine G.op rfl (G.val rfl rfl (pv_move rfl) ?_)
  refine G.op rfl (G.val rfl rfl (pv_extract rfl rfl) ?_)
  refine G.op rfl (G.val rfl rfl (pv_extract rfl rfl) ?_)
  refine G.op rfl (G.val rfl rfl (pv_assign rfl) ?_)
  refine G.op rfl (G.val rfl rfl (pv_assign rfl) ?_)
  refine G.nil ?_
  refine G.nThen ?_
  refine G.seq ?_
  refine G.seq ?_
  refine G.region ?_
  refine G.op rfl (G.val rfl rfl (pv_move rfl) ?_)
  refine G.op rfl (G.val rfl rfl (pv_neq rfl rfl) ?_)
  refine G.nil ?_
  refine G.nThen ?_
  refine G.condP rfl (fun h19 => ?_) (fun h19 => ?_)
  · have hbad := put_bad (e := e) h19
    refine G.seq ?_
    refine G.region ?_
    refine G.op rfl (G.val rfl rfl (pv_move rfl) ?_)
    refine G.op rfl (G.val rfl rfl (pv_assign rfl) ?_)
    refine G.op rfl (G.val rfl rfl (pv_assign rfl) ?_)
    refine G.nil ?_
    refine G.nThen ?_
    refine G.ret ?_
    refine G.rThen ?_
    refine G.datNil 5 ?_
    refine G.ownNil 31 5 ?_
    exact G.doneX2 ((.slice none 0 0, [])) (by first | exact trivial | ((try dsimp only); exact (by rw [hbad]; rfl))) rfl rfl rfl (by rw [hbad]; first | done | rfl) (by repeat (first | exact Sub.nil | (apply Sub.cons; (repeat (first | with_reducible exact Sel.here | exact Sel.here | apply Sel.there)))))
  · have hx0 : (checkT (ens xs)).1 = 0 := Decidable.of_not_not (by assumption)
    obtain ⟨hx1, hx2, -⟩ := checkT_zero hx0
    have hsx := sort_all hx2
    refine G.skip ?_
    refine G.nThen ?_
    refine G.seq ?_
    refine G.region ?_
    refine G.op rfl (G.val rfl rfl (pv_assign rfl) ?_)
    refine G.nil ?_
    refine G.nThen ?_
    refine G.seq ?_
    refine G.block ?_
    refine G.loopK (X := Nat) (ts := [0, 3, 4, 5, 6]) (fun i => i ≤ xs.length ∧ (∀ q (hq : q < xs.length), q < i → compareM xs[q].1.path e.path < 0)) (fun i => [(8, .int .i64 (i : Int))]) (fun i => []) (fun i => xs.length - i) (x0 := 0) (.cons rfl (.cons rfl (.cons rfl (.cons rfl (.cons rfl .nil))))) (by repeat (first | exact Sub.nil | (apply Sub.cons; (repeat (first | with_reducible exact Sel.here | exact Sel.here | apply Sel.there))))) (.cons .nil) (by repeat (first | exact Ap.nil | apply Ap.cons)) (by first | exact trivial | ((try dsimp only); exact ⟨Nat.zero_le _, fun q _ h => absurd h (by omega)⟩)) (.consE rfl (by first | rfl | exact int_eq (by first | omega | (dsimp only; omega)) | exact congrArg _ (by omega)) .nil) (fun i hJ => ?_)
    try dsimp only at hJ
    try dsimp only
    obtain ⟨hki, hJ⟩ := hJ
    have hJ0 := hJ
    refine G.seq ?_
    refine G.seq ?_
    refine G.cutK (X := Unit) (ts := [0, 3, 4, 5, 6, 8]) (p := []) (fun _ => True) (fun _ => [(35, .bool (decide (goP xs e.path i)))]) (fun _ => []) (.cons rfl (.cons rfl (.cons rfl (.cons rfl (.cons rfl (.cons rfl .nil)))))) (by repeat (first | exact Sub.nil | (apply Sub.cons; (repeat (first | with_reducible exact Sel.here | exact Sel.here | apply Sel.there))))) (.cons .nil) (by repeat (first | exact Ap.nil | apply Ap.cons)) ?_ ?_
    · refine G.drawT (nn := 15) (p := []) (rem := 32767) [0, 0, 2, 5, 8, 16, 16, 112, 144, 272, 16, 1040, 2576, 4112, 8208] [0, 0, 2, 5, 8, 16, 16, 112, 144, 272, 16, 1040, 2576, 4112, 8208] (by kernel_rfl) ⟨rfl, by kernel_rfl, by kernel_rfl⟩ (by repeat (first | exact Sub.nil | (apply Sub.cons; (repeat (first | with_reducible exact Sel.here | exact Sel.here | apply Sel.there))))) (by kernel_rfl) (fun hT5 => ?_)
      refine G.takeT hT5 (i := 0) (rem' := 32766) rfl rfl rfl (by kernel_rfl) (fun _ _ _ h => h) rfl (pv_move rfl) (by repeat (first | exact Sub.nil | (apply Sub.cons; (repeat (first | with_reducible exact Sel.here | exact Sel.here | apply Sel.there))))) ?_
      refine G.takeT hT5 (i := 1) (rem' := 32764) rfl rfl rfl (by kernel_rfl) (fun _ _ _ h => h) rfl (pv_move rfl) (by repeat (first | exact Sub.nil | (apply Sub.cons; (repeat (first | with_reducible exact Sel.here | exact Sel.here | apply Sel.there))))) ?_
      refine G.takeT hT5 (i := 2) (rem' := 32760) rfl rfl rfl (by kernel_rfl) (fun _ _ _ h => h) rfl (pv_lenSl Try.underlying22 rfl) (by repeat (first | exact Sub.nil | (apply Sub.cons; (repeat (first | with_reducible exact Sel.here | exact Sel.here | apply Sel.there))))) ?_
      refine G.takeT hT5 (i := 3) (rem' := 32752) rfl rfl rfl (by kernel_rfl) (fun _ _ _ h => h) rfl (pv_lss rfl rfl) (by repeat (first | exact Sub.nil | (apply Sub.cons; (repeat (first | with_reducible exact Sel.here | exact Sel.here | apply Sel.there))))) ?_
      refine G.takeT hT5 (i := 4) (rem' := 32736) rfl rfl rfl (by kernel_rfl) (fun _ _ _ h => h) rfl (pv_move rfl) (by repeat (first | exact Sub.nil | (apply Sub.cons; (repeat (first | with_reducible exact Sel.here | exact Sel.here | apply Sel.there))))) ?_
      refine G.partP (t := 25) rfl (fun h25 => ?_) (fun h25 => ?_)
      · have hlt : i < xs.length := by omega
        have hEv := helv i hlt
        have hRv := Ro.evRng hEv
        have hDv := Ro.evDat hEv
        obtain ⟨hk1v, hk2v, hlpv, hldv, hltv⟩ := Ro.evOk hEv
        have hCv := Ro.one1 hDv
        refine G.takeT hT5 (i := 5) (rem' := 32704) rfl rfl rfl (by kernel_rfl) (fun _ _ _ h => h) rfl (pv_move rfl) (by repeat (first | exact Sub.nil | (apply Sub.cons; (repeat (first | with_reducible exact Sel.here | exact Sel.here | apply Sel.there))))) ?_
        refine G.takeT hT5 (i := 6) (rem' := 32640) rfl rfl rfl (by kernel_rfl) (fun _ _ _ h => h) rfl (pv_move rfl) (by repeat (first | exact Sub.nil | (apply Sub.cons; (repeat (first | with_reducible exact Sel.here | exact Sel.here | apply Sel.there))))) ?_
        refine G.takeT hT5 (i := 7) (rem' := 32512) rfl rfl rfl (by kernel_rfl) (fun _ _ _ h => h) rfl (pv_ixSl (sz := 5) Try.underlying22 (by kernel_rfl) rfl rfl (by first | with_reducible assumption | assumption | exact fun _ => rfl) rfl (by omega)) (by repeat (first | exact Sub.nil | (apply Sub.cons; (repeat (first | with_reducible exact Sel.here | exact Sel.here | apply Sel.there))))) ?_
        refine G.takeT hT5 (i := 8) (rem' := 32256) rfl rfl rfl (by kernel_rfl) (fun _ _ _ h => h) rfl (pv_fieldAddrK (sz := 0) (k := 0) Try.underlying31 rfl (by kernel_rfl) rfl rfl) (by repeat (first | exact Sub.nil | (apply Sub.cons; (repeat (first | with_reducible exact Sel.here | exact Sel.here | apply Sel.there))))) ?_
        refine G.takeT hT5 (i := 9) (rem' := 31744) rfl rfl rfl (by kernel_rfl) (fun _ _ _ h => h) rfl (pv_load Try.underlying9 rfl rfl (by first | exact blk_cell (by (repeat (first | with_reducible exact Sel.here | exact Sel.here | apply Sel.there)); done) (by rfl) | exact rng_cell (by (repeat (first | with_reducible exact Sel.here | exact Sel.here | apply Sel.there)); done) (by rfl) | exact ro_blk (by assumption) (by rfl) | exact ro_rngC (by assumption) (by rfl) | exact ro_int (by assumption) | exact ro_byte (by assumption) | exact ro_str (by assumption) | with_reducible assumption | assumption)) (by repeat (first | exact Sub.nil | (apply Sub.cons; (repeat (first | with_reducible exact Sel.here | exact Sel.here | apply Sel.there))))) ?_
        refine G.takeT hT5 (i := 10) (rem' := 30720) rfl rfl rfl (by kernel_rfl) (fun _ _ _ h => h) rfl (pv_fieldAddrK (sz := 0) (k := 0) Try.underlying31 rfl (by kernel_rfl) rfl rfl) (by repeat (first | exact Sub.nil | (apply Sub.cons; (repeat (first | with_reducible exact Sel.here | exact Sel.here | apply Sel.there))))) ?_
        refine G.oneT hT5 (i := 11) (rem' := 28672) (by kernel_rfl) (by kernel_rfl) ?_
        refine G.turnOp rfl rfl (G.val rfl rfl (pv_load Try.underlying9 rfl rfl (by first | exact blk_cell (by (repeat (first | with_reducible exact Sel.here | exact Sel.here | apply Sel.there)); done) (by rfl) | exact rng_cell (by (repeat (first | with_reducible exact Sel.here | exact Sel.here | apply Sel.there)); done) (by rfl) | exact ro_blk (by assumption) (by rfl) | exact ro_rngC (by assumption) (by rfl) | exact ro_int (by assumption) | exact ro_byte (by assumption) | exact ro_str (by assumption) | with_reducible assumption | assumption)) ?_)
        refine G.back (by repeat (first | exact Sub.nil | (apply Sub.cons; (repeat (first | with_reducible exact Sel.here | exact Sel.here | apply Sel.there))))) ?_
        refine G.oneT hT5 (i := 12) (rem' := 24576) (by kernel_rfl) (by kernel_rfl) ?_
        refine G.turnOp rfl rfl (G.cR rfl rfl rfl rfl Try.func49 rfl rfl may0 (compareR_tr _ _ (by omega) (by omega)) ?_)
        refine G.back (by repeat (first | exact Sub.nil | (apply Sub.cons; (repeat (first | with_reducible exact Sel.here | exact Sel.here | apply Sel.there))))) ?_
        refine G.takeT hT5 (i := 13) (rem' := 16384) rfl rfl rfl (by kernel_rfl) (fun _ _ _ h => h) rfl (pv_lss rfl rfl) (by repeat (first | exact Sub.nil | (apply Sub.cons; (repeat (first | with_reducible exact Sel.here | exact Sel.here | apply Sel.there))))) ?_
        refine G.takeT hT5 (i := 14) (rem' := 0) rfl rfl rfl (by kernel_rfl) (fun _ _ _ h => h) rfl (pv_pick rfl rfl) (by repeat (first | exact Sub.nil | (apply Sub.cons; (repeat (first | with_reducible exact Sel.here | exact Sel.here | apply Sel.there))))) ?_
        refine G.overT hT5 (by kernel_rfl) ?_
        exact G.meet (()) (by first | exact trivial | ((try dsimp only); exact trivial)) (.consE rfl (by first | exact dec_e ⟨fun h => ⟨hlt, h⟩, fun ⟨_, h⟩ => h⟩ | exact dec_f (fun ⟨h, _⟩ => absurd h (by omega))) (.cons rfl (.cons rfl (.cons rfl (.cons rfl (.cons rfl (.cons rfl .nil))))))) (by repeat (first | exact Sub.nil | (apply Sub.cons; (repeat (first | with_reducible exact Sel.here | exact Sel.here | apply Sel.there)))))
      · refine G.takeFT hT5 (i := 5) (rem' := 32704) rfl rfl rfl (by kernel_rfl) (fun _ _ _ h => h) rfl (by repeat (first | exact Sub.nil | (apply Sub.cons; (repeat (first | with_reducible exact Sel.here | exact Sel.here | apply Sel.there))))) ?_
        refine G.takeFT hT5 (i := 6) (rem' := 32640) rfl rfl rfl (by kernel_rfl) (fun _ _ _ h => h) rfl (by repeat (first | exact Sub.nil | (apply Sub.cons; (repeat (first | with_reducible exact Sel.here | exact Sel.here | apply Sel.there))))) ?_
        refine G.takeFT hT5 (i := 7) (rem' := 32512) rfl rfl rfl (by kernel_rfl) (fun _ _ _ h => h) rfl (by repeat (first | exact Sub.nil | (apply Sub.cons; (repeat (first | with_reducible exact Sel.here | exact Sel.here | apply Sel.there))))) ?_
        refine G.takeFT hT5 (i := 8) (rem' := 32256) rfl rfl rfl (by kernel_rfl) (fun _ _ _ h => h) rfl (by repeat (first | exact Sub.nil | (apply Sub.cons; (repeat (first | with_reducible exact Sel.here | exact Sel.here | apply Sel.there))))) ?_
        refine G.takeFT hT5 (i := 9) (rem' := 31744) rfl rfl rfl (by kernel_rfl) (fun _ _ _ h => h) rfl (by repeat (first | exact Sub.nil | (apply Sub.cons; (repeat (first | with_reducible exact Sel.here | exact Sel.here | apply Sel.there))))) ?_
        refine G.takeFT hT5 (i := 10) (rem' := 30720) rfl rfl rfl (by kernel_rfl) (fun _ _ _ h => h) rfl (by repeat (first | exact Sub.nil | (apply Sub.cons; (repeat (first | with_reducible exact Sel.here | exact Sel.here | apply Sel.there))))) ?_
        refine G.takeFT hT5 (i := 11) (rem' := 28672) rfl rfl rfl (by kernel_rfl) (fun _ _ _ h => h) rfl (by repeat (first | exact Sub.nil | (apply Sub.cons; (repeat (first | with_reducible exact Sel.here | exact Sel.here | apply Sel.there))))) ?_
        refine G.takeFT hT5 (i := 12) (rem' := 24576) rfl rfl rfl (by kernel_rfl) (fun _ _ _ h => h) rfl (by repeat (first | exact Sub.nil | (apply Sub.cons; (repeat (first | with_reducible exact Sel.here | exact Sel.here | apply Sel.there))))) ?_
        refine G.takeFT hT5 (i := 13) (rem' := 16384) rfl rfl rfl (by kernel_rfl) (fun _ _ _ h => h) rfl (by repeat (first | exact Sub.nil | (apply Sub.cons; (repeat (first | with_reducible exact Sel.here | exact Sel.here | apply Sel.there))))) ?_
        refine G.takeT hT5 (i := 14) (rem' := 0) rfl rfl rfl (by kernel_rfl) (fun _ _ _ h => h) rfl (pv_pick rfl rfl) (by repeat (first | exact Sub.nil | (apply Sub.cons; (repeat (first | with_reducible exact Sel.here | exact Sel.here | apply Sel.there))))) ?_
        refine G.overT hT5 (by kernel_rfl) ?_
        exact G.meet (()) (by first | exact trivial | ((try dsimp only); exact trivial)) (.consE rfl (by first | exact dec_e ⟨fun h => ⟨hlt, h⟩, fun ⟨_, h⟩ => h⟩ | exact dec_f (fun ⟨h, _⟩ => absurd h (by omega))) (.cons rfl (.cons rfl (.cons rfl (.cons rfl (.cons rfl (.cons rfl .nil))))))) (by repeat (first | exact Sub.nil | (apply Sub.cons; (repeat (first | with_reducible exact Sel.here | exact Sel.here | apply Sel.there)))))
    · intro _ hJ
      try dsimp only at hJ
      try dsimp only
      refine G.condP rfl (fun h35 => ?_) (fun h35 => ?_)
      · obtain ⟨hlt, hcm⟩ := h35
        refine G.skip ?_
        refine G.nThen ?_
        refine G.block ?_
        refine G.region ?_
        refine G.op rfl (G.val rfl rfl (pv_move rfl) ?_)
        refine G.op rfl (G.val rfl rfl (pv_add64 rfl rfl (by omega)) ?_)
        refine G.op rfl (G.val rfl rfl (pv_assign rfl) ?_)
        refine G.nil ?_
        refine G.nBlock ?_
        exact G.next (i + 1) (by first | exact trivial | ((try dsimp only); exact ⟨by omega, fun q hq hqi => by rcases Nat.lt_or_ge q i with h1 | h1; exact hJ0 q hq h1; obtain rfl : q = i := (by omega); exact hcm⟩)) (by (try dsimp only); omega) (.consE rfl (by first | rfl | exact int_eq (by first | omega | (dsimp only; omega)) | exact congrArg _ (by omega)) (.cons rfl (.cons rfl (.cons rfl (.cons rfl (.cons rfl .nil)))))) (by repeat (first | exact Sub.nil | (apply Sub.cons; (repeat (first | with_reducible exact Sel.here | exact Sel.here | apply Sel.there)))))
      · have hpk := place_end hsx (by omega) hJ0 h35
        refine G.exit ?_
        refine G.eThen ?_
        refine G.eThen ?_
        refine G.eBlock ?_
        refine G.nThen ?_
        refine G.seq ?_
        refine G.region ?_
        refine G.op rfl (G.val rfl rfl (pv_move rfl) ?_)
        refine G.op rfl (G.val rfl rfl (pv_move rfl) ?_)
        refine G.op rfl (G.val rfl rfl (pv_subL (sz := 5) (k := i) Try.underlying22 (by kernel_rfl) rfl rfl rfl (by omega)) ?_)
        have hSub := Ro.subT hv' (i := i) (j := xs.length) (by omega) (Nat.le_refl _)
        rw [List.take_length] at hSub
        obtain ⟨vr, hvr⟩ : ∃ vr, subV 5 av i xs.length cv = vr := ⟨_, rfl⟩
        rw [show rEV.sz = 5 from rfl, hvr] at hSub
        rw [hvr]
        have hr := hSub
        have hr' := hr
        obtain ⟨ar, cr, br, fr, rfl, hcapr, hmaxr, hnilr, hadr, helr⟩ := Ro.openT hr
        have e1 : (xs.drop i).length = xs.length - i := List.length_drop
        refine G.op rfl (G.val rfl rfl (pv_assign rfl) ?_)
        refine G.nil ?_
        refine G.nThen ?_
        refine G.seq ?_
        refine G.cutK (X := Value × (List ET)) (ts := [0, 3, 4, 5, 6, 8]) (p := []) (fun st => Ro w0 (U []) (slc rEV Ps st.1 st.2) ∧ ens st.2 = restL (ens xs) e.path ∧ st.2.length ≤ 200) (fun st => [(9, st.1)]) (fun st => []) (.cons rfl (.cons rfl (.cons rfl (.cons rfl (.cons rfl (.cons rfl .nil)))))) (by repeat (first | exact Sub.nil | (apply Sub.cons; (repeat (first | with_reducible exact Sel.here | exact Sel.here | apply Sel.there))))) (.cons .nil) (by repeat (first | exact Ap.nil | apply Ap.cons)) ?_ ?_
        · refine G.seq ?_
          refine G.drawT (nn := 12) (p := []) (rem := 4095) [0, 1, 2, 4, 8, 24, 40, 72, 8, 264, 648, 1032] [0, 1, 2, 4, 8, 24, 40, 72, 8, 264, 648, 1032] (by kernel_rfl) ⟨rfl, by kernel_rfl, by kernel_rfl⟩ (by repeat (first | exact Sub.nil | (apply Sub.cons; (repeat (first | with_reducible exact Sel.here | exact Sel.here | apply Sel.there))))) (by kernel_rfl) (fun hT8 => ?_)
          refine G.takeT hT8 (i := 0) (rem' := 4094) rfl rfl rfl (by kernel_rfl) (fun _ _ _ h => h) rfl (pv_move rfl) (by repeat (first | exact Sub.nil | (apply Sub.cons; (repeat (first | with_reducible exact Sel.here | exact Sel.here | apply Sel.there))))) ?_
          refine G.takeT hT8 (i := 1) (rem' := 4092) rfl rfl rfl (by kernel_rfl) (fun _ _ _ h => h) rfl (pv_lenSl Try.underlying22 rfl) (by repeat (first | exact Sub.nil | (apply Sub.cons; (repeat (first | with_reducible exact Sel.here | exact Sel.here | apply Sel.there))))) ?_
          refine G.takeT hT8 (i := 2) (rem' := 4088) rfl rfl rfl (by kernel_rfl) (fun _ _ _ h => h) rfl (pv_gtr rfl rfl) (by repeat (first | exact Sub.nil | (apply Sub.cons; (repeat (first | with_reducible exact Sel.here | exact Sel.here | apply Sel.there))))) ?_
          refine G.takeT hT8 (i := 3) (rem' := 4080) rfl rfl rfl (by kernel_rfl) (fun _ _ _ h => h) rfl (pv_move rfl) (by repeat (first | exact Sub.nil | (apply Sub.cons; (repeat (first | with_reducible exact Sel.here | exact Sel.here | apply Sel.there))))) ?_
          refine G.partP (t := 44) rfl (fun h44 => ?_) (fun h44 => ?_)
          · have hlr0 : 0 < (xs.drop i).length := by omega
            have hEr := helr 0 hlr0
            have hRr := Ro.evRng hEr
            have hDr := Ro.evDat hEr
            obtain ⟨hk1r, hk2r, hlpr, hldr, hltr⟩ := Ro.evOk hEr
            have hCr := Ro.one1 hDr
            refine G.takeT hT8 (i := 4) (rem' := 4064) rfl rfl rfl (by kernel_rfl) (fun _ _ _ h => h) rfl (pv_move rfl) (by repeat (first | exact Sub.nil | (apply Sub.cons; (repeat (first | with_reducible exact Sel.here | exact Sel.here | apply Sel.there))))) ?_
            refine G.takeT hT8 (i := 5) (rem' := 4032) rfl rfl rfl (by kernel_rfl) (fun _ _ _ h => h) rfl (pv_ixSl (sz := 5) Try.underlying22 (by kernel_rfl) rfl rfl (by first | with_reducible assumption | assumption | exact fun _ => rfl) rfl (by omega)) (by repeat (first | exact Sub.nil | (apply Sub.cons; (repeat (first | with_reducible exact Sel.here | exact Sel.here | apply Sel.there))))) ?_
            refine G.takeT hT8 (i := 6) (rem' := 3968) rfl rfl rfl (by kernel_rfl) (fun _ _ _ h => h) rfl (pv_fieldAddrK (sz := 0) (k := 0) Try.underlying31 rfl (by kernel_rfl) rfl rfl) (by repeat (first | exact Sub.nil | (apply Sub.cons; (repeat (first | with_reducible exact Sel.here | exact Sel.here | apply Sel.there))))) ?_
            refine G.takeT hT8 (i := 7) (rem' := 3840) rfl rfl rfl (by kernel_rfl) (fun _ _ _ h => h) rfl (pv_load Try.underlying9 rfl rfl (by first | exact blk_cell (by (repeat (first | with_reducible exact Sel.here | exact Sel.here | apply Sel.there)); done) (by rfl) | exact rng_cell (by (repeat (first | with_reducible exact Sel.here | exact Sel.here | apply Sel.there)); done) (by rfl) | exact ro_blk (by assumption) (by rfl) | exact ro_rngC (by assumption) (by rfl) | exact ro_int (by assumption) | exact ro_byte (by assumption) | exact ro_str (by assumption) | with_reducible assumption | assumption)) (by repeat (first | exact Sub.nil | (apply Sub.cons; (repeat (first | with_reducible exact Sel.here | exact Sel.here | apply Sel.there))))) ?_
            refine G.takeT hT8 (i := 8) (rem' := 3584) rfl rfl rfl (by kernel_rfl) (fun _ _ _ h => h) rfl (pv_fieldAddrK (sz := 0) (k := 0) Try.underlying31 rfl (by kernel_rfl) rfl rfl) (by repeat (first | exact Sub.nil | (apply Sub.cons; (repeat (first | with_reducible exact Sel.here | exact Sel.here | apply Sel.there))))) ?_
            refine G.oneT hT8 (i := 9) (rem' := 3072) (by kernel_rfl) (by kernel_rfl) ?_
            refine G.turnOp rfl rfl (G.val rfl rfl (pv_load Try.underlying9 rfl rfl (by first | exact blk_cell (by (repeat (first | with_reducible exact Sel.here | exact Sel.here | apply Sel.there)); done) (by rfl) | exact rng_cell (by (repeat (first | with_reducible exact Sel.here | exact Sel.here | apply Sel.there)); done) (by rfl) | exact ro_blk (by assumption) (by rfl) | exact ro_rngC (by assumption) (by rfl) | exact ro_int (by assumption) | exact ro_byte (by assumption) | exact ro_str (by assumption) | with_reducible assumption | assumption)) ?_)
            refine G.back (by repeat (first | exact Sub.nil | (apply Sub.cons; (repeat (first | with_reducible exact Sel.here | exact Sel.here | apply Sel.there))))) ?_
            refine G.takeT hT8 (i := 10) (rem' := 2048) rfl rfl rfl (by kernel_rfl) (fun _ _ _ h => h) rfl (pv_eqlS rfl rfl) (by repeat (first | exact Sub.nil | (apply Sub.cons; (repeat (first | with_reducible exact Sel.here | exact Sel.here | apply Sel.there))))) ?_
            refine G.takeT hT8 (i := 11) (rem' := 0) rfl rfl rfl (by kernel_rfl) (fun _ _ _ h => h) rfl (pv_pick rfl rfl) (by repeat (first | exact Sub.nil | (apply Sub.cons; (repeat (first | with_reducible exact Sel.here | exact Sel.here | apply Sel.there))))) ?_
            refine G.overT hT8 (by kernel_rfl) ?_
            refine G.nThen ?_
            refine G.condP rfl (fun h52 => ?_) (fun h52 => ?_)
            · have hSr := Ro.subT hr' (i := 1) (j := (xs.drop i).length) (by omega) (Nat.le_refl _)
              rw [List.take_length, List.drop_drop] at hSr
              refine G.region ?_
              refine G.op rfl (G.val rfl rfl (pv_move rfl) ?_)
              refine G.op rfl (G.val rfl rfl (pv_subL (sz := 5) (k := 1) Try.underlying22 (by kernel_rfl) rfl rfl rfl (by omega)) ?_)
              refine G.op rfl (G.val rfl rfl (pv_assign rfl) ?_)
              refine G.nil ?_
              exact G.meet ((subV 5 ar 1 (xs.drop i).length cr, xs.drop (i + 1))) (by first | exact trivial | ((try dsimp only); exact ⟨hSr, rest_at hpk hlr0 (by assumption), by rw [List.length_drop]; omega⟩)) (.consE rfl (by first | rfl | exact int_eq (by first | omega | (dsimp only; omega)) | exact congrArg _ (by omega)) (.cons rfl (.cons rfl (.cons rfl (.cons rfl (.cons rfl (.cons rfl .nil))))))) (by repeat (first | exact Sub.nil | (apply Sub.cons; (repeat (first | with_reducible exact Sel.here | exact Sel.here | apply Sel.there)))))
            · refine G.skip ?_
              exact G.meet ((.slice ar (xs.drop i).length cr, xs.drop i)) (by first | exact trivial | ((try dsimp only); exact ⟨hr', rest_no hsx hpk (fun _ => by assumption), by omega⟩)) (.consE rfl (by first | rfl | exact int_eq (by first | omega | (dsimp only; omega)) | exact congrArg _ (by omega)) (.cons rfl (.cons rfl (.cons rfl (.cons rfl (.cons rfl (.cons rfl .nil))))))) (by repeat (first | exact Sub.nil | (apply Sub.cons; (repeat (first | with_reducible exact Sel.here | exact Sel.here | apply Sel.there)))))
          · refine G.takeFT hT8 (i := 4) (rem' := 4064) rfl rfl rfl (by kernel_rfl) (fun _ _ _ h => h) rfl (by repeat (first | exact Sub.nil | (apply Sub.cons; (repeat (first | with_reducible exact Sel.here | exact Sel.here | apply Sel.there))))) ?_
            refine G.takeFT hT8 (i := 5) (rem' := 4032) rfl rfl rfl (by kernel_rfl) (fun _ _ _ h => h) rfl (by repeat (first | exact Sub.nil | (apply Sub.cons; (repeat (first | with_reducible exact Sel.here | exact Sel.here | apply Sel.there))))) ?_
            refine G.takeFT hT8 (i := 6) (rem' := 3968) rfl rfl rfl (by kernel_rfl) (fun _ _ _ h => h) rfl (by repeat (first | exact Sub.nil | (apply Sub.cons; (repeat (first | with_reducible exact Sel.here | exact Sel.here | apply Sel.there))))) ?_
            refine G.takeFT hT8 (i := 7) (rem' := 3840) rfl rfl rfl (by kernel_rfl) (fun _ _ _ h => h) rfl (by repeat (first | exact Sub.nil | (apply Sub.cons; (repeat (first | with_reducible exact Sel.here | exact Sel.here | apply Sel.there))))) ?_
            refine G.takeFT hT8 (i := 8) (rem' := 3584) rfl rfl rfl (by kernel_rfl) (fun _ _ _ h => h) rfl (by repeat (first | exact Sub.nil | (apply Sub.cons; (repeat (first | with_reducible exact Sel.here | exact Sel.here | apply Sel.there))))) ?_
            refine G.takeFT hT8 (i := 9) (rem' := 3072) rfl rfl rfl (by kernel_rfl) (fun _ _ _ h => h) rfl (by repeat (first | exact Sub.nil | (apply Sub.cons; (repeat (first | with_reducible exact Sel.here | exact Sel.here | apply Sel.there))))) ?_
            refine G.takeFT hT8 (i := 10) (rem' := 2048) rfl rfl rfl (by kernel_rfl) (fun _ _ _ h => h) rfl (by repeat (first | exact Sub.nil | (apply Sub.cons; (repeat (first | with_reducible exact Sel.here | exact Sel.here | apply Sel.there))))) ?_
            refine G.takeT hT8 (i := 11) (rem' := 0) rfl rfl rfl (by kernel_rfl) (fun _ _ _ h => h) rfl (pv_pick rfl rfl) (by repeat (first | exact Sub.nil | (apply Sub.cons; (repeat (first | with_reducible exact Sel.here | exact Sel.here | apply Sel.there))))) ?_
            refine G.overT hT8 (by kernel_rfl) ?_
            refine G.nThen ?_
            refine G.condF rfl (rfl) ?_
            refine G.skip ?_
            exact G.meet ((.slice ar (xs.drop i).length cr, xs.drop i)) (by first | exact trivial | ((try dsimp only); exact ⟨hr', rest_no hsx hpk (fun h => absurd h (by omega)), by omega⟩)) (.consE rfl (by first | rfl | exact int_eq (by first | omega | (dsimp only; omega)) | exact congrArg _ (by omega)) (.cons rfl (.cons rfl (.cons rfl (.cons rfl (.cons rfl (.cons rfl .nil))))))) (by repeat (first | exact Sub.nil | (apply Sub.cons; (repeat (first | with_reducible exact Sel.here | exact Sel.here | apply Sel.there)))))
        · intro st hJ
          obtain ⟨vt, rs⟩ := st
          try dsimp only at hJ
          try dsimp only
          obtain ⟨hvt, hrs, hrl⟩ := hJ
          have hk := hvt
          have hk' := hk
          obtain ⟨ak, ck, bk, fk, rfl, hcapk, hmaxk, hnilk, hadk, helk⟩ := Ro.openT hk
          refine G.seq ?_
          refine G.region ?_
          refine G.op rfl (G.val rfl rfl (pv_assign rfl) ?_)
          refine G.nil ?_
          refine G.nThen ?_
          refine G.seq ?_
          refine G.seq ?_
          refine G.region ?_
          refine G.op rfl (G.val rfl rfl (pv_assign rfl) ?_)
          refine G.nil ?_
          refine G.nThen ?_
          refine G.block ?_
          refine G.datNil 5 ?_
          refine G.ownNil 31 5 ?_
          refine G.loopK (X := Nat × Value × (List ET)) (ts := [0, 3, 4, 5, 6, 8, 9]) (fun st => st.1 ≤ i ∧ (ens st.2.2 = (ens xs).take st.1 ∧ st.2.2.length = st.1)) (fun st => [(11, .int .i64 (st.1 : Int)), (10, st.2.1)]) (fun st => [ownT 31 st.2.1 st.2.2, datC 5 st.2.2]) (fun st => i - st.1) (x0 := (0, (.slice none 0 0), [])) (.cons rfl (.cons rfl (.cons rfl (.cons rfl (.cons rfl (.cons rfl (.cons rfl .nil))))))) (by repeat (first | exact Sub.nil | (apply Sub.cons; (repeat (first | with_reducible exact Sel.here | exact Sel.here | apply Sel.there))))) (.cons (.cons .nil)) (by repeat (first | exact Ap.nil | apply Ap.cons)) (by first | exact trivial | ((try dsimp only); exact ⟨Nat.zero_le _, ⟨rfl, rfl⟩⟩)) (.consE rfl (by first | rfl | exact int_eq (by first | omega | (dsimp only; omega)) | exact congrArg _ (by omega)) (.consE rfl (by first | rfl | exact int_eq (by first | omega | (dsimp only; omega)) | exact congrArg _ (by omega)) .nil)) (fun st hJ => ?_)
          obtain ⟨p, vm, ys⟩ := st
          try dsimp only at hJ
          try dsimp only
          obtain ⟨hkp, hJ⟩ := hJ
          obtain ⟨hye, hyl⟩ := hJ
          refine G.seq ?_
          refine G.seq ?_
          refine G.region ?_
          refine G.op rfl (G.val rfl rfl (pv_move rfl) ?_)
          refine G.op rfl (G.val rfl rfl (pv_move rfl) ?_)
          refine G.op rfl (G.val rfl rfl (pv_lss rfl rfl) ?_)
          refine G.nil ?_
          refine G.nThen ?_
          refine G.condP rfl (fun h57 => ?_) (fun h57 => ?_)
          · have hltp : p < xs.length := by omega
            have hEv := helv p hltp
            have hRv := Ro.evRng hEv
            have hDv := Ro.evDat hEv
            obtain ⟨hk1v, hk2v, hlpv, hldv, hltv⟩ := Ro.evOk hEv
            have hCv := Ro.one1 hDv
            refine G.skip ?_
            refine G.nThen ?_
            refine G.seq ?_
            refine G.block ?_
            refine G.region ?_
            refine G.op rfl (G.val rfl rfl (pv_move rfl) ?_)
            refine G.op rfl (G.val rfl rfl (pv_move rfl) ?_)
            refine G.op rfl (G.val rfl rfl (pv_move rfl) ?_)
            refine G.op rfl (G.val rfl rfl (pv_ixSl (sz := 5) Try.underlying22 (by kernel_rfl) rfl rfl (by first | with_reducible assumption | assumption | exact fun _ => rfl) rfl (by omega)) ?_)
            refine G.op rfl (G.val rfl rfl (pv_loadN (cs := [_, _, _, _, _]) Try.underlying31 rfl (by kernel_rfl) rfl (by first | exact blk_range (k := 5) (by (repeat (first | with_reducible exact Sel.here | exact Sel.here | apply Sel.there)); done) (by rfl) | exact ro_rng0 (by assumption) | exact rng_range (k := 5) (by (repeat (first | with_reducible exact Sel.here | exact Sel.here | apply Sel.there)); done) (by rfl) | exact ro_range (k := 5) (by assumption) (by rfl) | exact ro_rngR (k := 5) (by assumption) (by rfl))) ?_)
            refine G.op rfl (G.cS rfl rfl rfl rfl Try.func52 rfl rfl (by repeat (first | exact Sub.nil | (apply Sub.cons; (repeat (first | with_reducible exact Sel.here | exact Sel.here | apply Sel.there))))) (may1 (by first | (apply May.old; first | with_reducible assumption | assumption) | (apply Sel.may; (repeat (first | with_reducible exact Sel.here | exact Sel.here | apply Sel.there)); done) | (apply may_own; (repeat (first | with_reducible exact Sel.here | exact Sel.here | apply Sel.there)); exact rfl; exact (fun _ _ => trivial); done) | (apply may_ownB; (repeat (first | with_reducible exact Sel.here | exact Sel.here | apply Sel.there)); done) | (apply may_tree; (repeat (first | with_reducible exact Sel.here | exact Sel.here | apply Sel.there)); (repeat (first | with_reducible exact Sel.here | exact Sel.here | apply Sel.there)); assumption; done))) (own_tr xs[p].1 xs[p].2 (by omega)) (by repeat (first | exact Ap.nil | apply Ap.cons)) ?_)
            intro x65 hJ
            try dsimp only at hJ
            try dsimp only
            refine G.ownBFact (by repeat (first | with_reducible exact Sel.here | exact Sel.here | apply Sel.there)) (v := x65) (fun hzc => ?_)
            refine G.op rfl (G.buildSlice (z := .agg #[.string ⟨#[]⟩, .int .i64 0, .int .i64 0, .slice none 0 0, .string ⟨#[]⟩]) (sz := 5) (cs := evC (xs[p].1, x65)) rfl Try.underlying22 (by kernel_rfl) (by decide) (by decide) rfl (by kernel_rfl) ?_)
            intro b66
            rw [show ownT 31 vm ys = own 31 5 vm ys.length (flatT ys) from rfl]
            refine G.op rfl (G.append (k := ys.length) (j := 1) (cs := flatT ys) (news := evC (xs[p].1, x65)) (b := b66) (off := 0) rfl Try.underlying22 Try.infoEn' rfl rfl rfl (by repeat (first | with_reducible exact Sel.here | exact Sel.here | apply Sel.there)) (fun _ => rfl) (fun h => by cases h) rfl (blk_news (k := 5) (by repeat (first | with_reducible exact Sel.here | exact Sel.here | apply Sel.there)) rfl) (evC_one hzc) (by omega) (by omega) ?_)
            intro v'
            rw [show flatT ys ++ evC (xs[p].1, x65) = flatT (ys ++ [(xs[p].1, x65)]) from by rw [flatT_app, flatT_one], show ys.length + 1 = (ys ++ [(xs[p].1, x65)]).length from by rw [List.length_append]; rfl]
            refine G.datSnoc (ys := ys) (x := (xs[p].1, x65)) (by repeat (first | with_reducible exact Sel.here | exact Sel.here | apply Sel.there)) (by repeat (first | with_reducible exact Sel.here | exact Sel.here | apply Sel.there)) ?_
            refine G.op rfl (G.val rfl rfl (pv_assign rfl) ?_)
            refine G.nil ?_
            refine G.nBlock ?_
            refine G.nThen ?_
            refine G.region ?_
            refine G.op rfl (G.val rfl rfl (pv_move rfl) ?_)
            refine G.op rfl (G.val rfl rfl (pv_add64 rfl rfl (by omega)) ?_)
            refine G.op rfl (G.val rfl rfl (pv_assign rfl) ?_)
            refine G.nil ?_
            exact G.next ((p + 1, (v', ys ++ [(xs[p].1, x65)]))) (by first | exact trivial | ((try dsimp only); exact ⟨by omega, ⟨by rw [take_snoc_ens hltp, ens_snoc, hye], by rw [List.length_append, List.length_singleton]; omega⟩⟩)) (by (try dsimp only); omega) (.consE rfl (by first | rfl | exact int_eq (by first | omega | (dsimp only; omega)) | exact congrArg _ (by omega)) (.consE rfl (by first | rfl | exact int_eq (by first | omega | (dsimp only; omega)) | exact congrArg _ (by omega)) (.cons rfl (.cons rfl (.cons rfl (.cons rfl (.cons rfl (.cons rfl (.cons rfl .nil))))))))) (by repeat (first | exact Sub.nil | (apply Sub.cons; (repeat (first | with_reducible exact Sel.here | exact Sel.here | apply Sel.there)))))
          · obtain rfl : p = i := by omega
            refine G.exit ?_
            refine G.eThen ?_
            refine G.eThen ?_
            refine G.eBlock ?_
            refine G.nThen ?_
            refine G.seq ?_
            refine G.region ?_
            refine G.op rfl (G.val rfl rfl (pv_move rfl) ?_)
            refine G.op rfl (G.val rfl rfl (pv_loadN (cs := [_, _, _, _, _]) Try.underlying31 rfl (by kernel_rfl) rfl (by first | exact blk_range (k := 5) (by (repeat (first | with_reducible exact Sel.here | exact Sel.here | apply Sel.there)); done) (by rfl) | exact ro_rng0 (by assumption) | exact rng_range (k := 5) (by (repeat (first | with_reducible exact Sel.here | exact Sel.here | apply Sel.there)); done) (by rfl) | exact ro_range (k := 5) (by assumption) (by rfl) | exact ro_rngR (k := 5) (by assumption) (by rfl))) ?_)
            refine G.op rfl (G.cS rfl rfl rfl rfl Try.func52 rfl rfl (by repeat (first | exact Sub.nil | (apply Sub.cons; (repeat (first | with_reducible exact Sel.here | exact Sel.here | apply Sel.there))))) (may1 (by first | (apply May.old; first | with_reducible assumption | assumption) | (apply Sel.may; (repeat (first | with_reducible exact Sel.here | exact Sel.here | apply Sel.there)); done) | (apply may_own; (repeat (first | with_reducible exact Sel.here | exact Sel.here | apply Sel.there)); exact rfl; exact (fun _ _ => trivial); done) | (apply may_ownB; (repeat (first | with_reducible exact Sel.here | exact Sel.here | apply Sel.there)); done) | (apply may_tree; (repeat (first | with_reducible exact Sel.here | exact Sel.here | apply Sel.there)); (repeat (first | with_reducible exact Sel.here | exact Sel.here | apply Sel.there)); assumption; done))) (own_tr e d (by omega)) (by repeat (first | exact Ap.nil | apply Ap.cons)) ?_)
            intro x70 hJ
            try dsimp only at hJ
            try dsimp only
            refine G.ownBFact (by repeat (first | with_reducible exact Sel.here | exact Sel.here | apply Sel.there)) (v := x70) (fun hzd => ?_)
            refine G.op rfl (G.buildSlice (z := .agg #[.string ⟨#[]⟩, .int .i64 0, .int .i64 0, .slice none 0 0, .string ⟨#[]⟩]) (sz := 5) (cs := evC (e, x70)) rfl Try.underlying22 (by kernel_rfl) (by decide) (by decide) rfl (by kernel_rfl) ?_)
            intro b71
            rw [show ownT 31 vm ys = own 31 5 vm ys.length (flatT ys) from rfl]
            refine G.op rfl (G.append (k := ys.length) (j := 1) (cs := flatT ys) (news := evC (e, x70)) (b := b71) (off := 0) rfl Try.underlying22 Try.infoEn' rfl rfl rfl (by repeat (first | with_reducible exact Sel.here | exact Sel.here | apply Sel.there)) (fun _ => rfl) (fun h => by cases h) rfl (blk_news (k := 5) (by repeat (first | with_reducible exact Sel.here | exact Sel.here | apply Sel.there)) rfl) (evC_one hzd) (by omega) (by omega) ?_)
            intro v2
            rw [show flatT ys ++ evC (e, x70) = flatT (ys ++ [(e, x70)]) from by rw [flatT_app, flatT_one], show ys.length + 1 = (ys ++ [(e, x70)]).length from by rw [List.length_append]; rfl]
            refine G.datSnoc (ys := ys) (x := (e, x70)) (by repeat (first | with_reducible exact Sel.here | exact Sel.here | apply Sel.there)) (by repeat (first | with_reducible exact Sel.here | exact Sel.here | apply Sel.there)) ?_
            refine G.op rfl (G.val rfl rfl (pv_assign rfl) ?_)
            refine G.nil ?_
            refine G.nThen ?_
            refine G.seq ?_
            refine G.seq ?_
            refine G.region ?_
            refine G.op rfl (G.val rfl rfl (pv_assign rfl) ?_)
            refine G.nil ?_
            refine G.nThen ?_
            refine G.block ?_
            refine G.loopK (X := Nat × Value × (List ET)) (ts := [4, 5, 6, 9]) (fun st => st.1 ≤ rs.length ∧ (ens st.2.2 = (ens xs).take (placeK (ens xs) e.path) ++ [e] ++ (ens rs).take st.1 ∧ st.2.2.length = ys.length + 1 + st.1)) (fun st => [(12, .int .i64 (st.1 : Int)), (10, st.2.1)]) (fun st => [ownT 31 st.2.1 st.2.2, datC 5 st.2.2]) (fun st => rs.length - st.1) (x0 := (0, v2, (ys ++ [(e, x70)]))) (.cons rfl (.cons rfl (.cons rfl (.cons rfl .nil)))) (by repeat (first | exact Sub.nil | (apply Sub.cons; (repeat (first | with_reducible exact Sel.here | exact Sel.here | apply Sel.there))))) (.cons (.cons .nil)) (by repeat (first | exact Ap.nil | apply Ap.cons)) (by first | exact trivial | ((try dsimp only); exact ⟨Nat.zero_le _, ⟨by rw [ens_snoc, hye, hpk, List.take_zero, List.append_nil], by rw [List.length_append]; rfl⟩⟩)) (.consE rfl (by first | rfl | exact int_eq (by first | omega | (dsimp only; omega)) | exact congrArg _ (by omega)) (.consE rfl (by first | rfl | exact int_eq (by first | omega | (dsimp only; omega)) | exact congrArg _ (by omega)) .nil)) (fun st hJ => ?_)
            obtain ⟨q, wm, us⟩ := st
            try dsimp only at hJ
            try dsimp only
            obtain ⟨hkq, hJ⟩ := hJ
            obtain ⟨hue, hul⟩ := hJ
            refine G.seq ?_
            refine G.seq ?_
            refine G.region ?_
            refine G.op rfl (G.val rfl rfl (pv_move rfl) ?_)
            refine G.op rfl (G.val rfl rfl (pv_move rfl) ?_)
            refine G.op rfl (G.val rfl rfl (pv_lenSl Try.underlying22 rfl) ?_)
            refine G.op rfl (G.val rfl rfl (pv_lss rfl rfl) ?_)
            refine G.nil ?_
            refine G.nThen ?_
            refine G.condP rfl (fun h76 => ?_) (fun h76 => ?_)
            · have hltq : q < rs.length := by omega
              have hEk := helk q hltq
              have hRk := Ro.evRng hEk
              have hDk := Ro.evDat hEk
              obtain ⟨hk1k, hk2k, hlpk, hldk, hltk⟩ := Ro.evOk hEk
              have hCk := Ro.one1 hDk
              refine G.skip ?_
              refine G.nThen ?_
              refine G.seq ?_
              refine G.block ?_
              refine G.region ?_
              refine G.op rfl (G.val rfl rfl (pv_move rfl) ?_)
              refine G.op rfl (G.val rfl rfl (pv_move rfl) ?_)
              refine G.op rfl (G.val rfl rfl (pv_move rfl) ?_)
              refine G.op rfl (G.val rfl rfl (pv_ixSl (sz := 5) Try.underlying22 (by kernel_rfl) rfl rfl (by first | with_reducible assumption | assumption | exact fun _ => rfl) rfl (by omega)) ?_)
              refine G.op rfl (G.val rfl rfl (pv_loadN (cs := [_, _, _, _, _]) Try.underlying31 rfl (by kernel_rfl) rfl (by first | exact blk_range (k := 5) (by (repeat (first | with_reducible exact Sel.here | exact Sel.here | apply Sel.there)); done) (by rfl) | exact ro_rng0 (by assumption) | exact rng_range (k := 5) (by (repeat (first | with_reducible exact Sel.here | exact Sel.here | apply Sel.there)); done) (by rfl) | exact ro_range (k := 5) (by assumption) (by rfl) | exact ro_rngR (k := 5) (by assumption) (by rfl))) ?_)
              refine G.op rfl (G.cS rfl rfl rfl rfl Try.func52 rfl rfl (by repeat (first | exact Sub.nil | (apply Sub.cons; (repeat (first | with_reducible exact Sel.here | exact Sel.here | apply Sel.there))))) (may1 (by first | (apply May.old; first | with_reducible assumption | assumption) | (apply Sel.may; (repeat (first | with_reducible exact Sel.here | exact Sel.here | apply Sel.there)); done) | (apply may_own; (repeat (first | with_reducible exact Sel.here | exact Sel.here | apply Sel.there)); exact rfl; exact (fun _ _ => trivial); done) | (apply may_ownB; (repeat (first | with_reducible exact Sel.here | exact Sel.here | apply Sel.there)); done) | (apply may_tree; (repeat (first | with_reducible exact Sel.here | exact Sel.here | apply Sel.there)); (repeat (first | with_reducible exact Sel.here | exact Sel.here | apply Sel.there)); assumption; done))) (own_tr rs[q].1 rs[q].2 (by omega)) (by repeat (first | exact Ap.nil | apply Ap.cons)) ?_)
              intro x84 hJ
              try dsimp only at hJ
              try dsimp only
              refine G.ownBFact (by repeat (first | with_reducible exact Sel.here | exact Sel.here | apply Sel.there)) (v := x84) (fun hze => ?_)
              refine G.op rfl (G.buildSlice (z := .agg #[.string ⟨#[]⟩, .int .i64 0, .int .i64 0, .slice none 0 0, .string ⟨#[]⟩]) (sz := 5) (cs := evC (rs[q].1, x84)) rfl Try.underlying22 (by kernel_rfl) (by decide) (by decide) rfl (by kernel_rfl) ?_)
              intro b85
              rw [show ownT 31 wm us = own 31 5 wm us.length (flatT us) from rfl]
              refine G.op rfl (G.append (k := us.length) (j := 1) (cs := flatT us) (news := evC (rs[q].1, x84)) (b := b85) (off := 0) rfl Try.underlying22 Try.infoEn' rfl rfl rfl (by repeat (first | with_reducible exact Sel.here | exact Sel.here | apply Sel.there)) (fun _ => rfl) (fun h => by cases h) rfl (blk_news (k := 5) (by repeat (first | with_reducible exact Sel.here | exact Sel.here | apply Sel.there)) rfl) (evC_one hze) (by omega) (by omega) ?_)
              intro v3
              rw [show flatT us ++ evC (rs[q].1, x84) = flatT (us ++ [(rs[q].1, x84)]) from by rw [flatT_app, flatT_one], show us.length + 1 = (us ++ [(rs[q].1, x84)]).length from by rw [List.length_append]; rfl]
              refine G.datSnoc (ys := us) (x := (rs[q].1, x84)) (by repeat (first | with_reducible exact Sel.here | exact Sel.here | apply Sel.there)) (by repeat (first | with_reducible exact Sel.here | exact Sel.here | apply Sel.there)) ?_
              refine G.op rfl (G.val rfl rfl (pv_assign rfl) ?_)
              refine G.nil ?_
              refine G.nBlock ?_
              refine G.nThen ?_
              refine G.region ?_
              refine G.op rfl (G.val rfl rfl (pv_move rfl) ?_)
              refine G.op rfl (G.val rfl rfl (pv_add64 rfl rfl (by omega)) ?_)
              refine G.op rfl (G.val rfl rfl (pv_assign rfl) ?_)
              refine G.nil ?_
              exact G.next ((q + 1, (v3, us ++ [(rs[q].1, x84)]))) (by first | exact trivial | ((try dsimp only); exact ⟨by omega, ⟨by rw [take_snoc_ens hltq, ens_snoc, hue, List.append_assoc], by rw [List.length_append, List.length_singleton]; omega⟩⟩)) (by (try dsimp only); omega) (.consE rfl (by first | rfl | exact int_eq (by first | omega | (dsimp only; omega)) | exact congrArg _ (by omega)) (.consE rfl (by first | rfl | exact int_eq (by first | omega | (dsimp only; omega)) | exact congrArg _ (by omega)) (.cons rfl (.cons rfl (.cons rfl (.cons rfl .nil)))))) (by repeat (first | exact Sub.nil | (apply Sub.cons; (repeat (first | with_reducible exact Sel.here | exact Sel.here | apply Sel.there)))))
            · have hup : ens us = putL (ens xs) e := by rw [hue, show (ens rs).take q = ens rs from List.take_of_length_le (by rw [ens_length]; omega), hrs]; rfl
              have hoku : ∀ x ∈ us, EnOk x.1 := ok_list hue (fun x hx => by rcases List.mem_append.1 hx with hx | hx; rcases List.mem_append.1 hx with hx | hx; exact ok_ensl (Ro.allOk helv) x (List.mem_of_mem_take hx); obtain rfl : x = e := (by simpa using hx); exact hok; exact ok_ensl (Ro.allOk helk) x (List.mem_of_mem_take hx))
              refine G.exit ?_
              refine G.eThen ?_
              refine G.eThen ?_
              refine G.eBlock ?_
              refine G.nThen ?_
              refine G.seq ?_
              refine G.region ?_
              refine G.op rfl (G.val rfl rfl (pv_move rfl) ?_)
              refine G.op rfl (G.cR rfl rfl rfl rfl Try.func19 rfl rfl (may1 (by first | (apply May.old; first | with_reducible assumption | assumption) | (apply Sel.may; (repeat (first | with_reducible exact Sel.here | exact Sel.here | apply Sel.there)); done) | (apply may_own; (repeat (first | with_reducible exact Sel.here | exact Sel.here | apply Sel.there)); exact rfl; exact (fun _ _ => trivial); done) | (apply may_ownB; (repeat (first | with_reducible exact Sel.here | exact Sel.here | apply Sel.there)); done) | (apply may_tree; (repeat (first | with_reducible exact Sel.here | exact Sel.here | apply Sel.there)); (repeat (first | with_reducible exact Sel.here | exact Sel.here | apply Sel.there)); assumption; done))) (tcheckR_tr _ _) ?_)
              rw [hup]
              refine G.op rfl (G.val rfl rfl (pv_move rfl) ?_)
              refine G.op rfl (G.val rfl rfl (pv_extract rfl rfl) ?_)
              refine G.op rfl (G.val rfl rfl (pv_extract rfl rfl) ?_)
              refine G.op rfl (G.val rfl rfl (pv_assign rfl) ?_)
              refine G.nil ?_
              refine G.nThen ?_
              refine G.seq ?_
              refine G.seq ?_
              refine G.region ?_
              refine G.op rfl (G.val rfl rfl (pv_move rfl) ?_)
              refine G.op rfl (G.val rfl rfl (pv_neq rfl rfl) ?_)
              refine G.nil ?_
              refine G.nThen ?_
              refine G.condP rfl (fun h93 => ?_) (fun h93 => ?_)
              · have hbad2 := put_bad2 hx0 (by assumption)
                refine G.seq ?_
                refine G.region ?_
                refine G.op rfl (G.val rfl rfl (pv_move rfl) ?_)
                refine G.op rfl (G.val rfl rfl (pv_assign rfl) ?_)
                refine G.op rfl (G.val rfl rfl (pv_assign rfl) ?_)
                refine G.nil ?_
                refine G.nThen ?_
                refine G.ret ?_
                refine G.rThen ?_
                refine G.datNil 5 ?_
                refine G.ownNil 31 5 ?_
                exact G.doneX2 ((.slice none 0 0, [])) (by first | exact trivial | ((try dsimp only); exact (by rw [hbad2]; rfl))) rfl rfl rfl (by rw [hbad2]; first | done | rfl) (by repeat (first | exact Sub.nil | (apply Sub.cons; (repeat (first | with_reducible exact Sel.here | exact Sel.here | apply Sel.there)))))
              · have hgood := put_ok hx0 (Decidable.of_not_not (by assumption))
                refine G.skip ?_
                refine G.nThen ?_
                refine G.seq ?_
                refine G.region ?_
                refine G.op rfl (G.val rfl rfl (pv_move rfl) ?_)
                refine G.op rfl (G.val rfl rfl (pv_assign rfl) ?_)
                refine G.op rfl (G.val rfl rfl (pv_assign rfl) ?_)
                refine G.nil ?_
                refine G.nThen ?_
                refine G.ret ?_
                exact G.doneX2 ((wm, us)) (by first | exact trivial | ((try dsimp only); exact (by rw [hgood]; exact hup))) rfl rfl rfl (by rw [hgood]) (by repeat (first | exact Sub.nil | (apply Sub.cons; (repeat (first | with_reducible exact Sel.here | exact Sel.here | apply Sel.there)))))
end Go.Proofs.Ytchgaedidfefoaa

/- Contracts of layer 8: slices.Insert of one entry. Conditions: the trees are of at most a thousand entries. -/
set_option linter.unusedVariables false
set_option linter.unusedSimpArgs false
namespace Go.Proofs.Ytchgaedidfefoaa
open Go.RowKit

theorem putN_eq (cs vs : List Value) (o : Nat) (h : o + vs.length ≤ cs.length) : putN cs o vs = cs.take o ++ vs ++ cs.drop (o + vs.length) := by
  apply List.ext_getElem?
  intro j
  rw [putN_get _ _ _ _ h]
  have hl : (cs.take o).length = o := by rw [List.length_take]; omega
  rcases Nat.lt_or_ge j o with h1 | h1
  · rw [if_neg (by omega), List.append_assoc, List.getElem?_append_left (by omega), List.getElem?_take_of_lt h1]
  · rcases Nat.lt_or_ge j (o + vs.length) with h2 | h2
    · rw [if_pos ⟨h1, h2⟩, List.append_assoc, List.getElem?_append_right (by omega), List.getElem?_append_left (by omega), hl]
    · rw [if_neg (by omega), List.getElem?_append_right (by rw [List.length_append]; omega), List.getElem?_drop]
      congr 1
      rw [List.length_append]
      omega
/-- a list with an element laid into it -/
def insT (xs : List ET) (i : Nat) (x : ET) : List ET := xs.take i ++ [x] ++ xs.drop i
theorem insT_length {xs : List ET} {i : Nat} (h : i ≤ xs.length) (x : ET) : (insT xs i x).length = xs.length + 1 := by
  unfold insT
  rw [List.length_append, List.length_append, List.length_take, List.length_drop, List.length_singleton]
  omega
theorem flat_insT (xs : List ET) (i : Nat) (x : ET) : flatT (insT xs i x) = flatT (xs.take i) ++ (evC x ++ flatT (xs.drop i)) := by
  unfold insT
  rw [flatT_app, flatT_app, flatT_one, List.append_assoc]
/-- in place: what is behind is moved, then the new one is laid -/
theorem ins_place {xs : List ET} {sp : List Value} {i : Nat} (h : i < xs.length) (hs : 5 ≤ sp.length) (x : ET) : ∃ sp', putN (putN (flatT xs ++ sp) (0 + (i + 1) * 5) (flatT (xs.drop i))) (0 + i * 5) (evC x) = flatT (insT xs i x) ++ sp' ∧ (flatT (insT xs i x) ++ sp').length = (flatT xs ++ sp).length := by
  have hl := flatT_length xs
  have hd : (flatT (xs.drop i)).length = (xs.length - i) * 5 := by rw [flatT_length, List.length_drop]
  have ht : (flatT (xs.take i)).length = i * 5 := by rw [flatT_length, List.length_take]; omega
  have hc : (flatT xs ++ sp).length = xs.length * 5 + sp.length := by rw [List.length_append, hl]
  have h1 := putN_eq (flatT xs ++ sp) (flatT (xs.drop i)) (0 + (i + 1) * 5) (by omega)
  obtain ⟨L, hL⟩ : ∃ L, putN (flatT xs ++ sp) (0 + (i + 1) * 5) (flatT (xs.drop i)) = L := ⟨_, rfl⟩
  have hLl : L.length = (flatT xs ++ sp).length := by rw [← hL, putN_len]
  have ht1 : L.take (0 + i * 5) = flatT (xs.take i) := by rw [← hL, putN_take _ _ _ _ (by omega), flat_take (by omega)]
  have hd1 : L.drop (0 + i * 5 + 5) = flatT (xs.drop i) ++ (flatT xs ++ sp).drop (0 + (i + 1) * 5 + (flatT (xs.drop i)).length) := by
    rw [← hL, h1, List.append_assoc, List.drop_append_of_le_length (by rw [List.length_take]; omega), List.drop_of_length_le (by rw [List.length_take]; omega), List.nil_append]
  rw [hL, putN_eq _ _ _ (by rw [evC_length]; omega), evC_length, ht1, hd1]
  refine ⟨(flatT xs ++ sp).drop (0 + (i + 1) * 5 + (flatT (xs.drop i)).length), by rw [flat_insT]; simp only [List.append_assoc], ?_⟩
  rw [List.length_append, flatT_length, insT_length (by omega), List.length_drop, hd]
  omega
/-- in a new block: the new one is laid, then what was behind -/
theorem ins_new {xs : List ET} {sp : List Value} {i : Nat} (h : i < xs.length) (hs : (xs.length + 1 - i) * 5 ≤ sp.length) (x : ET) : ∃ sp', putN (putN (flatT (xs.take i) ++ sp) (0 + i * 5) (evC x)) (0 + (i + 1) * 5) (flatT (xs.drop i)) = flatT (insT xs i x) ++ sp' ∧ (flatT (insT xs i x) ++ sp').length = (flatT (xs.take i) ++ sp).length := by
  have hd : (flatT (xs.drop i)).length = (xs.length - i) * 5 := by rw [flatT_length, List.length_drop]
  have ht : (flatT (xs.take i)).length = i * 5 := by rw [flatT_length, List.length_take]; omega
  have hc : (flatT (xs.take i) ++ sp).length = i * 5 + sp.length := by rw [List.length_append, ht]
  have h1 := putN_eq (flatT (xs.take i) ++ sp) (evC x) (0 + i * 5) (by rw [evC_length]; omega)
  obtain ⟨L, hL⟩ : ∃ L, putN (flatT (xs.take i) ++ sp) (0 + i * 5) (evC x) = L := ⟨_, rfl⟩
  have hLl : L.length = (flatT (xs.take i) ++ sp).length := by rw [← hL, putN_len]
  have e0 : (flatT (xs.take i) ++ sp).take (0 + i * 5) = flatT (xs.take i) := List.take_left' (by omega)
  have ht1 : L.take (0 + (i + 1) * 5) = flatT (xs.take i) ++ evC x := by
    rw [← hL, h1, e0]
    exact List.take_left' (by rw [List.length_append, evC_length]; omega)
  rw [hL, putN_eq _ _ _ (by omega), ht1]
  refine ⟨L.drop (0 + (i + 1) * 5 + (flatT (xs.drop i)).length), by rw [flat_insT]; simp only [List.append_assoc], ?_⟩
  rw [List.length_append, flatT_length, insT_length (by omega), List.length_drop, hd]
  omega
theorem ro_ne {w0 : World} {S : Nat → Prop} {m r : List Ck} {b g T1 T2 : Nat} {c1 c2 : List Value} (h : Ro w0 S (blk b T1 c1)) (hs : Sel m (blk g T2 c2) r) : ∀ w, Hp w0 S w m → b ≠ g := fun w hw e => by
  have h1 := h.2 b rfl
  have h2 := (hw.sel hs).own _ (List.mem_cons_self ..) g rfl
  subst e
  rcases h2.1 with k | k
  · exact h1.2 k
  · omega
theorem blk_heap {w0 : World} {S : Nat → Prop} {m r : List Ck} {g T2 : Nat} {c2 : List Value} (hs : Sel m (blk g T2 c2) r) : ∀ w, Hp w0 S w m → w.heap[g]? = some (.cells c2.toArray T2 (0, 0)) := fun w hw => (hw.sel hs).holds _ (List.mem_cons_self ..)
end Go.Proofs.Ytchgaedidfefoaa
