/- Contracts of layer 8: a tree in memory of its own, the entry of a path. Conditions: the trees are of at most a thousand entries. -/
import Derived.Test.YtchgaedidfefoaaTH
set_option linter.unusedVariables false
set_option linter.unusedSimpArgs false
namespace Go.Proofs.Ytchgaedidfefoaa
open Go.RowKit

set_option maxRecDepth 20000 in
set_option maxHeartbeats 4000000 in

theorem clone_tr {Ps : Nat → Prop} (v : Value) (xs : List ET) (hn : xs.length ≤ 1000) : Tr Try.prog 41 #[v] [slc rEV Ps v xs] [] (TX (fun z : Value × List ET => ens z.2 = ens xs) (fun z => z.1) (fun z => [ownT 31 z.1 z.2, datC 5 z.2])) := by
  refine Tr.of (l := [(0, v)]) Try.func41 rfl (n := 24) rfl (.cons rfl .nil) (fun w0 hro => ?_)
  have hv := ro1 hro
  have hv' := hv
  obtain ⟨av, cv, bv, fv, rfl, hcapv, hmaxv, hnilv, hadv, helv⟩ := Ro.openT hv
  refine G.seq ?_
  refine G.region ?_
  refine G.op rfl (G.val rfl rfl (pv_assign rfl) ?_)
  refine G.nil ?_
  refine G.nThen ?_
  refine G.seq ?_
  refine G.region ?_
  refine G.op rfl (G.val rfl rfl (pv_move rfl) ?_)
  refine G.op rfl (G.cS rfl rfl rfl rfl Try.func55 rfl rfl (by repeat (first | exact Sub.nil | (apply Sub.cons; (repeat (first | with_reducible exact Sel.here | exact Sel.here | apply Sel.there))))) (may1 (by first | (apply May.old; first | with_reducible assumption | assumption) | (apply Sel.may; (repeat (first | with_reducible exact Sel.here | exact Sel.here | apply Sel.there)); done) | (apply may_own; (repeat (first | with_reducible exact Sel.here | exact Sel.here | apply Sel.there)); exact rfl; exact (fun _ _ => trivial); done) | (apply may_ownB; (repeat (first | with_reducible exact Sel.here | exact Sel.here | apply Sel.there)); done) | (apply may_tree; (repeat (first | with_reducible exact Sel.here | exact Sel.here | apply Sel.there)); (repeat (first | with_reducible exact Sel.here | exact Sel.here | apply Sel.there)); assumption; done))) (cloneE_tr _ _ (by omega)) (by repeat (first | exact Ap.nil | apply Ap.cons)) ?_)
  intro x6 hJ
  try dsimp only at hJ
  try dsimp only
  refine G.ownOpen (v := x6) (by repeat (first | with_reducible exact Sel.here | exact Sel.here | apply Sel.there)) (fun a3 c3 h3 hk3 hm3 => ?_)
  subst h3
  refine G.op rfl (G.val rfl rfl (pv_assign rfl) ?_)
  refine G.nil ?_
  refine G.nThen ?_
  refine G.seq ?_
  refine G.seq ?_
  refine G.region ?_
  refine G.op rfl (G.val rfl rfl (pv_move rfl) ?_)
  refine G.op rfl (G.val rfl rfl (pv_lenSl Try.underlying22 rfl) ?_)
  refine G.op rfl (G.val rfl rfl (pv_move rfl) ?_)
  refine G.nil ?_
  refine G.nThen ?_
  refine G.block ?_
  refine G.datNil 5 ?_
  refine G.loopK (X := Nat × (List ET)) (ts := [2, 3, 8]) (fun st => st.1 ≤ xs.length ∧ (ens st.2 = ens xs ∧ ∀ q (hq : q < st.2.length) (hx : q < xs.length), st.1 ≤ q → st.2[q] = xs[q])) (fun st => [(9, .int .i64 (st.1 : Int))]) (fun st => [ownT 31 (.slice a3 xs.length c3) st.2, datC 5 (st.2.take st.1)]) (fun st => xs.length - st.1) (x0 := (0, xs)) (.cons rfl (.cons rfl (.cons rfl .nil))) (by repeat (first | exact Sub.nil | (apply Sub.cons; (repeat (first | with_reducible exact Sel.here | exact Sel.here | apply Sel.there))))) (.cons .nil) (by repeat (first | exact Ap.nil | apply Ap.cons)) (by first | exact trivial | ((try dsimp only); exact ⟨Nat.zero_le _, ⟨rfl, fun q _ _ _ => rfl⟩⟩)) (.consE rfl (by first | rfl | exact int_eq (by first | omega | (dsimp only; omega)) | exact congrArg _ (by omega)) .nil) (fun st hJ => ?_)
  obtain ⟨i, zs⟩ := st
  try dsimp only at hJ
  try dsimp only
  obtain ⟨hki, hJ⟩ := hJ
  obtain ⟨hez, hsame⟩ := hJ
  have hlz := len_ens hez
  refine G.seq ?_
  refine G.region ?_
  refine G.op rfl (G.val rfl rfl (pv_lss rfl rfl) ?_)
  refine G.nil ?_
  refine G.nThen ?_
  refine G.seq ?_
  refine G.condP rfl (fun h10 => ?_) (fun h10 => ?_)
  · have hlt : i < xs.length := by omega
    have hlt' : i < zs.length := by omega
    have hzx : zs[i] = xs[i] := hsame i hlt' hlt (Nat.le_refl _)
    have hEv := helv i hlt
    have hRv := Ro.evRng hEv
    have hDv := Ro.evDat hEv
    obtain ⟨hk1v, hk2v, hlpv, hldv, hltv⟩ := Ro.evOk hEv
    have hCv := Ro.one1 hDv
    refine G.skip ?_
    refine G.nThen ?_
    refine G.seq ?_
    refine G.block ?_
    refine G.seq ?_
    refine G.region ?_
    refine G.op rfl (G.val rfl rfl (pv_move rfl) ?_)
    refine G.op rfl (G.val rfl rfl (pv_assign rfl) ?_)
    refine G.nil ?_
    refine G.nThen ?_
    refine G.region ?_
    rw [show ownT 31 (.slice a3 xs.length c3) zs = own 31 5 (.slice a3 xs.length c3) zs.length (flatT zs) from rfl]
    refine G.ownTo (by repeat (first | with_reducible exact Sel.here | exact Sel.here | apply Sel.there)) (by omega) (fun g cap sp hvv hkc hmx hl hlen => ?_)
    injection hvv with e1 e2 e3
    subst e1
    subst e3
    refine G.op rfl (G.val rfl rfl (pv_move rfl) ?_)
    refine G.op rfl (G.val rfl rfl (pv_move rfl) ?_)
    refine G.op rfl (G.val rfl rfl (pv_move rfl) ?_)
    refine G.op rfl (G.val rfl rfl (pv_move rfl) ?_)
    refine G.op rfl (G.val rfl rfl (pv_ixSl (sz := 5) (k := i) Try.underlying22 (by kernel_rfl) rfl rfl (fun _ => rfl) (by omega) (by omega)) ?_)
    refine G.op rfl (G.val rfl rfl (pv_fieldAddrK (sz := 0) (k := 3) Try.underlying31 rfl (by kernel_rfl) rfl rfl) ?_)
    refine G.op rfl (G.val rfl rfl (pv_load (v := xs[i].2) Try.underlying29 rfl rfl (blk_cell (by (repeat (first | with_reducible exact Sel.here | exact Sel.here | apply Sel.there)); done) (by rw [← hzx]; exact flat_dat hlt'))) ?_)
    refine G.op rfl (G.cS rfl rfl rfl rfl Try.func64 rfl rfl (by repeat (first | exact Sub.nil | (apply Sub.cons; (repeat (first | with_reducible exact Sel.here | exact Sel.here | apply Sel.there))))) (may1 (by first | (apply May.old; first | with_reducible assumption | assumption) | (apply Sel.may; (repeat (first | with_reducible exact Sel.here | exact Sel.here | apply Sel.there)); done) | (apply may_own; (repeat (first | with_reducible exact Sel.here | exact Sel.here | apply Sel.there)); exact rfl; exact (fun _ _ => trivial); done) | (apply may_ownB; (repeat (first | with_reducible exact Sel.here | exact Sel.here | apply Sel.there)); done) | (apply may_tree; (repeat (first | with_reducible exact Sel.here | exact Sel.here | apply Sel.there)); (repeat (first | with_reducible exact Sel.here | exact Sel.here | apply Sel.there)); assumption; done))) (cloneB_tr _ _ (by omega)) (by repeat (first | exact Ap.nil | apply Ap.cons)) ?_)
    intro x19 hJ
    try dsimp only at hJ
    try dsimp only
    refine G.ownBFact (by repeat (first | with_reducible exact Sel.here | exact Sel.here | apply Sel.there)) (v := x19) (fun hv19 => ?_)
    refine G.op rfl (G.val rfl rfl (pv_ixSl (sz := 5) (k := i) Try.underlying22 (by kernel_rfl) rfl rfl (fun _ => rfl) (by omega) (by omega)) ?_)
    refine G.op rfl (G.val rfl rfl (pv_fieldAddrK (sz := 0) (k := 3) Try.underlying31 rfl (by kernel_rfl) rfl rfl) ?_)
    refine G.op rfl (G.store (by kernel_rfl) rfl rfl (by assumption) (by repeat (first | with_reducible exact Sel.here | exact Sel.here | apply Sel.there)) (flat_len hlt' (by omega)) ?_)
    rw [flat_set hlt']
    refine G.nil ?_
    refine G.nBlock ?_
    refine G.nThen ?_
    refine G.region ?_
    refine G.op rfl (G.val rfl rfl (pv_add64 rfl rfl (by omega)) ?_)
    refine G.op rfl (G.val rfl rfl (pv_move rfl) ?_)
    refine G.nil ?_
    refine G.ownOf (sz := 5) (k := xs.length) (cs := flatT (zs.set i (zs[i].1, x19))) (sp := sp) (by repeat (first | with_reducible exact Sel.here | exact Sel.here | apply Sel.there)) (by rw [flatT_length, List.length_set, hlz]) (by omega) hmx (by rw [List.length_append, flatT_length, List.length_set]; rw [List.length_append, flatT_length] at hl; exact hl) ?_
    have hzt : zs.take i ++ [(zs[i].1, x19)] = (zs.set i (zs[i].1, x19)).take (i + 1) := (take_set_succ hlt' _).symm
    refine G.datSnoc (ys := zs.take i) (x := (zs[i].1, x19)) (by repeat (first | with_reducible exact Sel.here | exact Sel.here | apply Sel.there)) (by rw [show (zs[i].1, x19).1.data = xs[i].1.data from by rw [hzx]]; repeat (first | with_reducible exact Sel.here | exact Sel.here | apply Sel.there)) ?_
    rw [hzt]
    exact G.next ((i + 1, zs.set i (zs[i].1, x19))) (by first | exact trivial | ((try dsimp only); exact ⟨by omega, ⟨by rw [ens_set hlt', hez], fun q hq hx hiq => by rw [List.getElem_set_ne (by omega)]; exact hsame q (by rw [List.length_set] at hq; exact hq) hx (by omega)⟩⟩)) (by (try dsimp only); omega) (.consE rfl (by first | rfl | exact int_eq (by first | omega | (dsimp only; omega)) | exact congrArg _ (by omega)) (.cons rfl (.cons rfl (.cons rfl .nil)))) (by show Sub _ [own 31 5 _ (zs.set i (zs[i].1, x19)).length (flatT _), _] _; rw [List.length_set, hlz]; repeat (first | exact Sub.nil | (apply Sub.cons; (repeat (first | with_reducible exact Sel.here | exact Sel.here | apply Sel.there)))))
  · refine G.exit ?_
    refine G.eThen ?_
    refine G.eThen ?_
    refine G.eBlock ?_
    refine G.nThen ?_
    refine G.seq ?_
    refine G.region ?_
    refine G.op rfl (G.val rfl rfl (pv_move rfl) ?_)
    refine G.op rfl (G.val rfl rfl (pv_assign rfl) ?_)
    refine G.nil ?_
    refine G.nThen ?_
    refine G.ret ?_
    obtain rfl : i = xs.length := by omega
    rw [show zs.take xs.length = zs from List.take_of_length_le (by omega)]
    exact G.doneX1 ((.slice a3 xs.length c3, zs)) (by first | exact trivial | ((try dsimp only); exact hez)) rfl rfl rfl (by repeat (first | exact Sub.nil | (apply Sub.cons; (repeat (first | with_reducible exact Sel.here | exact Sel.here | apply Sel.there)))))
def zeroE : En := ⟨[], 0, 0, [], []⟩
/-- the entry of a path -/
def findM (es : List En) (s : List UInt8) : Option En := if (checkT es).1 = 0 then es.find? fun e => decide (e.path = s) else none
theorem find_bad {es : List En} {s : List UInt8} (h : ¬ (checkT es).1 = 0) : findM es s = none := if_neg h
theorem find_no {es : List En} {s : List UInt8} (h : ¬ isAt es s) : findM es s = none := by
  unfold findM
  split
  · refine List.find?_eq_none.2 fun x hx => ?_
    simpa using fun e => h ⟨x, hx, e⟩
  · rfl
theorem find_at {es : List En} {s : List UInt8} (h : (checkT es).1 = 0) {x : En} (hx : x ∈ es) (hp : x.path = s) : findM es s = some x := by
  have hs := sort_all (checkT_zero h).2.1
  unfold findM
  rw [if_pos h]
  cases hf : es.find? (fun e => decide (e.path = s)) with
  | none =>
    have := List.find?_eq_none.1 hf x hx
    exact absurd hp (by simpa using this)
  | some y =>
    have h1 := List.find?_some hf
    have h2 := List.mem_of_find?_eq_some hf
    have h1 : y.path = s := by simpa using h1
    rw [sort_inj hs h2 hx (by rw [h1, hp])]
theorem Ro.subT {α : Type} {E : Rdr α} {w0 : World} {S Ps : Nat → Prop} {ad : Option Addr} {len cap i j : Nat} {xs : List α} (h : Ro w0 S (slc E Ps (.slice ad len cap) xs)) (hij : i ≤ j) (hj : j ≤ xs.length) : Ro w0 S (slc E Ps (subV E.sz ad i j cap) ((xs.take j).drop i)) := Ro.sub h hij hj
theorem take_drop1 {α : Type} {xs : List α} {k : Nat} (h : k < xs.length) : (xs.take (k + 1)).drop k = [xs[k]] := by
  rw [List.take_succ_eq_append_getElem h, List.drop_append_of_le_length (by simp; omega), List.drop_of_length_le (by simp; omega), List.nil_append]
theorem len1_ens {zs : List ET} {x : ET} (h : ens zs = ens [x]) : ∃ z, zs = [z] ∧ z.1 = x.1 := by
  have hl := len_ens h
  match zs, hl with
  | [z], _ => exact ⟨z, rfl, by simpa [ens] using h⟩
theorem atM_neg {es : List En} {s : List UInt8} : atM es s < 0 ↔ ¬ isAt es s := by
  unfold atM
  by_cases h : isAt es s
  · rw [if_pos h]
    simp [h]
  · rw [if_neg h]
    simp [h]
theorem atM_get {es : List En} {s : List UInt8} (h : isAt es s) : ∃ k, ∃ hk : k < es.length, atM es s = (k : Int) ∧ es[k].path = s := by
  unfold atM
  rw [if_pos h]
  obtain ⟨e, he, hp⟩ := h
  have hk : es.findIdx (fun e => decide (e.path = s)) < es.length := List.findIdx_lt_length_of_exists ⟨e, he, by simpa using hp⟩
  exact ⟨_, hk, rfl, by simpa using List.findIdx_getElem (w := hk)⟩
set_option maxRecDepth 20000 in
set_option maxHeartbeats 4000000 in

theorem find_tr {Ps : Nat → Prop} (v : Value) (xs : List ET) (s : List UInt8) (hs : s.length ≤ 9223372036854775807) : Tr Try.prog 14 #[v, .string (sB s)] [slc rEV Ps v xs] []
    (TX (fun _ : Value => True) (fun d => .tuple #[.agg #[.string (sB ((findM (ens xs) s).getD zeroE).path), .int .i64 ((findM (ens xs) s).getD zeroE).kind, .int .i64 ((findM (ens xs) s).getD zeroE).mode, d, .string (sB ((findM (ens xs) s).getD zeroE).to)], .bool (findM (ens xs) s).isSome]) (fun d => [ownB 5 d ((findM (ens xs) s).getD zeroE).data])) := by
  refine Tr.of (l := [(0, v), (1, .string (sB s))]) Try.func14 rfl (n := 35) rfl (.cons rfl (.cons rfl .nil)) (fun w0 hro => ?_)
  have hv := ro1 hro
  have hv' := hv
  obtain ⟨av, cv, bv, fv, rfl, hcapv, hmaxv, hnilv, hadv, helv⟩ := Ro.openT hv
  have hel' := ens_length xs
  refine G.seq ?_
  refine G.region ?_
  refine G.op rfl (G.alloc (z := .agg #[.string ⟨#[]⟩, .int .i64 0, .int .i64 0, .slice none 0 0, .string ⟨#[]⟩]) (cs := [.string ⟨#[]⟩, .int .i64 0, .int .i64 0, .slice none 0 0, .string ⟨#[]⟩]) rfl (by kernel_rfl) rfl ?_)
  intro b4
  refine G.op rfl (G.val rfl rfl (pv_assign rfl) ?_)
  refine G.nil ?_
  refine G.nThen ?_
  refine G.seq ?_
  refine G.seq ?_
  refine G.region ?_
  refine G.op rfl (G.val rfl rfl (pv_move rfl) ?_)
  refine G.op rfl (G.cR rfl rfl rfl rfl Try.func11 rfl rfl (may1 (by first | (apply May.old; first | with_reducible assumption | assumption) | (apply Sel.may; (repeat (first | with_reducible exact Sel.here | exact Sel.here | apply Sel.there)); done) | (apply may_own; (repeat (first | with_reducible exact Sel.here | exact Sel.here | apply Sel.there)); exact rfl; exact (fun _ _ => trivial); done) | (apply may_ownB; (repeat (first | with_reducible exact Sel.here | exact Sel.here | apply Sel.there)); done) | (apply may_tree; (repeat (first | with_reducible exact Sel.here | exact Sel.here | apply Sel.there)); (repeat (first | with_reducible exact Sel.here | exact Sel.here | apply Sel.there)); assumption; done))) (tcheck_tr _ _) ?_)
  refine G.op rfl (G.val rfl rfl (pv_move rfl) ?_)
  refine G.op rfl (G.val rfl rfl (pv_extract rfl rfl) ?_)
  refine G.op rfl (G.val rfl rfl (pv_extract rfl rfl) ?_)
  refine G.op rfl (G.val rfl rfl (pv_assign rfl) ?_)
  refine G.op rfl (G.val rfl rfl (pv_assign rfl) ?_)
  refine G.nil ?_
  refine G.nThen ?_
  refine G.seq ?_
  refine G.region ?_
  refine G.op rfl (G.val rfl rfl (pv_move rfl) ?_)
  refine G.op rfl (G.val rfl rfl (pv_neq rfl rfl) ?_)
  refine G.nil ?_
  refine G.nThen ?_
  refine G.condP rfl (fun h16 => ?_) (fun h16 => ?_)
  · have hno := find_bad (es := ens xs) (s := s) (by assumption)
    refine G.seq ?_
    refine G.region ?_
    refine G.op rfl (G.val rfl rfl (pv_buildSt (z := [.string ⟨#[]⟩, .int .i64 0, .int .i64 0, .slice none 0 0, .string ⟨#[]⟩]) (pl := [(0, 1), (1, 1), (2, 1), (3, 1), (4, 1)]) Try.underlying31 (by kernel_rfl) (by kernel_rfl) rfl (by repeat (first | exact Fl.nil | (apply Fl.cons; exact rfl; (first | exact cells_of (by first | rfl | with_reducible assumption) | exact rfl); exact rfl; exact rfl; repeat (first | exact Sn.nil | (apply Sn.cons; repeat (first | exact St.zero | apply St.succ))))))) ?_)
    refine G.op rfl (G.storeN (by kernel_rfl) rfl rfl (by first | exact (all1_cons (by first | rfl | with_reducible assumption) (all1_cons (by first | rfl | with_reducible assumption) (all1_cons (by first | rfl | with_reducible assumption) (all1_cons (by first | rfl | with_reducible assumption) (all1_cons (by first | rfl | with_reducible assumption) all1_nil))))) | exact List.all_eq_true.2 (vByte_one _) | rfl) (by repeat (first | with_reducible exact Sel.here | exact Sel.here | apply Sel.there)) (by first | (simp; done) | exact Nat.le_of_ble_eq_true rfl) ?_)
    refine G.op rfl (G.val rfl rfl (pv_assign rfl) ?_)
    refine G.nil ?_
    refine G.nThen ?_
    refine G.ret ?_
    refine G.rThen ?_
    rw [hno]
    refine G.ownBNil 5 ?_
    exact G.doneG (.slice none 0 0) (by first | exact trivial | ((try dsimp only); exact trivial)) rfl (Rv.cellN (cs := [_, _, _, _, _]) rfl Try.underlying31 rfl (by kernel_rfl) (by first | exact blk_range (k := 5) (by (repeat (first | with_reducible exact Sel.here | exact Sel.here | apply Sel.there)); done) (by rfl)) (Rv.tmp rfl Rv.nil)) rfl (by repeat (first | exact Sub.nil | (apply Sub.cons; (repeat (first | with_reducible exact Sel.here | exact Sel.here | apply Sel.there)))))
  · have h0 : (checkT (ens xs)).1 = 0 := Decidable.of_not_not (by assumption)
    obtain ⟨hz1, hz2, hz3⟩ := checkT_zero h0
    have hso := sort_all hz2
    refine G.skip ?_
    refine G.nThen ?_
    refine G.seq ?_
    refine G.region ?_
    refine G.op rfl (G.val rfl rfl (pv_move rfl) ?_)
    refine G.op rfl (G.val rfl rfl (pv_move rfl) ?_)
    refine G.op rfl (G.cR rfl rfl rfl rfl Try.func40 rfl rfl (may1 (by first | (apply May.old; first | with_reducible assumption | assumption) | (apply Sel.may; (repeat (first | with_reducible exact Sel.here | exact Sel.here | apply Sel.there)); done) | (apply may_own; (repeat (first | with_reducible exact Sel.here | exact Sel.here | apply Sel.there)); exact rfl; exact (fun _ _ => trivial); done) | (apply may_ownB; (repeat (first | with_reducible exact Sel.here | exact Sel.here | apply Sel.there)); done) | (apply may_tree; (repeat (first | with_reducible exact Sel.here | exact Sel.here | apply Sel.there)); (repeat (first | with_reducible exact Sel.here | exact Sel.here | apply Sel.there)); assumption; done))) (place_tr _ xs _ (by omega) hso (by omega)) ?_)
    refine G.op rfl (G.val rfl rfl (pv_move rfl) ?_)
    refine G.op rfl (G.val rfl rfl (pv_extract rfl rfl) ?_)
    refine G.op rfl (G.val rfl rfl (pv_extract rfl rfl) ?_)
    refine G.op rfl (G.val rfl rfl (pv_assign rfl) ?_)
    refine G.op rfl (G.val rfl rfl (pv_assign rfl) ?_)
    refine G.nil ?_
    refine G.nThen ?_
    refine G.seq ?_
    refine G.seq ?_
    refine G.region ?_
    refine G.op rfl (G.val rfl rfl (pv_move rfl) ?_)
    refine G.op rfl (G.val rfl rfl (pv_notP rfl) ?_)
    refine G.nil ?_
    refine G.nThen ?_
    refine G.condP rfl (fun h25 => ?_) (fun h25 => ?_)
    · have hno := find_no (es := ens xs) (s := s) (by assumption)
      refine G.seq ?_
      refine G.region ?_
      refine G.op rfl (G.val rfl rfl (pv_buildSt (z := [.string ⟨#[]⟩, .int .i64 0, .int .i64 0, .slice none 0 0, .string ⟨#[]⟩]) (pl := [(0, 1), (1, 1), (2, 1), (3, 1), (4, 1)]) Try.underlying31 (by kernel_rfl) (by kernel_rfl) rfl (by repeat (first | exact Fl.nil | (apply Fl.cons; exact rfl; (first | exact cells_of (by first | rfl | with_reducible assumption) | exact rfl); exact rfl; exact rfl; repeat (first | exact Sn.nil | (apply Sn.cons; repeat (first | exact St.zero | apply St.succ))))))) ?_)
      refine G.op rfl (G.storeN (by kernel_rfl) rfl rfl (by first | exact (all1_cons (by first | rfl | with_reducible assumption) (all1_cons (by first | rfl | with_reducible assumption) (all1_cons (by first | rfl | with_reducible assumption) (all1_cons (by first | rfl | with_reducible assumption) (all1_cons (by first | rfl | with_reducible assumption) all1_nil))))) | exact List.all_eq_true.2 (vByte_one _) | rfl) (by repeat (first | with_reducible exact Sel.here | exact Sel.here | apply Sel.there)) (by first | (simp; done) | exact Nat.le_of_ble_eq_true rfl) ?_)
      refine G.op rfl (G.val rfl rfl (pv_assign rfl) ?_)
      refine G.nil ?_
      refine G.nThen ?_
      refine G.ret ?_
      refine G.rThen ?_
      rw [hno]
      refine G.ownBNil 5 ?_
      exact G.doneG (.slice none 0 0) (by first | exact trivial | ((try dsimp only); exact trivial)) rfl (Rv.cellN (cs := [_, _, _, _, _]) rfl Try.underlying31 rfl (by kernel_rfl) (by first | exact blk_range (k := 5) (by (repeat (first | with_reducible exact Sel.here | exact Sel.here | apply Sel.there)); done) (by rfl)) (Rv.tmp rfl Rv.nil)) rfl (by repeat (first | exact Sub.nil | (apply Sub.cons; (repeat (first | with_reducible exact Sel.here | exact Sel.here | apply Sel.there)))))
    · have hat : isAt (ens xs) s := Decidable.of_not_not (by assumption)
      obtain ⟨hkl, hkp⟩ := placeK_spec hso hat
      have hfa := find_at h0 (List.getElem_mem hkl) hkp
      obtain ⟨k, hk⟩ : ∃ k, placeK (ens xs) s = k := ⟨_, rfl⟩
      simp only [hk] at hkl hkp hfa
      rw [hk]
      have hlt : k < xs.length := by omega
      rw [ens_get hlt] at hfa hkp
      have hSub := Ro.subT hv' (i := k) (j := k + 1) (by omega) (by omega)
      rw [take_drop1 hlt] at hSub
      refine G.skip ?_
      refine G.nThen ?_
      refine G.seq ?_
      refine G.region ?_
      refine G.op rfl (G.val rfl rfl (pv_move rfl) ?_)
      refine G.op rfl (G.val rfl rfl (pv_move rfl) ?_)
      refine G.op rfl (G.val rfl rfl (pv_move rfl) ?_)
      refine G.op rfl (G.val rfl rfl (pv_add64 rfl rfl (by omega)) ?_)
      refine G.op rfl (G.val rfl rfl (pv_subLH (sz := 5) (k := k) (k' := k + 1) Try.underlying22 (by kernel_rfl) rfl rfl rfl rfl (by omega) (by omega) (by omega)) ?_)
      refine G.op rfl (G.cS rfl rfl rfl rfl Try.func41 rfl rfl (by repeat (first | exact Sub.nil | (apply Sub.cons; (repeat (first | with_reducible exact Sel.here | exact Sel.here | apply Sel.there))))) (may1 (by first | (apply May.old; first | with_reducible assumption | assumption) | (apply Sel.may; (repeat (first | with_reducible exact Sel.here | exact Sel.here | apply Sel.there)); done) | (apply may_own; (repeat (first | with_reducible exact Sel.here | exact Sel.here | apply Sel.there)); exact rfl; exact (fun _ _ => trivial); done) | (apply may_ownB; (repeat (first | with_reducible exact Sel.here | exact Sel.here | apply Sel.there)); done) | (apply may_tree; (repeat (first | with_reducible exact Sel.here | exact Sel.here | apply Sel.there)); (repeat (first | with_reducible exact Sel.here | exact Sel.here | apply Sel.there)); assumption; done))) (clone_tr _ [xs[k]] (by simp)) (by repeat (first | exact Ap.nil | apply Ap.cons)) ?_)
      intro x32 hJ
      obtain ⟨v', zs⟩ := x32
      try dsimp only at hJ
      try dsimp only
      obtain ⟨z, rfl, hz⟩ := len1_ens hJ
      rw [← hz] at hfa
      rw [show ownT 31 v' [z] = own 31 5 v' 1 (flatT [z]) from rfl]
      refine G.ownTo (v := v') (by repeat (first | with_reducible exact Sel.here | exact Sel.here | apply Sel.there)) (by omega) (fun g cap sp hvv hkc hmx hl hlen => ?_)
      subst hvv
      refine G.datOne (x := z) (by repeat (first | with_reducible exact Sel.here | exact Sel.here | apply Sel.there)) ?_
      refine G.ownBFact (by repeat (first | with_reducible exact Sel.here | exact Sel.here | apply Sel.there)) (v := z.2) (fun hzc => ?_)
      refine G.op rfl (G.val rfl rfl (pv_ixSl (sz := 5) (k := 0) Try.underlying22 (by kernel_rfl) rfl rfl (fun _ => rfl) rfl (by omega)) ?_)
      refine G.op rfl (G.val rfl rfl (pv_loadN (cs := [.string (sB z.1.path), .int .i64 z.1.kind, .int .i64 z.1.mode, z.2, .string (sB z.1.to)]) Try.underlying31 rfl (by kernel_rfl) rfl (blk_range (k := 5) (by (repeat (first | with_reducible exact Sel.here | exact Sel.here | apply Sel.there)); done) (flat_row (xs := [z]) (i := 0) (by simp)))) ?_)
      refine G.op rfl (G.storeN (by kernel_rfl) rfl rfl (by first | exact (all1_cons (by first | rfl | with_reducible assumption) (all1_cons (by first | rfl | with_reducible assumption) (all1_cons (by first | rfl | with_reducible assumption) (all1_cons (by first | rfl | with_reducible assumption) (all1_cons (by first | rfl | with_reducible assumption) all1_nil))))) | exact List.all_eq_true.2 (vByte_one _) | rfl) (by repeat (first | with_reducible exact Sel.here | exact Sel.here | apply Sel.there)) (by first | (simp; done) | exact Nat.le_of_ble_eq_true rfl) ?_)
      refine G.op rfl (G.val rfl rfl (pv_assign rfl) ?_)
      refine G.nil ?_
      refine G.nThen ?_
      refine G.ret ?_
      rw [hfa]
      exact G.doneG (z.2) (by first | exact trivial | ((try dsimp only); exact trivial)) rfl (Rv.cellN (cs := [_, _, _, _, _]) rfl Try.underlying31 rfl (by kernel_rfl) (by first | exact blk_range (k := 5) (by (repeat (first | with_reducible exact Sel.here | exact Sel.here | apply Sel.there)); done) (by rfl)) (Rv.tmp rfl Rv.nil)) rfl (by repeat (first | exact Sub.nil | (apply Sub.cons; (repeat (first | with_reducible exact Sel.here | exact Sel.here | apply Sel.there)))))
set_option maxRecDepth 20000 in
set_option maxHeartbeats 4000000 in

theorem findR_tr {Ps : Nat → Prop} (v : Value) (xs : List ET) (s : List UInt8) (hs : s.length ≤ 9223372036854775807) : Tr Try.prog 20 #[v, .string (sB s)] [slc rEV Ps v xs] []
    (TX (fun _ : Value => True) (fun d => .tuple #[.agg #[.string (sB ((findM (ens xs) s).getD zeroE).path), .int .i64 ((findM (ens xs) s).getD zeroE).kind, .int .i64 ((findM (ens xs) s).getD zeroE).mode, d, .string (sB ((findM (ens xs) s).getD zeroE).to)], .bool (findM (ens xs) s).isSome]) (fun d => [ownB 5 d ((findM (ens xs) s).getD zeroE).data])) := by
  refine Tr.of (l := [(0, v), (1, .string (sB s))]) Try.func20 rfl (n := 29) rfl (.cons rfl (.cons rfl .nil)) (fun w0 hro => ?_)
  have hv := ro1 hro
  have hv' := hv
  obtain ⟨av, cv, bv, fv, rfl, hcapv, hmaxv, hnilv, hadv, helv⟩ := Ro.openT hv
  have hel' := ens_length xs
  have hneg := atM_neg (es := ens xs) (s := s)
  refine G.seq ?_
  refine G.region ?_
  refine G.op rfl (G.alloc (z := .agg #[.string ⟨#[]⟩, .int .i64 0, .int .i64 0, .slice none 0 0, .string ⟨#[]⟩]) (cs := [.string ⟨#[]⟩, .int .i64 0, .int .i64 0, .slice none 0 0, .string ⟨#[]⟩]) rfl (by kernel_rfl) rfl ?_)
  intro b4
  refine G.op rfl (G.val rfl rfl (pv_assign rfl) ?_)
  refine G.nil ?_
  refine G.nThen ?_
  refine G.seq ?_
  refine G.region ?_
  refine G.op rfl (G.val rfl rfl (pv_move rfl) ?_)
  refine G.op rfl (G.cR rfl rfl rfl rfl Try.func19 rfl rfl (may1 (by first | (apply May.old; first | with_reducible assumption | assumption) | (apply Sel.may; (repeat (first | with_reducible exact Sel.here | exact Sel.here | apply Sel.there)); done) | (apply may_own; (repeat (first | with_reducible exact Sel.here | exact Sel.here | apply Sel.there)); exact rfl; exact (fun _ _ => trivial); done) | (apply may_ownB; (repeat (first | with_reducible exact Sel.here | exact Sel.here | apply Sel.there)); done) | (apply may_tree; (repeat (first | with_reducible exact Sel.here | exact Sel.here | apply Sel.there)); (repeat (first | with_reducible exact Sel.here | exact Sel.here | apply Sel.there)); assumption; done))) (tcheckR_tr _ _) ?_)
  refine G.op rfl (G.val rfl rfl (pv_move rfl) ?_)
  refine G.op rfl (G.val rfl rfl (pv_extract rfl rfl) ?_)
  refine G.op rfl (G.val rfl rfl (pv_extract rfl rfl) ?_)
  refine G.op rfl (G.val rfl rfl (pv_assign rfl) ?_)
  refine G.op rfl (G.val rfl rfl (pv_assign rfl) ?_)
  refine G.nil ?_
  refine G.nThen ?_
  refine G.seq ?_
  refine G.region ?_
  refine G.op rfl (G.val rfl rfl (pv_move rfl) ?_)
  refine G.op rfl (G.val rfl rfl (pv_move rfl) ?_)
  refine G.op rfl (G.cR rfl rfl rfl rfl Try.func51 rfl rfl (may1 (by first | (apply May.old; first | with_reducible assumption | assumption) | (apply Sel.may; (repeat (first | with_reducible exact Sel.here | exact Sel.here | apply Sel.there)); done) | (apply may_own; (repeat (first | with_reducible exact Sel.here | exact Sel.here | apply Sel.there)); exact rfl; exact (fun _ _ => trivial); done) | (apply may_ownB; (repeat (first | with_reducible exact Sel.here | exact Sel.here | apply Sel.there)); done) | (apply may_tree; (repeat (first | with_reducible exact Sel.here | exact Sel.here | apply Sel.there)); (repeat (first | with_reducible exact Sel.here | exact Sel.here | apply Sel.there)); assumption; done))) (at_tr _ _ _) ?_)
  refine G.op rfl (G.val rfl rfl (pv_assign rfl) ?_)
  refine G.nil ?_
  refine G.nThen ?_
  refine G.seq ?_
  refine G.seq ?_
  refine G.cutK (X := Unit) (ts := [0, 4, 5, 8]) (p := []) (fun _ => True) (fun _ => [(22, .bool (decide (¬ (checkT (ens xs)).1 = 0 ∨ ¬ isAt (ens xs) s)))]) (fun _ => []) (.cons rfl (.cons rfl (.cons rfl (.cons rfl .nil)))) (by repeat (first | exact Sub.nil | (apply Sub.cons; (repeat (first | with_reducible exact Sel.here | exact Sel.here | apply Sel.there))))) (.cons .nil) (by repeat (first | exact Ap.nil | apply Ap.cons)) ?_ ?_
  · refine G.region ?_
    refine G.op rfl (G.val rfl rfl (pv_move rfl) ?_)
    refine G.op rfl (G.val rfl rfl (pv_neq rfl rfl) ?_)
    refine G.op rfl (G.val rfl rfl (pv_move rfl) ?_)
    refine G.partP (t := 19) rfl (fun h19 => ?_) (fun h19 => ?_)
    · refine G.pass rfl rfl rfl rfl rfl rfl ?_
      refine G.pass rfl rfl rfl rfl rfl rfl ?_
      refine G.op rfl (G.val rfl rfl (pv_pick rfl rfl) ?_)
      refine G.nil ?_
      exact G.meet (()) (by first | exact trivial | ((try dsimp only); exact trivial)) (.consE rfl (by first | exact dec_t (.inl (by assumption)) | exact dec_e ⟨fun h => .inr (hneg.1 h), fun h => hneg.2 (h.resolve_left (by assumption))⟩) (.cons rfl (.cons rfl (.cons rfl (.cons rfl .nil))))) (by repeat (first | exact Sub.nil | (apply Sub.cons; (repeat (first | with_reducible exact Sel.here | exact Sel.here | apply Sel.there)))))
    · refine G.want rfl rfl rfl (G.val rfl rfl (pv_move rfl) ?_)
      refine G.want rfl rfl rfl (G.val rfl rfl (pv_lss rfl rfl) ?_)
      refine G.op rfl (G.val rfl rfl (pv_pick rfl rfl) ?_)
      refine G.nil ?_
      exact G.meet (()) (by first | exact trivial | ((try dsimp only); exact trivial)) (.consE rfl (by first | exact dec_t (.inl (by assumption)) | exact dec_e ⟨fun h => .inr (hneg.1 h), fun h => hneg.2 (h.resolve_left (by assumption))⟩) (.cons rfl (.cons rfl (.cons rfl (.cons rfl .nil))))) (by repeat (first | exact Sub.nil | (apply Sub.cons; (repeat (first | with_reducible exact Sel.here | exact Sel.here | apply Sel.there)))))
  · intro _ hJ
    try dsimp only at hJ
    try dsimp only
    refine G.condP rfl (fun h22 => ?_) (fun h22 => ?_)
    · have hno : findM (ens xs) s = none := h22.elim find_bad find_no
      refine G.seq ?_
      refine G.region ?_
      refine G.op rfl (G.val rfl rfl (pv_buildSt (z := [.string ⟨#[]⟩, .int .i64 0, .int .i64 0, .slice none 0 0, .string ⟨#[]⟩]) (pl := [(0, 1), (1, 1), (2, 1), (3, 1), (4, 1)]) Try.underlying31 (by kernel_rfl) (by kernel_rfl) rfl (by repeat (first | exact Fl.nil | (apply Fl.cons; exact rfl; (first | exact cells_of (by first | rfl | with_reducible assumption) | exact rfl); exact rfl; exact rfl; repeat (first | exact Sn.nil | (apply Sn.cons; repeat (first | exact St.zero | apply St.succ))))))) ?_)
      refine G.op rfl (G.storeN (by kernel_rfl) rfl rfl (by first | exact (all1_cons (by first | rfl | with_reducible assumption) (all1_cons (by first | rfl | with_reducible assumption) (all1_cons (by first | rfl | with_reducible assumption) (all1_cons (by first | rfl | with_reducible assumption) (all1_cons (by first | rfl | with_reducible assumption) all1_nil))))) | exact List.all_eq_true.2 (vByte_one _) | rfl) (by repeat (first | with_reducible exact Sel.here | exact Sel.here | apply Sel.there)) (by first | (simp; done) | exact Nat.le_of_ble_eq_true rfl) ?_)
      refine G.op rfl (G.val rfl rfl (pv_assign rfl) ?_)
      refine G.nil ?_
      refine G.nThen ?_
      refine G.ret ?_
      refine G.rThen ?_
      rw [hno]
      refine G.ownBNil 5 ?_
      exact G.doneG (.slice none 0 0) (by first | exact trivial | ((try dsimp only); exact trivial)) rfl (Rv.cellN (cs := [_, _, _, _, _]) rfl Try.underlying31 rfl (by kernel_rfl) (by first | exact blk_range (k := 5) (by (repeat (first | with_reducible exact Sel.here | exact Sel.here | apply Sel.there)); done) (by rfl)) (Rv.tmp rfl Rv.nil)) rfl (by repeat (first | exact Sub.nil | (apply Sub.cons; (repeat (first | with_reducible exact Sel.here | exact Sel.here | apply Sel.there)))))
    · have h0 : (checkT (ens xs)).1 = 0 := Decidable.of_not_not (fun h => h22 (.inl h))
      have hat : isAt (ens xs) s := Decidable.of_not_not (fun h => h22 (.inr h))
      obtain ⟨hz1, hz2, hz3⟩ := checkT_zero h0
      obtain ⟨k, hkl, hka, hkp⟩ := atM_get hat
      have hfa := find_at h0 (List.getElem_mem hkl) hkp
      rw [hka]
      have hlt : k < xs.length := by omega
      rw [ens_get hlt] at hfa hkp
      have hEv := helv k hlt
      have hRv := Ro.evRng hEv
      have hDv := Ro.evDat hEv
      obtain ⟨hk1v, hk2v, hlpv, hldv, hltv⟩ := Ro.evOk hEv
      have hCv := Ro.one1 hDv
      refine G.skip ?_
      refine G.nThen ?_
      refine G.seq ?_
      refine G.region ?_
      refine G.op rfl (G.val rfl rfl (pv_move rfl) ?_)
      refine G.op rfl (G.val rfl rfl (pv_move rfl) ?_)
      refine G.op rfl (G.val rfl rfl (pv_ixSl (sz := 5) Try.underlying22 (by kernel_rfl) rfl rfl (by first | with_reducible assumption | assumption | exact fun _ => rfl) rfl (by omega)) ?_)
      refine G.op rfl (G.val rfl rfl (pv_loadN (cs := [_, _, _, _, _]) Try.underlying31 rfl (by kernel_rfl) rfl (by first | exact blk_range (k := 5) (by (repeat (first | with_reducible exact Sel.here | exact Sel.here | apply Sel.there)); done) (by rfl) | exact ro_rng0 (by assumption) | exact rng_range (k := 5) (by (repeat (first | with_reducible exact Sel.here | exact Sel.here | apply Sel.there)); done) (by rfl) | exact ro_range (k := 5) (by assumption) (by rfl) | exact ro_rngR (k := 5) (by assumption) (by rfl))) ?_)
      refine G.op rfl (G.cS rfl rfl rfl rfl Try.func52 rfl rfl (by repeat (first | exact Sub.nil | (apply Sub.cons; (repeat (first | with_reducible exact Sel.here | exact Sel.here | apply Sel.there))))) (may1 (by first | (apply May.old; first | with_reducible assumption | assumption) | (apply Sel.may; (repeat (first | with_reducible exact Sel.here | exact Sel.here | apply Sel.there)); done) | (apply may_own; (repeat (first | with_reducible exact Sel.here | exact Sel.here | apply Sel.there)); exact rfl; exact (fun _ _ => trivial); done) | (apply may_ownB; (repeat (first | with_reducible exact Sel.here | exact Sel.here | apply Sel.there)); done) | (apply may_tree; (repeat (first | with_reducible exact Sel.here | exact Sel.here | apply Sel.there)); (repeat (first | with_reducible exact Sel.here | exact Sel.here | apply Sel.there)); assumption; done))) (own_tr xs[k].1 xs[k].2 (by omega)) (by repeat (first | exact Ap.nil | apply Ap.cons)) ?_)
      intro x28 hJ
      try dsimp only at hJ
      try dsimp only
      refine G.ownBFact (by repeat (first | with_reducible exact Sel.here | exact Sel.here | apply Sel.there)) (v := x28) (fun hzc => ?_)
      refine G.op rfl (G.storeN (by kernel_rfl) rfl rfl (by first | exact (all1_cons (by first | rfl | with_reducible assumption) (all1_cons (by first | rfl | with_reducible assumption) (all1_cons (by first | rfl | with_reducible assumption) (all1_cons (by first | rfl | with_reducible assumption) (all1_cons (by first | rfl | with_reducible assumption) all1_nil))))) | exact List.all_eq_true.2 (vByte_one _) | rfl) (by repeat (first | with_reducible exact Sel.here | exact Sel.here | apply Sel.there)) (by first | (simp; done) | exact Nat.le_of_ble_eq_true rfl) ?_)
      refine G.op rfl (G.val rfl rfl (pv_assign rfl) ?_)
      refine G.nil ?_
      refine G.nThen ?_
      refine G.ret ?_
      rw [hfa]
      exact G.doneG (x28) (by first | exact trivial | ((try dsimp only); exact trivial)) rfl (Rv.cellN (cs := [_, _, _, _, _]) rfl Try.underlying31 rfl (by kernel_rfl) (by first | exact blk_range (k := 5) (by (repeat (first | with_reducible exact Sel.here | exact Sel.here | apply Sel.there)); done) (by rfl)) (Rv.tmp rfl Rv.nil)) rfl (by repeat (first | exact Sub.nil | (apply Sub.cons; (repeat (first | with_reducible exact Sel.here | exact Sel.here | apply Sel.there)))))
end Go.Proofs.Ytchgaedidfefoaa
