/- Merged of TH, TI, TJ, TK. Conditions: none. -/
import Derived.Test.YtchgaedidfefoaaGh
import Derived.Test.YtchgaedidfefoaaGd
import Derived.Test.YtchgaedidfefoaaGc
/- Contracts of layer 8: trees that are copied, with their bytes or without. Conditions: the trees are of at most a thousand entries. -/
set_option linter.unusedVariables false
set_option linter.unusedSimpArgs false
namespace Go.Proofs.Ytchgaedidfefoaa
open Go.RowKit

theorem Try.infoEn' : (Try.prog.info? 31).map (fun i => (i.zero.map (·.cells.size), i.size, i.bytes)) = some (some 5, 5, 72) := by kernel_rfl
set_option maxRecDepth 20000 in
set_option maxHeartbeats 4000000 in

theorem cloneE_tr {Ps : Nat → Prop} (v : Value) (xs : List ET) (hn : xs.length ≤ 1000) : Tr Try.prog 55 #[v] [slc rEV Ps v xs] [] (TX (fun _ : Value => True) (fun x => x) (fun x => [ownT 31 x xs])) := by
  refine Tr.of (l := [(0, v)]) Try.func55 rfl (n := 8) rfl (.cons rfl .nil) (fun w0 hro => ?_)
  have hv := ro1 hro
  have hv' := hv
  obtain ⟨av, cv, bv, fv, rfl, hcapv, hmaxv, hnilv, hadv, helv⟩ := Ro.openT hv
  refine G.seq ?_
  refine G.region ?_
  refine G.op rfl (G.val rfl rfl (pv_assign rfl) ?_)
  refine G.nil ?_
  refine G.nThen ?_
  refine G.seq ?_
  refine G.seq ?_
  refine G.region ?_
  refine G.op rfl (G.val rfl rfl (pv_move rfl) ?_)
  refine G.op rfl (G.val rfl rfl (pv_eqlSl0 Try.underlying22 rfl rfl) ?_)
  refine G.nil ?_
  refine G.nThen ?_
  refine G.cond rfl (fun h4 => ?_) (fun h4 => ?_)
  · have hn0 : av = none := by simpa using h4
    have hc0 := hnilv hn0
    obtain rfl : xs = [] := List.eq_nil_of_length_eq_zero (by omega)
    refine G.seq ?_
    refine G.region ?_
    refine G.op rfl (G.val rfl rfl (pv_assign rfl) ?_)
    refine G.nil ?_
    refine G.nThen ?_
    refine G.ret ?_
    refine G.rThen ?_
    refine G.ownNil 31 5 ?_
    exact G.doneX1 (.slice none 0 0) (by first | exact trivial | ((try dsimp only); exact trivial)) rfl rfl rfl (by repeat (first | exact Sub.nil | (apply Sub.cons; (repeat (first | with_reducible exact Sel.here | exact Sel.here | apply Sel.there)))))
  · refine G.skip ?_
    refine G.nThen ?_
    refine G.seq ?_
    refine G.region ?_
    refine G.op rfl (G.lit0 rfl Try.underlying22 (by kernel_rfl) rfl ?_)
    intro b5
    refine G.ownBlk (b := b5) (k := 0) (sz := 5) (by repeat (first | with_reducible exact Sel.here | exact Sel.here | apply Sel.there)) rfl (by omega) ?_
    refine G.op rfl (G.val rfl rfl (pv_move rfl) ?_)
    refine G.op rfl (G.append (k := 0) (j := xs.length) (cs := []) (news := flatT xs) (b := bv) (off := fv) rfl Try.underlying22 Try.infoEn' rfl rfl rfl (by repeat (first | with_reducible exact Sel.here | exact Sel.here | apply Sel.there)) hadv hnilv (flatT_length xs) (newsT helv) (Ro.allOne helv) (by omega) (by omega) ?_)
    intro v'
    rw [List.nil_append, Nat.zero_add xs.length]
    refine G.op rfl (G.val rfl rfl (pv_assign rfl) ?_)
    refine G.nil ?_
    refine G.nThen ?_
    refine G.ret ?_
    exact G.doneX1 (v') (by first | exact trivial | ((try dsimp only); exact trivial)) rfl rfl rfl (by repeat (first | exact Sub.nil | (apply Sub.cons; (repeat (first | with_reducible exact Sel.here | exact Sel.here | apply Sel.there)))))
set_option maxRecDepth 20000 in
set_option maxHeartbeats 4000000 in

theorem copyT_tr {Ps : Nat → Prop} (v : Value) (xs : List ET) (hn : xs.length ≤ 1000) : Tr Try.prog 18 #[v] [slc rEV Ps v xs] [] (TX (fun z : Value × List ET => ens z.2 = ens xs) (fun z => z.1) (fun z => [ownT 31 z.1 z.2, datC 5 z.2])) := by
  refine Tr.of (l := [(0, v)]) Try.func18 rfl (n := 25) rfl (.cons rfl .nil) (fun w0 hro => ?_)
  have hv := ro1 hro
  have hv' := hv
  obtain ⟨av, cv, bv, fv, rfl, hcapv, hmaxv, hnilv, hadv, helv⟩ := Ro.openT hv
  refine G.seq ?_
  refine G.region ?_
  refine G.op rfl (G.val rfl rfl (pv_assign rfl) ?_)
  refine G.nil ?_
  refine G.nThen ?_
  refine G.seq ?_
  refine G.region ?_
  refine G.op rfl (G.lit0 rfl Try.underlying22 (by kernel_rfl) rfl ?_)
  intro b5
  refine G.ownBlk (b := b5) (k := 0) (sz := 5) (by repeat (first | with_reducible exact Sel.here | exact Sel.here | apply Sel.there)) rfl (by omega) ?_
  refine G.op rfl (G.val rfl rfl (pv_move rfl) ?_)
  refine G.op rfl (G.append (k := 0) (j := xs.length) (cs := []) (news := flatT xs) (b := bv) (off := fv) rfl Try.underlying22 Try.infoEn' rfl rfl rfl (by repeat (first | with_reducible exact Sel.here | exact Sel.here | apply Sel.there)) hadv hnilv (flatT_length xs) (newsT helv) (Ro.allOne helv) (by omega) (by omega) ?_)
  intro v3
  rw [List.nil_append, Nat.zero_add xs.length]
  refine G.ownOpen (v := v3) (by repeat (first | with_reducible exact Sel.here | exact Sel.here | apply Sel.there)) (fun a3 c3 h3 hk3 hm3 => ?_)
  subst h3
  refine G.op rfl (G.val rfl rfl (pv_assign rfl) ?_)
  refine G.nil ?_
  refine G.nThen ?_
  refine G.seq ?_
  refine G.seq ?_
  refine G.region ?_
  refine G.op rfl (G.val rfl rfl (pv_assign rfl) ?_)
  refine G.nil ?_
  refine G.nThen ?_
  refine G.block ?_
  refine G.datNil 5 ?_
  refine G.loopK (X := Nat × (List ET)) (ts := [2, 3]) (fun st => st.1 ≤ xs.length ∧ (ens st.2 = ens xs ∧ ∀ q (hq : q < st.2.length) (hx : q < xs.length), st.1 ≤ q → st.2[q] = xs[q])) (fun st => [(4, .int .i64 (st.1 : Int))]) (fun st => [ownT 31 (.slice a3 xs.length c3) st.2, datC 5 (st.2.take st.1)]) (fun st => xs.length - st.1) (x0 := (0, xs)) (.cons rfl (.cons rfl .nil)) (by repeat (first | exact Sub.nil | (apply Sub.cons; (repeat (first | with_reducible exact Sel.here | exact Sel.here | apply Sel.there))))) (.cons .nil) (by repeat (first | exact Ap.nil | apply Ap.cons)) (by first | exact trivial | ((try dsimp only); exact ⟨Nat.zero_le _, ⟨rfl, fun q _ _ _ => rfl⟩⟩)) (.consE rfl (by first | rfl | exact int_eq (by first | omega | (dsimp only; omega)) | exact congrArg _ (by omega)) .nil) (fun st hJ => ?_)
  obtain ⟨i, zs⟩ := st
  try dsimp only at hJ
  try dsimp only
  obtain ⟨hki, hJ⟩ := hJ
  obtain ⟨hez, hsame⟩ := hJ
  have hlz := len_ens hez
  refine G.seq ?_
  refine G.seq ?_
  refine G.region ?_
  refine G.op rfl (G.val rfl rfl (pv_move rfl) ?_)
  refine G.op rfl (G.val rfl rfl (pv_move rfl) ?_)
  refine G.op rfl (G.val rfl rfl (pv_lenSl Try.underlying22 rfl) ?_)
  refine G.op rfl (G.val rfl rfl (pv_lss rfl rfl) ?_)
  refine G.nil ?_
  refine G.nThen ?_
  refine G.condP rfl (fun h11 => ?_) (fun h11 => ?_)
  · have hlt : i < xs.length := by omega
    have hlt' : i < zs.length := by omega
    have hzx : zs[i] = xs[i] := hsame i hlt' hlt (Nat.le_refl _)
    have hEv := helv i hlt
    have hRv := Ro.evRng hEv
    have hDv := Ro.evDat hEv
    obtain ⟨hk1v, hk2v, hlpv, hldv, hltv⟩ := Ro.evOk hEv
    have hCv := Ro.one1 hDv
    refine G.skip ?_
    refine G.nThen ?_
    refine G.seq ?_
    refine G.block ?_
    refine G.region ?_
    rw [show ownT 31 (.slice a3 xs.length c3) zs = own 31 5 (.slice a3 xs.length c3) zs.length (flatT zs) from rfl]
    refine G.ownTo (by repeat (first | with_reducible exact Sel.here | exact Sel.here | apply Sel.there)) (by omega) (fun g cap sp hvv hkc hmx hl hlen => ?_)
    injection hvv with e1 e2 e3
    subst e1
    subst e3
    refine G.op rfl (G.val rfl rfl (pv_move rfl) ?_)
    refine G.op rfl (G.val rfl rfl (pv_move rfl) ?_)
    refine G.op rfl (G.val rfl rfl (pv_move rfl) ?_)
    refine G.op rfl (G.val rfl rfl (pv_move rfl) ?_)
    refine G.op rfl (G.val rfl rfl (pv_ixSl (sz := 5) (k := i) Try.underlying22 (by kernel_rfl) rfl rfl (fun _ => rfl) (by omega) (by omega)) ?_)
    refine G.op rfl (G.val rfl rfl (pv_fieldAddrK (sz := 0) (k := 3) Try.underlying31 rfl (by kernel_rfl) rfl rfl) ?_)
    refine G.op rfl (G.val rfl rfl (pv_load (v := xs[i].2) Try.underlying29 rfl rfl (blk_cell (by (repeat (first | with_reducible exact Sel.here | exact Sel.here | apply Sel.there)); done) (by rw [← hzx]; exact flat_dat hlt'))) ?_)
    refine G.op rfl (G.cS rfl rfl rfl rfl Try.func47 rfl rfl (by repeat (first | exact Sub.nil | (apply Sub.cons; (repeat (first | with_reducible exact Sel.here | exact Sel.here | apply Sel.there))))) (may1 (by first | (apply May.old; first | with_reducible assumption | assumption) | (apply Sel.may; (repeat (first | with_reducible exact Sel.here | exact Sel.here | apply Sel.there)); done) | (apply may_own; (repeat (first | with_reducible exact Sel.here | exact Sel.here | apply Sel.there)); exact rfl; exact (fun _ _ => trivial); done) | (apply may_ownB; (repeat (first | with_reducible exact Sel.here | exact Sel.here | apply Sel.there)); done) | (apply may_tree; (repeat (first | with_reducible exact Sel.here | exact Sel.here | apply Sel.there)); (repeat (first | with_reducible exact Sel.here | exact Sel.here | apply Sel.there)); assumption; done))) (copyB_tr _ _ (by omega)) (by repeat (first | exact Ap.nil | apply Ap.cons)) ?_)
    intro x21 hJ
    try dsimp only at hJ
    try dsimp only
    refine G.ownBFact (by repeat (first | with_reducible exact Sel.here | exact Sel.here | apply Sel.there)) (v := x21) (fun hv21 => ?_)
    refine G.op rfl (G.val rfl rfl (pv_ixSl (sz := 5) (k := i) Try.underlying22 (by kernel_rfl) rfl rfl (fun _ => rfl) (by omega) (by omega)) ?_)
    refine G.op rfl (G.val rfl rfl (pv_fieldAddrK (sz := 0) (k := 3) Try.underlying31 rfl (by kernel_rfl) rfl rfl) ?_)
    refine G.op rfl (G.store (by kernel_rfl) rfl rfl (by assumption) (by repeat (first | with_reducible exact Sel.here | exact Sel.here | apply Sel.there)) (flat_len hlt' (by omega)) ?_)
    rw [flat_set hlt']
    refine G.nil ?_
    refine G.nBlock ?_
    refine G.nThen ?_
    refine G.region ?_
    refine G.op rfl (G.val rfl rfl (pv_move rfl) ?_)
    refine G.op rfl (G.val rfl rfl (pv_add64 rfl rfl (by omega)) ?_)
    refine G.op rfl (G.val rfl rfl (pv_assign rfl) ?_)
    refine G.nil ?_
    refine G.ownOf (sz := 5) (k := xs.length) (cs := flatT (zs.set i (zs[i].1, x21))) (sp := sp) (by repeat (first | with_reducible exact Sel.here | exact Sel.here | apply Sel.there)) (by rw [flatT_length, List.length_set, hlz]) (by omega) hmx (by rw [List.length_append, flatT_length, List.length_set]; rw [List.length_append, flatT_length] at hl; exact hl) ?_
    have hzt : zs.take i ++ [(zs[i].1, x21)] = (zs.set i (zs[i].1, x21)).take (i + 1) := (take_set_succ hlt' _).symm
    refine G.datSnoc (ys := zs.take i) (x := (zs[i].1, x21)) (by repeat (first | with_reducible exact Sel.here | exact Sel.here | apply Sel.there)) (by rw [show (zs[i].1, x21).1.data = xs[i].1.data from by rw [hzx]]; repeat (first | with_reducible exact Sel.here | exact Sel.here | apply Sel.there)) ?_
    rw [hzt]
    exact G.next ((i + 1, zs.set i (zs[i].1, x21))) (by first | exact trivial | ((try dsimp only); exact ⟨by omega, ⟨by rw [ens_set hlt', hez], fun q hq hx hiq => by rw [List.getElem_set_ne (by omega)]; exact hsame q (by rw [List.length_set] at hq; exact hq) hx (by omega)⟩⟩)) (by (try dsimp only); omega) (.consE rfl (by first | rfl | exact int_eq (by first | omega | (dsimp only; omega)) | exact congrArg _ (by omega)) (.cons rfl (.cons rfl .nil))) (by show Sub _ [own 31 5 _ (zs.set i (zs[i].1, x21)).length (flatT _), _] _; rw [List.length_set, hlz]; repeat (first | exact Sub.nil | (apply Sub.cons; (repeat (first | with_reducible exact Sel.here | exact Sel.here | apply Sel.there)))))
  · refine G.exit ?_
    refine G.eThen ?_
    refine G.eThen ?_
    refine G.eBlock ?_
    refine G.nThen ?_
    refine G.seq ?_
    refine G.region ?_
    refine G.op rfl (G.val rfl rfl (pv_move rfl) ?_)
    refine G.op rfl (G.val rfl rfl (pv_assign rfl) ?_)
    refine G.nil ?_
    refine G.nThen ?_
    refine G.ret ?_
    obtain rfl : i = xs.length := by omega
    rw [show zs.take xs.length = zs from List.take_of_length_le (by omega)]
    exact G.doneX1 ((.slice a3 xs.length c3, zs)) (by first | exact trivial | ((try dsimp only); exact hez)) rfl rfl rfl (by repeat (first | exact Sub.nil | (apply Sub.cons; (repeat (first | with_reducible exact Sel.here | exact Sel.here | apply Sel.there)))))
end Go.Proofs.Ytchgaedidfefoaa

/- Contracts of layer 8: a tree in memory of its own, the entry of a path. Conditions: the trees are of at most a thousand entries. -/
set_option linter.unusedVariables false
set_option linter.unusedSimpArgs false
namespace Go.Proofs.Ytchgaedidfefoaa
open Go.RowKit

set_option maxRecDepth 20000 in
set_option maxHeartbeats 4000000 in

theorem clone_tr {Ps : Nat → Prop} (v : Value) (xs : List ET) (hn : xs.length ≤ 1000) : Tr Try.prog 41 #[v] [slc rEV Ps v xs] [] (TX (fun z : Value × List ET => ens z.2 = ens xs) (fun z => z.1) (fun z => [ownT 31 z.1 z.2, datC 5 z.2])) := by
  refine Tr.of (l := [(0, v)]) Try.func41 rfl (n := 24) rfl (.cons rfl .nil) (fun w0 hro => ?_)
  have hv := ro1 hro
  have hv' := hv
  obtain ⟨av, cv, bv, fv, rfl, hcapv, hmaxv, hnilv, hadv, helv⟩ := Ro.openT hv
  refine G.seq ?_
  refine G.region ?_
  refine G.op rfl (G.val rfl rfl (pv_assign rfl) ?_)
  refine G.nil ?_
  refine G.nThen ?_
  refine G.seq ?_
  refine G.region ?_
  refine G.op rfl (G.val rfl rfl (pv_move rfl) ?_)
  refine G.op rfl (G.cS rfl rfl rfl rfl Try.func55 rfl rfl (by repeat (first | exact Sub.nil | (apply Sub.cons; (repeat (first | with_reducible exact Sel.here | exact Sel.here | apply Sel.there))))) (may1 (by first | (apply May.old; first | with_reducible assumption | assumption) | (apply Sel.may; (repeat (first | with_reducible exact Sel.here | exact Sel.here | apply Sel.there)); done) | (apply may_own; (repeat (first | with_reducible exact Sel.here | exact Sel.here | apply Sel.there)); exact rfl; exact (fun _ _ => trivial); done) | (apply may_ownB; (repeat (first | with_reducible exact Sel.here | exact Sel.here | apply Sel.there)); done) | (apply may_tree; (repeat (first | with_reducible exact Sel.here | exact Sel.here | apply Sel.there)); (repeat (first | with_reducible exact Sel.here | exact Sel.here | apply Sel.there)); assumption; done))) (cloneE_tr _ _ (by omega)) (by repeat (first | exact Ap.nil | apply Ap.cons)) ?_)
  intro x6 hJ
  try dsimp only at hJ
  try dsimp only
  refine G.ownOpen (v := x6) (by repeat (first | with_reducible exact Sel.here | exact Sel.here | apply Sel.there)) (fun a3 c3 h3 hk3 hm3 => ?_)
  subst h3
  refine G.op rfl (G.val rfl rfl (pv_assign rfl) ?_)
  refine G.nil ?_
  refine G.nThen ?_
  refine G.seq ?_
  refine G.seq ?_
  refine G.region ?_
  refine G.op rfl (G.val rfl rfl (pv_move rfl) ?_)
  refine G.op rfl (G.val rfl rfl (pv_lenSl Try.underlying22 rfl) ?_)
  refine G.op rfl (G.val rfl rfl (pv_move rfl) ?_)
  refine G.nil ?_
  refine G.nThen ?_
  refine G.block ?_
  refine G.datNil 5 ?_
  refine G.loopK (X := Nat × (List ET)) (ts := [2, 3, 8]) (fun st => st.1 ≤ xs.length ∧ (ens st.2 = ens xs ∧ ∀ q (hq : q < st.2.length) (hx : q < xs.length), st.1 ≤ q → st.2[q] = xs[q])) (fun st => [(9, .int .i64 (st.1 : Int))]) (fun st => [ownT 31 (.slice a3 xs.length c3) st.2, datC 5 (st.2.take st.1)]) (fun st => xs.length - st.1) (x0 := (0, xs)) (.cons rfl (.cons rfl (.cons rfl .nil))) (by repeat (first | exact Sub.nil | (apply Sub.cons; (repeat (first | with_reducible exact Sel.here | exact Sel.here | apply Sel.there))))) (.cons .nil) (by repeat (first | exact Ap.nil | apply Ap.cons)) (by first | exact trivial | ((try dsimp only); exact ⟨Nat.zero_le _, ⟨rfl, fun q _ _ _ => rfl⟩⟩)) (.consE rfl (by first | rfl | exact int_eq (by first | omega | (dsimp only; omega)) | exact congrArg _ (by omega)) .nil) (fun st hJ => ?_)
  obtain ⟨i, zs⟩ := st
  try dsimp only at hJ
  try dsimp only
  obtain ⟨hki, hJ⟩ := hJ
  obtain ⟨hez, hsame⟩ := hJ
  have hlz := len_ens hez
  refine G.seq ?_
  refine G.region ?_
  refine G.op rfl (G.val rfl rfl (pv_lss rfl rfl) ?_)
  refine G.nil ?_
  refine G.nThen ?_
  refine G.seq ?_
  refine G.condP rfl (fun h10 => ?_) (fun h10 => ?_)
  · have hlt : i < xs.length := by omega
    have hlt' : i < zs.length := by omega
    have hzx : zs[i] = xs[i] := hsame i hlt' hlt (Nat.le_refl _)
    have hEv := helv i hlt
    have hRv := Ro.evRng hEv
    have hDv := Ro.evDat hEv
    obtain ⟨hk1v, hk2v, hlpv, hldv, hltv⟩ := Ro.evOk hEv
    have hCv := Ro.one1 hDv
    refine G.skip ?_
    refine G.nThen ?_
    refine G.seq ?_
    refine G.block ?_
    refine G.seq ?_
    refine G.region ?_
    refine G.op rfl (G.val rfl rfl (pv_move rfl) ?_)
    refine G.op rfl (G.val rfl rfl (pv_assign rfl) ?_)
    refine G.nil ?_
    refine G.nThen ?_
    refine G.region ?_
    rw [show ownT 31 (.slice a3 xs.length c3) zs = own 31 5 (.slice a3 xs.length c3) zs.length (flatT zs) from rfl]
    refine G.ownTo (by repeat (first | with_reducible exact Sel.here | exact Sel.here | apply Sel.there)) (by omega) (fun g cap sp hvv hkc hmx hl hlen => ?_)
    injection hvv with e1 e2 e3
    subst e1
    subst e3
    refine G.op rfl (G.val rfl rfl (pv_move rfl) ?_)
    refine G.op rfl (G.val rfl rfl (pv_move rfl) ?_)
    refine G.op rfl (G.val rfl rfl (pv_move rfl) ?_)
    refine G.op rfl (G.val rfl rfl (pv_move rfl) ?_)
    refine G.op rfl (G.val rfl rfl (pv_ixSl (sz := 5) (k := i) Try.underlying22 (by kernel_rfl) rfl rfl (fun _ => rfl) (by omega) (by omega)) ?_)
    refine G.op rfl (G.val rfl rfl (pv_fieldAddrK (sz := 0) (k := 3) Try.underlying31 rfl (by kernel_rfl) rfl rfl) ?_)
    refine G.op rfl (G.val rfl rfl (pv_load (v := xs[i].2) Try.underlying29 rfl rfl (blk_cell (by (repeat (first | with_reducible exact Sel.here | exact Sel.here | apply Sel.there)); done) (by rw [← hzx]; exact flat_dat hlt'))) ?_)
    refine G.op rfl (G.cS rfl rfl rfl rfl Try.func64 rfl rfl (by repeat (first | exact Sub.nil | (apply Sub.cons; (repeat (first | with_reducible exact Sel.here | exact Sel.here | apply Sel.there))))) (may1 (by first | (apply May.old; first | with_reducible assumption | assumption) | (apply Sel.may; (repeat (first | with_reducible exact Sel.here | exact Sel.here | apply Sel.there)); done) | (apply may_own; (repeat (first | with_reducible exact Sel.here | exact Sel.here | apply Sel.there)); exact rfl; exact (fun _ _ => trivial); done) | (apply may_ownB; (repeat (first | with_reducible exact Sel.here | exact Sel.here | apply Sel.there)); done) | (apply may_tree; (repeat (first | with_reducible exact Sel.here | exact Sel.here | apply Sel.there)); (repeat (first | with_reducible exact Sel.here | exact Sel.here | apply Sel.there)); assumption; done))) (cloneB_tr _ _ (by omega)) (by repeat (first | exact Ap.nil | apply Ap.cons)) ?_)
    intro x19 hJ
    try dsimp only at hJ
    try dsimp only
    refine G.ownBFact (by repeat (first | with_reducible exact Sel.here | exact Sel.here | apply Sel.there)) (v := x19) (fun hv19 => ?_)
    refine G.op rfl (G.val rfl rfl (pv_ixSl (sz := 5) (k := i) Try.underlying22 (by kernel_rfl) rfl rfl (fun _ => rfl) (by omega) (by omega)) ?_)
    refine G.op rfl (G.val rfl rfl (pv_fieldAddrK (sz := 0) (k := 3) Try.underlying31 rfl (by kernel_rfl) rfl rfl) ?_)
    refine G.op rfl (G.store (by kernel_rfl) rfl rfl (by assumption) (by repeat (first | with_reducible exact Sel.here | exact Sel.here | apply Sel.there)) (flat_len hlt' (by omega)) ?_)
    rw [flat_set hlt']
    refine G.nil ?_
    refine G.nBlock ?_
    refine G.nThen ?_
    refine G.region ?_
    refine G.op rfl (G.val rfl rfl (pv_add64 rfl rfl (by omega)) ?_)
    refine G.op rfl (G.val rfl rfl (pv_move rfl) ?_)
    refine G.nil ?_
    refine G.ownOf (sz := 5) (k := xs.length) (cs := flatT (zs.set i (zs[i].1, x19))) (sp := sp) (by repeat (first | with_reducible exact Sel.here | exact Sel.here | apply Sel.there)) (by rw [flatT_length, List.length_set, hlz]) (by omega) hmx (by rw [List.length_append, flatT_length, List.length_set]; rw [List.length_append, flatT_length] at hl; exact hl) ?_
    have hzt : zs.take i ++ [(zs[i].1, x19)] = (zs.set i (zs[i].1, x19)).take (i + 1) := (take_set_succ hlt' _).symm
    refine G.datSnoc (ys := zs.take i) (x := (zs[i].1, x19)) (by repeat (first | with_reducible exact Sel.here | exact Sel.here | apply Sel.there)) (by rw [show (zs[i].1, x19).1.data = xs[i].1.data from by rw [hzx]]; repeat (first | with_reducible exact Sel.here | exact Sel.here | apply Sel.there)) ?_
    rw [hzt]
    exact G.next ((i + 1, zs.set i (zs[i].1, x19))) (by first | exact trivial | ((try dsimp only); exact ⟨by omega, ⟨by rw [ens_set hlt', hez], fun q hq hx hiq => by rw [List.getElem_set_ne (by omega)]; exact hsame q (by rw [List.length_set] at hq; exact hq) hx (by omega)⟩⟩)) (by (try dsimp only); omega) (.consE rfl (by first | rfl | exact int_eq (by first | omega | (dsimp only; omega)) | exact congrArg _ (by omega)) (.cons rfl (.cons rfl (.cons rfl .nil)))) (by show Sub _ [own 31 5 _ (zs.set i (zs[i].1, x19)).length (flatT _), _] _; rw [List.length_set, hlz]; repeat (first | exact Sub.nil | (apply Sub.cons; (repeat (first | with_reducible exact Sel.here | exact Sel.here | apply Sel.there)))))
  · refine G.exit ?_
    refine G.eThen ?_
    refine G.eThen ?_
    refine G.eBlock ?_
    refine G.nThen ?_
    refine G.seq ?_
    refine G.region ?_
    refine G.op rfl (G.val rfl rfl (pv_move rfl) ?_)
    refine G.op rfl (G.val rfl rfl (pv_assign rfl) ?_)
    refine G.nil ?_
    refine G.nThen ?_
    refine G.ret ?_
    obtain rfl : i = xs.length := by omega
    rw [show zs.take xs.length = zs from List.take_of_length_le (by omega)]
    exact G.doneX1 ((.slice a3 xs.length c3, zs)) (by first | exact trivial | ((try dsimp only); exact hez)) rfl rfl rfl (by repeat (first | exact Sub.nil | (apply Sub.cons; (repeat (first | with_reducible exact Sel.here | exact Sel.here | apply Sel.there)))))
def zeroE : En := ⟨[], 0, 0, [], []⟩
/-- the entry of a path -/
def findM (es : List En) (s : List UInt8) : Option En := if (checkT es).1 = 0 then es.find? fun e => decide (e.path = s) else none
theorem find_bad {es : List En} {s : List UInt8} (h : ¬ (checkT es).1 = 0) : findM es s = none := if_neg h
theorem find_no {es : List En} {s : List UInt8} (h : ¬ isAt es s) : findM es s = none := by
  unfold findM
  split
  · refine List.find?_eq_none.2 fun x hx => ?_
    simpa using fun e => h ⟨x, hx, e⟩
  · rfl
theorem find_at {es : List En} {s : List UInt8} (h : (checkT es).1 = 0) {x : En} (hx : x ∈ es) (hp : x.path = s) : findM es s = some x := by
  have hs := sort_all (checkT_zero h).2.1
  unfold findM
  rw [if_pos h]
  cases hf : es.find? (fun e => decide (e.path = s)) with
  | none =>
    have := List.find?_eq_none.1 hf x hx
    exact absurd hp (by simpa using this)
  | some y =>
    have h1 := List.find?_some hf
    have h2 := List.mem_of_find?_eq_some hf
    have h1 : y.path = s := by simpa using h1
    rw [sort_inj hs h2 hx (by rw [h1, hp])]
theorem Ro.subT {α : Type} {E : Rdr α} {w0 : World} {S Ps : Nat → Prop} {ad : Option Addr} {len cap i j : Nat} {xs : List α} (h : Ro w0 S (slc E Ps (.slice ad len cap) xs)) (hij : i ≤ j) (hj : j ≤ xs.length) : Ro w0 S (slc E Ps (subV E.sz ad i j cap) ((xs.take j).drop i)) := Ro.sub h hij hj
theorem take_drop1 {α : Type} {xs : List α} {k : Nat} (h : k < xs.length) : (xs.take (k + 1)).drop k = [xs[k]] := by
  rw [List.take_succ_eq_append_getElem h, List.drop_append_of_le_length (by simp; omega), List.drop_of_length_le (by simp; omega), List.nil_append]
theorem len1_ens {zs : List ET} {x : ET} (h : ens zs = ens [x]) : ∃ z, zs = [z] ∧ z.1 = x.1 := by
  have hl := len_ens h
  match zs, hl with
  | [z], _ => exact ⟨z, rfl, by simpa [ens] using h⟩
theorem atM_neg {es : List En} {s : List UInt8} : atM es s < 0 ↔ ¬ isAt es s := by
  unfold atM
  by_cases h : isAt es s
  · rw [if_pos h]
    simp [h]
  · rw [if_neg h]
    simp [h]
theorem atM_get {es : List En} {s : List UInt8} (h : isAt es s) : ∃ k, ∃ hk : k < es.length, atM es s = (k : Int) ∧ es[k].path = s := by
  unfold atM
  rw [if_pos h]
  obtain ⟨e, he, hp⟩ := h
  have hk : es.findIdx (fun e => decide (e.path = s)) < es.length := List.findIdx_lt_length_of_exists ⟨e, he, by simpa using hp⟩
  exact ⟨_, hk, rfl, by simpa using List.findIdx_getElem (w := hk)⟩
set_option maxRecDepth 20000 in
set_option maxHeartbeats 4000000 in

theorem find_tr {Ps : Nat → Prop} (v : Value) (xs : List ET) (s : List UInt8) (hs : s.length ≤ 9223372036854775807) : Tr Try.prog 14 #[v, .string (sB s)] [slc rEV Ps v xs] []
    (TX (fun _ : Value => True) (fun d => .tuple #[.agg #[.string (sB ((findM (ens xs) s).getD zeroE).path), .int .i64 ((findM (ens xs) s).getD zeroE).kind, .int .i64 ((findM (ens xs) s).getD zeroE).mode, d, .string (sB ((findM (ens xs) s).getD zeroE).to)], .bool (findM (ens xs) s).isSome]) (fun d => [ownB 5 d ((findM (ens xs) s).getD zeroE).data])) := by
  refine Tr.of (l := [(0, v), (1, .string (sB s))]) Try.func14 rfl (n := 35) rfl (.cons rfl (.cons rfl .nil)) (fun w0 hro => ?_)
  have hv := ro1 hro
  have hv' := hv
  obtain ⟨av, cv, bv, fv, rfl, hcapv, hmaxv, hnilv, hadv, helv⟩ := Ro.openT hv
  have hel' := ens_length xs
  refine G.seq ?_
  refine G.region ?_
  refine G.op rfl (G.alloc (z := .agg #[.string ⟨#[]⟩, .int .i64 0, .int .i64 0, .slice none 0 0, .string ⟨#[]⟩]) (cs := [.string ⟨#[]⟩, .int .i64 0, .int .i64 0, .slice none 0 0, .string ⟨#[]⟩]) rfl (by kernel_rfl) rfl ?_)
  intro b4
  refine G.op rfl (G.val rfl rfl (pv_assign rfl) ?_)
  refine G.nil ?_
  refine G.nThen ?_
  refine G.seq ?_
  refine G.seq ?_
  refine G.region ?_
  refine G.op rfl (G.val rfl rfl (pv_move rfl) ?_)
  refine G.op rfl (G.cR rfl rfl rfl rfl Try.func11 rfl rfl (may1 (by first | (apply May.old; first | with_reducible assumption | assumption) | (apply Sel.may; (repeat (first | with_reducible exact Sel.here | exact Sel.here | apply Sel.there)); done) | (apply may_own; (repeat (first | with_reducible exact Sel.here | exact Sel.here | apply Sel.there)); exact rfl; exact (fun _ _ => trivial); done) | (apply may_ownB; (repeat (first | with_reducible exact Sel.here | exact Sel.here | apply Sel.there)); done) | (apply may_tree; (repeat (first | with_reducible exact Sel.here | exact Sel.here | apply Sel.there)); (repeat (first | with_reducible exact Sel.here | exact Sel.here | apply Sel.there)); assumption; done))) (tcheck_tr _ _) ?_)
  refine G.op rfl (G.val rfl rfl (pv_move rfl) ?_)
  refine G.op rfl (G.val rfl rfl (pv_extract rfl rfl) ?_)
  refine G.op rfl (G.val rfl rfl (pv_extract rfl rfl) ?_)
  refine G.op rfl (G.val rfl rfl (pv_assign rfl) ?_)
  refine G.op rfl (G.val rfl rfl (pv_assign rfl) ?_)
  refine G.nil ?_
  refine G.nThen ?_
  refine G.seq ?_
  refine G.region ?_
  refine G.op rfl (G.val rfl rfl (pv_move rfl) ?_)
  refine G.op rfl (G.val rfl rfl (pv_neq rfl rfl) ?_)
  refine G.nil ?_
  refine G.nThen ?_
  refine G.condP rfl (fun h16 => ?_) (fun h16 => ?_)
  · have hno := find_bad (es := ens xs) (s := s) (by assumption)
    refine G.seq ?_
    refine G.region ?_
    refine G.op rfl (G.val rfl rfl (pv_buildSt (z := [.string ⟨#[]⟩, .int .i64 0, .int .i64 0, .slice none 0 0, .string ⟨#[]⟩]) (pl := [(0, 1), (1, 1), (2, 1), (3, 1), (4, 1)]) Try.underlying31 (by kernel_rfl) (by kernel_rfl) rfl (by repeat (first | exact Fl.nil | (apply Fl.cons; exact rfl; (first | exact cells_of (by first | rfl | with_reducible assumption) | exact rfl); exact rfl; exact rfl; repeat (first | exact Sn.nil | (apply Sn.cons; repeat (first | exact St.zero | apply St.succ))))))) ?_)
    refine G.op rfl (G.storeN (by kernel_rfl) rfl rfl (by first | exact (all1_cons (by first | rfl | with_reducible assumption) (all1_cons (by first | rfl | with_reducible assumption) (all1_cons (by first | rfl | with_reducible assumption) (all1_cons (by first | rfl | with_reducible assumption) (all1_cons (by first | rfl | with_reducible assumption) all1_nil))))) | exact List.all_eq_true.2 (vByte_one _) | rfl) (by repeat (first | with_reducible exact Sel.here | exact Sel.here | apply Sel.there)) (by first | (simp; done) | exact Nat.le_of_ble_eq_true rfl) ?_)
    refine G.op rfl (G.val rfl rfl (pv_assign rfl) ?_)
    refine G.nil ?_
    refine G.nThen ?_
    refine G.ret ?_
    refine G.rThen ?_
    rw [hno]
    refine G.ownBNil 5 ?_
    exact G.doneG (.slice none 0 0) (by first | exact trivial | ((try dsimp only); exact trivial)) rfl (Rv.cellN (cs := [_, _, _, _, _]) rfl Try.underlying31 rfl (by kernel_rfl) (by first | exact blk_range (k := 5) (by (repeat (first | with_reducible exact Sel.here | exact Sel.here | apply Sel.there)); done) (by rfl)) (Rv.tmp rfl Rv.nil)) rfl (by repeat (first | exact Sub.nil | (apply Sub.cons; (repeat (first | with_reducible exact Sel.here | exact Sel.here | apply Sel.there)))))
  · have h0 : (checkT (ens xs)).1 = 0 := Decidable.of_not_not (by assumption)
    obtain ⟨hz1, hz2, hz3⟩ := checkT_zero h0
    have hso := sort_all hz2
    refine G.skip ?_
    refine G.nThen ?_
    refine G.seq ?_
    refine G.region ?_
    refine G.op rfl (G.val rfl rfl (pv_move rfl) ?_)
    refine G.op rfl (G.val rfl rfl (pv_move rfl) ?_)
    refine G.op rfl (G.cR rfl rfl rfl rfl Try.func40 rfl rfl (may1 (by first | (apply May.old; first | with_reducible assumption | assumption) | (apply Sel.may; (repeat (first | with_reducible exact Sel.here | exact Sel.here | apply Sel.there)); done) | (apply may_own; (repeat (first | with_reducible exact Sel.here | exact Sel.here | apply Sel.there)); exact rfl; exact (fun _ _ => trivial); done) | (apply may_ownB; (repeat (first | with_reducible exact Sel.here | exact Sel.here | apply Sel.there)); done) | (apply may_tree; (repeat (first | with_reducible exact Sel.here | exact Sel.here | apply Sel.there)); (repeat (first | with_reducible exact Sel.here | exact Sel.here | apply Sel.there)); assumption; done))) (place_tr _ xs _ (by omega) hso (by omega)) ?_)
    refine G.op rfl (G.val rfl rfl (pv_move rfl) ?_)
    refine G.op rfl (G.val rfl rfl (pv_extract rfl rfl) ?_)
    refine G.op rfl (G.val rfl rfl (pv_extract rfl rfl) ?_)
    refine G.op rfl (G.val rfl rfl (pv_assign rfl) ?_)
    refine G.op rfl (G.val rfl rfl (pv_assign rfl) ?_)
    refine G.nil ?_
    refine G.nThen ?_
    refine G.seq ?_
    refine G.seq ?_
    refine G.region ?_
    refine G.op rfl (G.val rfl rfl (pv_move rfl) ?_)
    refine G.op rfl (G.val rfl rfl (pv_notP rfl) ?_)
    refine G.nil ?_
    refine G.nThen ?_
    refine G.condP rfl (fun h25 => ?_) (fun h25 => ?_)
    · have hno := find_no (es := ens xs) (s := s) (by assumption)
      refine G.seq ?_
      refine G.region ?_
      refine G.op rfl (G.val rfl rfl (pv_buildSt (z := [.string ⟨#[]⟩, .int .i64 0, .int .i64 0, .slice none 0 0, .string ⟨#[]⟩]) (pl := [(0, 1), (1, 1), (2, 1), (3, 1), (4, 1)]) Try.underlying31 (by kernel_rfl) (by kernel_rfl) rfl (by repeat (first | exact Fl.nil | (apply Fl.cons; exact rfl; (first | exact cells_of (by first | rfl | with_reducible assumption) | exact rfl); exact rfl; exact rfl; repeat (first | exact Sn.nil | (apply Sn.cons; repeat (first | exact St.zero | apply St.succ))))))) ?_)
      refine G.op rfl (G.storeN (by kernel_rfl) rfl rfl (by first | exact (all1_cons (by first | rfl | with_reducible assumption) (all1_cons (by first | rfl | with_reducible assumption) (all1_cons (by first | rfl | with_reducible assumption) (all1_cons (by first | rfl | with_reducible assumption) (all1_cons (by first | rfl | with_reducible assumption) all1_nil))))) | exact List.all_eq_true.2 (vByte_one _) | rfl) (by repeat (first | with_reducible exact Sel.here | exact Sel.here | apply Sel.there)) (by first | (simp; done) | exact Nat.le_of_ble_eq_true rfl) ?_)
      refine G.op rfl (G.val rfl rfl (pv_assign rfl) ?_)
      refine G.nil ?_
      refine G.nThen ?_
      refine G.ret ?_
      refine G.rThen ?_
      rw [hno]
      refine G.ownBNil 5 ?_
      exact G.doneG (.slice none 0 0) (by first | exact trivial | ((try dsimp only); exact trivial)) rfl (Rv.cellN (cs := [_, _, _, _, _]) rfl Try.underlying31 rfl (by kernel_rfl) (by first | exact blk_range (k := 5) (by (repeat (first | with_reducible exact Sel.here | exact Sel.here | apply Sel.there)); done) (by rfl)) (Rv.tmp rfl Rv.nil)) rfl (by repeat (first | exact Sub.nil | (apply Sub.cons; (repeat (first | with_reducible exact Sel.here | exact Sel.here | apply Sel.there)))))
    · have hat : isAt (ens xs) s := Decidable.of_not_not (by assumption)
      obtain ⟨hkl, hkp⟩ := placeK_spec hso hat
      have hfa := find_at h0 (List.getElem_mem hkl) hkp
      obtain ⟨k, hk⟩ : ∃ k, placeK (ens xs) s = k := ⟨_, rfl⟩
      simp only [hk] at hkl hkp hfa
      rw [hk]
      have hlt : k < xs.length := by omega
      rw [ens_get hlt] at hfa hkp
      have hSub := Ro.subT hv' (i := k) (j := k + 1) (by omega) (by omega)
      rw [take_drop1 hlt] at hSub
      refine G.skip ?_
      refine G.nThen ?_
      refine G.seq ?_
      refine G.region ?_
      refine G.op rfl (G.val rfl rfl (pv_move rfl) ?_)
      refine G.op rfl (G.val rfl rfl (pv_move rfl) ?_)
      refine G.op rfl (G.val rfl rfl (pv_move rfl) ?_)
      refine G.op rfl (G.val rfl rfl (pv_add64 rfl rfl (by omega)) ?_)
      refine G.op rfl (G.val rfl rfl (pv_subLH (sz := 5) (k := k) (k' := k + 1) Try.underlying22 (by kernel_rfl) rfl rfl rfl rfl (by omega) (by omega) (by omega)) ?_)
      refine G.op rfl (G.cS rfl rfl rfl rfl Try.func41 rfl rfl (by repeat (first | exact Sub.nil | (apply Sub.cons; (repeat (first | with_reducible exact Sel.here | exact Sel.here | apply Sel.there))))) (may1 (by first | (apply May.old; first | with_reducible assumption | assumption) | (apply Sel.may; (repeat (first | with_reducible exact Sel.here | exact Sel.here | apply Sel.there)); done) | (apply may_own; (repeat (first | with_reducible exact Sel.here | exact Sel.here | apply Sel.there)); exact rfl; exact (fun _ _ => trivial); done) | (apply may_ownB; (repeat (first | with_reducible exact Sel.here | exact Sel.here | apply Sel.there)); done) | (apply may_tree; (repeat (first | with_reducible exact Sel.here | exact Sel.here | apply Sel.there)); (repeat (first | with_reducible exact Sel.here | exact Sel.here | apply Sel.there)); assumption; done))) (clone_tr _ [xs[k]] (by simp)) (by repeat (first | exact Ap.nil | apply Ap.cons)) ?_)
      intro x32 hJ
      obtain ⟨v', zs⟩ := x32
      try dsimp only at hJ
      try dsimp only
      obtain ⟨z, rfl, hz⟩ := len1_ens hJ
      rw [← hz] at hfa
      rw [show ownT 31 v' [z] = own 31 5 v' 1 (flatT [z]) from rfl]
      refine G.ownTo (v := v') (by repeat (first | with_reducible exact Sel.here | exact Sel.here | apply Sel.there)) (by omega) (fun g cap sp hvv hkc hmx hl hlen => ?_)
      subst hvv
      refine G.datOne (x := z) (by repeat (first | with_reducible exact Sel.here | exact Sel.here | apply Sel.there)) ?_
      refine G.ownBFact (by repeat (first | with_reducible exact Sel.here | exact Sel.here | apply Sel.there)) (v := z.2) (fun hzc => ?_)
      refine G.op rfl (G.val rfl rfl (pv_ixSl (sz := 5) (k := 0) Try.underlying22 (by kernel_rfl) rfl rfl (fun _ => rfl) rfl (by omega)) ?_)
      refine G.op rfl (G.val rfl rfl (pv_loadN (cs := [.string (sB z.1.path), .int .i64 z.1.kind, .int .i64 z.1.mode, z.2, .string (sB z.1.to)]) Try.underlying31 rfl (by kernel_rfl) rfl (blk_range (k := 5) (by (repeat (first | with_reducible exact Sel.here | exact Sel.here | apply Sel.there)); done) (flat_row (xs := [z]) (i := 0) (by simp)))) ?_)
      refine G.op rfl (G.storeN (by kernel_rfl) rfl rfl (by first | exact (all1_cons (by first | rfl | with_reducible assumption) (all1_cons (by first | rfl | with_reducible assumption) (all1_cons (by first | rfl | with_reducible assumption) (all1_cons (by first | rfl | with_reducible assumption) (all1_cons (by first | rfl | with_reducible assumption) all1_nil))))) | exact List.all_eq_true.2 (vByte_one _) | rfl) (by repeat (first | with_reducible exact Sel.here | exact Sel.here | apply Sel.there)) (by first | (simp; done) | exact Nat.le_of_ble_eq_true rfl) ?_)
      refine G.op rfl (G.val rfl rfl (pv_assign rfl) ?_)
      refine G.nil ?_
      refine G.nThen ?_
      refine G.ret ?_
      rw [hfa]
      exact G.doneG (z.2) (by first | exact trivial | ((try dsimp only); exact trivial)) rfl (Rv.cellN (cs := [_, _, _, _, _]) rfl Try.underlying31 rfl (by kernel_rfl) (by first | exact blk_range (k := 5) (by (repeat (first | with_reducible exact Sel.here | exact Sel.here | apply Sel.there)); done) (by rfl)) (Rv.tmp rfl Rv.nil)) rfl (by repeat (first | exact Sub.nil | (apply Sub.cons; (repeat (first | with_reducible exact Sel.here | exact Sel.here | apply Sel.there)))))
set_option maxRecDepth 20000 in
set_option maxHeartbeats 4000000 in

theorem findR_tr {Ps : Nat → Prop} (v : Value) (xs : List ET) (s : List UInt8) (hs : s.length ≤ 9223372036854775807) : Tr Try.prog 20 #[v, .string (sB s)] [slc rEV Ps v xs] []
    (TX (fun _ : Value => True) (fun d => .tuple #[.agg #[.string (sB ((findM (ens xs) s).getD zeroE).path), .int .i64 ((findM (ens xs) s).getD zeroE).kind, .int .i64 ((findM (ens xs) s).getD zeroE).mode, d, .string (sB ((findM (ens xs) s).getD zeroE).to)], .bool (findM (ens xs) s).isSome]) (fun d => [ownB 5 d ((findM (ens xs) s).getD zeroE).data])) := by
  refine Tr.of (l := [(0, v), (1, .string (sB s))]) Try.func20 rfl (n := 29) rfl (.cons rfl (.cons rfl .nil)) (fun w0 hro => ?_)
  have hv := ro1 hro
  have hv' := hv
  obtain ⟨av, cv, bv, fv, rfl, hcapv, hmaxv, hnilv, hadv, helv⟩ := Ro.openT hv
  have hel' := ens_length xs
  have hneg := atM_neg (es := ens xs) (s := s)
  refine G.seq ?_
  refine G.region ?_
  refine G.op rfl (G.alloc (z := .agg #[.string ⟨#[]⟩, .int .i64 0, .int .i64 0, .slice none 0 0, .string ⟨#[]⟩]) (cs := [.string ⟨#[]⟩, .int .i64 0, .int .i64 0, .slice none 0 0, .string ⟨#[]⟩]) rfl (by kernel_rfl) rfl ?_)
  intro b4
  refine G.op rfl (G.val rfl rfl (pv_assign rfl) ?_)
  refine G.nil ?_
  refine G.nThen ?_
  refine G.seq ?_
  refine G.region ?_
  refine G.op rfl (G.val rfl rfl (pv_move rfl) ?_)
  refine G.op rfl (G.cR rfl rfl rfl rfl Try.func19 rfl rfl (may1 (by first | (apply May.old; first | with_reducible assumption | assumption) | (apply Sel.may; (repeat (first | with_reducible exact Sel.here | exact Sel.here | apply Sel.there)); done) | (apply may_own; (repeat (first | with_reducible exact Sel.here | exact Sel.here | apply Sel.there)); exact rfl; exact (fun _ _ => trivial); done) | (apply may_ownB; (repeat (first | with_reducible exact Sel.here | exact Sel.here | apply Sel.there)); done) | (apply may_tree; (repeat (first | with_reducible exact Sel.here | exact Sel.here | apply Sel.there)); (repeat (first | with_reducible exact Sel.here | exact Sel.here | apply Sel.there)); assumption; done))) (tcheckR_tr _ _) ?_)
  refine G.op rfl (G.val rfl rfl (pv_move rfl) ?_)
  refine G.op rfl (G.val rfl rfl (pv_extract rfl rfl) ?_)
  refine G.op rfl (G.val rfl rfl (pv_extract rfl rfl) ?_)
  refine G.op rfl (G.val rfl rfl (pv_assign rfl) ?_)
  refine G.op rfl (G.val rfl rfl (pv_assign rfl) ?_)
  refine G.nil ?_
  refine G.nThen ?_
  refine G.seq ?_
  refine G.region ?_
  refine G.op rfl (G.val rfl rfl (pv_move rfl) ?_)
  refine G.op rfl (G.val rfl rfl (pv_move rfl) ?_)
  refine G.op rfl (G.cR rfl rfl rfl rfl Try.func51 rfl rfl (may1 (by first | (apply May.old; first | with_reducible assumption | assumption) | (apply Sel.may; (repeat (first | with_reducible exact Sel.here | exact Sel.here | apply Sel.there)); done) | (apply may_own; (repeat (first | with_reducible exact Sel.here | exact Sel.here | apply Sel.there)); exact rfl; exact (fun _ _ => trivial); done) | (apply may_ownB; (repeat (first | with_reducible exact Sel.here | exact Sel.here | apply Sel.there)); done) | (apply may_tree; (repeat (first | with_reducible exact Sel.here | exact Sel.here | apply Sel.there)); (repeat (first | with_reducible exact Sel.here | exact Sel.here | apply Sel.there)); assumption; done))) (at_tr _ _ _) ?_)
  refine G.op rfl (G.val rfl rfl (pv_assign rfl) ?_)
  refine G.nil ?_
  refine G.nThen ?_
  refine G.seq ?_
  refine G.seq ?_
  refine G.cutK (X := Unit) (ts := [0, 4, 5, 8]) (p := []) (fun _ => True) (fun _ => [(22, .bool (decide (¬ (checkT (ens xs)).1 = 0 ∨ ¬ isAt (ens xs) s)))]) (fun _ => []) (.cons rfl (.cons rfl (.cons rfl (.cons rfl .nil)))) (by repeat (first | exact Sub.nil | (apply Sub.cons; (repeat (first | with_reducible exact Sel.here | exact Sel.here | apply Sel.there))))) (.cons .nil) (by repeat (first | exact Ap.nil | apply Ap.cons)) ?_ ?_
  · refine G.region ?_
    refine G.op rfl (G.val rfl rfl (pv_move rfl) ?_)
    refine G.op rfl (G.val rfl rfl (pv_neq rfl rfl) ?_)
    refine G.op rfl (G.val rfl rfl (pv_move rfl) ?_)
    refine G.partP (t := 19) rfl (fun h19 => ?_) (fun h19 => ?_)
    · refine G.pass rfl rfl rfl rfl rfl rfl ?_
      refine G.pass rfl rfl rfl rfl rfl rfl ?_
      refine G.op rfl (G.val rfl rfl (pv_pick rfl rfl) ?_)
      refine G.nil ?_
      exact G.meet (()) (by first | exact trivial | ((try dsimp only); exact trivial)) (.consE rfl (by first | exact dec_t (.inl (by assumption)) | exact dec_e ⟨fun h => .inr (hneg.1 h), fun h => hneg.2 (h.resolve_left (by assumption))⟩) (.cons rfl (.cons rfl (.cons rfl (.cons rfl .nil))))) (by repeat (first | exact Sub.nil | (apply Sub.cons; (repeat (first | with_reducible exact Sel.here | exact Sel.here | apply Sel.there)))))
    · refine G.want rfl rfl rfl (G.val rfl rfl (pv_move rfl) ?_)
      refine G.want rfl rfl rfl (G.val rfl rfl (pv_lss rfl rfl) ?_)
      refine G.op rfl (G.val rfl rfl (pv_pick rfl rfl) ?_)
      refine G.nil ?_
      exact G.meet (()) (by first | exact trivial | ((try dsimp only); exact trivial)) (.consE rfl (by first | exact dec_t (.inl (by assumption)) | exact dec_e ⟨fun h => .inr (hneg.1 h), fun h => hneg.2 (h.resolve_left (by assumption))⟩) (.cons rfl (.cons rfl (.cons rfl (.cons rfl .nil))))) (by repeat (first | exact Sub.nil | (apply Sub.cons; (repeat (first | with_reducible exact Sel.here | exact Sel.here | apply Sel.there)))))
  · intro _ hJ
    try dsimp only at hJ
    try dsimp only
    refine G.condP rfl (fun h22 => ?_) (fun h22 => ?_)
    · have hno : findM (ens xs) s = none := h22.elim find_bad find_no
      refine G.seq ?_
      refine G.region ?_
      refine G.op rfl (G.val rfl rfl (pv_buildSt (z := [.string ⟨#[]⟩, .int .i64 0, .int .i64 0, .slice none 0 0, .string ⟨#[]⟩]) (pl := [(0, 1), (1, 1), (2, 1), (3, 1), (4, 1)]) Try.underlying31 (by kernel_rfl) (by kernel_rfl) rfl (by repeat (first | exact Fl.nil | (apply Fl.cons; exact rfl; (first | exact cells_of (by first | rfl | with_reducible assumption) | exact rfl); exact rfl; exact rfl; repeat (first | exact Sn.nil | (apply Sn.cons; repeat (first | exact St.zero | apply St.succ))))))) ?_)
      refine G.op rfl (G.storeN (by kernel_rfl) rfl rfl (by first | exact (all1_cons (by first | rfl | with_reducible assumption) (all1_cons (by first | rfl | with_reducible assumption) (all1_cons (by first | rfl | with_reducible assumption) (all1_cons (by first | rfl | with_reducible assumption) (all1_cons (by first | rfl | with_reducible assumption) all1_nil))))) | exact List.all_eq_true.2 (vByte_one _) | rfl) (by repeat (first | with_reducible exact Sel.here | exact Sel.here | apply Sel.there)) (by first | (simp; done) | exact Nat.le_of_ble_eq_true rfl) ?_)
      refine G.op rfl (G.val rfl rfl (pv_assign rfl) ?_)
      refine G.nil ?_
      refine G.nThen ?_
      refine G.ret ?_
      refine G.rThen ?_
      rw [hno]
      refine G.ownBNil 5 ?_
      exact G.doneG (.slice none 0 0) (by first | exact trivial | ((try dsimp only); exact trivial)) rfl (Rv.cellN (cs := [_, _, _, _, _]) rfl Try.underlying31 rfl (by kernel_rfl) (by first | exact blk_range (k := 5) (by (repeat (first | with_reducible exact Sel.here | exact Sel.here | apply Sel.there)); done) (by rfl)) (Rv.tmp rfl Rv.nil)) rfl (by repeat (first | exact Sub.nil | (apply Sub.cons; (repeat (first | with_reducible exact Sel.here | exact Sel.here | apply Sel.there)))))
    · have h0 : (checkT (ens xs)).1 = 0 := Decidable.of_not_not (fun h => h22 (.inl h))
      have hat : isAt (ens xs) s := Decidable.of_not_not (fun h => h22 (.inr h))
      obtain ⟨hz1, hz2, hz3⟩ := checkT_zero h0
      obtain ⟨k, hkl, hka, hkp⟩ := atM_get hat
      have hfa := find_at h0 (List.getElem_mem hkl) hkp
      rw [hka]
      have hlt : k < xs.length := by omega
      rw [ens_get hlt] at hfa hkp
      have hEv := helv k hlt
      have hRv := Ro.evRng hEv
      have hDv := Ro.evDat hEv
      obtain ⟨hk1v, hk2v, hlpv, hldv, hltv⟩ := Ro.evOk hEv
      have hCv := Ro.one1 hDv
      refine G.skip ?_
      refine G.nThen ?_
      refine G.seq ?_
      refine G.region ?_
      refine G.op rfl (G.val rfl rfl (pv_move rfl) ?_)
      refine G.op rfl (G.val rfl rfl (pv_move rfl) ?_)
      refine G.op rfl (G.val rfl rfl (pv_ixSl (sz := 5) Try.underlying22 (by kernel_rfl) rfl rfl (by first | with_reducible assumption | assumption | exact fun _ => rfl) rfl (by omega)) ?_)
      refine G.op rfl (G.val rfl rfl (pv_loadN (cs := [_, _, _, _, _]) Try.underlying31 rfl (by kernel_rfl) rfl (by first | exact blk_range (k := 5) (by (repeat (first | with_reducible exact Sel.here | exact Sel.here | apply Sel.there)); done) (by rfl) | exact ro_rng0 (by assumption) | exact rng_range (k := 5) (by (repeat (first | with_reducible exact Sel.here | exact Sel.here | apply Sel.there)); done) (by rfl) | exact ro_range (k := 5) (by assumption) (by rfl) | exact ro_rngR (k := 5) (by assumption) (by rfl))) ?_)
      refine G.op rfl (G.cS rfl rfl rfl rfl Try.func52 rfl rfl (by repeat (first | exact Sub.nil | (apply Sub.cons; (repeat (first | with_reducible exact Sel.here | exact Sel.here | apply Sel.there))))) (may1 (by first | (apply May.old; first | with_reducible assumption | assumption) | (apply Sel.may; (repeat (first | with_reducible exact Sel.here | exact Sel.here | apply Sel.there)); done) | (apply may_own; (repeat (first | with_reducible exact Sel.here | exact Sel.here | apply Sel.there)); exact rfl; exact (fun _ _ => trivial); done) | (apply may_ownB; (repeat (first | with_reducible exact Sel.here | exact Sel.here | apply Sel.there)); done) | (apply may_tree; (repeat (first | with_reducible exact Sel.here | exact Sel.here | apply Sel.there)); (repeat (first | with_reducible exact Sel.here | exact Sel.here | apply Sel.there)); assumption; done))) (own_tr xs[k].1 xs[k].2 (by omega)) (by repeat (first | exact Ap.nil | apply Ap.cons)) ?_)
      intro x28 hJ
      try dsimp only at hJ
      try dsimp only
      refine G.ownBFact (by repeat (first | with_reducible exact Sel.here | exact Sel.here | apply Sel.there)) (v := x28) (fun hzc => ?_)
      refine G.op rfl (G.storeN (by kernel_rfl) rfl rfl (by first | exact (all1_cons (by first | rfl | with_reducible assumption) (all1_cons (by first | rfl | with_reducible assumption) (all1_cons (by first | rfl | with_reducible assumption) (all1_cons (by first | rfl | with_reducible assumption) (all1_cons (by first | rfl | with_reducible assumption) all1_nil))))) | exact List.all_eq_true.2 (vByte_one _) | rfl) (by repeat (first | with_reducible exact Sel.here | exact Sel.here | apply Sel.there)) (by first | (simp; done) | exact Nat.le_of_ble_eq_true rfl) ?_)
      refine G.op rfl (G.val rfl rfl (pv_assign rfl) ?_)
      refine G.nil ?_
      refine G.nThen ?_
      refine G.ret ?_
      rw [hfa]
      exact G.doneG (x28) (by first | exact trivial | ((try dsimp only); exact trivial)) rfl (Rv.cellN (cs := [_, _, _, _, _]) rfl Try.underlying31 rfl (by kernel_rfl) (by first | exact blk_range (k := 5) (by (repeat (first | with_reducible exact Sel.here | exact Sel.here | apply Sel.there)); done) (by rfl)) (Rv.tmp rfl Rv.nil)) rfl (by repeat (first | exact Sub.nil | (apply Sub.cons; (repeat (first | with_reducible exact Sel.here | exact Sel.here | apply Sel.there)))))
end Go.Proofs.Ytchgaedidfefoaa

/- Contracts of layer 8: entries that are taken out of a tree. Conditions: the trees are of at most a thousand entries. -/
set_option linter.unusedVariables false
set_option linter.unusedSimpArgs false
namespace Go.Proofs.Ytchgaedidfefoaa
open Go.RowKit

theorem flat_put {ws : List ET} {sp : List Value} {i : Nat} (h : i < ws.length) (x : ET) : putN (flatT ws ++ sp) (0 + i * 5) (evC x) = flatT (ws.set i x) ++ sp := by
  have hl : (flatT (ws.set i x)).length = ws.length * 5 := by rw [flatT_length, List.length_set]
  have hl2 : (flatT ws).length = ws.length * 5 := flatT_length ws
  apply List.ext_getElem?
  intro j
  rw [putN_get _ _ _ _ (by rw [evC_length, List.length_append, hl2]; omega), evC_length]
  rcases Nat.lt_or_ge j (ws.length * 5) with hj | hj
  · obtain ⟨q, r, rfl, hr, hq⟩ : ∃ q r, j = q * 5 + r ∧ r < 5 ∧ q < ws.length := ⟨j / 5, j % 5, by omega, by omega, by omega⟩
    rw [List.getElem?_append_left (by rw [hl2]; omega), flatT_get hq hr, List.getElem?_append_left (by rw [hl]; omega), flatT_get (by rw [List.length_set]; exact hq) hr]
    by_cases hiq : i = q
    · subst hiq
      rw [List.getElem_set_self, if_pos ⟨by omega, by omega⟩, show i * 5 + r - (0 + i * 5) = r by omega]
    · rw [List.getElem_set_ne hiq, if_neg (by omega)]
  · rw [if_neg (by omega), List.getElem?_append_right (by rw [hl2]; omega), List.getElem?_append_right (by rw [hl]; omega), hl, hl2]
theorem flat_take {ws : List ET} {sp : List Value} {i : Nat} (h : i ≤ ws.length) : (flatT ws ++ sp).take (0 + i * 5) = flatT (ws.take i) := by
  rw [show flatT ws = flatT (ws.take i) ++ flatT (ws.drop i) from by rw [← flatT_app, List.take_append_drop], List.append_assoc]
  exact List.take_left' (by rw [flatT_length, List.length_take]; omega)
/-- is an entry gone, with a path's? -/
def goneP (s : List UInt8) (e : En) : Prop := e.path = s ∨ underM e.path s
instance (s : List UInt8) (e : En) : Decidable (goneP s e) := inferInstanceAs (Decidable (_ ∨ _))
def keepB (s : List UInt8) (e : En) : Bool := ! decide (goneP s e)
def idxG (s : List UInt8) (es : List En) : Nat := es.findIdx fun e => decide (goneP s e)
theorem idx_at {s : List UInt8} {es : List En} {i : Nat} (hi : i < es.length) (h : ∀ q (hq : q < es.length), q < i → ¬ goneP s es[q]) (hg : goneP s es[i]) : idxG s es = i := by
  refine (List.findIdx_eq hi).2 ⟨by simpa using hg, fun j hj => ?_⟩
  simpa using h j (by omega) hj
theorem idx_no {s : List UInt8} {es : List En} (h : ∀ q (hq : q < es.length), ¬ goneP s es[q]) : idxG s es = es.length := List.findIdx_eq_length_of_false fun x hx => by
  obtain ⟨j, hj, rfl⟩ := List.getElem_of_mem hx
  simpa using h j hj
def keepX (s : List UInt8) (x : ET) : Bool := keepB s x.1
theorem idx_spec {s : List UInt8} {xs : List ET} {i : Nat} (h : idxG s (ens xs) = i) (hi : i < xs.length) : (xs.take (i + 1)).filter (keepX s) = xs.take i := by
  have hl := ens_length xs
  have h1 : ∀ q (hq : q < xs.length), q < i → keepX s xs[q] = true := fun q hq hqi => by
    have := List.not_of_lt_findIdx (p := fun e => decide (goneP s e)) (xs := ens xs) (i := q) (by unfold idxG at h; omega)
    rw [ens_get hq] at this
    simpa [keepX, keepB] using this
  have h2 : keepX s xs[i] = false := by
    have := List.findIdx_getElem (p := fun e => decide (goneP s e)) (xs := ens xs) (w := by unfold idxG at h; omega)
    unfold idxG at h
    simp only [h] at this
    rw [ens_get hi] at this
    simpa [keepX, keepB] using this
  rw [List.take_succ_eq_append_getElem hi, List.filter_append, List.filter_eq_self.2 (fun x hx => by
    obtain ⟨q, hq, rfl⟩ := List.getElem_of_mem hx
    rw [List.getElem_take]
    rw [List.length_take] at hq
    exact h1 q (by omega) (by omega))]
  simp [h2]
theorem idx_all {s : List UInt8} {xs : List ET} (h : idxG s (ens xs) = xs.length) : xs.filter (keepX s) = xs := List.filter_eq_self.2 fun x hx => by
  obtain ⟨q, hq, rfl⟩ := List.getElem_of_mem hx
  have := List.not_of_lt_findIdx (p := fun e => decide (goneP s e)) (xs := ens xs) (i := q) (by unfold idxG at h; omega)
  rw [ens_get hq] at this
  simpa [keepX, keepB] using this
theorem idx_le (s : List UInt8) (xs : List ET) : idxG s (ens xs) ≤ xs.length := by
  have := List.findIdx_le_length (p := fun e => decide (goneP s e)) (xs := ens xs)
  rw [ens_length] at this
  exact this
theorem filt_one {s : List UInt8} {xs : List ET} {j : Nat} (h : j < xs.length) (k : ¬ goneP s xs[j].1) : (xs.take (j + 1)).filter (keepX s) = (xs.take j).filter (keepX s) ++ [xs[j]] := by
  rw [List.take_succ_eq_append_getElem h, List.filter_append]
  simp [keepX, keepB, k]
theorem filt_no {s : List UInt8} {xs : List ET} {j : Nat} (h : j < xs.length) (k : goneP s xs[j].1) : (xs.take (j + 1)).filter (keepX s) = (xs.take j).filter (keepX s) := by
  rw [List.take_succ_eq_append_getElem h, List.filter_append]
  simp [keepX, keepB, k]
set_option maxRecDepth 20000 in
set_option maxHeartbeats 4000000 in

theorem drop1_tr (c : Nat) (e : En) (d : Value) (s : List UInt8) (hd : d.oneCell' = true) (hl : e.path.length ≤ 9223372036854775807) (hs : s.length ≤ 9223372036854775807) : Tr Try.prog 58 #[.agg #[.string (sB e.path), .int .i64 e.kind, .int .i64 e.mode, d, .string (sB e.to)], .pointer (some ⟨c, 0, none⟩)] [blk c 9 [.string (sB s)]] [] (T0 (.bool (decide (goneP s e)))) := by
  refine Tr.of (l := [(0, .agg #[.string (sB e.path), .int .i64 e.kind, .int .i64 e.mode, d, .string (sB e.to)]), (1, .pointer (some ⟨c, 0, none⟩))]) Try.func58 rfl (n := 14) rfl (.cons rfl (.cons rfl .nil)) (fun w0 hro => ?_)
  have hb := ro1 hro
  refine G.seq ?_
  refine G.region ?_
  refine G.op rfl (G.box rfl rfl (cs := [_, _, _, _, _]) rfl ?_)
  intro b2
  refine G.op rfl (G.val rfl rfl (pv_assign rfl) ?_)
  refine G.nil ?_
  refine G.nThen ?_
  refine G.seq ?_
  refine G.region ?_
  refine G.op rfl (G.val rfl rfl (pv_fieldAddrK (sz := 0) (k := 0) Try.underlying31 rfl (by kernel_rfl) rfl rfl) ?_)
  refine G.op rfl (G.val rfl rfl (pv_load Try.underlying9 rfl rfl (by first | exact blk_cell (by (repeat (first | with_reducible exact Sel.here | exact Sel.here | apply Sel.there)); done) (by rfl) | exact rng_cell (by (repeat (first | with_reducible exact Sel.here | exact Sel.here | apply Sel.there)); done) (by rfl) | exact ro_blk (by assumption) (by rfl) | exact ro_rngC (by assumption) (by rfl) | exact ro_int (by assumption) | exact ro_byte (by assumption) | exact ro_str (by assumption) | with_reducible assumption | assumption)) ?_)
  refine G.op rfl (G.val rfl rfl (pv_load Try.underlying9 rfl rfl (by first | exact blk_cell (by (repeat (first | with_reducible exact Sel.here | exact Sel.here | apply Sel.there)); done) (by rfl) | exact rng_cell (by (repeat (first | with_reducible exact Sel.here | exact Sel.here | apply Sel.there)); done) (by rfl) | exact ro_blk (by assumption) (by rfl) | exact ro_rngC (by assumption) (by rfl) | exact ro_int (by assumption) | exact ro_byte (by assumption) | exact ro_str (by assumption) | with_reducible assumption | assumption)) ?_)
  refine G.op rfl (G.val rfl rfl (pv_eqlS rfl rfl) ?_)
  refine G.op rfl (G.val rfl rfl (pv_move rfl) ?_)
  refine G.partP (t := 8) rfl (fun h8 => ?_) (fun h8 => ?_)
  · refine G.pass rfl rfl rfl rfl rfl rfl ?_
    refine G.pass rfl rfl rfl rfl rfl rfl ?_
    refine G.pass rfl rfl rfl rfl rfl rfl ?_
    refine G.pass rfl rfl rfl rfl rfl rfl ?_
    refine G.op rfl (G.val rfl rfl (pv_pick rfl rfl) ?_)
    refine G.op rfl (G.val rfl rfl (pv_assign rfl) ?_)
    refine G.nil ?_
    refine G.nThen ?_
    refine G.ret ?_
    exact G.done0G rfl (Rv.tmp rfl Rv.nil) (by simp_all [retV1, goneP])
  · refine G.want rfl rfl rfl (G.val rfl rfl (pv_fieldAddrK (sz := 0) (k := 0) Try.underlying31 rfl (by kernel_rfl) rfl rfl) ?_)
    refine G.want rfl rfl rfl (G.val rfl rfl (pv_load Try.underlying9 rfl rfl (by first | exact blk_cell (by (repeat (first | with_reducible exact Sel.here | exact Sel.here | apply Sel.there)); done) (by rfl) | exact rng_cell (by (repeat (first | with_reducible exact Sel.here | exact Sel.here | apply Sel.there)); done) (by rfl) | exact ro_blk (by assumption) (by rfl) | exact ro_rngC (by assumption) (by rfl) | exact ro_int (by assumption) | exact ro_byte (by assumption) | exact ro_str (by assumption) | with_reducible assumption | assumption)) ?_)
    refine G.want rfl rfl rfl (G.val rfl rfl (pv_load Try.underlying9 rfl rfl (by first | exact blk_cell (by (repeat (first | with_reducible exact Sel.here | exact Sel.here | apply Sel.there)); done) (by rfl) | exact rng_cell (by (repeat (first | with_reducible exact Sel.here | exact Sel.here | apply Sel.there)); done) (by rfl) | exact ro_blk (by assumption) (by rfl) | exact ro_rngC (by assumption) (by rfl) | exact ro_int (by assumption) | exact ro_byte (by assumption) | exact ro_str (by assumption) | with_reducible assumption | assumption)) ?_)
    refine G.want rfl rfl rfl (G.cR rfl rfl rfl rfl Try.func37 rfl rfl may0 (under_tr _ _ (by omega) (by omega)) ?_)
    refine G.op rfl (G.val rfl rfl (pv_pick rfl rfl) ?_)
    refine G.op rfl (G.val rfl rfl (pv_assign rfl) ?_)
    refine G.nil ?_
    refine G.nThen ?_
    refine G.ret ?_
    exact G.done0G rfl (Rv.tmp rfl Rv.nil) (by simp_all [retV1, goneP])
set_option maxRecDepth 20000 in
set_option maxHeartbeats 4000000 in

theorem indexF_tr (g cap c : Nat) (sp : List Value) (xs : List ET) (s : List UInt8) (hs : s.length ≤ 9223372036854775807) (hn : xs.length ≤ 1000) (hk : xs.length ≤ cap) (hm : cap ≤ 9223372036854775807) (hok : ∀ x ∈ xs, EnOk x.1 ∧ x.2.oneCell' = true) : Tr Try.prog 75 #[.slice (some ⟨g, 0, none⟩) xs.length cap, .func (.func 58) #[] #[.pointer (some ⟨c, 0, none⟩)]] [blk g 31 (flatT xs ++ sp), blk c 9 [.string (sB s)]] [] (T0 (.int .i64 (if idxG s (ens xs) = xs.length then -1 else (idxG s (ens xs) : Int)))) := by
  refine Tr.of (l := [(0, .slice (some ⟨g, 0, none⟩) xs.length cap), (1, .func (.func 58) #[] #[.pointer (some ⟨c, 0, none⟩)])]) Try.func75 rfl (n := 19) rfl (.cons rfl (.cons rfl .nil)) (fun w0 hro => ?_)
  obtain ⟨hbg, hbc⟩ := ro2 hro
  have hel' := ens_length xs
  refine G.seq ?_
  refine G.region ?_
  refine G.op rfl (G.val rfl rfl (pv_assign rfl) ?_)
  refine G.nil ?_
  refine G.nThen ?_
  refine G.seq ?_
  refine G.seq ?_
  refine G.region ?_
  refine G.op rfl (G.val rfl rfl (pv_move rfl) ?_)
  refine G.op rfl (G.val rfl rfl (pv_lenSl Try.underlying22 rfl) ?_)
  refine G.op rfl (G.val rfl rfl (pv_move rfl) ?_)
  refine G.nil ?_
  refine G.nThen ?_
  refine G.block ?_
  refine G.loopK (X := Nat) (ts := [0, 1, 7]) (fun i => i ≤ xs.length ∧ (∀ q (hq : q < xs.length), q < i → ¬ goneP s xs[q].1)) (fun i => [(8, .int .i64 (i : Int))]) (fun i => []) (fun i => xs.length - i) (x0 := 0) (.cons rfl (.cons rfl (.cons rfl .nil))) (by repeat (first | exact Sub.nil | (apply Sub.cons; (repeat (first | with_reducible exact Sel.here | exact Sel.here | apply Sel.there))))) (.cons .nil) (by repeat (first | exact Ap.nil | apply Ap.cons)) (by first | exact trivial | ((try dsimp only); exact ⟨Nat.zero_le _, fun q _ h => absurd h (by omega)⟩)) (.consE rfl (by first | rfl | exact int_eq (by first | omega | (dsimp only; omega)) | exact congrArg _ (by omega)) .nil) (fun i hJ => ?_)
  try dsimp only at hJ
  try dsimp only
  obtain ⟨hki, hJ⟩ := hJ
  have hJ0 := hJ
  refine G.seq ?_
  refine G.region ?_
  refine G.op rfl (G.val rfl rfl (pv_lss rfl rfl) ?_)
  refine G.nil ?_
  refine G.nThen ?_
  refine G.seq ?_
  refine G.condP rfl (fun h9 => ?_) (fun h9 => ?_)
  · have hlt : i < xs.length := by omega
    obtain ⟨⟨hk1, hk2, hlp, hld, hlt2⟩, hone⟩ := hok _ (List.getElem_mem hlt)
    refine G.skip ?_
    refine G.nThen ?_
    refine G.seq ?_
    refine G.block ?_
    refine G.seq ?_
    refine G.region ?_
    refine G.op rfl (G.val rfl rfl (pv_move rfl) ?_)
    refine G.op rfl (G.val rfl rfl (pv_assign rfl) ?_)
    refine G.nil ?_
    refine G.nThen ?_
    refine G.seq ?_
    refine G.region ?_
    refine G.op rfl (G.val rfl rfl (pv_move rfl) ?_)
    refine G.op rfl (G.val rfl rfl (pv_move rfl) ?_)
    refine G.op rfl (G.val rfl rfl (pv_move rfl) ?_)
    refine G.op rfl (G.val rfl rfl (pv_ixSl (sz := 5) Try.underlying22 (by kernel_rfl) rfl rfl (by first | with_reducible assumption | assumption | exact fun _ => rfl) rfl (by omega)) ?_)
    refine G.op rfl (G.val rfl rfl (pv_loadN (cs := [.string (sB xs[i].1.path), .int .i64 xs[i].1.kind, .int .i64 xs[i].1.mode, xs[i].2, .string (sB xs[i].1.to)]) Try.underlying31 rfl (by kernel_rfl) rfl (ro_range (k := 5) (by assumption) (flat_row (by omega)))) ?_)
    refine G.op rfl (G.cRv rfl rfl rfl rfl rfl Try.func58 rfl rfl (by rfl) (may1 (by first | (apply May.old; first | with_reducible assumption | assumption) | (apply Sel.may; (repeat (first | with_reducible exact Sel.here | exact Sel.here | apply Sel.there)); done) | (apply may_own; (repeat (first | with_reducible exact Sel.here | exact Sel.here | apply Sel.there)); exact rfl; exact (fun _ _ => trivial); done) | (apply may_ownB; (repeat (first | with_reducible exact Sel.here | exact Sel.here | apply Sel.there)); done) | (apply may_tree; (repeat (first | with_reducible exact Sel.here | exact Sel.here | apply Sel.there)); (repeat (first | with_reducible exact Sel.here | exact Sel.here | apply Sel.there)); assumption; done))) (drop1_tr c xs[i].1 _ s hone (by omega) hs) ?_)
    refine G.nil ?_
    refine G.nThen ?_
    refine G.condP rfl (fun h16 => ?_) (fun h16 => ?_)
    · have hg : goneP s xs[i].1 := by assumption
      refine G.seq ?_
      refine G.region ?_
      refine G.op rfl (G.val rfl rfl (pv_move rfl) ?_)
      refine G.op rfl (G.val rfl rfl (pv_assign rfl) ?_)
      refine G.nil ?_
      refine G.nThen ?_
      refine G.ret ?_
      refine G.rBlock ?_
      refine G.rThen ?_
      refine G.rThen ?_
      refine G.rBlock ?_
      refine G.rThen ?_
      exact G.done0G rfl (Rv.tmp rfl Rv.nil) (by rw [idx_at (s := s) (es := ens xs) (i := i) (by omega) (fun q hq hqi => by rw [ens_get (by omega)]; exact hJ0 q (by omega) hqi) (by rw [ens_get hlt]; exact hg), if_neg (by omega)]; rfl)
    · have hng : ¬ goneP s xs[i].1 := by assumption
      refine G.skip ?_
      refine G.nBlock ?_
      refine G.nThen ?_
      refine G.region ?_
      refine G.op rfl (G.val rfl rfl (pv_add64 rfl rfl (by omega)) ?_)
      refine G.op rfl (G.val rfl rfl (pv_move rfl) ?_)
      refine G.nil ?_
      exact G.next (i + 1) (by first | exact trivial | ((try dsimp only); exact ⟨by omega, fun q hq hqi => by rcases Nat.lt_or_ge q i with h1 | h1; exact hJ0 q hq h1; obtain rfl : q = i := (by omega); exact hng⟩)) (by (try dsimp only); omega) (.consE rfl (by first | rfl | exact int_eq (by first | omega | (dsimp only; omega)) | exact congrArg _ (by omega)) (.cons rfl (.cons rfl (.cons rfl .nil)))) (by repeat (first | exact Sub.nil | (apply Sub.cons; (repeat (first | with_reducible exact Sel.here | exact Sel.here | apply Sel.there)))))
  · refine G.exit ?_
    refine G.eThen ?_
    refine G.eThen ?_
    refine G.eBlock ?_
    refine G.nThen ?_
    refine G.seq ?_
    refine G.region ?_
    refine G.op rfl (G.val rfl rfl (pv_assign rfl) ?_)
    refine G.nil ?_
    refine G.nThen ?_
    refine G.ret ?_
    exact G.done0G rfl (Rv.tmp rfl Rv.nil) (by rw [idx_no (s := s) (es := ens xs) (fun q hq => by rw [ens_get (by omega)]; exact hJ q (by omega) (by omega)), if_pos (by omega)]; rfl)
set_option maxRecDepth 20000 in
set_option maxHeartbeats 4000000 in

theorem delete_tr (g cap c : Nat) (sp : List Value) (xs : List ET) (s : List UInt8) (hs : s.length ≤ 9223372036854775807) (hn : xs.length ≤ 1000) (hk : xs.length ≤ cap) (hm : cap ≤ 9223372036854775807) (hok : ∀ x ∈ xs, EnOk x.1 ∧ x.2.oneCell' = true) : Tr Try.prog 57 #[.slice (some ⟨g, 0, none⟩) xs.length cap, .func (.func 58) #[] #[.pointer (some ⟨c, 0, none⟩)]] [blk c 9 [.string (sB s)]] [blk g 31 (flatT xs ++ sp)] (TX (fun z : List ET × List Value => z.1 = xs.filter (keepX s) ∧ (flatT z.1 ++ z.2).length = (flatT xs ++ sp).length) (fun z => .slice (some ⟨g, 0, none⟩) z.1.length cap) (fun z => [blk g 31 (flatT z.1 ++ z.2)])) := by
  refine Tr.of (l := [(0, .slice (some ⟨g, 0, none⟩) xs.length cap), (1, .func (.func 58) #[] #[.pointer (some ⟨c, 0, none⟩)])]) Try.func57 rfl (n := 42) rfl (.cons rfl (.cons rfl .nil)) (fun w0 hro => ?_)
  have hbc := ro1 hro
  have hel' := ens_length xs
  have hix := idx_le s xs
  have hia := idx_all (s := s) (xs := xs)
  refine G.seq ?_
  refine G.region ?_
  refine G.op rfl (G.val rfl rfl (pv_assign rfl) ?_)
  refine G.nil ?_
  refine G.nThen ?_
  refine G.seq ?_
  refine G.region ?_
  refine G.op rfl (G.val rfl rfl (pv_move rfl) ?_)
  refine G.op rfl (G.val rfl rfl (pv_move rfl) ?_)
  refine G.op rfl (G.cR rfl rfl rfl rfl Try.func75 rfl rfl (may2 (by first | (apply May.old; first | with_reducible assumption | assumption) | (apply Sel.may; (repeat (first | with_reducible exact Sel.here | exact Sel.here | apply Sel.there)); done) | (apply may_own; (repeat (first | with_reducible exact Sel.here | exact Sel.here | apply Sel.there)); exact rfl; exact (fun _ _ => trivial); done) | (apply may_ownB; (repeat (first | with_reducible exact Sel.here | exact Sel.here | apply Sel.there)); done) | (apply may_tree; (repeat (first | with_reducible exact Sel.here | exact Sel.here | apply Sel.there)); (repeat (first | with_reducible exact Sel.here | exact Sel.here | apply Sel.there)); assumption; done)) (by first | (apply May.old; first | with_reducible assumption | assumption) | (apply Sel.may; (repeat (first | with_reducible exact Sel.here | exact Sel.here | apply Sel.there)); done) | (apply may_own; (repeat (first | with_reducible exact Sel.here | exact Sel.here | apply Sel.there)); exact rfl; exact (fun _ _ => trivial); done) | (apply may_ownB; (repeat (first | with_reducible exact Sel.here | exact Sel.here | apply Sel.there)); done) | (apply may_tree; (repeat (first | with_reducible exact Sel.here | exact Sel.here | apply Sel.there)); (repeat (first | with_reducible exact Sel.here | exact Sel.here | apply Sel.there)); assumption; done))) (indexF_tr g cap c sp xs s hs hn hk hm hok) ?_)
  obtain ⟨k, hk0⟩ : ∃ k, idxG s (ens xs) = k := ⟨_, rfl⟩
  have his := idx_spec (i := k) hk0
  rw [hk0] at hix hia
  rw [hk0]
  refine G.op rfl (G.val rfl rfl (pv_assign rfl) ?_)
  refine G.nil ?_
  refine G.nThen ?_
  refine G.seq ?_
  refine G.seq ?_
  refine G.region ?_
  refine G.op rfl (G.val rfl rfl (pv_move rfl) ?_)
  refine G.op rfl (G.val rfl rfl (pv_eql rfl rfl) ?_)
  refine G.nil ?_
  refine G.nThen ?_
  refine G.condP rfl (fun h12 => ?_) (fun h12 => ?_)
  · have hkk : k = xs.length := by by_cases h : k = xs.length; exact h; rw [if_neg h] at h12; omega
    refine G.seq ?_
    refine G.region ?_
    refine G.op rfl (G.val rfl rfl (pv_move rfl) ?_)
    refine G.op rfl (G.val rfl rfl (pv_assign rfl) ?_)
    refine G.nil ?_
    refine G.nThen ?_
    refine G.ret ?_
    refine G.rThen ?_
    exact G.doneX1 ((xs, sp)) (by first | exact trivial | ((try dsimp only); exact ⟨(hia hkk).symm, rfl⟩)) rfl rfl rfl (by repeat (first | exact Sub.nil | (apply Sub.cons; (repeat (first | with_reducible exact Sel.here | exact Sel.here | apply Sel.there)))))
  · have hkk : ¬ k = xs.length := fun h => h12 (by rw [if_pos h])
    rw [if_neg hkk]
    refine G.skip ?_
    refine G.nThen ?_
    refine G.seq ?_
    refine G.seq ?_
    refine G.region ?_
    refine G.op rfl (G.val rfl rfl (pv_move rfl) ?_)
    refine G.op rfl (G.val rfl rfl (pv_add64 rfl rfl (by omega)) ?_)
    refine G.op rfl (G.val rfl rfl (pv_assign rfl) ?_)
    refine G.nil ?_
    refine G.nThen ?_
    refine G.block ?_
    refine G.loopK (X := (List ET) × Nat × Nat) (ts := [0, 1, 4]) (fun st => st.1.length = xs.length ∧ st.2.1 < st.2.2 ∧ st.2.2 ≤ xs.length ∧ st.1.take st.2.1 = (xs.take st.2.2).filter (keepX s) ∧ ∀ q (h1 : q < st.1.length) (h2 : q < xs.length), st.2.2 ≤ q → st.1[q] = xs[q]) (fun st => [(5, .int .i64 (st.2.1 : Int)), (6, .int .i64 (st.2.2 : Int))]) (fun st => [blk g 31 (flatT st.1 ++ sp)]) (fun st => xs.length - st.2.2) (x0 := (xs, k, (k + 1))) (.cons rfl (.cons rfl (.cons rfl .nil))) (by repeat (first | exact Sub.nil | (apply Sub.cons; (repeat (first | with_reducible exact Sel.here | exact Sel.here | apply Sel.there))))) (.cons (.cons .nil)) (by repeat (first | exact Ap.nil | apply Ap.cons)) (by first | exact trivial | ((try dsimp only); exact ⟨rfl, by omega, by omega, (his (by omega)).symm, fun q _ _ _ => rfl⟩)) (.consE rfl (by first | rfl | exact int_eq (by first | omega | (dsimp only; omega)) | exact congrArg _ (by omega)) (.consE rfl (by first | rfl | exact int_eq (by first | omega | (dsimp only; omega)) | exact congrArg _ (by omega)) .nil)) (fun st hJ => ?_)
    obtain ⟨ws, i, j⟩ := st
    try dsimp only at hJ
    try dsimp only
    obtain ⟨hwl, hij, hjn, hwt, hwq0⟩ := hJ
    refine G.seq ?_
    refine G.seq ?_
    refine G.region ?_
    refine G.op rfl (G.val rfl rfl (pv_move rfl) ?_)
    refine G.op rfl (G.val rfl rfl (pv_move rfl) ?_)
    refine G.op rfl (G.val rfl rfl (pv_lenSl Try.underlying22 rfl) ?_)
    refine G.op rfl (G.val rfl rfl (pv_lss rfl rfl) ?_)
    refine G.nil ?_
    refine G.nThen ?_
    refine G.condP rfl (fun h19 => ?_) (fun h19 => ?_)
    · have hlt : j < xs.length := by omega
      have hlw : j < ws.length := by omega
      have hwq : ws[j] = xs[j] := hwq0 j hlw hlt (Nat.le_refl _)
      obtain ⟨⟨hk1, hk2, hlp, hld, hlt2⟩, hone⟩ := hok _ (List.getElem_mem hlt)
      refine G.skip ?_
      refine G.nThen ?_
      refine G.seq ?_
      refine G.block ?_
      refine G.seq ?_
      refine G.region ?_
      refine G.op rfl (G.val rfl rfl (pv_move rfl) ?_)
      refine G.op rfl (G.val rfl rfl (pv_move rfl) ?_)
      refine G.op rfl (G.val rfl rfl (pv_ixSl (sz := 5) Try.underlying22 (by kernel_rfl) rfl rfl (by first | with_reducible assumption | assumption | exact fun _ => rfl) rfl (by omega)) ?_)
      refine G.op rfl (G.val rfl rfl (pv_loadN (cs := [.string (sB xs[j].1.path), .int .i64 xs[j].1.kind, .int .i64 xs[j].1.mode, xs[j].2, .string (sB xs[j].1.to)]) Try.underlying31 rfl (by kernel_rfl) rfl (blk_range (k := 5) (by (repeat (first | with_reducible exact Sel.here | exact Sel.here | apply Sel.there)); done) (by rw [← hwq]; exact flat_row (by omega)))) ?_)
      refine G.op rfl (G.alloc (z := .agg #[.string ⟨#[]⟩, .int .i64 0, .int .i64 0, .slice none 0 0, .string ⟨#[]⟩]) (cs := [.string ⟨#[]⟩, .int .i64 0, .int .i64 0, .slice none 0 0, .string ⟨#[]⟩]) rfl (by kernel_rfl) rfl ?_)
      intro b7
      refine G.op rfl (G.storeN (by kernel_rfl) rfl rfl (by first | exact (all1_cons (by first | rfl | with_reducible assumption) (all1_cons (by first | rfl | with_reducible assumption) (all1_cons (by first | rfl | with_reducible assumption) (all1_cons (by first | rfl | with_reducible assumption) (all1_cons (by first | rfl | with_reducible assumption) all1_nil))))) | exact List.all_eq_true.2 (vByte_one _) | rfl) (by repeat (first | with_reducible exact Sel.here | exact Sel.here | apply Sel.there)) (by first | (simp; done) | exact Nat.le_of_ble_eq_true rfl) ?_)
      refine G.nil ?_
      refine G.nThen ?_
      refine G.seq ?_
      refine G.region ?_
      refine G.op rfl (G.val rfl rfl (pv_move rfl) ?_)
      refine G.op rfl (G.val rfl rfl (pv_loadN (cs := [_, _, _, _, _]) Try.underlying31 rfl (by kernel_rfl) rfl (by first | exact blk_range (k := 5) (by (repeat (first | with_reducible exact Sel.here | exact Sel.here | apply Sel.there)); done) (by rfl) | exact ro_rng0 (by assumption) | exact rng_range (k := 5) (by (repeat (first | with_reducible exact Sel.here | exact Sel.here | apply Sel.there)); done) (by rfl) | exact ro_range (k := 5) (by assumption) (by rfl) | exact ro_rngR (k := 5) (by assumption) (by rfl))) ?_)
      refine G.op rfl (G.cRv rfl rfl rfl rfl rfl Try.func58 rfl rfl (by rfl) (may1 (by first | (apply May.old; first | with_reducible assumption | assumption) | (apply Sel.may; (repeat (first | with_reducible exact Sel.here | exact Sel.here | apply Sel.there)); done) | (apply may_own; (repeat (first | with_reducible exact Sel.here | exact Sel.here | apply Sel.there)); exact rfl; exact (fun _ _ => trivial); done) | (apply may_ownB; (repeat (first | with_reducible exact Sel.here | exact Sel.here | apply Sel.there)); done) | (apply may_tree; (repeat (first | with_reducible exact Sel.here | exact Sel.here | apply Sel.there)); (repeat (first | with_reducible exact Sel.here | exact Sel.here | apply Sel.there)); assumption; done))) (drop1_tr c xs[j].1 _ s hone (by omega) hs) ?_)
      refine G.op rfl (G.val rfl rfl (pv_notP rfl) ?_)
      refine G.nil ?_
      refine G.nThen ?_
      refine G.condP rfl (fun h29 => ?_) (fun h29 => ?_)
      · have hng : ¬ goneP s xs[j].1 := by assumption
        refine G.seq ?_
        refine G.region ?_
        refine G.op rfl (G.val rfl rfl (pv_move rfl) ?_)
        refine G.op rfl (G.val rfl rfl (pv_move rfl) ?_)
        refine G.op rfl (G.val rfl rfl (pv_loadN (cs := [_, _, _, _, _]) Try.underlying31 rfl (by kernel_rfl) rfl (by first | exact blk_range (k := 5) (by (repeat (first | with_reducible exact Sel.here | exact Sel.here | apply Sel.there)); done) (by rfl) | exact ro_rng0 (by assumption) | exact rng_range (k := 5) (by (repeat (first | with_reducible exact Sel.here | exact Sel.here | apply Sel.there)); done) (by rfl) | exact ro_range (k := 5) (by assumption) (by rfl) | exact ro_rngR (k := 5) (by assumption) (by rfl))) ?_)
        refine G.op rfl (G.val rfl rfl (pv_ixSl (sz := 5) Try.underlying22 (by kernel_rfl) rfl rfl (by first | with_reducible assumption | assumption | exact fun _ => rfl) rfl (by omega)) ?_)
        refine G.op rfl (G.storeN (vs := evC xs[j]) (by kernel_rfl) rfl rfl (by exact (all1_cons rfl (all1_cons rfl (all1_cons rfl (all1_cons hone (all1_cons rfl all1_nil)))))) (by repeat (first | with_reducible exact Sel.here | exact Sel.here | apply Sel.there)) (by rw [evC_length, List.length_append, flatT_length]; omega) ?_)
        rw [flat_put (show i < ws.length by omega)]
        refine G.nil ?_
        refine G.nThen ?_
        refine G.region ?_
        refine G.op rfl (G.val rfl rfl (pv_move rfl) ?_)
        refine G.op rfl (G.val rfl rfl (pv_add64 rfl rfl (by omega)) ?_)
        refine G.op rfl (G.val rfl rfl (pv_assign rfl) ?_)
        refine G.nil ?_
        refine G.nBlock ?_
        refine G.nThen ?_
        refine G.region ?_
        refine G.op rfl (G.val rfl rfl (pv_move rfl) ?_)
        refine G.op rfl (G.val rfl rfl (pv_add64 rfl rfl (by omega)) ?_)
        refine G.op rfl (G.val rfl rfl (pv_assign rfl) ?_)
        refine G.nil ?_
        exact G.next ((ws.set i xs[j], i + 1, j + 1)) (by first | exact trivial | ((try dsimp only); exact ⟨by rw [List.length_set, hwl], by omega, by omega, by rw [take_set_succ (by omega), hwt, filt_one hlt hng], fun q h1 h2 hq => by rw [List.getElem_set_ne (by omega)]; exact hwq0 q (by rw [List.length_set] at h1; exact h1) h2 (by omega)⟩)) (by (try dsimp only); omega) (.consE rfl (by first | rfl | exact int_eq (by first | omega | (dsimp only; omega)) | exact congrArg _ (by omega)) (.consE rfl (by first | rfl | exact int_eq (by first | omega | (dsimp only; omega)) | exact congrArg _ (by omega)) (.cons rfl (.cons rfl (.cons rfl .nil))))) (by repeat (first | exact Sub.nil | (apply Sub.cons; (repeat (first | with_reducible exact Sel.here | exact Sel.here | apply Sel.there)))))
      · have hg : goneP s xs[j].1 := Decidable.of_not_not (by assumption)
        refine G.skip ?_
        refine G.nBlock ?_
        refine G.nThen ?_
        refine G.region ?_
        refine G.op rfl (G.val rfl rfl (pv_move rfl) ?_)
        refine G.op rfl (G.val rfl rfl (pv_add64 rfl rfl (by omega)) ?_)
        refine G.op rfl (G.val rfl rfl (pv_assign rfl) ?_)
        refine G.nil ?_
        exact G.next ((ws, i, j + 1)) (by first | exact trivial | ((try dsimp only); exact ⟨hwl, by omega, by omega, by rw [hwt, filt_no hlt hg], fun q h1 h2 hq => hwq0 q h1 h2 (by omega)⟩)) (by (try dsimp only); omega) (.consE rfl (by first | rfl | exact int_eq (by first | omega | (dsimp only; omega)) | exact congrArg _ (by omega)) (.consE rfl (by first | rfl | exact int_eq (by first | omega | (dsimp only; omega)) | exact congrArg _ (by omega)) (.cons rfl (.cons rfl (.cons rfl .nil))))) (by repeat (first | exact Sub.nil | (apply Sub.cons; (repeat (first | with_reducible exact Sel.here | exact Sel.here | apply Sel.there)))))
    · refine G.exit ?_
      refine G.eThen ?_
      refine G.eThen ?_
      refine G.eBlock ?_
      refine G.nThen ?_
      refine G.seq ?_
      refine G.region ?_
      refine G.op rfl (G.val rfl rfl (pv_move rfl) ?_)
      refine G.op rfl (G.val rfl rfl (pv_move rfl) ?_)
      refine G.op rfl (G.val rfl rfl (pv_subL (sz := 5) Try.underlying22 (by kernel_rfl) rfl rfl rfl (by omega)) ?_)
      obtain rfl : j = xs.length := by omega
      rw [show subV 5 (some ⟨g, 0, none⟩) i xs.length cap = .slice (some ⟨g, 0 + i * 5, none⟩) (xs.length - i) (cap - i) from by unfold subV; rw [if_neg (by omega), Option.map_some, addr_mid]]
      refine G.op rfl (G.clear (z := [.string ⟨#[]⟩, .int .i64 0, .int .i64 0, .slice none 0 0, .string ⟨#[]⟩]) Try.underlying22 (by kernel_rfl) rfl rfl (by repeat (first | with_reducible exact Sel.here | exact Sel.here | apply Sel.there)) (by rw [List.length_append, flatT_length]; simp only [List.length_cons, List.length_nil]; omega) ?_)
      intro sp2 hsp2
      rw [flat_take (by omega)] at hsp2 ⊢
      rw [List.take_length] at hwt
      rw [hwt] at hsp2 ⊢
      have hfl : (xs.filter (keepX s)).length = i := by rw [← hwt, List.length_take]; omega
      refine G.nil ?_
      refine G.nThen ?_
      refine G.seq ?_
      refine G.region ?_
      refine G.op rfl (G.val rfl rfl (pv_move rfl) ?_)
      refine G.op rfl (G.val rfl rfl (pv_move rfl) ?_)
      refine G.op rfl (G.val rfl rfl (pv_subH (sz := 5) Try.underlying22 (by kernel_rfl) rfl rfl rfl (by omega)) ?_)
      refine G.op rfl (G.val rfl rfl (pv_assign rfl) ?_)
      refine G.nil ?_
      refine G.nThen ?_
      refine G.ret ?_
      exact G.doneX1 ((xs.filter (keepX s), sp2)) (by first | exact trivial | ((try dsimp only); exact ⟨rfl, by rw [hsp2, List.length_append, List.length_append, flatT_length, flatT_length, hwl]⟩)) rfl rfl (by rw [← hfl]) (by repeat (first | exact Sub.nil | (apply Sub.cons; (repeat (first | with_reducible exact Sel.here | exact Sel.here | apply Sel.there)))))
end Go.Proofs.Ytchgaedidfefoaa

/- Contracts of layer 8: Drop. Conditions: the trees are of at most a thousand entries. -/
set_option linter.unusedVariables false
set_option linter.unusedSimpArgs false
namespace Go.Proofs.Ytchgaedidfefoaa
open Go.RowKit

/-- what comes of a tree when a path is dropped -/
def dropM (es : List En) (s : List UInt8) : List En × Int := if (checkT es).1 = 0 then (if isAt es s then (es.filter (keepB s), 0) else ([], 6)) else ([], (checkT es).1)
theorem drop_bad {es : List En} {s : List UInt8} (h : ¬ (checkT es).1 = 0) : dropM es s = ([], (checkT es).1) := if_neg h
theorem drop_no {es : List En} {s : List UInt8} (h : (checkT es).1 = 0) (h2 : ¬ isAt es s) : dropM es s = ([], 6) := by unfold dropM; rw [if_pos h, if_neg h2]
theorem drop_at {es : List En} {s : List UInt8} (h : (checkT es).1 = 0) (h2 : isAt es s) : dropM es s = (es.filter (keepB s), 0) := by unfold dropM; rw [if_pos h, if_pos h2]
theorem ens_filter (xs : List ET) (s : List UInt8) : ens (xs.filter (keepX s)) = (ens xs).filter (keepB s) := by
  unfold ens
  rw [List.filter_map]
  rfl
theorem Ro.allEO {P : Program} {w0 : World} {S : Nat → Prop} {b o : Nat} {Ps : Nat → Prop} {xs : List ET} (hel : ∀ i (hi : i < xs.length), Ro w0 S (elc rEV Ps b (o + i * 5) xs[i])) : ∀ x ∈ xs, EnOk x.1 ∧ x.2.oneCell' = true := fun x hx => ⟨Ro.allOk hel x hx, by
  obtain ⟨ad, cap, e⟩ := Ro.slv (Ro.allDat hel x hx)
  rw [e]
  rfl⟩
set_option maxRecDepth 20000 in
set_option maxHeartbeats 4000000 in

theorem drop_tr {Ps : Nat → Prop} (v : Value) (xs : List ET) (s : List UInt8) (hs : s.length ≤ 9223372036854775807) : Tr Try.prog 32 #[v, .string (sB s)] [slc rEV Ps v xs] []
    (TX (fun z : Value × List ET => ens z.2 = (dropM (ens xs) s).1) (fun z => .tuple #[z.1, .int .i64 (dropM (ens xs) s).2]) (fun z => [ownT 31 z.1 z.2, datC 5 z.2])) := by
  refine Tr.of (l := [(0, v), (1, .string (sB s))]) Try.func32 rfl (n := 33) rfl (.cons rfl (.cons rfl .nil)) (fun w0 hro => ?_)
  have hv := ro1 hro
  have hv' := hv
  obtain ⟨av, cv, bv, fv, rfl, hcapv, hmaxv, hnilv, hadv, helv⟩ := Ro.openT hv
  have hel' := ens_length xs
  have hdb := drop_bad (es := ens xs) (s := s)
  refine G.seq ?_
  refine G.region ?_
  refine G.op rfl (G.box rfl rfl (cs := [_]) rfl ?_)
  intro b3
  refine G.op rfl (G.val rfl rfl (pv_assign rfl) ?_)
  refine G.op rfl (G.val rfl rfl (pv_assign rfl) ?_)
  refine G.nil ?_
  refine G.nThen ?_
  refine G.seq ?_
  refine G.seq ?_
  refine G.region ?_
  refine G.op rfl (G.val rfl rfl (pv_move rfl) ?_)
  refine G.op rfl (G.cR rfl rfl rfl rfl Try.func11 rfl rfl (may1 (by first | (apply May.old; first | with_reducible assumption | assumption) | (apply Sel.may; (repeat (first | with_reducible exact Sel.here | exact Sel.here | apply Sel.there)); done) | (apply may_own; (repeat (first | with_reducible exact Sel.here | exact Sel.here | apply Sel.there)); exact rfl; exact (fun _ _ => trivial); done) | (apply may_ownB; (repeat (first | with_reducible exact Sel.here | exact Sel.here | apply Sel.there)); done) | (apply may_tree; (repeat (first | with_reducible exact Sel.here | exact Sel.here | apply Sel.there)); (repeat (first | with_reducible exact Sel.here | exact Sel.here | apply Sel.there)); assumption; done))) (tcheck_tr _ _) ?_)
  refine G.op rfl (G.val rfl rfl (pv_move rfl) ?_)
  refine G.op rfl (G.val rfl rfl (pv_extract rfl rfl) ?_)
  refine G.op rfl (G.val rfl rfl (pv_extract rfl rfl) ?_)
  refine G.op rfl (G.val rfl rfl (pv_assign rfl) ?_)
  refine G.op rfl (G.val rfl rfl (pv_assign rfl) ?_)
  refine G.nil ?_
  refine G.nThen ?_
  refine G.seq ?_
  refine G.region ?_
  refine G.op rfl (G.val rfl rfl (pv_move rfl) ?_)
  refine G.op rfl (G.val rfl rfl (pv_neq rfl rfl) ?_)
  refine G.nil ?_
  refine G.nThen ?_
  refine G.condP rfl (fun h17 => ?_) (fun h17 => ?_)
  · refine G.seq ?_
    refine G.region ?_
    refine G.op rfl (G.val rfl rfl (pv_move rfl) ?_)
    refine G.op rfl (G.val rfl rfl (pv_assign rfl) ?_)
    refine G.op rfl (G.val rfl rfl (pv_assign rfl) ?_)
    refine G.nil ?_
    refine G.nThen ?_
    refine G.ret ?_
    refine G.rThen ?_
    refine G.datNil 5 ?_
    refine G.ownNil 31 5 ?_
    exact G.doneX2 ((.slice none 0 0, [])) (by first | exact trivial | ((try dsimp only); exact (by rw [hdb (by assumption)]; rfl))) rfl rfl rfl (by rw [hdb (by assumption)]; first | done | rfl) (by repeat (first | exact Sub.nil | (apply Sub.cons; (repeat (first | with_reducible exact Sel.here | exact Sel.here | apply Sel.there)))))
  · have h0 : (checkT (ens xs)).1 = 0 := Decidable.of_not_not (by assumption)
    obtain ⟨hz1, hz2, hz3⟩ := checkT_zero h0
    have hso := sort_all hz2
    have hdn := drop_no (s := s) h0
    have hda := drop_at (s := s) h0
    refine G.skip ?_
    refine G.nThen ?_
    refine G.seq ?_
    refine G.seq ?_
    refine G.region ?_
    refine G.op rfl (G.val rfl rfl (pv_move rfl) ?_)
    refine G.op rfl (G.val rfl rfl (pv_load Try.underlying9 rfl rfl (by first | exact blk_cell (by (repeat (first | with_reducible exact Sel.here | exact Sel.here | apply Sel.there)); done) (by rfl) | exact rng_cell (by (repeat (first | with_reducible exact Sel.here | exact Sel.here | apply Sel.there)); done) (by rfl) | exact ro_blk (by assumption) (by rfl) | exact ro_rngC (by assumption) (by rfl) | exact ro_int (by assumption) | exact ro_byte (by assumption) | exact ro_str (by assumption) | with_reducible assumption | assumption)) ?_)
    refine G.op rfl (G.cR rfl rfl rfl rfl Try.func40 rfl rfl (may1 (by first | (apply May.old; first | with_reducible assumption | assumption) | (apply Sel.may; (repeat (first | with_reducible exact Sel.here | exact Sel.here | apply Sel.there)); done) | (apply may_own; (repeat (first | with_reducible exact Sel.here | exact Sel.here | apply Sel.there)); exact rfl; exact (fun _ _ => trivial); done) | (apply may_ownB; (repeat (first | with_reducible exact Sel.here | exact Sel.here | apply Sel.there)); done) | (apply may_tree; (repeat (first | with_reducible exact Sel.here | exact Sel.here | apply Sel.there)); (repeat (first | with_reducible exact Sel.here | exact Sel.here | apply Sel.there)); assumption; done))) (place_tr _ xs _ (by omega) hso hs) ?_)
    refine G.op rfl (G.val rfl rfl (pv_move rfl) ?_)
    refine G.op rfl (G.val rfl rfl (pv_extract rfl rfl) ?_)
    refine G.op rfl (G.val rfl rfl (pv_extract rfl rfl) ?_)
    refine G.op rfl (G.val rfl rfl (pv_assign rfl) ?_)
    refine G.op rfl (G.val rfl rfl (pv_assign rfl) ?_)
    refine G.nil ?_
    refine G.nThen ?_
    refine G.seq ?_
    refine G.region ?_
    refine G.op rfl (G.val rfl rfl (pv_move rfl) ?_)
    refine G.op rfl (G.val rfl rfl (pv_notP rfl) ?_)
    refine G.nil ?_
    refine G.nThen ?_
    refine G.condP rfl (fun h26 => ?_) (fun h26 => ?_)
    · refine G.seq ?_
      refine G.region ?_
      refine G.op rfl (G.val rfl rfl (pv_assign rfl) ?_)
      refine G.op rfl (G.val rfl rfl (pv_assign rfl) ?_)
      refine G.nil ?_
      refine G.nThen ?_
      refine G.ret ?_
      refine G.rThen ?_
      refine G.datNil 5 ?_
      refine G.ownNil 31 5 ?_
      exact G.doneX2 ((.slice none 0 0, [])) (by first | exact trivial | ((try dsimp only); exact (by rw [hdn (by assumption)]; rfl))) rfl rfl rfl (by rw [hdn (by assumption)]; first | done | rfl) (by repeat (first | exact Sub.nil | (apply Sub.cons; (repeat (first | with_reducible exact Sel.here | exact Sel.here | apply Sel.there)))))
    · have hat : isAt (ens xs) s := Decidable.of_not_not (by assumption)
      have hpos : 0 < xs.length := by obtain ⟨e, he, -⟩ := hat; have := List.length_pos_of_mem he; omega
      refine G.skip ?_
      refine G.nThen ?_
      refine G.seq ?_
      refine G.region ?_
      refine G.op rfl (G.val rfl rfl (pv_move rfl) ?_)
      refine G.op rfl (G.cS rfl rfl rfl rfl Try.func55 rfl rfl (by repeat (first | exact Sub.nil | (apply Sub.cons; (repeat (first | with_reducible exact Sel.here | exact Sel.here | apply Sel.there))))) (may1 (by first | (apply May.old; first | with_reducible assumption | assumption) | (apply Sel.may; (repeat (first | with_reducible exact Sel.here | exact Sel.here | apply Sel.there)); done) | (apply may_own; (repeat (first | with_reducible exact Sel.here | exact Sel.here | apply Sel.there)); exact rfl; exact (fun _ _ => trivial); done) | (apply may_ownB; (repeat (first | with_reducible exact Sel.here | exact Sel.here | apply Sel.there)); done) | (apply may_tree; (repeat (first | with_reducible exact Sel.here | exact Sel.here | apply Sel.there)); (repeat (first | with_reducible exact Sel.here | exact Sel.here | apply Sel.there)); assumption; done))) (cloneE_tr _ _ (by omega)) (by repeat (first | exact Ap.nil | apply Ap.cons)) ?_)
      intro x28 hJ
      try dsimp only at hJ
      try dsimp only
      rw [show ownT 31 x28 xs = own 31 5 x28 xs.length (flatT xs) from rfl]
      refine G.ownTo (v := x28) (by repeat (first | with_reducible exact Sel.here | exact Sel.here | apply Sel.there)) hpos (fun g cap sp hvv hkc hmx hl hlen => ?_)
      subst hvv
      refine G.op rfl (G.val rfl rfl (pv_makeFunc rfl rfl) ?_)
      refine G.op rfl (G.cS rfl rfl rfl rfl Try.func57 rfl rfl (by repeat (first | exact Sub.nil | (apply Sub.cons; (repeat (first | with_reducible exact Sel.here | exact Sel.here | apply Sel.there))))) (may1 (by first | (apply May.old; first | with_reducible assumption | assumption) | (apply Sel.may; (repeat (first | with_reducible exact Sel.here | exact Sel.here | apply Sel.there)); done) | (apply may_own; (repeat (first | with_reducible exact Sel.here | exact Sel.here | apply Sel.there)); exact rfl; exact (fun _ _ => trivial); done) | (apply may_ownB; (repeat (first | with_reducible exact Sel.here | exact Sel.here | apply Sel.there)); done) | (apply may_tree; (repeat (first | with_reducible exact Sel.here | exact Sel.here | apply Sel.there)); (repeat (first | with_reducible exact Sel.here | exact Sel.here | apply Sel.there)); assumption; done))) (delete_tr g cap b3 sp xs s hs (by omega) hkc hmx (Ro.allEO (P := Try.prog) helv)) (by repeat (first | exact Ap.nil | apply Ap.cons)) ?_)
      intro x30 hJ
      obtain ⟨ys, sp2⟩ := x30
      try dsimp only at hJ
      try dsimp only
      obtain ⟨rfl, hfl⟩ := hJ
      have hfle := List.length_filter_le (keepX s) xs
      refine G.ownOf (sz := 5) (k := (xs.filter (keepX s)).length) (cs := flatT (xs.filter (keepX s))) (sp := sp2) (cap := cap) (by repeat (first | with_reducible exact Sel.here | exact Sel.here | apply Sel.there)) (flatT_length _) (by omega) hmx (by rw [hfl]; exact hl) ?_
      refine G.op rfl (G.val rfl rfl (pv_assign rfl) ?_)
      refine G.nil ?_
      refine G.nThen ?_
      refine G.seq ?_
      refine G.region ?_
      refine G.op rfl (G.val rfl rfl (pv_move rfl) ?_)
      rw [show own 31 5 (.slice (some ⟨g, 0, none⟩) (xs.filter (keepX s)).length cap) (xs.filter (keepX s)).length (flatT (xs.filter (keepX s))) = ownT 31 (.slice (some ⟨g, 0, none⟩) (xs.filter (keepX s)).length cap) (xs.filter (keepX s)) from rfl]
      refine G.op rfl (G.cS rfl rfl rfl rfl Try.func41 rfl rfl (by repeat (first | exact Sub.nil | (apply Sub.cons; (repeat (first | with_reducible exact Sel.here | exact Sel.here | apply Sel.there))))) (may1 (may_treeR (by repeat (first | with_reducible exact Sel.here | exact Sel.here | apply Sel.there)) (fun x hx => Ro.allOk helv x (List.mem_filter.1 hx).1) hv'.2 (fun x hx => Ro.allDat helv x (List.mem_filter.1 hx).1))) (clone_tr _ (xs.filter (keepX s)) (by omega)) (by repeat (first | exact Ap.nil | apply Ap.cons)) ?_)
      intro x32 hJ
      obtain ⟨v', zs⟩ := x32
      try dsimp only at hJ
      try dsimp only
      refine G.op rfl (G.val rfl rfl (pv_assign rfl) ?_)
      refine G.op rfl (G.val rfl rfl (pv_assign rfl) ?_)
      refine G.nil ?_
      refine G.nThen ?_
      refine G.ret ?_
      exact G.doneX2 ((v', zs)) (by first | exact trivial | ((try dsimp only); exact (by rw [hda hat, hJ, ens_filter]))) rfl rfl rfl (by rw [hda hat]) (by repeat (first | exact Sub.nil | (apply Sub.cons; (repeat (first | with_reducible exact Sel.here | exact Sel.here | apply Sel.there)))))
end Go.Proofs.Ytchgaedidfefoaa
