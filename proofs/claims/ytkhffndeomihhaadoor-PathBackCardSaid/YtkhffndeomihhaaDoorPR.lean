/- Contracts: a text split at its strokes by the library; the parts of a path. Conditions: the text is not of more than a thousand million bytes. -/
import Derived.Test.YtkhffndeomihhaaDoorPQ
import Derived.Test.YtkhffndeomihhaaDoorPK
set_option linter.unusedVariables false
set_option linter.unusedSimpArgs false
namespace Go.Proofs.YtkhffndeomihhaaDoor
open Go.RowKit

theorem count47 : ∀ s : List UInt8, s.count 47 + 1 = (splitM s).length
  | [] => rfl
  | c :: s => by
    have ih := count47 s
    by_cases hc : c = 47
    · subst hc
      rw [splitM_stroke, List.count_cons_self, List.length_cons, ← ih]
    · rw [splitM_char hc, headP_len (splitM_ne s), ← ih, List.count_cons_of_ne (Ne.symm (fun h => hc h.symm))]
theorem countS_tr (s : List UInt8) : Tr Tryd.prog 46 #[.string (sB s), .string (sB [47])] [] [] (T0 (.int .i64 ((splitM s).length - 1 : Int))) := Tr.ofQ fun w => by
  have h := Tryd.strings_Count_one (sB s) 47 w
  rw [show (sB s).data.toList = s by simp [sB], show (Lib.countByte s 47 : Int) = ((splitM s).length - 1 : Int) from by unfold Lib.countByte; have := count47 s; omega] at h
  exact h
theorem indexS_tr (s : List UInt8) (ha : at1 s < s.length) : Tr Tryd.prog 47 #[.string (sB s), .string (sB [47])] [] [] (T0 (.int .i64 (at1 s : Int))) := Tr.ofQ fun w => by
  have h := Tryd.strings_Index_one (sB s) 47 w
  rw [show (sB s).data.toList = s by simp [sB], index1 s, if_pos ha] at h
  exact h
/-- a cut that is not the last, told by the parts -/
theorem cut_more {ps : List (List UInt8)} {t : List UInt8} {i : Nat} (hi : i + 1 < ps.length) (h : splitM t = ps.drop i) : at1 t < t.length ∧ t.take (at1 t) = ps[i] ∧ splitM (t.drop (at1 t + 1)) = ps.drop (i + 1) := by
  obtain ⟨t', h1, h2, h3⟩ := cut_drop (by omega) h
  rw [decide_eq_true hi] at h1
  unfold cutM at h1
  split at h1
  · rename_i ha
    injection h1 with e1 e2
    injection e2 with e2 e3
    rw [getL_eq (by omega)] at e1
    exact ⟨ha, e1, e2 ▸ h3 hi⟩
  · injection h1 with e1 e2
    injection e2 with e2 e3
    cases e3
theorem cut_end {ps : List (List UInt8)} {t : List UInt8} {i : Nat} (hi : i + 1 = ps.length) (h : splitM t = ps.drop i) : t = ps[i] := by
  rw [List.drop_eq_getElem_cons (by omega), List.drop_eq_nil_of_le (by omega)] at h
  exact (last_none h).2
/-- the cells of a split under way -/
def partC (ps : List (List UInt8)) (i : Nat) : List Value := (ps.take i).map vStr ++ List.replicate (ps.length - i) (vStr [])
theorem partC_len {ps : List (List UInt8)} {i : Nat} (h : i ≤ ps.length) : (partC ps i).length = ps.length := by
  unfold partC
  simp
  omega
theorem partC_set {ps : List (List UInt8)} {i : Nat} (h : i < ps.length) : (partC ps i).set (0 + i * 1) (.string (sB ps[i])) = partC ps (i + 1) := by
  apply List.ext_getElem?
  intro k
  unfold partC
  rw [List.getElem?_set]
  rcases Nat.lt_trichotomy k i with hk | hk | hk
  · rw [if_neg (by omega), List.getElem?_append_left (by simp; omega), List.getElem?_append_left (by simp; omega)]
    simp [List.getElem?_take, hk, show k < i + 1 by omega]
  · subst hk
    rw [if_pos (by omega), if_pos (by simp; omega), List.getElem?_append_left (by simp; omega)]
    simp [List.getElem?_take, h, vStr]
  · rw [if_neg (by omega), List.getElem?_append_right (by simp; omega), List.getElem?_append_right (by simp; omega)]
    simp only [List.length_map, List.length_take, List.getElem?_replicate]
    rw [Nat.min_eq_left (by omega), Nat.min_eq_left (by omega)]
    by_cases hl : k < ps.length
    · rw [if_pos (by omega), if_pos (by omega)]
    · rw [if_neg (by omega), if_neg (by omega)]
theorem partC_all (ps : List (List UInt8)) : partC ps ps.length = ps.map vStr := by
  unfold partC
  simp
theorem partC_zero (ps : List (List UInt8)) : partC ps 0 = List.replicate ps.length (vStr []) := by
  unfold partC
  simp
/-- a slice without spare places -/
def exV (v : Value) : Prop := ∀ ad k c, v = .slice ad k c → c = k
theorem exV_of {ad : Option Addr} {k : Nat} : exV (.slice ad k k) := fun _ _ _ h => by injection h; omega
theorem Tryd.infoStr : (Tryd.prog.info? 9).map (fun i => (i.zero, i.size, i.bytes)) = some (some (vStr []), 1, 16) := by kernel_rfl
set_option maxRecDepth 20000 in
set_option maxHeartbeats 4000000 in

theorem genSplit_tr (s : List UInt8) (hs : s.length ≤ 1000000) : Tr Tryd.prog 38 #[.string (sB s), .string (sB [47]), .int .i64 0, .int .i64 (-1)] [] [] (TX (fun v : Value => exV v) (fun v => v) (fun v => [own 9 1 v (splitM s).length ((splitM s).map vStr)])) := by
  refine Tr.of (l := [(0, .string (sB s)), (1, .string (sB [47])), (2, .int .i64 0), (3, .int .i64 (-1))]) Tryd.func38 rfl (n := 66) rfl (.cons rfl (.cons rfl (.cons rfl (.cons rfl .nil)))) (fun w0 hro => ?_)
  have h47 : ([47] : List UInt8).length = 1 := rfl
  have hpos := splitM_pos s
  have hsl := splitM_len s
  refine G.seq ?_
  refine G.region ?_
  refine G.op rfl (G.val rfl rfl (pv_assign rfl) ?_)
  refine G.nil ?_
  refine G.nThen ?_
  refine G.seq ?_
  refine G.seq ?_
  refine G.region ?_
  refine G.op rfl (G.val rfl rfl (pv_move rfl) ?_)
  refine G.op rfl (G.val rfl rfl (pv_eql rfl rfl) ?_)
  refine G.nil ?_
  refine G.nThen ?_
  refine G.condF rfl (rfl) ?_
  refine G.skip ?_
  refine G.nThen ?_
  refine G.seq ?_
  refine G.seq ?_
  refine G.region ?_
  refine G.op rfl (G.val rfl rfl (pv_move rfl) ?_)
  refine G.op rfl (G.val rfl rfl (pv_eqlS rfl rfl) ?_)
  refine G.nil ?_
  refine G.nThen ?_
  refine G.condF rfl (rfl) ?_
  refine G.skip ?_
  refine G.nThen ?_
  refine G.seq ?_
  refine G.seq ?_
  refine G.region ?_
  refine G.op rfl (G.val rfl rfl (pv_move rfl) ?_)
  refine G.op rfl (G.val rfl rfl (pv_lss rfl rfl) ?_)
  refine G.nil ?_
  refine G.nThen ?_
  refine G.condT rfl (rfl) ?_
  refine G.region ?_
  refine G.op rfl (G.val rfl rfl (pv_move rfl) ?_)
  refine G.op rfl (G.val rfl rfl (pv_move rfl) ?_)
  refine G.op rfl (G.cR rfl rfl rfl rfl Tryd.func46 rfl rfl may0 (countS_tr s) ?_)
  refine G.op rfl (G.val rfl rfl (pv_add64 rfl rfl (by omega)) ?_)
  refine G.op rfl (G.val rfl rfl (pv_assign rfl) ?_)
  refine G.nil ?_
  refine G.nThen ?_
  refine G.seq ?_
  refine G.region ?_
  refine G.op rfl (G.val rfl rfl (pv_move rfl) ?_)
  refine G.op rfl (G.val rfl rfl (pv_move rfl) ?_)
  refine G.op rfl (G.val rfl rfl (pv_lenS Tryd.underlying9 rfl) ?_)
  refine G.op rfl (G.val rfl rfl (pv_add64 rfl rfl (by omega)) ?_)
  refine G.op rfl (G.val rfl rfl ((pv_min rfl rfl).int (if_neg (by omega))) ?_)
  refine G.op rfl (G.val rfl rfl (pv_assign rfl) ?_)
  refine G.nil ?_
  refine G.nThen ?_
  refine G.seq ?_
  refine G.region ?_
  refine G.op rfl (G.val rfl rfl (pv_move rfl) ?_)
  refine G.op rfl (G.make (len := (splitM s).length) (cap := (splitM s).length) rfl Tryd.underlying25 Tryd.infoStr rfl rfl (by omega) (by omega) (Nat.le_refl _) (by omega) (by omega) rfl rfl ?_)
  intro b
  rw [← partC_zero]
  refine G.op rfl (G.val rfl rfl (pv_assign rfl) ?_)
  refine G.nil ?_
  refine G.nThen ?_
  refine G.seq ?_
  refine G.region ?_
  refine G.op rfl (G.val rfl rfl (pv_move rfl) ?_)
  refine G.op rfl (G.val rfl rfl (pv_sub64 rfl rfl (by omega)) ?_)
  refine G.op rfl (G.val rfl rfl (pv_assign rfl) ?_)
  refine G.nil ?_
  refine G.nThen ?_
  refine G.seq ?_
  refine G.region ?_
  refine G.op rfl (G.val rfl rfl (pv_assign rfl) ?_)
  refine G.nil ?_
  refine G.nThen ?_
  refine G.seq ?_
  refine G.block ?_
  refine G.loopK (X := Nat × (List UInt8)) (ts := [1, 2, 3, 8, 9]) (fun st => st.1 < (splitM s).length ∧ st.2.length ≤ s.length ∧ splitM st.2 = (splitM s).drop st.1) (fun st => [(10, .int .i64 (st.1 : Int)), (0, .string (sB st.2))]) (fun st => [blk b 9 (partC (splitM s) st.1)]) (fun st => (splitM s).length - st.1) (x0 := (0, s)) (.cons rfl (.cons rfl (.cons rfl (.cons rfl (.cons rfl .nil))))) (by repeat (first | exact Sub.nil | (apply Sub.cons; (repeat (first | with_reducible exact Sel.here | exact Sel.here | apply Sel.there))))) (.cons (.cons .nil)) (by repeat (first | exact Ap.nil | apply Ap.cons)) (by first | exact trivial | ((try dsimp only) <;> exact ⟨hpos, Nat.le_refl _, rfl⟩)) (.consE rfl (by first | rfl | exact int_eq (by first | omega | (dsimp only; omega)) | exact congrArg _ (by omega)) (.consE rfl (by first | rfl | exact int_eq (by first | omega | (dsimp only; omega)) | exact congrArg _ (by omega)) .nil)) (fun st hJ => ?_)
  obtain ⟨i, t⟩ := st
  try dsimp only at hJ
  try dsimp only
  obtain ⟨hi, ht, hsp⟩ := hJ
  refine G.seq ?_
  refine G.seq ?_
  refine G.region ?_
  refine G.op rfl (G.val rfl rfl (pv_move rfl) ?_)
  refine G.op rfl (G.val rfl rfl (pv_move rfl) ?_)
  refine G.op rfl (G.val rfl rfl (pv_lss rfl rfl) ?_)
  refine G.nil ?_
  refine G.nThen ?_
  refine G.condP rfl (fun h36 => ?_) (fun h36 => ?_)
  · have hi1 : i + 1 < (splitM s).length := by omega
    obtain ⟨hat, hti, hsp'⟩ := cut_more hi1 hsp
    refine G.skip ?_
    refine G.nThen ?_
    refine G.block ?_
    refine G.seq ?_
    refine G.region ?_
    refine G.op rfl (G.val rfl rfl (pv_move rfl) ?_)
    refine G.op rfl (G.val rfl rfl (pv_move rfl) ?_)
    refine G.op rfl (G.cR rfl rfl rfl rfl Tryd.func47 rfl rfl may0 (indexS_tr t hat) ?_)
    refine G.op rfl (G.val rfl rfl (pv_assign rfl) ?_)
    refine G.nil ?_
    refine G.nThen ?_
    refine G.seq ?_
    refine G.seq ?_
    refine G.region ?_
    refine G.op rfl (G.val rfl rfl (pv_move rfl) ?_)
    refine G.op rfl (G.val rfl rfl (pv_lss rfl rfl) ?_)
    refine G.nil ?_
    refine G.nThen ?_
    refine G.condP rfl (fun h41 => ?_) (fun h41 => ?_)
    · exfalso; omega
    · refine G.skip ?_
      refine G.nThen ?_
      refine G.seq ?_
      refine G.region ?_
      refine G.op rfl (G.val rfl rfl (pv_move rfl) ?_)
      refine G.op rfl (G.val rfl rfl (pv_move rfl) ?_)
      refine G.op rfl (G.val rfl rfl (pv_move rfl) ?_)
      refine G.op rfl (G.val rfl rfl (pv_move rfl) ?_)
      refine G.op rfl (G.val rfl rfl (pv_move rfl) ?_)
      refine G.op rfl (G.val rfl rfl (pv_add64 rfl rfl (by omega)) ?_)
      refine G.op rfl (G.val rfl rfl ((pv_strH (k := at1 t) Tryd.underlying9 rfl rfl (by omega) (by omega)).cast (congrArg (fun x => Value.string (sB x)) hti)) ?_)
      refine G.op rfl (G.val rfl rfl (pv_ixSl (sz := 1) (k := i) Tryd.underlying25 (by kernel_rfl) rfl rfl (fun _ => rfl) (by omega) (by omega)) ?_)
      refine G.op rfl (G.store (by kernel_rfl) rfl rfl rfl (by repeat (first | with_reducible exact Sel.here | exact Sel.here | apply Sel.there)) (by rw [partC_len (by omega)]; omega) ?_)
      rw [partC_set (by omega)]
      refine G.nil ?_
      refine G.nThen ?_
      refine G.seq ?_
      refine G.region ?_
      refine G.op rfl (G.val rfl rfl (pv_move rfl) ?_)
      refine G.op rfl (G.val rfl rfl (pv_move rfl) ?_)
      refine G.op rfl (G.val rfl rfl (pv_move rfl) ?_)
      refine G.op rfl (G.val rfl rfl (pv_lenS Tryd.underlying9 rfl) ?_)
      refine G.op rfl (G.val rfl rfl (pv_add64 rfl rfl (by omega)) ?_)
      refine G.op rfl (G.val rfl rfl (pv_strL (k := at1 t + 1) Tryd.underlying9 rfl rfl (by omega) (by omega)) ?_)
      refine G.op rfl (G.val rfl rfl (pv_assign rfl) ?_)
      refine G.nil ?_
      refine G.nThen ?_
      refine G.region ?_
      refine G.op rfl (G.val rfl rfl (pv_move rfl) ?_)
      refine G.op rfl (G.val rfl rfl (pv_add64 rfl rfl (by omega)) ?_)
      refine G.op rfl (G.val rfl rfl (pv_assign rfl) ?_)
      refine G.nil ?_
      refine G.nBlock ?_
      exact G.next ((i + 1, t.drop (at1 t + 1))) (by first | exact trivial | ((try dsimp only) <;> exact ⟨by omega, by simp; omega, hsp'⟩)) (by (try dsimp only); omega) (.consE rfl (by first | rfl | exact int_eq (by first | omega | (dsimp only; omega)) | exact congrArg _ (by omega)) (.consE rfl (by first | rfl | exact int_eq (by first | omega | (dsimp only; omega)) | exact congrArg _ (by omega)) (.cons rfl (.cons rfl (.cons rfl (.cons rfl (.cons rfl .nil))))))) (by repeat (first | exact Sub.nil | (apply Sub.cons; (repeat (first | with_reducible exact Sel.here | exact Sel.here | apply Sel.there)))))
  · have hin : i + 1 = (splitM s).length := by omega
    have htl := cut_end hin hsp
    refine G.exit ?_
    refine G.eThen ?_
    refine G.eThen ?_
    refine G.eBlock ?_
    refine G.nThen ?_
    refine G.seq ?_
    refine G.region ?_
    refine G.op rfl (G.val rfl rfl (pv_move rfl) ?_)
    refine G.op rfl (G.val rfl rfl (pv_move rfl) ?_)
    refine G.op rfl (G.val rfl rfl (pv_move rfl) ?_)
    refine G.op rfl (G.val rfl rfl (pv_ixSl (sz := 1) (k := i) Tryd.underlying25 (by kernel_rfl) rfl rfl (fun _ => rfl) (by omega) (by omega)) ?_)
    refine G.op rfl (G.store (by kernel_rfl) rfl rfl rfl (by repeat (first | with_reducible exact Sel.here | exact Sel.here | apply Sel.there)) (by rw [partC_len (by omega)]; omega) ?_)
    rw [show Value.string (sB t) = Value.string (sB (splitM s)[i]) from congrArg (fun x => Value.string (sB x)) htl, partC_set (by omega), hin, partC_all]
    refine G.nil ?_
    refine G.nThen ?_
    refine G.seq ?_
    refine G.region ?_
    refine G.op rfl (G.val rfl rfl (pv_move rfl) ?_)
    refine G.op rfl (G.val rfl rfl (pv_move rfl) ?_)
    refine G.op rfl (G.val rfl rfl (pv_add64 rfl rfl (by omega)) ?_)
    refine G.op rfl (G.val rfl rfl (pv_subH (sz := 1) (k := (splitM s).length) Tryd.underlying25 (by kernel_rfl) rfl rfl (by omega) (by omega)) ?_)
    refine G.op rfl (G.val rfl rfl (pv_assign rfl) ?_)
    refine G.nil ?_
    refine G.nThen ?_
    refine G.ret ?_
    refine G.ownBlk (b := b) (k := (splitM s).length) (sz := 1) (by repeat (first | with_reducible exact Sel.here | exact Sel.here | apply Sel.there)) (by simp) (by omega) ?_
    exact G.doneX1 (_) (by first | exact trivial | ((try dsimp only) <;> exact exV_of)) rfl rfl rfl (by repeat (first | exact Sub.nil | (apply Sub.cons; (repeat (first | with_reducible exact Sel.here | exact Sel.here | apply Sel.there)))))
set_option maxRecDepth 20000 in
set_option maxHeartbeats 4000000 in

theorem splitS_tr (s : List UInt8) (hs : s.length ≤ 1000000) : Tr Tryd.prog 25 #[.string (sB s), .string (sB [47])] [] [] (TX (fun v : Value => exV v) (fun v => v) (fun v => [own 9 1 v (splitM s).length ((splitM s).map vStr)])) := by
  refine Tr.of (l := [(0, .string (sB s)), (1, .string (sB [47]))]) Tryd.func25 rfl (n := 8) rfl (.cons rfl (.cons rfl .nil)) (fun w0 hro => ?_)
  refine G.seq ?_
  refine G.region ?_
  refine G.op rfl (G.val rfl rfl (pv_assign rfl) ?_)
  refine G.nil ?_
  refine G.nThen ?_
  refine G.seq ?_
  refine G.region ?_
  refine G.op rfl (G.val rfl rfl (pv_move rfl) ?_)
  refine G.op rfl (G.val rfl rfl (pv_move rfl) ?_)
  refine G.op rfl (G.cS rfl rfl rfl rfl Tryd.func38 rfl rfl (by repeat (first | exact Sub.nil | (apply Sub.cons; (repeat (first | with_reducible exact Sel.here | exact Sel.here | apply Sel.there))))) may0 (genSplit_tr s (by omega)) (by repeat (first | exact Ap.nil | apply Ap.cons)) ?_)
  intro x7 hJ
  try dsimp only at hJ
  try dsimp only
  refine G.op rfl (G.val rfl rfl (pv_assign rfl) ?_)
  refine G.nil ?_
  refine G.nThen ?_
  refine G.ret ?_
  exact G.doneX1 (x7) (by first | exact trivial | ((try dsimp only) <;> exact hJ)) rfl rfl rfl (by repeat (first | exact Sub.nil | (apply Sub.cons; (repeat (first | with_reducible exact Sel.here | exact Sel.here | apply Sel.there)))))
set_option maxRecDepth 20000 in
set_option maxHeartbeats 4000000 in

theorem parts_tr (s : List UInt8) (hs : s.length ≤ 9223372036854775807) : Tr Tryd.prog 8 #[.string (sB s)] [] [] (TX (fun v : Value => exV v) (fun v => v) (fun v => [own 9 1 v (partsM s).length ((partsM s).map vStr)])) := by
  refine Tr.of (l := [(0, .string (sB s))]) Tryd.func8 rfl (n := 8) rfl (.cons rfl .nil) (fun w0 hro => ?_)
  refine G.seq ?_
  refine G.region ?_
  refine G.op rfl (G.val rfl rfl (pv_assign rfl) ?_)
  refine G.nil ?_
  refine G.nThen ?_
  refine G.seq ?_
  refine G.seq ?_
  refine G.region ?_
  refine G.op rfl (G.val rfl rfl (pv_move rfl) ?_)
  refine G.op rfl (G.cR rfl rfl rfl rfl Tryd.func24 rfl rfl may0 (valid_tr _ (by omega)) ?_)
  refine G.op rfl (G.val rfl rfl (pv_notP rfl) ?_)
  refine G.nil ?_
  refine G.nThen ?_
  refine G.condP rfl (fun h5 => ?_) (fun h5 => ?_)
  · refine G.seq ?_
    refine G.region ?_
    refine G.op rfl (G.val rfl rfl (pv_assign rfl) ?_)
    refine G.nil ?_
    refine G.nThen ?_
    refine G.ret ?_
    refine G.rThen ?_
    rw [show partsM s = [] from if_neg (show ¬ okP s from by assumption)]
    refine G.ownNil 9 1 ?_
    exact G.doneX1 (.slice none 0 0) (by first | exact trivial | ((try dsimp only) <;> exact exV_of)) rfl rfl rfl (by repeat (first | exact Sub.nil | (apply Sub.cons; (repeat (first | with_reducible exact Sel.here | exact Sel.here | apply Sel.there)))))
  · refine G.skip ?_
    refine G.nThen ?_
    refine G.seq ?_
    refine G.region ?_
    refine G.op rfl (G.val rfl rfl (pv_move rfl) ?_)
    refine G.op rfl (G.cS rfl rfl rfl rfl Tryd.func25 rfl rfl (by repeat (first | exact Sub.nil | (apply Sub.cons; (repeat (first | with_reducible exact Sel.here | exact Sel.here | apply Sel.there))))) may0 (splitS_tr s (by have := okP_len (s := s) (Decidable.of_not_not (by assumption)); omega)) (by repeat (first | exact Ap.nil | apply Ap.cons)) ?_)
    intro x7 hJ
    try dsimp only at hJ
    try dsimp only
    refine G.op rfl (G.val rfl rfl (pv_assign rfl) ?_)
    refine G.nil ?_
    refine G.nThen ?_
    refine G.ret ?_
    rw [show partsM s = splitM s from if_pos (show okP s from Decidable.of_not_not (by assumption))]
    exact G.doneX1 (x7) (by first | exact trivial | ((try dsimp only) <;> exact hJ)) rfl rfl rfl (by repeat (first | exact Sub.nil | (apply Sub.cons; (repeat (first | with_reducible exact Sel.here | exact Sel.here | apply Sel.there)))))
end Go.Proofs.YtkhffndeomihhaaDoor
