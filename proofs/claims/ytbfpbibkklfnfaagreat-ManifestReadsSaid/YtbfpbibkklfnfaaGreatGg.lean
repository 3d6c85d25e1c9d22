/- Merged of VQ, VF, VR, VS, VU, VV, WP, VW, VX, VY, VZ, Opn. Conditions: none. -/
import Derived.Test.YtbfpbibkklfnfaaGreatGf
set_option linter.unusedVariables false
set_option linter.unusedSimpArgs false
namespace Go.Proofs.YtbfpbibkklfnfaaGreat
open Go.RowKit
def nmsC (ck : List CT) : List (List UInt8) := (cks ck).map (·.1)
def tkV (ck : List CT) (b : List UInt8) (v : Value) : List CT := if nameM b ∈ nmsC ck then ck else ck ++ [((nameM b, b), v)]
/-- a chunk more, if it is not there -/
def takeC (acc : List (List UInt8 × List UInt8)) (b : List UInt8) : List (List UInt8 × List UInt8) := if nameM b ∈ acc.map (·.1) then acc else acc ++ [(nameM b, b)]
theorem cks_snoc (ck : List CT) (x : CT) : cks (ck ++ [x]) = cks ck ++ [x.1] := by simp [cks]
theorem cks_tk (ck : List CT) (b : List UInt8) (v : Value) : cks (tkV ck b v) = takeC (cks ck) b := by
  unfold tkV takeC nmsC
  split
  · rfl
  rw [cks_snoc]
theorem nms_snoc (ck : List CT) (x : CT) : nmsC (ck ++ [x]) = nmsC ck ++ [x.1.1] := by
  unfold nmsC
  rw [cks_snoc, List.map_append]
  rfl
theorem tkV_in {ck : List CT} {b : List UInt8} {v : Value} (h : nameM b ∈ nmsC ck) : tkV ck b v = ck := if_pos h
theorem tkV_new {ck : List CT} {b : List UInt8} {v : Value} (h : ¬ nameM b ∈ nmsC ck) : tkV ck b v = ck ++ [((nameM b, b), v)] := if_neg h
theorem tkV_len (ck : List CT) (b : List UInt8) (v : Value) : (tkV ck b v).length ≤ ck.length + 1 := by
  unfold tkV
  split
  · omega
  rw [List.length_append, List.length_singleton]; omega
theorem chC_eq {id b : List UInt8} {v : Value} (h : id.length = 16) : chC ((id, b), v) = id.map vByte ++ [v] := by
  unfold chC
  rw [pad16_eq h]
theorem builtCk' : ∀ (xs : List Value) (v : Value), xs.length = 16 → v.oneCell' = true → Tryz.prog.built 71 [(0, .agg xs.toArray), (1, v)] = some (xs ++ [v]).toArray
  | [_, _, _, _, _, _, _, _, _, _, _, _, _, _, _, _], v, _, hv => by cases v <;> first | (cases hv; done) | kernel_rfl
theorem builtCk {id b : List UInt8} {v : Value} (h : id.length = 16) (hv : v.oneCell' = true) : Tryz.prog.built 71 [(0, vID id), (1, v)] = some (chC ((id, b), v)).toArray := by
  rw [chC_eq h]
  exact builtCk' (id.map vByte) v (by rw [List.length_map, h]) hv
theorem fillCk : ∀ xs : List Value, xs.length = 17 → Instr.fill (fun i => some (i * 17, 17)) ((Array.range (1 * 17)).map ((Value.agg #[.int .u8 0, .int .u8 0, .int .u8 0, .int .u8 0, .int .u8 0, .int .u8 0, .int .u8 0, .int .u8 0, .int .u8 0, .int .u8 0, .int .u8 0, .int .u8 0, .int .u8 0, .int .u8 0, .int .u8 0, .int .u8 0, .slice none 0 0]).cells[· % (Value.agg #[.int .u8 0, .int .u8 0, .int .u8 0, .int .u8 0, .int .u8 0, .int .u8 0, .int .u8 0, .int .u8 0, .int .u8 0, .int .u8 0, .int .u8 0, .int .u8 0, .int .u8 0, .int .u8 0, .int .u8 0, .int .u8 0, .slice none 0 0]).cells.size]!)) [(0, .agg xs.toArray)] = some xs.toArray
  | [_, _, _, _, _, _, _, _, _, _, _, _, _, _, _, _, _], _ => by kernel_rfl
theorem Tryz.infoCkfill : (Tryz.prog.info? 71).map (fun i => (i.zero, i.size)) = some (some (Value.agg #[.int .u8 0, .int .u8 0, .int .u8 0, .int .u8 0, .int .u8 0, .int .u8 0, .int .u8 0, .int .u8 0, .int .u8 0, .int .u8 0, .int .u8 0, .int .u8 0, .int .u8 0, .int .u8 0, .int .u8 0, .int .u8 0, .slice none 0 0]), 17) := by kernel_rfl
theorem chC_snoc (ck : List CT) (x : CT) : ck.flatMap chC ++ chC x = (ck ++ [x]).flatMap chC := by simp [List.flatMap_append]
set_option maxRecDepth 20000 in
set_option maxHeartbeats 4000000 in
theorem take_tr {Pu : Nat → Prop} (C bm : Nat) (vl v : Value) (ck : List CT) (b : List UInt8) (hn : ck.length ≤ 100000000) (hb : b.length ≤ 1000000) (hv : v.oneCell' = true) : Tr Tryz.prog 82 #[.pointer (some ⟨C, 0, none⟩), v] [slc rByte Pu v b] [blk C 78 [.map (some bm), vl], mpc vID ok16 bm (setL (nmsC ck)), own 71 17 vl ck.length (ck.flatMap chC)]
    (TX (fun _ : Value => True) (fun _ => vID (nameM b)) (fun x => [blk C 78 [.map (some bm), x], mpc vID ok16 bm (setL (nmsC (tkV ck b v))), own 71 17 x (tkV ck b v).length ((tkV ck b v).flatMap chC)])) := by
  refine Tr.of (l := [(0, .pointer (some ⟨C, 0, none⟩)), (1, v)]) Tryz.func82 rfl (n := 40) rfl (.cons rfl (.cons rfl .nil)) (fun w0 hro => ?_)
  have hd := ro1 hro
  obtain ⟨id, hid⟩ : ∃ c, nameM b = c := ⟨_, rfl⟩
  have lq := nameM_len b
  rw [hid] at lq
  rw [hid]
  refine G.ownFact (v := vl) selT (fun hvl _ => ?_)
  refine G.seq (G.region ?_)
  refine G.op rfl (G.alloc (z := .agg #[.int .u8 0, .int .u8 0, .int .u8 0, .int .u8 0, .int .u8 0, .int .u8 0, .int .u8 0, .int .u8 0, .int .u8 0, .int .u8 0, .int .u8 0, .int .u8 0, .int .u8 0, .int .u8 0, .int .u8 0, .int .u8 0]) (cs := [.int .u8 0, .int .u8 0, .int .u8 0, .int .u8 0, .int .u8 0, .int .u8 0, .int .u8 0, .int .u8 0, .int .u8 0, .int .u8 0, .int .u8 0, .int .u8 0, .int .u8 0, .int .u8 0, .int .u8 0, .int .u8 0]) rfl kr rfl ?_)
  intro b4
  refine G.nil ?_
  refine G.nThen (G.seq (G.region ?_))
  refine G.mvT rfl rfl ?_
  refine G.op rfl (G.cR rfl rfl rfl rfl Tryz.func63 rfl rfl (may1 (by first | (apply May.old; first | with_reducible assumption | assumption) | (apply Sel.may; (repeat (first | with_reducible exact Sel.here | exact Sel.here | apply Sel.there)); done) | (apply may_own; (repeat (first | with_reducible exact Sel.here | exact Sel.here | apply Sel.there)); exact rfl; exact (fun _ _ => trivial); done) | (apply may_ownB; (repeat (first | with_reducible exact Sel.here | exact Sel.here | apply Sel.there)); done) | (apply may_ownI; (repeat (first | with_reducible exact Sel.here | exact Sel.here | apply Sel.there)); assumption; done) | (apply may_ownN; (repeat (first | with_reducible exact Sel.here | exact Sel.here | apply Sel.there)); assumption; done) | (apply may_tree; (repeat (first | with_reducible exact Sel.here | exact Sel.here | apply Sel.there)); (repeat (first | with_reducible exact Sel.here | exact Sel.here | apply Sel.there)); assumption; done))) (name_tr _ b hb) ?_)
  rw [hid]
  refine G.op rfl (G.alloc (z := .agg #[.int .u8 0, .int .u8 0, .int .u8 0, .int .u8 0, .int .u8 0, .int .u8 0, .int .u8 0, .int .u8 0, .int .u8 0, .int .u8 0, .int .u8 0, .int .u8 0, .int .u8 0, .int .u8 0, .int .u8 0, .int .u8 0]) (cs := [.int .u8 0, .int .u8 0, .int .u8 0, .int .u8 0, .int .u8 0, .int .u8 0, .int .u8 0, .int .u8 0, .int .u8 0, .int .u8 0, .int .u8 0, .int .u8 0, .int .u8 0, .int .u8 0, .int .u8 0, .int .u8 0]) rfl kr rfl ?_)
  intro b5
  refine G.op rfl (G.storeN (by rw [List.length_map, lq]; kernel_rfl) rfl rfl (List.all_eq_true.2 (vByte_one _)) selT (by simp [lq]) ?_)
  rw [putN_whole _ _ (by rw [List.length_map, lq]; rfl)]
  refine G.nil ?_
  refine G.nThen (G.seq (G.seq ?_))
  refine G.drawT (nn := 12) (p := []) (rem := 4095) [0, 1, 2, 4, 0, 24, 32, 64, 64, 0, 767, 2047] [0, 1, 2, 4, 0, 24, 32, 64, 64, 0, 640, 256] kr ⟨rfl, by kernel_rfl, by kernel_rfl⟩ subT kr (fun hT2 => ?_)
  refine G.takeT hT2 (i := 0) (rem' := 4094) rfl rfl rfl kr (fun _ _ _ h => h) rfl (pv_move rfl) subT ?_
  refine G.takeT hT2 (i := 1) (rem' := 4092) rfl rfl rfl kr (fun _ _ _ h => h) rfl (pv_nilCheck rfl) subT ?_
  refine G.takeT hT2 (i := 2) (rem' := 4088) rfl rfl rfl kr (fun _ _ _ h => h) rfl (pv_fieldAddrK (sz := 0) (k := 0) Tryz.underlying78 rfl kr rfl rfl) subT ?_
  refine G.takeT hT2 (i := 3) (rem' := 4080) rfl rfl rfl kr (fun _ _ _ h => h) rfl (pv_load Tryz.underlying76 rfl rfl celT) subT ?_
  refine G.takeT hT2 (i := 4) (rem' := 4064) rfl rfl rfl kr (fun _ _ _ h => h) rfl (pv_loadN (cs := id.map vByte) Tryz.underlying66 rfl (by rw [List.length_map, lq]; kernel_rfl) rfl (blk_range (k := 16) selT (List.take_of_length_le (by rw [List.drop_zero, List.length_map, lq]; exact Nat.le_refl _)))) subT ?_
  refine G.takeT hT2 (i := 5) (rem' := 4032) rfl rfl rfl kr (fun _ _ _ h => h) rfl ((pv_mapGet (f := vID) (ok := ok16) (x := id) (z := .agg #[]) (xs := setL (nmsC ck)) keyI Tryz.underlying76 (fun w => by kernel_rfl) rfl rfl lq (sel_map selT)).cast (setL_look _ _)) subT ?_
  refine G.takeT hT2 (i := 6) (rem' := 3968) rfl rfl rfl kr (fun _ _ _ h => h) rfl (pv_move rfl) subT ?_
  refine G.takeT hT2 (i := 7) (rem' := 3840) rfl rfl rfl kr (fun _ _ _ h => h) rfl (pv_extract rfl rfl) subT ?_
  refine G.takeT hT2 (i := 8) (rem' := 3584) rfl rfl rfl kr (fun _ _ _ h => h) rfl (pv_extract rfl rfl) subT ?_
  refine G.oneT hT2 (i := 9) (rem' := 3072) kr kr ?_
  refine G.turnOp rfl rfl (G.alloc (z := .agg #[]) (cs := []) rfl kr rfl ?_)
  intro b6
  refine G.back subT ?_
  refine G.oneT hT2 (i := 10) (rem' := 2048) kr kr ?_
  refine G.turnOp rfl rfl (G.storeN kr rfl rfl (by first | exact all1_nil | exact List.all_eq_true.2 (vByte_one _) | rfl) selT leT ?_)
  refine G.back subT ?_
  refine G.takeT hT2 (i := 11) (rem' := 0) rfl rfl rfl kr (fun _ _ _ h => h) rfl (pv_assign rfl) subT ?_
  refine G.overT hT2 kr ?_
  refine G.nThen (G.seq (G.region ?_))
  refine G.mvT rfl rfl ?_
  refine G.op rfl (G.val rfl rfl (pv_not rfl) ?_)
  refine G.nil ?_
  refine G.nThen ?_
  refine G.cond rfl (fun h20 => ?_) (fun h20 => ?_)
  · have hni : ¬ id ∈ nmsC ck := by simpa using h20
    rw [tkV_new (by rw [hid]; exact hni), hid]
    refine G.seq ?_
    refine G.drawT (nn := 7) (p := [mpc vID ok16 bm _]) (rem := 127) [0, 1, 2, 4, 0, 0, 63] [0, 1, 2, 4, 0, 0, 56] kr ⟨rfl, by kernel_rfl, by kernel_rfl⟩ subT kr (fun hT4 => ?_)
    refine G.takeT hT4 (i := 0) (rem' := 126) rfl rfl rfl kr (fun _ _ _ h => h) rfl (pv_move rfl) subT ?_
    refine G.takeT hT4 (i := 1) (rem' := 124) rfl rfl rfl kr (fun _ _ _ h => h) rfl (pv_nilCheck rfl) subT ?_
    refine G.takeT hT4 (i := 2) (rem' := 120) rfl rfl rfl kr (fun _ _ _ h => h) rfl (pv_fieldAddrK (sz := 0) (k := 0) Tryz.underlying78 rfl kr rfl rfl) subT ?_
    refine G.takeT hT4 (i := 5) (rem' := 88) rfl rfl rfl kr (fun _ _ _ h => h) rfl (pv_buildSt (z := []) (pl := []) Tryz.underlying117 kr kr rfl flT) subT ?_
    refine G.takeT hT4 (i := 3) (rem' := 80) rfl rfl rfl kr (fun _ _ _ h => h) rfl (pv_load Tryz.underlying76 rfl rfl celT) subT ?_
    refine G.oneT hT4 (i := 4) (rem' := 64) kr kr ?_
    refine G.turnOp rfl rfl (G.val rfl rfl (pv_loadN (cs := id.map vByte) Tryz.underlying66 rfl (by rw [List.length_map, lq]; kernel_rfl) rfl (blk_range (k := 16) selT (List.take_of_length_le (by rw [List.drop_zero, List.length_map, lq]; exact Nat.le_refl _)))) ?_)
    refine G.back subT ?_
    refine G.oneT hT4 (i := 6) (rem' := 0) kr kr ?_
    refine G.turnOp rfl rfl (G.mapSet (f := vID) (ok := ok16) (x := id) (v := .agg #[]) (xs := setL (nmsC ck)) keyI Tryz.underlying76 rfl rfl rfl lq selT ?_)
    rw [setL_set hni, show nmsC ck ++ [id] = nmsC (ck ++ [((id, b), v)]) from (nms_snoc ck ((id, b), v)).symm]
    refine G.back subT ?_
    refine G.overT hT4 kr ?_
    refine G.nThen ?_
    refine G.drawT (nn := 13) (p := [blk C _ _, own 71 17 _ _ _]) (rem := 8191) [0, 0, 2, 4, 8, 0, 0, 96, 128, 272, 1023, 2047, 3071] [0, 0, 2, 4, 8, 0, 0, 96, 128, 272, 1, 1024, 2560] kr ⟨rfl, by kernel_rfl, by kernel_rfl⟩ subT kr (fun hT5 => ?_)
    refine G.takeT hT5 (i := 0) (rem' := 8190) rfl rfl rfl kr (fun _ _ _ h => h) rfl (pv_move rfl) subT ?_
    refine G.takeT hT5 (i := 1) (rem' := 8188) rfl rfl rfl kr (fun _ _ _ h => h) rfl (pv_move rfl) subT ?_
    refine G.takeT hT5 (i := 2) (rem' := 8184) rfl rfl rfl kr (fun _ _ _ h => h) rfl (pv_nilCheck rfl) subT ?_
    refine G.takeT hT5 (i := 3) (rem' := 8176) rfl rfl rfl kr (fun _ _ _ h => h) rfl (pv_fieldAddrK (sz := 0) (k := 1) Tryz.underlying78 rfl kr rfl rfl) subT ?_
    refine G.takeT hT5 (i := 6) (rem' := 8112) rfl rfl rfl kr (fun _ _ _ h => h) rfl (pv_move rfl) subT ?_
    refine G.takeT hT5 (i := 5) (rem' := 8080) rfl rfl rfl kr (fun _ _ _ h => h) rfl (pv_loadN (cs := id.map vByte) Tryz.underlying66 rfl (by rw [List.length_map, lq]; kernel_rfl) rfl (blk_range (k := 16) selT (List.take_of_length_le (by rw [List.drop_zero, List.length_map, lq]; exact Nat.le_refl _)))) subT ?_
    refine G.takeT hT5 (i := 7) (rem' := 7952) rfl rfl rfl kr (fun _ _ _ h => h) rfl (pv_build (cells := (chC ((id, b), v)).toArray) (fun a ha => ha.pevs rfl) (builtCk lq hv)) subT ?_
    refine G.twoT hT5 (i := 4) (j := 8) (rem' := 7936) (rem'' := 7696) kr kr kr ?_ ?_
    · refine G.turnOp rfl rfl (G.val rfl rfl (pv_load Tryz.underlying29 rfl rfl celT) ?_)
      refine G.back subT ?_
      refine G.oneT hT5 (i := 8) (rem' := 7680) kr kr ?_
      refine G.turnOp rfl rfl (G.buildSlice (sz := 17) (cs := chC ((id, b), v)) rfl Tryz.underlying29 Tryz.infoCkfill (by decide) (by decide) rfl (fillCk _ (chC_len _)) ?_)
      intro b35
      refine G.back subT ?_
      refine G.oneT hT5 (i := 9) (rem' := 7168) kr kr ?_
      refine G.turnOp rfl rfl (G.append (k := ck.length) (j := 1) (cs := ck.flatMap chC) (news := chC ((id, b), v)) (b := b35) (off := 0) rfl Tryz.underlying29 Tryz.infoCk rfl rfl rfl selT (fun _ => rfl) (fun h => by cases h) (chC_len _) (blk_news (k := 17) selT (by rw [List.drop_zero]; exact List.take_of_length_le (Nat.le_of_eq (chC_len _)))) (chC_one hv) (by omega) (by omega) ?_)
      intro vn
      rw [chC_snoc ck ((id, b), v), show ck.length + 1 = (ck ++ [((id, b), v)]).length from by rw [List.length_append]; rfl]
      refine G.ownFact (v := vn) selT (fun hvn _ => ?_)
      refine G.back subT ?_
      refine G.takeT hT5 (i := 10) (rem' := 6144) rfl rfl rfl kr (fun _ _ _ h => h) rfl (pv_nilCheck rfl) subT ?_
      refine G.takeT hT5 (i := 11) (rem' := 4096) rfl rfl rfl kr (fun _ _ _ h => h) rfl (pv_fieldAddrK (sz := 0) (k := 1) Tryz.underlying78 rfl kr rfl rfl) subT ?_
      refine G.oneT hT5 (i := 12) (rem' := 0) kr kr ?_
      refine G.turnOp rfl rfl (G.store kr rfl rfl eqT selT leT ?_)
      refine G.back subT ?_
      refine G.overT hT5 kr ?_
      refine G.nThen (G.seq (G.region ?_))
      refine G.op rfl (G.val rfl rfl (pv_loadN (cs := id.map vByte) Tryz.underlying66 rfl (by rw [List.length_map, lq]; kernel_rfl) rfl (blk_range (k := 16) selT (List.take_of_length_le (by rw [List.drop_zero, List.length_map, lq]; exact Nat.le_refl _)))) ?_)
      refine G.op rfl (G.storeN (by rw [List.length_map, lq]; kernel_rfl) rfl rfl (List.all_eq_true.2 (vByte_one _)) selT (by simp [lq]) ?_)
      rw [putN_whole _ _ (by rw [List.length_map, lq]; rfl)]
      refine G.nil ?_
      refine G.nThen ?_
      refine G.ret ?_
      exact G.doneG (vn) trT rfl (Rv.cellN (cs := id.map vByte) rfl Tryz.underlying66 rfl (by rw [List.length_map, lq]; kernel_rfl) (blk_range (k := 16) (b := b4) selT (List.take_of_length_le (by rw [List.drop_zero, List.length_map, lq]; exact Nat.le_refl _))) Rv.nil) (by first | rfl | exact int_eq (by omega) | (simp; done)) subT
    refine G.turnOp rfl rfl (G.buildSlice (sz := 17) (cs := chC ((id, b), v)) rfl Tryz.underlying29 Tryz.infoCkfill (by decide) (by decide) rfl (fillCk _ (chC_len _)) ?_)
    intro b35
    refine G.back subT ?_
    refine G.oneT hT5 (i := 4) (rem' := 7680) kr kr ?_
    refine G.turnOp rfl rfl (G.val rfl rfl (pv_load Tryz.underlying29 rfl rfl celT) ?_)
    refine G.back subT ?_
    refine G.oneT hT5 (i := 9) (rem' := 7168) kr kr ?_
    refine G.turnOp rfl rfl (G.append (k := ck.length) (j := 1) (cs := ck.flatMap chC) (news := chC ((id, b), v)) (b := b35) (off := 0) rfl Tryz.underlying29 Tryz.infoCk rfl rfl rfl selT (fun _ => rfl) (fun h => by cases h) (chC_len _) (blk_news (k := 17) selT (by rw [List.drop_zero]; exact List.take_of_length_le (Nat.le_of_eq (chC_len _)))) (chC_one hv) (by omega) (by omega) ?_)
    intro vn
    rw [chC_snoc ck ((id, b), v), show ck.length + 1 = (ck ++ [((id, b), v)]).length from by rw [List.length_append]; rfl]
    refine G.ownFact (v := vn) selT (fun hvn _ => ?_)
    refine G.back subT ?_
    refine G.takeT hT5 (i := 10) (rem' := 6144) rfl rfl rfl kr (fun _ _ _ h => h) rfl (pv_nilCheck rfl) subT ?_
    refine G.takeT hT5 (i := 11) (rem' := 4096) rfl rfl rfl kr (fun _ _ _ h => h) rfl (pv_fieldAddrK (sz := 0) (k := 1) Tryz.underlying78 rfl kr rfl rfl) subT ?_
    refine G.oneT hT5 (i := 12) (rem' := 0) kr kr ?_
    refine G.turnOp rfl rfl (G.store kr rfl rfl eqT selT leT ?_)
    refine G.back subT ?_
    refine G.overT hT5 kr ?_
    refine G.nThen (G.seq (G.region ?_))
    refine G.op rfl (G.val rfl rfl (pv_loadN (cs := id.map vByte) Tryz.underlying66 rfl (by rw [List.length_map, lq]; kernel_rfl) rfl (blk_range (k := 16) selT (List.take_of_length_le (by rw [List.drop_zero, List.length_map, lq]; exact Nat.le_refl _)))) ?_)
    refine G.op rfl (G.storeN (by rw [List.length_map, lq]; kernel_rfl) rfl rfl (List.all_eq_true.2 (vByte_one _)) selT (by simp [lq]) ?_)
    rw [putN_whole _ _ (by rw [List.length_map, lq]; rfl)]
    refine G.nil ?_
    refine G.nThen ?_
    refine G.ret ?_
    exact G.doneG (vn) trT rfl (Rv.cellN (cs := id.map vByte) rfl Tryz.underlying66 rfl (by rw [List.length_map, lq]; kernel_rfl) (blk_range (k := 16) (b := b4) selT (List.take_of_length_le (by rw [List.drop_zero, List.length_map, lq]; exact Nat.le_refl _))) Rv.nil) (by first | rfl | exact int_eq (by omega) | (simp; done)) subT
  have hyi : id ∈ nmsC ck := by simpa using h20
  rw [tkV_in (by rw [hid]; exact hyi)]
  refine G.skip ?_
  refine G.nThen (G.seq (G.region ?_))
  refine G.op rfl (G.val rfl rfl (pv_loadN (cs := id.map vByte) Tryz.underlying66 rfl (by rw [List.length_map, lq]; kernel_rfl) rfl (blk_range (k := 16) selT (List.take_of_length_le (by rw [List.drop_zero, List.length_map, lq]; exact Nat.le_refl _)))) ?_)
  refine G.op rfl (G.storeN (by rw [List.length_map, lq]; kernel_rfl) rfl rfl (List.all_eq_true.2 (vByte_one _)) selT (by simp [lq]) ?_)
  rw [putN_whole _ _ (by rw [List.length_map, lq]; rfl)]
  refine G.nil ?_
  refine G.nThen ?_
  refine G.ret ?_
  exact G.doneG (vl) trT rfl (Rv.cellN (cs := id.map vByte) rfl Tryz.underlying66 rfl (by rw [List.length_map, lq]; kernel_rfl) (blk_range (k := 16) (b := b4) selT (List.take_of_length_le (by rw [List.drop_zero, List.length_map, lq]; exact Nat.le_refl _))) Rv.nil) (by first | rfl | exact int_eq (by omega) | (simp; done)) subT
end Go.Proofs.YtbfpbibkklfnfaaGreat

set_option linter.unusedVariables false
set_option linter.unusedSimpArgs false
namespace Go.Proofs.YtbfpbibkklfnfaaGreat
open Go.RowKit
theorem getD_last (l : List Nat) : (0 :: l).getD l.length 0 = l.getLastD 0 := by
  rcases List.eq_nil_or_concat l with rfl | ⟨a, x, rfl⟩
  · rfl
  rw [List.concat_eq_append, List.getLastD_concat, List.length_append, List.length_singleton, List.getD_cons_succ, List.getD_eq_getElem?_getD, List.getElem?_append_right (Nat.le_refl _)]
  simp
theorem getD_pre {l t : List Nat} {k : Nat} (h : k ≤ l.length) : (0 :: (l ++ t)).getD k 0 = (0 :: l).getD k 0 := by
  cases k with
  | zero => rfl
  | succ k => rw [List.getD_cons_succ, List.getD_cons_succ, List.getD_eq_getElem?_getD, List.getD_eq_getElem?_getD, List.getElem?_append_left (by omega)]
/-- a chunk ends at its end, and no sooner -/
theorem cut_inv (b : List UInt8) : ∀ i, (∀ j, (cutTo b i).getLastD 0 < j → j ≤ i → ¬ endsP ((b.take j).drop ((cutTo b i).getLastD 0))) ∧
    (∀ k (h : k < (cutTo b i).length), endsP ((b.take (cutTo b i)[k]).drop ((0 :: cutTo b i).getD k 0)) ∧ (0 :: cutTo b i).getD k 0 < (cutTo b i)[k] ∧ ∀ j, (0 :: cutTo b i).getD k 0 < j → j < (cutTo b i)[k] → ¬ endsP ((b.take j).drop ((0 :: cutTo b i).getD k 0)))
  | 0 => ⟨fun j h1 h2 => by omega, fun k h => by cases h⟩
  | i + 1 => by
    obtain ⟨ih1, ih2⟩ := cut_inv b i
    have hl := last_le b i
    by_cases h : endsP ((b.take (i + 1)).drop ((cutTo b i).getLastD 0))
    · have e : cutTo b (i + 1) = cutTo b i ++ [i + 1] := if_pos h
      rw [e]
      refine ⟨fun j h1 h2 => ?_, fun k hk => ?_⟩
      · rw [List.getLastD_concat] at h1
        omega
      rw [List.length_append, List.length_singleton] at hk
      rcases Nat.lt_or_ge k (cutTo b i).length with h1 | h1
      · simp only [getD_pre (t := [i + 1]) (Nat.le_of_lt h1), List.getElem_append_left h1]
        exact ih2 k h1
      obtain rfl : k = (cutTo b i).length := by omega
      simp only [getD_pre (t := [i + 1]) (Nat.le_refl _), getD_last, List.getElem_append_right (Nat.le_refl _), Nat.sub_self, List.getElem_cons_zero]
      exact ⟨h, by omega, fun j h2 h3 => ih1 j h2 (by omega)⟩
    have e : cutTo b (i + 1) = cutTo b i := if_neg h
    rw [e]
    refine ⟨fun j h1 h2 => ?_, ih2⟩
    rcases Nat.lt_or_ge j (i + 1) with h3 | h3
    · exact ih1 j h1 (by omega)
    obtain rfl : j = i + 1 := by omega
    exact h
/-- how many bytes the first chunk has, by definition -/
def nxtC (b : List UInt8) : Nat × Bool := match (List.range b.length).find? fun n => decide (endsP (b.take (n + 1))) with
  | some n => (n + 1, true)
  | none => (b.length, false)
theorem nxtC_at {b : List UInt8} {n : Nat} (hn : n < b.length) (h : endsP (b.take (n + 1))) (h2 : ∀ j, j < n → ¬ endsP (b.take (j + 1))) : nxtC b = (n + 1, true) := by
  have : (List.range b.length).find? (fun n => decide (endsP (b.take (n + 1)))) = some n := by
    rw [List.find?_eq_some_iff_getElem]
    refine ⟨by simpa using h, n, by simpa using hn, by simp, fun j hj => ?_⟩
    simpa using h2 j hj
  unfold nxtC
  rw [this]
theorem nxtC_no {b : List UInt8} (h : ∀ j, j < b.length → ¬ endsP (b.take (j + 1))) : nxtC b = (b.length, false) := by
  have : (List.range b.length).find? (fun n => decide (endsP (b.take (n + 1)))) = none := by
    rw [List.find?_eq_none]
    intro x hx
    simpa using h x (by simpa using hx)
  unfold nxtC
  rw [this]
theorem drop_take_at (b : List UInt8) (a n : Nat) : (b.drop a).take n = (b.take (a + n)).drop a := by rw [List.drop_take, Nat.add_sub_cancel_left]
theorem atC_cut {b : List UInt8} {k : Nat} (h : k < (cutL b).length) : atC b (k + 1) = (cutL b)[k] := by
  rw [atC_succ, List.getD_eq_getElem?_getD, List.getElem?_eq_getElem h]
  rfl
theorem piece_next {b : List UInt8} {k : Nat} (h : k < (cutL b).length) : nxtC (b.drop (atC b k)) = ((pieceC b k).length, true) ∧ 0 < (pieceC b k).length ∧ b.drop (atC b k) = pieceC b k ++ b.drop (atC b (k + 1)) := by
  obtain ⟨h1, h2, h3⟩ := (cut_inv b b.length).2 k h
  have e : (cutTo b b.length)[k] = atC b (k + 1) := (atC_cut h).symm
  have hle := atC_le b (k + 1)
  have h1 : endsP ((b.take (cutTo b b.length)[k]).drop (atC b k)) := h1
  have h2 : atC b k < (cutTo b b.length)[k] := h2
  have h3 : ∀ j, atC b k < j → j < (cutTo b b.length)[k] → ¬ endsP ((b.take j).drop (atC b k)) := h3
  rw [e] at h1 h2 h3
  have hlen : (pieceC b k).length = atC b (k + 1) - atC b k := by unfold pieceC; rw [List.length_drop, List.length_take]; omega
  refine ⟨?_, by omega, ?_⟩
  · have := nxtC_at (b := b.drop (atC b k)) (n := (pieceC b k).length - 1) (by rw [List.length_drop]; omega) (by rw [drop_take_at, show atC b k + ((pieceC b k).length - 1 + 1) = atC b (k + 1) by omega]; exact h1) fun j hj => by
      rw [drop_take_at]
      exact h3 _ (by omega) (by omega)
    rw [this, show (pieceC b k).length - 1 + 1 = (pieceC b k).length by omega]
  unfold pieceC
  have e2 : b.drop (atC b k) = (b.take (atC b (k + 1)) ++ b.drop (atC b (k + 1))).drop (atC b k) := by rw [List.take_append_drop]
  rw [e2, List.drop_append_of_le_length (by rw [List.length_take]; omega)]
theorem tail_next (b : List UInt8) : nxtC (b.drop (atC b (cutL b).length)) = ((b.drop (atC b (cutL b).length)).length, false) := by
  have hat : atC b (cutL b).length = (cutTo b b.length).getLastD 0 := getD_last _
  refine nxtC_no fun j hj => ?_
  rw [drop_take_at, hat]
  rw [hat, List.length_drop] at hj
  exact (cut_inv b b.length).1 _ (by omega) (by omega)
theorem piecesC_len (b : List UInt8) (k : Nat) : (piecesC b k).length = k := by simp [piecesC]
theorem piecesC_get {b : List UInt8} {n k : Nat} (h : k < n) : (piecesC b n)[k]? = some (pieceC b k) := by simp [piecesC, h]
/-- what is still to be cut -/
theorem chunks_next (b : List UInt8) : ∀ k, k ≤ (chunksC b).length → (k ≤ (cutL b).length → ((chunksC b).drop k).flatten = b.drop (atC b k)) ∧ (∀ h : k < (chunksC b).length, nxtC ((chunksC b).drop k).flatten = ((chunksC b)[k].length, decide (k < (cutL b).length)) ∧ 0 < (chunksC b)[k].length) := by
  have hlen : (chunksC b).length = (cutL b).length + (if atC b (cutL b).length < b.length then 1 else 0) := by
    unfold chunksC
    rw [List.length_append, piecesC_len]
    split <;> rfl
  have hget : ∀ k, k < (cutL b).length → (chunksC b)[k]? = some (pieceC b k) := fun k hk => by
    unfold chunksC
    rw [List.getElem?_append_left (by rw [piecesC_len]; exact hk), piecesC_get hk]
  have hend : (chunksC b).drop (cutL b).length = if atC b (cutL b).length < b.length then [b.drop (atC b (cutL b).length)] else [] := by
    unfold chunksC
    rw [List.drop_append_of_le_length (by rw [piecesC_len]; exact Nat.le_refl _), List.drop_of_length_le (by rw [piecesC_len]; exact Nat.le_refl _), List.nil_append]
  have flat : ∀ d k, k + d = (cutL b).length → ((chunksC b).drop k).flatten = b.drop (atC b k) := by
    intro d
    induction d with
    | zero =>
      intro k hk
      obtain rfl : k = (cutL b).length := by omega
      rw [hend]
      split
      · simp
      rename_i h
      have := atC_le b (cutL b).length
      rw [List.drop_of_length_le (by omega)]
      rfl
    | succ d ih =>
      intro k hk
      have hk' : k < (cutL b).length := by omega
      have hk2 : k < (chunksC b).length := by omega
      have e := hget k hk'
      rw [List.getElem?_eq_getElem hk2] at e
      rw [List.drop_eq_getElem_cons hk2, List.flatten_cons, ih (k + 1) (by omega), Option.some.inj e]
      exact (piece_next hk').2.2.symm
  intro k hk
  refine ⟨fun h => flat ((cutL b).length - k) k (by omega), fun h => ?_⟩
  rcases Nat.lt_or_ge k (cutL b).length with h1 | h1
  · have e := hget k h1
    rw [List.getElem?_eq_getElem h] at e
    rw [flat ((cutL b).length - k) k (by omega), Option.some.inj e, decide_eq_true h1]
    exact ⟨(piece_next h1).1, (piece_next h1).2.1⟩
  split at hlen
  · rename_i hlt
    obtain rfl : k = (cutL b).length := by omega
    have e : (chunksC b)[(cutL b).length]'h = b.drop (atC b (cutL b).length) := by
      have e1 := List.drop_eq_getElem_cons h
      rw [hend, if_pos hlt] at e1
      exact (List.cons.inj e1).1.symm
    rw [flat 0 _ rfl, e, decide_eq_false (by omega), tail_next]
    exact ⟨rfl, by rw [List.length_drop]; omega⟩
  omega
theorem chunks_flat (b : List UInt8) : (chunksC b).flatten = b := by
  have := (chunks_next b 0 (Nat.zero_le _)).1 (Nat.zero_le _)
  rw [List.drop_zero] at this
  rw [this]
  rfl
end Go.Proofs.YtbfpbibkklfnfaaGreat

set_option linter.unusedVariables false
set_option linter.unusedSimpArgs false
namespace Go.Proofs.YtbfpbibkklfnfaaGreat
open Go.RowKit
section
variable {P : Program} {n : Nat} {w0 : World} {S : Nat → Prop} {l : Fr} {m : List Ck} {K : Act → World → Prop}
theorem G.datBOne {e : TypeId} {x : List UInt8} {u : Value} {xs : LT} {r : List Ck} (h1 : Sel m (datB e ((x, u) :: xs)) r) (h : u.oneCell' = true → G n w0 S l m K) : G n w0 S l m K :=
  G.fact (p := u.oneCell' = true) (fun w hw => by
    have h2 : (datB e ((x, u) :: xs)).φ w := hw.holds _ h1.mem
    have h3 : (ownB e u x).φ w := h2.1 _ (List.mem_cons_self ..)
    exact (OwnB.one h3).1) h
/-- the bytes of a chunk that was taken -/
theorem G.datTk {e : TypeId} {ck : List CT} {b : List UInt8} {v : Value} {r r' : List Ck} (h1 : Sel m (datD e ck) r) (h2 : Sel r (ownB e v b) r') (h : G n w0 S l (datD e (tkV ck b v) :: r') K) : G n w0 S l m K := by
  by_cases h3 : nameM b ∈ nmsC ck
  · rw [tkV_in h3] at h
    refine G.mem (fun w hw => ?_) h
    have h4 := (hw.sel h1).perm (List.Perm.cons _ h2.perm)
    exact h4.sub (List.Sublist.cons_cons _ (List.sublist_cons_self _ _))
  rw [tkV_new h3] at h
  exact G.datDSnoc h1 h2 h
end
/-- the item of an entry; the chunks of byte strings -/
def mkI (e : En) : It := ⟨e.path, e.kind, e.mode, (e.data.length : Int), e.to, (chunksC e.data).map nameM⟩
def collC (acc : List (List UInt8 × List UInt8)) (l : List (List UInt8)) : List (List UInt8 × List UInt8) := l.foldl takeC acc
def makeC (es : List En) : List (List UInt8 × List UInt8) := collC [] (es.flatMap fun e => chunksC e.data)
theorem collC_take (acc : List (List UInt8 × List UInt8)) {l : List (List UInt8)} {i : Nat} (h : i < l.length) : collC acc (l.take (i + 1)) = takeC (collC acc (l.take i)) l[i] := by
  unfold collC
  rw [List.take_succ_eq_append_getElem h, List.foldl_append]
  rfl
theorem makeC_take {es : List En} {i : Nat} (h : i < es.length) : makeC (es.take (i + 1)) = collC (makeC (es.take i)) (chunksC es[i].data) := by
  unfold makeC collC
  rw [List.take_succ_eq_append_getElem h, List.flatMap_append, List.foldl_append]
  simp
theorem chunksC_len (b : List UInt8) : (chunksC b).length ≤ b.length + 1 := by
  have h := cutL_len b b.length
  have h2 : (cutL b).length ≤ b.length := h
  unfold chunksC piecesC
  rw [List.length_append, List.length_map, List.length_range]
  split
  · rw [List.length_singleton]; omega
  rw [List.length_nil]; omega
theorem chunksC_le {b c : List UInt8} (h : c ∈ chunksC b) : c.length ≤ b.length := by
  have h1 := (List.sublist_flatten_of_mem h).length_le
  rwa [chunks_flat] at h1
theorem mkI_16 (e : En) : all16 (mkI e).ids := fun x hx => by
  obtain ⟨c, _, rfl⟩ := List.mem_map.1 hx
  exact nameM_len c
theorem mkI_ok {e : En} (h : EnOk e) (hd : e.data.length ≤ 10000) : ItOk (mkI e) := by
  obtain ⟨h1, h2, h3, h4, h5⟩ := h
  have h6 := chunksC_len e.data
  refine ⟨h1, h2, ⟨?_, ?_⟩, h3, h5, ?_⟩
  · show _ ≤ (e.data.length : Int); omega
  · show (e.data.length : Int) ≤ _; omega
  show ((chunksC e.data).map nameM).length ≤ _; rw [List.length_map]; omega
/-- the manifest of a tree, its chunks, the error -/
def mkM (a : Mh) (es : List En) : (Mh × List It) × List (List UInt8 × List UInt8) × Int := if (checkT es).1 ≠ 0 then ((mh0, []), [], (checkT es).1) else if bytesE a (es.map mkI) ≠ 0 then ((mh0, []), [], bytesE a (es.map mkI)) else ((a, es.map mkI), makeC es, 0)
theorem mkM_bad {a : Mh} {es : List En} (h : (checkT es).1 ≠ 0) : mkM a es = ((mh0, []), [], (checkT es).1) := if_pos h
theorem mkM_no {a : Mh} {es : List En} (h : (checkT es).1 = 0) (h2 : bytesE a (es.map mkI) ≠ 0) : mkM a es = ((mh0, []), [], bytesE a (es.map mkI)) := (if_neg (not_not_intro h)).trans (if_pos h2)
theorem mkM_ok {a : Mh} {es : List En} (h : (checkT es).1 = 0) (h2 : bytesE a (es.map mkI) = 0) : mkM a es = ((a, es.map mkI), makeC es, 0) := (if_neg (not_not_intro h)).trans (if_neg (not_not_intro h2))
set_option maxRecDepth 20000 in
set_option maxHeartbeats 4000000 in
theorem citem_tr {Pd : Nat → Prop} (C bm : Nat) (vl d : Value) (ck : List CT) (e : En) (hn : ck.length ≤ 90000000) (hb : e.data.length ≤ 10000) : Tr Tryz.prog 46 #[.pointer (some ⟨C, 0, none⟩), .agg #[.string (sB e.path), .int .i64 e.kind, .int .i64 e.mode, d, .string (sB e.to)]] [slc rByte Pd d e.data] [blk C 78 [.map (some bm), vl], mpc vID ok16 bm (setL (nmsC ck)), own 71 17 vl ck.length (ck.flatMap chC), datD 5 ck]
    (TX (fun z : Value × List CT × Value => cks z.2.1 = collC (cks ck) (chunksC e.data) ∧ z.2.1.length ≤ ck.length + e.data.length + 1) (fun z => .agg #[.string (sB (mkI e).path), .int .i64 (mkI e).kind, .int .i64 (mkI e).mode, .int .i64 (mkI e).size, .string (sB (mkI e).to), z.2.2]) (fun z => [blk C 78 [.map (some bm), z.1], mpc vID ok16 bm (setL (nmsC z.2.1)), own 71 17 z.1 z.2.1.length (z.2.1.flatMap chC), datD 5 z.2.1, own 66 16 z.2.2 (mkI e).ids.length (flatI (mkI e).ids)])) := by
  refine Tr.of (l := [(0, .pointer (some ⟨C, 0, none⟩)), (1, .agg #[.string (sB e.path), .int .i64 e.kind, .int .i64 e.mode, d, .string (sB e.to)])]) Tryz.func46 rfl (n := 38) rfl (.cons rfl (.cons rfl .nil)) (fun w0 hro => ?_)
  have hd := ro1 hro
  have hd0 := hd
  obtain ⟨ad, cap, rfl⟩ := Ro.slv hd
  have hcl := chunksC_len e.data
  refine G.seq (G.region ?_)
  refine G.op rfl (G.box rfl rfl (cs := [_, _, _, _, _]) rfl ?_)
  intro b3
  refine G.op rfl (G.alloc (z := .agg #[.string ⟨#[]⟩, .int .i64 0, .int .i64 0, .int .i64 0, .string ⟨#[]⟩, .slice none 0 0]) (cs := [.string ⟨#[]⟩, .int .i64 0, .int .i64 0, .int .i64 0, .string ⟨#[]⟩, .slice none 0 0]) rfl kr rfl ?_)
  intro b4
  refine G.nil ?_
  refine G.nThen (G.seq (G.region ?_))
  refine G.op rfl (G.val rfl rfl (pv_fieldAddrK (sz := 0) (k := 0) Tryz.underlying68 rfl kr rfl rfl) ?_)
  refine G.op rfl (G.val rfl rfl (pv_load Tryz.underlying9 rfl rfl celT) ?_)
  refine G.op rfl (G.val rfl rfl (pv_fieldAddrK (sz := 0) (k := 1) Tryz.underlying68 rfl kr rfl rfl) ?_)
  refine G.op rfl (G.val rfl rfl (pv_load Tryz.underlying3 rfl rfl celT) ?_)
  refine G.op rfl (G.val rfl rfl (pv_fieldAddrK (sz := 0) (k := 2) Tryz.underlying68 rfl kr rfl rfl) ?_)
  refine G.op rfl (G.val rfl rfl (pv_load Tryz.underlying3 rfl rfl celT) ?_)
  refine G.op rfl (G.val rfl rfl (pv_fieldAddrK (sz := 0) (k := 3) Tryz.underlying68 rfl kr rfl rfl) ?_)
  refine G.op rfl (G.val rfl rfl (pv_load Tryz.underlying39 rfl rfl celT) ?_)
  refine G.op rfl (G.val rfl rfl (pv_lenSl Tryz.underlying39 rfl) ?_)
  refine G.op rfl (G.val rfl rfl (pv_fieldAddrK (sz := 0) (k := 4) Tryz.underlying68 rfl kr rfl rfl) ?_)
  refine G.op rfl (G.val rfl rfl (pv_load Tryz.underlying9 rfl rfl celT) ?_)
  refine G.op rfl (G.val rfl rfl (pv_buildSt (z := [.string ⟨#[]⟩, .int .i64 0, .int .i64 0, .int .i64 0, .string ⟨#[]⟩, .slice none 0 0]) (pl := [(0, 1), (1, 1), (2, 1), (3, 1), (4, 1), (5, 1)]) Tryz.underlying80 kr kr rfl flT) ?_)
  refine G.op rfl (G.alloc (z := .agg #[.string ⟨#[]⟩, .int .i64 0, .int .i64 0, .int .i64 0, .string ⟨#[]⟩, .slice none 0 0]) (cs := [.string ⟨#[]⟩, .int .i64 0, .int .i64 0, .int .i64 0, .string ⟨#[]⟩, .slice none 0 0]) rfl kr rfl ?_)
  intro b5
  refine G.op rfl (G.storeN kr rfl rfl allT selT leT ?_)
  refine G.nil ?_
  refine G.nThen (G.seq (G.seq (G.region ?_)))
  refine G.op rfl (G.val rfl rfl (pv_fieldAddrK (sz := 0) (k := 3) Tryz.underlying68 rfl kr rfl rfl) ?_)
  refine G.op rfl (G.val rfl rfl (pv_load Tryz.underlying39 rfl rfl celT) ?_)
  refine G.op rfl (G.cS rfl rfl rfl rfl Tryz.func81 rfl rfl subT (may1 (by first | (apply May.old; first | with_reducible assumption | assumption) | (apply Sel.may; (repeat (first | with_reducible exact Sel.here | exact Sel.here | apply Sel.there)); done) | (apply may_own; (repeat (first | with_reducible exact Sel.here | exact Sel.here | apply Sel.there)); exact rfl; exact (fun _ _ => trivial); done) | (apply may_ownB; (repeat (first | with_reducible exact Sel.here | exact Sel.here | apply Sel.there)); done) | (apply may_ownI; (repeat (first | with_reducible exact Sel.here | exact Sel.here | apply Sel.there)); assumption; done) | (apply may_ownN; (repeat (first | with_reducible exact Sel.here | exact Sel.here | apply Sel.there)); assumption; done) | (apply may_tree; (repeat (first | with_reducible exact Sel.here | exact Sel.here | apply Sel.there)); (repeat (first | with_reducible exact Sel.here | exact Sel.here | apply Sel.there)); assumption; done))) (csplit_tr _ e.data (by omega)) apT ?_)
  intro x22 hJ
  obtain ⟨sv, l⟩ := x22
  try dsimp only at hJ
  try dsimp only
  have hl : l.map (·.1) = chunksC e.data := hJ
  have hll : l.length = (chunksC e.data).length := by rw [← hl, List.length_map]
  refine G.ownNews (v := sv) selT (fun a9 c9 b9 hsv hks hms hads hnils hnews => ?_)
  subst hsv
  refine G.op rfl (G.val rfl rfl (pv_lenSl Tryz.underlying82 rfl) ?_)
  refine G.mvT rfl rfl ?_
  refine G.nil ?_
  refine G.nThen ?_
  refine G.block ?_
  refine G.ownNil 66 16 ?_
  rw [show datB 5 l = datB 5 (l.drop 0) from rfl]
  refine G.loopK (X := Nat × Value × (List CT) × Value) (ts := [0, 4, 5, 22, 23]) (fun st => st.1 ≤ l.length ∧ (cks st.2.2.1 = collC (cks ck) ((chunksC e.data).take st.1) ∧ st.2.2.1.length ≤ ck.length + st.1)) (fun st => [(24, .int .i64 (st.1 : Int))]) (fun st => [blk C 78 [.map (some bm), st.2.1], mpc vID ok16 bm (setL (nmsC st.2.2.1)), own 71 17 st.2.1 st.2.2.1.length (st.2.2.1.flatMap chC), datD 5 st.2.2.1, datB 5 (l.drop st.1), own 66 16 st.2.2.2 (((chunksC e.data).take st.1).map nameM).length (flatI (((chunksC e.data).take st.1).map nameM)), blk b5 80 [.string (sB e.path), .int .i64 e.kind, .int .i64 e.mode, .int .i64 (e.data.length : Int), .string (sB e.to), st.2.2.2]]) (fun st => l.length - st.1) (x0 := (0, vl, ck, .slice none 0 0)) (.cons rfl (.cons rfl (.cons rfl (.cons rfl (.cons rfl .nil))))) subT (.cons .nil) apT (by first | exact trivial | ((try dsimp only) <;> exact ⟨Nat.zero_le _, ⟨rfl, Nat.le_refl _⟩⟩)) (.consE rfl veqT .nil) (fun st hJ => ?_)
  obtain ⟨i, vk, cks', vI⟩ := st
  try dsimp only at hJ
  try dsimp only
  obtain ⟨hki, hJ⟩ := hJ
  obtain ⟨hck, hckl⟩ := hJ
  refine G.seq (G.region ?_)
  refine G.op rfl (G.val rfl rfl (pv_lss rfl rfl) ?_)
  refine G.nil ?_
  refine G.nThen (G.seq ?_)
  refine G.condP rfl (fun h25 => ?_) (fun h25 => ?_)
  · have hlt : i < l.length := by omega
    have hlt' : i < (chunksC e.data).length := by omega
    have hpi : l[i].1 = (chunksC e.data)[i] := (by have h : (l.map (·.1))[i]? = (chunksC e.data)[i]? := (by rw [hl]); rw [List.getElem?_map, List.getElem?_eq_getElem hlt, List.getElem?_eq_getElem hlt'] at h; exact Option.some.inj h)
    have hpl : l[i].1.length ≤ e.data.length := chunksC_le (by rw [hpi]; exact List.getElem_mem hlt')
    have hids : ((chunksC e.data).take i).map nameM ++ [nameM l[i].1] = ((chunksC e.data).take (i + 1)).map nameM := by rw [List.take_succ_eq_append_getElem hlt', List.map_append, hpi]; rfl
    have hidl : (((chunksC e.data).take i).map nameM).length ≤ i := by rw [List.length_map]; exact List.length_take_le _ _
    rw [drop_cons hlt]
    refine G.datBOne (x := l[i].1) (u := l[i].2) selT (fun hone => ?_)
    refine G.skip ?_
    refine G.nThen (G.seq ?_)
    refine G.block ?_
    refine G.seq (G.region ?_)
    refine G.op rfl (G.val rfl rfl (pv_ixSl (sz := 1) (k := i) Tryz.underlying82 kr rfl rfl hads rfl hlt) ?_)
    refine G.op rfl (G.val rfl rfl (pv_load (v := l[i].2) Tryz.underlying39 rfl rfl (fun w hw => by have h := hnews selT w hw i l[i].2 (by rw [List.getElem?_map, List.getElem?_eq_getElem hlt]; rfl); simpa using h)) ?_)
    refine G.asT rfl rfl ?_
    refine G.nil ?_
    refine G.nThen ?_
    refine G.drawT (nn := 9) (p := [blk C _ _, mpc vID ok16 bm _, own 71 17 _ _ _, own 66 16 _ _ _, blk b5 _ _, datB 5 _, datD 5 _]) (rem := 511) [0, 1, 0, 0, 12, 16, 50, 127, 255] [0, 1, 0, 0, 12, 16, 34, 0, 192] kr ⟨rfl, by kernel_rfl, by kernel_rfl⟩ subT kr (fun hT5 => ?_)
    refine G.takeT hT5 (i := 0) (rem' := 510) rfl rfl rfl kr (fun _ _ _ h => h) rfl (pv_fieldAddrK (sz := 0) (k := 5) Tryz.underlying80 rfl kr rfl rfl) subT ?_
    refine G.takeT hT5 (i := 2) (rem' := 506) rfl rfl rfl kr (fun _ _ _ h => h) rfl (pv_move rfl) subT ?_
    refine G.takeT hT5 (i := 3) (rem' := 498) rfl rfl rfl kr (fun _ _ _ h => h) rfl (pv_move rfl) subT ?_
    refine G.twoT hT5 (i := 1) (j := 4) (rem' := 496) (rem'' := 482) kr kr kr ?_ ?_
    · refine G.turnOp rfl rfl (G.val rfl rfl (pv_load Tryz.underlying60 rfl rfl celT) ?_)
      refine G.back subT ?_
      refine G.oneT hT5 (i := 4) (rem' := 480) kr kr ?_
      refine G.turnOp rfl rfl (G.cS rfl rfl rfl rfl Tryz.func82 rfl rfl subT (may1 (may_datB selT (x := l[i].1) (u := l[i].2) (List.mem_cons_self ..))) (take_tr C bm _ l[i].2 cks' l[i].1 (by omega) (by omega) hone) apT ?_)
      intro x32 hJ
      try dsimp only at hJ
      try dsimp only
      obtain ⟨id, hid⟩ : ∃ c, nameM l[i].1 = c := ⟨_, rfl⟩
      have lq := nameM_len l[i].1
      rw [hid] at lq hids
      rw [hid]
      refine G.datBCons (x := l[i].1) (u := l[i].2) selT ?_
      refine G.datTk (b := l[i].1) (v := l[i].2) selT selT ?_
      refine G.back subT ?_
      refine G.oneT hT5 (i := 5) (rem' := 448) kr kr ?_
      refine G.turnOp rfl rfl (G.buildSlice (sz := 16) (cs := id.map vByte) rfl Tryz.underlying60 Tryz.infoIDfill (by decide) (by decide) rfl (fillID _ (by rw [List.length_map, lq])) ?_)
      intro b33
      refine G.back subT ?_
      refine G.oneT hT5 (i := 6) (rem' := 384) kr kr ?_
      refine G.turnOp rfl rfl (G.append (k := (((chunksC e.data).take i).map nameM).length) (j := 1) (cs := flatI (((chunksC e.data).take i).map nameM)) (news := id.map vByte) (b := b33) (off := 0) rfl Tryz.underlying60 Tryz.infoID' rfl rfl rfl selT (fun _ => rfl) (fun h => by cases h) (by rw [List.length_map, lq]) (blk_news (k := 16) selT (List.take_of_length_le (by rw [List.drop_zero, List.length_map, lq]; exact Nat.le_refl _))) (vByte_one _) (by omega) (by omega) ?_)
      intro vn
      rw [own_oneI, hids]
      refine G.ownFact (v := vn) selT (fun hvn _ => ?_)
      refine G.back subT ?_
      refine G.takeT hT5 (i := 7) (rem' := 256) rfl rfl rfl kr (fun _ _ _ h => h) rfl (pv_fieldAddrK (sz := 0) (k := 5) Tryz.underlying80 rfl kr rfl rfl) subT ?_
      refine G.oneT hT5 (i := 8) (rem' := 0) kr kr ?_
      refine G.turnOp rfl rfl (G.store kr rfl rfl eqT selT leT ?_)
      refine G.back subT ?_
      refine G.overT hT5 kr ?_
      refine G.nBlock ?_
      refine G.nThen (G.region ?_)
      refine G.op rfl (G.val rfl rfl (pv_add64 rfl rfl (by omega)) ?_)
      refine G.mvT rfl rfl ?_
      refine G.nil ?_
      exact G.next ((i + 1, (x32, tkV cks' l[i].1 l[i].2, vn))) (by first | exact trivial | ((try dsimp only) <;> exact ⟨by omega, ⟨by rw [cks_tk, hck, hpi, collC_take _ hlt'], by have := tkV_len cks' l[i].1 l[i].2; omega⟩⟩)) (by (try dsimp only); omega) (.consE rfl veqT (.cons rfl (.cons rfl (.cons rfl (.cons rfl (.cons rfl .nil)))))) subT
    refine G.turnOp rfl rfl (G.cS rfl rfl rfl rfl Tryz.func82 rfl rfl subT (may1 (may_datB selT (x := l[i].1) (u := l[i].2) (List.mem_cons_self ..))) (take_tr C bm _ l[i].2 cks' l[i].1 (by omega) (by omega) hone) apT ?_)
    intro x32 hJ
    try dsimp only at hJ
    try dsimp only
    obtain ⟨id, hid⟩ : ∃ c, nameM l[i].1 = c := ⟨_, rfl⟩
    have lq := nameM_len l[i].1
    rw [hid] at lq hids
    rw [hid]
    refine G.datBCons (x := l[i].1) (u := l[i].2) selT ?_
    refine G.datTk (b := l[i].1) (v := l[i].2) selT selT ?_
    refine G.back subT ?_
    refine G.twoT hT5 (i := 1) (j := 5) (rem' := 480) (rem'' := 450) kr kr kr ?_ ?_
    · refine G.turnOp rfl rfl (G.val rfl rfl (pv_load Tryz.underlying60 rfl rfl celT) ?_)
      refine G.back subT ?_
      refine G.oneT hT5 (i := 5) (rem' := 448) kr kr ?_
      refine G.turnOp rfl rfl (G.buildSlice (sz := 16) (cs := id.map vByte) rfl Tryz.underlying60 Tryz.infoIDfill (by decide) (by decide) rfl (fillID _ (by rw [List.length_map, lq])) ?_)
      intro b33
      refine G.back subT ?_
      refine G.oneT hT5 (i := 6) (rem' := 384) kr kr ?_
      refine G.turnOp rfl rfl (G.append (k := (((chunksC e.data).take i).map nameM).length) (j := 1) (cs := flatI (((chunksC e.data).take i).map nameM)) (news := id.map vByte) (b := b33) (off := 0) rfl Tryz.underlying60 Tryz.infoID' rfl rfl rfl selT (fun _ => rfl) (fun h => by cases h) (by rw [List.length_map, lq]) (blk_news (k := 16) selT (List.take_of_length_le (by rw [List.drop_zero, List.length_map, lq]; exact Nat.le_refl _))) (vByte_one _) (by omega) (by omega) ?_)
      intro vn
      rw [own_oneI, hids]
      refine G.ownFact (v := vn) selT (fun hvn _ => ?_)
      refine G.back subT ?_
      refine G.takeT hT5 (i := 7) (rem' := 256) rfl rfl rfl kr (fun _ _ _ h => h) rfl (pv_fieldAddrK (sz := 0) (k := 5) Tryz.underlying80 rfl kr rfl rfl) subT ?_
      refine G.oneT hT5 (i := 8) (rem' := 0) kr kr ?_
      refine G.turnOp rfl rfl (G.store kr rfl rfl eqT selT leT ?_)
      refine G.back subT ?_
      refine G.overT hT5 kr ?_
      refine G.nBlock ?_
      refine G.nThen (G.region ?_)
      refine G.op rfl (G.val rfl rfl (pv_add64 rfl rfl (by omega)) ?_)
      refine G.mvT rfl rfl ?_
      refine G.nil ?_
      exact G.next ((i + 1, (x32, tkV cks' l[i].1 l[i].2, vn))) (by first | exact trivial | ((try dsimp only) <;> exact ⟨by omega, ⟨by rw [cks_tk, hck, hpi, collC_take _ hlt'], by have := tkV_len cks' l[i].1 l[i].2; omega⟩⟩)) (by (try dsimp only); omega) (.consE rfl veqT (.cons rfl (.cons rfl (.cons rfl (.cons rfl (.cons rfl .nil)))))) subT
    refine G.turnOp rfl rfl (G.buildSlice (sz := 16) (cs := id.map vByte) rfl Tryz.underlying60 Tryz.infoIDfill (by decide) (by decide) rfl (fillID _ (by rw [List.length_map, lq])) ?_)
    intro b33
    refine G.back subT ?_
    refine G.oneT hT5 (i := 1) (rem' := 448) kr kr ?_
    refine G.turnOp rfl rfl (G.val rfl rfl (pv_load Tryz.underlying60 rfl rfl celT) ?_)
    refine G.back subT ?_
    refine G.oneT hT5 (i := 6) (rem' := 384) kr kr ?_
    refine G.turnOp rfl rfl (G.append (k := (((chunksC e.data).take i).map nameM).length) (j := 1) (cs := flatI (((chunksC e.data).take i).map nameM)) (news := id.map vByte) (b := b33) (off := 0) rfl Tryz.underlying60 Tryz.infoID' rfl rfl rfl selT (fun _ => rfl) (fun h => by cases h) (by rw [List.length_map, lq]) (blk_news (k := 16) selT (List.take_of_length_le (by rw [List.drop_zero, List.length_map, lq]; exact Nat.le_refl _))) (vByte_one _) (by omega) (by omega) ?_)
    intro vn
    rw [own_oneI, hids]
    refine G.ownFact (v := vn) selT (fun hvn _ => ?_)
    refine G.back subT ?_
    refine G.takeT hT5 (i := 7) (rem' := 256) rfl rfl rfl kr (fun _ _ _ h => h) rfl (pv_fieldAddrK (sz := 0) (k := 5) Tryz.underlying80 rfl kr rfl rfl) subT ?_
    refine G.oneT hT5 (i := 8) (rem' := 0) kr kr ?_
    refine G.turnOp rfl rfl (G.store kr rfl rfl eqT selT leT ?_)
    refine G.back subT ?_
    refine G.overT hT5 kr ?_
    refine G.nBlock ?_
    refine G.nThen (G.region ?_)
    refine G.op rfl (G.val rfl rfl (pv_add64 rfl rfl (by omega)) ?_)
    refine G.mvT rfl rfl ?_
    refine G.nil ?_
    exact G.next ((i + 1, (x32, tkV cks' l[i].1 l[i].2, vn))) (by first | exact trivial | ((try dsimp only) <;> exact ⟨by omega, ⟨by rw [cks_tk, hck, hpi, collC_take _ hlt'], by have := tkV_len cks' l[i].1 l[i].2; omega⟩⟩)) (by (try dsimp only); omega) (.consE rfl veqT (.cons rfl (.cons rfl (.cons rfl (.cons rfl (.cons rfl .nil)))))) subT
  obtain rfl : i = l.length := by omega
  rw [hll, List.take_length] at hck
  rw [hll, List.take_length]
  refine G.ownFact (v := vI) selT (fun hvI _ => ?_)
  refine G.exit ?_
  refine G.eThen ?_
  refine G.eThen ?_
  refine G.eBlock ?_
  refine G.nThen (G.seq (G.region ?_))
  refine G.op rfl (G.val rfl rfl (pv_loadN (cs := [_, _, _, _, _, _]) Tryz.underlying80 rfl kr rfl (by first | exact blk_range (k := 6) selD (by rfl) | exact ro_rng0 (by assumption) | exact rng_range (k := 6) selD (by rfl) | exact ro_range (k := 6) (by assumption) (by rfl) | exact ro_rngR (k := 6) (by assumption) (by rfl))) ?_)
  refine G.op rfl (G.storeN kr rfl rfl allT selT leT ?_)
  refine G.nil ?_
  refine G.nThen ?_
  refine G.ret ?_
  exact G.doneG ((vk, cks', vI)) (by first | exact trivial | ((try dsimp only) <;> exact ⟨hck, by omega⟩)) rfl (Rv.cellN (cs := [_, _, _, _, _, _]) rfl Tryz.underlying80 rfl kr (by first | exact blk_range (k := 6) selD (by rfl)) Rv.nil) rfl subT
end Go.Proofs.YtbfpbibkklfnfaaGreat

set_option linter.unusedVariables false
set_option linter.unusedSimpArgs false
namespace Go.Proofs.YtbfpbibkklfnfaaGreat
open Go.RowKit
set_option maxRecDepth 20000 in
set_option maxHeartbeats 4000000 in
theorem mmake_tr {Ps : Nat → Prop} (c k t : Int) (v : Value) (xs : List ET) (hd : ∀ x ∈ xs, x.1.data.length ≤ 10000) : Tr Tryz.prog 11 #[.int .i64 c, .int .i64 k, .int .i64 t, v] [slc rEV Ps v xs] []
    (TX (fun z : (Value × List IT) × Value × List CT => its z.1.2 = (mkM (⟨c, k, 0, t⟩ : Mh) (ens xs)).1.2 ∧ cks z.2.2 = (mkM (⟨c, k, 0, t⟩ : Mh) (ens xs)).2.1) (fun z => .tuple #[.agg #[.int .i64 (mkM (⟨c, k, 0, t⟩ : Mh) (ens xs)).1.1.c, .int .i64 (mkM (⟨c, k, 0, t⟩ : Mh) (ens xs)).1.1.k, .int .i64 (mkM (⟨c, k, 0, t⟩ : Mh) (ens xs)).1.1.n, .int .i64 (mkM (⟨c, k, 0, t⟩ : Mh) (ens xs)).1.1.t, z.1.1], z.2.1, .int .i64 (mkM (⟨c, k, 0, t⟩ : Mh) (ens xs)).2.2]) (fun z => [own 80 6 z.1.1 z.1.2.length (z.1.2.flatMap itC), datI 66 z.1.2, own 71 17 z.2.1 z.2.2.length (z.2.2.flatMap chC), datD 5 z.2.2])) := by
  refine Tr.of (l := [(0, .int .i64 c), (1, .int .i64 k), (2, .int .i64 t), (3, v)]) Tryz.func11 rfl (n := 64) rfl (.cons rfl (.cons rfl (.cons rfl (.cons rfl .nil)))) (fun w0 hro => ?_)
  have hv := ro1 hro
  have hv' := hv
  obtain ⟨av, cv, bv, fv, rfl, hcapv, hmaxv, hnilv, hadv, helv⟩ := Ro.openT hv
  have hel' := ens_length xs
  have hEn : ∀ e ∈ ens xs, EnOk e ∧ e.data.length ≤ 10000 := fun e he => by obtain ⟨x, hx, rfl⟩ := List.mem_map.1 he; obtain ⟨q, hq, rfl⟩ := List.getElem_of_mem hx; exact ⟨Ro.evOk (helv q hq), hd _ hx⟩
  refine G.seq (G.region ?_)
  refine G.op rfl (G.alloc (z := .agg #[.int .i64 0, .int .i64 0, .int .i64 0, .int .i64 0, .slice none 0 0]) (cs := [.int .i64 0, .int .i64 0, .int .i64 0, .int .i64 0, .slice none 0 0]) rfl kr rfl ?_)
  intro b8
  refine G.asT rfl rfl ?_
  refine G.asT rfl rfl ?_
  refine G.nil ?_
  refine G.nThen (G.seq (G.seq (G.region ?_)))
  refine G.mvT rfl rfl ?_
  refine G.op rfl (G.cR rfl rfl rfl rfl Tryz.func45 rfl rfl (may1 (.old hv)) (tcheck_tr _ xs) ?_)
  refine G.mvT rfl rfl ?_
  refine G.op rfl (G.val rfl rfl (pv_extract rfl rfl) ?_)
  refine G.op rfl (G.val rfl rfl (pv_extract rfl rfl) ?_)
  refine G.asT rfl rfl ?_
  refine G.asT rfl rfl ?_
  refine G.nil ?_
  refine G.nThen (G.seq (G.region ?_))
  refine G.mvT rfl rfl ?_
  refine G.op rfl (G.val rfl rfl (pv_neq rfl rfl) ?_)
  refine G.nil ?_
  refine G.nThen ?_
  refine G.condP rfl (fun h25 => ?_) (fun h25 => ?_)
  · refine G.seq (G.region ?_)
    refine G.op rfl (G.val rfl rfl (pv_buildSt (z := [.int .i64 0, .int .i64 0, .int .i64 0, .int .i64 0, .slice none 0 0]) (pl := [(0, 1), (1, 1), (2, 1), (3, 1), (4, 1)]) Tryz.underlying28 kr kr rfl flT) ?_)
    refine G.mvT rfl rfl ?_
    refine G.op rfl (G.storeN kr rfl rfl allT selT leT ?_)
    refine G.asT rfl rfl ?_
    refine G.asT rfl rfl ?_
    refine G.nil ?_
    refine G.nThen ?_
    refine G.ret ?_
    refine G.rThen ?_
    rw [mkM_bad (by assumption)]
    refine G.ownNil 80 6 ?_
    refine G.datINil 66 ?_
    refine G.ownNil 71 17 ?_
    refine G.datDNil 5 ?_
    exact G.doneG (((.slice none 0 0, []), .slice none 0 0, [])) (by first | exact trivial | ((try dsimp only) <;> exact ⟨rfl, rfl⟩)) rfl (Rv.cellN (cs := [_, _, _, _, _]) rfl Tryz.underlying28 rfl kr (by first | exact blk_range (k := 5) selD (by rfl)) (Rv.tmp rfl (Rv.tmp rfl Rv.nil))) rfl subT
  obtain ⟨h200, -, -⟩ := checkT_zero (es := ens xs) (by omega)
  have hz0 : (checkT (ens xs)).1 = 0 := by omega
  refine G.skip ?_
  refine G.nThen (G.seq (G.region ?_))
  refine G.op rfl (G.mapNew vID ok16 rfl ?_)
  intro bm
  refine G.op rfl (G.val rfl rfl (pv_buildSt (z := [.map none, .slice none 0 0]) (pl := [(0, 1), (1, 1)]) Tryz.underlying78 kr kr rfl flT) ?_)
  refine G.op rfl (G.box rfl rfl (cs := [_, _]) rfl ?_)
  intro b30
  refine G.asT rfl rfl ?_
  refine G.nil ?_
  refine G.nThen (G.seq (G.region ?_))
  refine G.mvT rfl rfl ?_
  refine G.mvT rfl rfl ?_
  refine G.mvT rfl rfl ?_
  refine G.op rfl (G.val rfl rfl (pv_buildSt (z := [.int .i64 0, .int .i64 0, .int .i64 0, .int .i64 0, .slice none 0 0]) (pl := [(0, 1), (1, 1), (2, 1), (3, 1), (4, 1)]) Tryz.underlying28 kr kr rfl flT) ?_)
  refine G.op rfl (G.alloc (z := .agg #[.int .i64 0, .int .i64 0, .int .i64 0, .int .i64 0, .slice none 0 0]) (cs := [.int .i64 0, .int .i64 0, .int .i64 0, .int .i64 0, .slice none 0 0]) rfl kr rfl ?_)
  intro b14
  refine G.op rfl (G.storeN kr rfl rfl allT selT leT ?_)
  refine G.nil ?_
  refine G.nThen (G.seq (G.seq (G.region ?_)))
  refine G.mvT rfl rfl ?_
  refine G.op rfl (G.val rfl rfl (pv_lenSl Tryz.underlying22 rfl) ?_)
  refine G.mvT rfl rfl ?_
  refine G.nil ?_
  refine G.nThen ?_
  refine G.block ?_
  refine G.ownNil 80 6 ?_
  refine G.datINil 66 ?_
  refine G.ownNil 71 17 ?_
  refine G.datDNil 5 ?_
  refine G.loopK (X := Nat × Value × (List CT) × Value × (List IT)) (ts := [8, 9, 10, 13, 14, 35, 36]) (fun st => st.1 ≤ xs.length ∧ (cks st.2.2.1 = makeC ((ens xs).take st.1) ∧ its st.2.2.2.2 = ((ens xs).take st.1).map mkI ∧ st.2.2.1.length ≤ st.1 * 20000 ∧ st.2.2.2.2.length = st.1)) (fun st => [(37, .int .i64 (st.1 : Int))]) (fun st => [blk b30 78 [.map (some bm), st.2.1], mpc vID ok16 bm (setL (nmsC st.2.2.1)), own 71 17 st.2.1 st.2.2.1.length (st.2.2.1.flatMap chC), datD 5 st.2.2.1, own 80 6 st.2.2.2.1 st.2.2.2.2.length (st.2.2.2.2.flatMap itC), datI 66 st.2.2.2.2, blk b14 28 [.int .i64 c, .int .i64 k, .int .i64 0, .int .i64 t, st.2.2.2.1]]) (fun st => xs.length - st.1) (x0 := (0, .slice none 0 0, [], .slice none 0 0, [])) (.cons rfl (.cons rfl (.cons rfl (.cons rfl (.cons rfl (.cons rfl (.cons rfl .nil))))))) subT (.cons .nil) apT (by first | exact trivial | ((try dsimp only) <;> exact ⟨Nat.zero_le _, ⟨rfl, rfl, Nat.zero_le _, rfl⟩⟩)) (.consE rfl veqT .nil) (fun st hJ => ?_)
  obtain ⟨i, vk, cks', vw, ys⟩ := st
  try dsimp only at hJ
  try dsimp only
  obtain ⟨hki, hJ⟩ := hJ
  obtain ⟨hck, hys, hcl, hyl⟩ := hJ
  refine G.seq (G.region ?_)
  refine G.op rfl (G.val rfl rfl (pv_lss rfl rfl) ?_)
  refine G.nil ?_
  refine G.nThen (G.seq ?_)
  refine G.condP rfl (fun h38 => ?_) (fun h38 => ?_)
  · have hlt : i < xs.length := by omega
    have hlt' : i < (ens xs).length := by omega
    have hdi := hd _ (List.getElem_mem hlt)
    have hmk : ((ens xs).take (i + 1)).map mkI = ((ens xs).take i).map mkI ++ [mkI xs[i].1] := by rw [List.take_succ_eq_append_getElem hlt', List.map_append, ens_get hlt]; rfl
    have hcm := makeC_take hlt'
    rw [ens_get hlt] at hcm
    have hEv := helv i hlt
    have hRv := Ro.evRng hEv
    have hDv := Ro.evDat hEv
    obtain ⟨hk1v, hk2v, hlpv, hldv, hltv⟩ := Ro.evOk hEv
    have hCv := Ro.one1 hDv
    refine G.skip ?_
    refine G.nThen (G.seq ?_)
    refine G.block ?_
    refine G.seq (G.region ?_)
    refine G.op rfl (G.val rfl rfl (pv_ixSl (sz := 5) (k := i) Tryz.underlying22 kr rfl rfl (by first | with_reducible assumption | assumption) (by omega) (by omega)) ?_)
    refine G.op rfl (G.val rfl rfl (pv_loadN (cs := [_, _, _, _, _]) Tryz.underlying68 rfl kr rfl (by first | exact blk_range (k := 5) selD (by rfl) | exact ro_rng0 (by assumption) | exact rng_range (k := 5) selD (by rfl) | exact ro_range (k := 5) (by assumption) (by rfl) | exact ro_rngR (k := 5) (by assumption) (by rfl))) ?_)
    refine G.op rfl (G.alloc (z := .agg #[.string ⟨#[]⟩, .int .i64 0, .int .i64 0, .slice none 0 0, .string ⟨#[]⟩]) (cs := [.string ⟨#[]⟩, .int .i64 0, .int .i64 0, .slice none 0 0, .string ⟨#[]⟩]) rfl kr rfl ?_)
    intro b16
    refine G.op rfl (G.storeN kr rfl rfl allT selT leT ?_)
    refine G.nil ?_
    refine G.nThen ?_
    refine G.drawT (nn := 9) (p := [blk b30 _ _, mpc vID ok16 bm _, own 71 17 _ _ _, own 80 6 _ _ _, datI 66 _, datD 5 _, blk b14 _ _]) (rem := 511) [0, 1, 0, 0, 12, 16, 50, 127, 255] [0, 1, 0, 0, 12, 16, 34, 0, 192] kr ⟨rfl, by kernel_rfl, by kernel_rfl⟩ subT kr (fun hT9 => ?_)
    refine G.takeT hT9 (i := 0) (rem' := 510) rfl rfl rfl kr (fun _ _ _ h => h) rfl (pv_fieldAddrK (sz := 0) (k := 4) Tryz.underlying28 rfl kr rfl rfl) subT ?_
    refine G.takeT hT9 (i := 2) (rem' := 506) rfl rfl rfl kr (fun _ _ _ h => h) rfl (pv_move rfl) subT ?_
    refine G.twoT hT9 (i := 1) (j := 3) (rem' := 504) (rem'' := 498) kr kr kr ?_ ?_
    · refine G.turnOp rfl rfl (G.val rfl rfl (pv_load Tryz.underlying26 rfl rfl celT) ?_)
      refine G.back subT ?_
      refine G.oneT hT9 (i := 3) (rem' := 496) kr kr ?_
      refine G.turnOp rfl rfl (G.val rfl rfl (pv_loadN (cs := [_, _, _, _, _]) Tryz.underlying68 rfl kr rfl (by first | exact blk_range (k := 5) selD (by rfl) | exact ro_rng0 (by assumption) | exact rng_range (k := 5) selD (by rfl) | exact ro_range (k := 5) (by assumption) (by rfl) | exact ro_rngR (k := 5) (by assumption) (by rfl))) ?_)
      refine G.back subT ?_
      refine G.oneT hT9 (i := 4) (rem' := 480) kr kr ?_
      refine G.turnOp rfl rfl (G.cS rfl rfl rfl rfl Tryz.func46 rfl rfl subT (may1 (by first | (apply May.old; first | with_reducible assumption | assumption) | (apply Sel.may; (repeat (first | with_reducible exact Sel.here | exact Sel.here | apply Sel.there)); done) | (apply may_own; (repeat (first | with_reducible exact Sel.here | exact Sel.here | apply Sel.there)); exact rfl; exact (fun _ _ => trivial); done) | (apply may_ownB; (repeat (first | with_reducible exact Sel.here | exact Sel.here | apply Sel.there)); done) | (apply may_ownI; (repeat (first | with_reducible exact Sel.here | exact Sel.here | apply Sel.there)); assumption; done) | (apply may_ownN; (repeat (first | with_reducible exact Sel.here | exact Sel.here | apply Sel.there)); assumption; done) | (apply may_tree; (repeat (first | with_reducible exact Sel.here | exact Sel.here | apply Sel.there)); (repeat (first | with_reducible exact Sel.here | exact Sel.here | apply Sel.there)); assumption; done))) (citem_tr b30 bm _ _ cks' xs[i].1 (by omega) hdi) apT ?_)
      intro x45 hJ
      obtain ⟨vk2, ck2, vI2⟩ := x45
      try dsimp only at hJ
      try dsimp only
      obtain ⟨hc1, hc2⟩ : cks ck2 = collC (cks cks') (chunksC xs[i].1.data) ∧ ck2.length ≤ cks'.length + xs[i].1.data.length + 1 := hJ
      obtain ⟨it, hit⟩ : ∃ c, mkI xs[i].1 = c := ⟨_, rfl⟩
      rw [hit]
      refine G.ownFact (v := vI2) selT (fun h39 _ => ?_)
      refine G.back subT ?_
      refine G.oneT hT9 (i := 5) (rem' := 448) kr kr ?_
      refine G.turnOp rfl rfl (G.buildSlice (z := .agg #[.string ⟨#[]⟩, .int .i64 0, .int .i64 0, .int .i64 0, .string ⟨#[]⟩, .slice none 0 0]) (sz := 6) (cs := itC (it, vI2)) rfl Tryz.underlying26 kr (by decide) (by decide) rfl kr ?_)
      intro b46
      refine G.back subT ?_
      refine G.oneT hT9 (i := 6) (rem' := 384) kr kr ?_
      refine G.turnOp rfl rfl (G.append (k := ys.length) (j := 1) (cs := ys.flatMap itC) (news := itC (it, vI2)) (b := b46) (off := 0) rfl Tryz.underlying26 Tryz.infoIt rfl rfl rfl selT (fun _ => rfl) (fun h => by cases h) rfl (blk_news (k := 6) selT rfl) (itC_one h39) (by omega) (by omega) ?_)
      intro vn
      rw [itC_snoc ys (it, vI2), show ys.length + 1 = (ys ++ [(it, vI2)]).length from by rw [List.length_append]; rfl]
      refine G.datISnoc (ys := ys) (x := (it, vI2)) selT selT ?_
      refine G.ownFact (v := vn) selT (fun hvn _ => ?_)
      refine G.back subT ?_
      refine G.takeT hT9 (i := 7) (rem' := 256) rfl rfl rfl kr (fun _ _ _ h => h) rfl (pv_fieldAddrK (sz := 0) (k := 4) Tryz.underlying28 rfl kr rfl rfl) subT ?_
      refine G.oneT hT9 (i := 8) (rem' := 0) kr kr ?_
      refine G.turnOp rfl rfl (G.store kr rfl rfl eqT selT leT ?_)
      refine G.back subT ?_
      refine G.overT hT9 kr ?_
      refine G.nBlock ?_
      refine G.nThen (G.region ?_)
      refine G.op rfl (G.val rfl rfl (pv_add64 rfl rfl (by omega)) ?_)
      refine G.mvT rfl rfl ?_
      refine G.nil ?_
      exact G.next ((i + 1, (vk2, ck2, vn, ys ++ [(it, vI2)]))) (by first | exact trivial | ((try dsimp only) <;> exact ⟨by omega, ⟨by rw [hc1, hck, hcm], by rw [its_snoc, hys, hmk, hit], by omega, by rw [List.length_append, hyl]; rfl⟩⟩)) (by (try dsimp only); omega) (.consE rfl veqT (.cons rfl (.cons rfl (.cons rfl (.cons rfl (.cons rfl (.cons rfl (.cons rfl .nil)))))))) subT
    refine G.turnOp rfl rfl (G.val rfl rfl (pv_loadN (cs := [_, _, _, _, _]) Tryz.underlying68 rfl kr rfl (by first | exact blk_range (k := 5) selD (by rfl) | exact ro_rng0 (by assumption) | exact rng_range (k := 5) selD (by rfl) | exact ro_range (k := 5) (by assumption) (by rfl) | exact ro_rngR (k := 5) (by assumption) (by rfl))) ?_)
    refine G.back subT ?_
    refine G.twoT hT9 (i := 1) (j := 4) (rem' := 496) (rem'' := 482) kr kr kr ?_ ?_
    · refine G.turnOp rfl rfl (G.val rfl rfl (pv_load Tryz.underlying26 rfl rfl celT) ?_)
      refine G.back subT ?_
      refine G.oneT hT9 (i := 4) (rem' := 480) kr kr ?_
      refine G.turnOp rfl rfl (G.cS rfl rfl rfl rfl Tryz.func46 rfl rfl subT (may1 (by first | (apply May.old; first | with_reducible assumption | assumption) | (apply Sel.may; (repeat (first | with_reducible exact Sel.here | exact Sel.here | apply Sel.there)); done) | (apply may_own; (repeat (first | with_reducible exact Sel.here | exact Sel.here | apply Sel.there)); exact rfl; exact (fun _ _ => trivial); done) | (apply may_ownB; (repeat (first | with_reducible exact Sel.here | exact Sel.here | apply Sel.there)); done) | (apply may_ownI; (repeat (first | with_reducible exact Sel.here | exact Sel.here | apply Sel.there)); assumption; done) | (apply may_ownN; (repeat (first | with_reducible exact Sel.here | exact Sel.here | apply Sel.there)); assumption; done) | (apply may_tree; (repeat (first | with_reducible exact Sel.here | exact Sel.here | apply Sel.there)); (repeat (first | with_reducible exact Sel.here | exact Sel.here | apply Sel.there)); assumption; done))) (citem_tr b30 bm _ _ cks' xs[i].1 (by omega) hdi) apT ?_)
      intro x45 hJ
      obtain ⟨vk2, ck2, vI2⟩ := x45
      try dsimp only at hJ
      try dsimp only
      obtain ⟨hc1, hc2⟩ : cks ck2 = collC (cks cks') (chunksC xs[i].1.data) ∧ ck2.length ≤ cks'.length + xs[i].1.data.length + 1 := hJ
      obtain ⟨it, hit⟩ : ∃ c, mkI xs[i].1 = c := ⟨_, rfl⟩
      rw [hit]
      refine G.ownFact (v := vI2) selT (fun h39 _ => ?_)
      refine G.back subT ?_
      refine G.oneT hT9 (i := 5) (rem' := 448) kr kr ?_
      refine G.turnOp rfl rfl (G.buildSlice (z := .agg #[.string ⟨#[]⟩, .int .i64 0, .int .i64 0, .int .i64 0, .string ⟨#[]⟩, .slice none 0 0]) (sz := 6) (cs := itC (it, vI2)) rfl Tryz.underlying26 kr (by decide) (by decide) rfl kr ?_)
      intro b46
      refine G.back subT ?_
      refine G.oneT hT9 (i := 6) (rem' := 384) kr kr ?_
      refine G.turnOp rfl rfl (G.append (k := ys.length) (j := 1) (cs := ys.flatMap itC) (news := itC (it, vI2)) (b := b46) (off := 0) rfl Tryz.underlying26 Tryz.infoIt rfl rfl rfl selT (fun _ => rfl) (fun h => by cases h) rfl (blk_news (k := 6) selT rfl) (itC_one h39) (by omega) (by omega) ?_)
      intro vn
      rw [itC_snoc ys (it, vI2), show ys.length + 1 = (ys ++ [(it, vI2)]).length from by rw [List.length_append]; rfl]
      refine G.datISnoc (ys := ys) (x := (it, vI2)) selT selT ?_
      refine G.ownFact (v := vn) selT (fun hvn _ => ?_)
      refine G.back subT ?_
      refine G.takeT hT9 (i := 7) (rem' := 256) rfl rfl rfl kr (fun _ _ _ h => h) rfl (pv_fieldAddrK (sz := 0) (k := 4) Tryz.underlying28 rfl kr rfl rfl) subT ?_
      refine G.oneT hT9 (i := 8) (rem' := 0) kr kr ?_
      refine G.turnOp rfl rfl (G.store kr rfl rfl eqT selT leT ?_)
      refine G.back subT ?_
      refine G.overT hT9 kr ?_
      refine G.nBlock ?_
      refine G.nThen (G.region ?_)
      refine G.op rfl (G.val rfl rfl (pv_add64 rfl rfl (by omega)) ?_)
      refine G.mvT rfl rfl ?_
      refine G.nil ?_
      exact G.next ((i + 1, (vk2, ck2, vn, ys ++ [(it, vI2)]))) (by first | exact trivial | ((try dsimp only) <;> exact ⟨by omega, ⟨by rw [hc1, hck, hcm], by rw [its_snoc, hys, hmk, hit], by omega, by rw [List.length_append, hyl]; rfl⟩⟩)) (by (try dsimp only); omega) (.consE rfl veqT (.cons rfl (.cons rfl (.cons rfl (.cons rfl (.cons rfl (.cons rfl (.cons rfl .nil)))))))) subT
    refine G.turnOp rfl rfl (G.cS rfl rfl rfl rfl Tryz.func46 rfl rfl subT (may1 (by first | (apply May.old; first | with_reducible assumption | assumption) | (apply Sel.may; (repeat (first | with_reducible exact Sel.here | exact Sel.here | apply Sel.there)); done) | (apply may_own; (repeat (first | with_reducible exact Sel.here | exact Sel.here | apply Sel.there)); exact rfl; exact (fun _ _ => trivial); done) | (apply may_ownB; (repeat (first | with_reducible exact Sel.here | exact Sel.here | apply Sel.there)); done) | (apply may_ownI; (repeat (first | with_reducible exact Sel.here | exact Sel.here | apply Sel.there)); assumption; done) | (apply may_ownN; (repeat (first | with_reducible exact Sel.here | exact Sel.here | apply Sel.there)); assumption; done) | (apply may_tree; (repeat (first | with_reducible exact Sel.here | exact Sel.here | apply Sel.there)); (repeat (first | with_reducible exact Sel.here | exact Sel.here | apply Sel.there)); assumption; done))) (citem_tr b30 bm _ _ cks' xs[i].1 (by omega) hdi) apT ?_)
    intro x45 hJ
    obtain ⟨vk2, ck2, vI2⟩ := x45
    try dsimp only at hJ
    try dsimp only
    obtain ⟨hc1, hc2⟩ : cks ck2 = collC (cks cks') (chunksC xs[i].1.data) ∧ ck2.length ≤ cks'.length + xs[i].1.data.length + 1 := hJ
    obtain ⟨it, hit⟩ : ∃ c, mkI xs[i].1 = c := ⟨_, rfl⟩
    rw [hit]
    refine G.ownFact (v := vI2) selT (fun h39 _ => ?_)
    refine G.back subT ?_
    refine G.twoT hT9 (i := 1) (j := 5) (rem' := 480) (rem'' := 450) kr kr kr ?_ ?_
    · refine G.turnOp rfl rfl (G.val rfl rfl (pv_load Tryz.underlying26 rfl rfl celT) ?_)
      refine G.back subT ?_
      refine G.oneT hT9 (i := 5) (rem' := 448) kr kr ?_
      refine G.turnOp rfl rfl (G.buildSlice (z := .agg #[.string ⟨#[]⟩, .int .i64 0, .int .i64 0, .int .i64 0, .string ⟨#[]⟩, .slice none 0 0]) (sz := 6) (cs := itC (it, vI2)) rfl Tryz.underlying26 kr (by decide) (by decide) rfl kr ?_)
      intro b46
      refine G.back subT ?_
      refine G.oneT hT9 (i := 6) (rem' := 384) kr kr ?_
      refine G.turnOp rfl rfl (G.append (k := ys.length) (j := 1) (cs := ys.flatMap itC) (news := itC (it, vI2)) (b := b46) (off := 0) rfl Tryz.underlying26 Tryz.infoIt rfl rfl rfl selT (fun _ => rfl) (fun h => by cases h) rfl (blk_news (k := 6) selT rfl) (itC_one h39) (by omega) (by omega) ?_)
      intro vn
      rw [itC_snoc ys (it, vI2), show ys.length + 1 = (ys ++ [(it, vI2)]).length from by rw [List.length_append]; rfl]
      refine G.datISnoc (ys := ys) (x := (it, vI2)) selT selT ?_
      refine G.ownFact (v := vn) selT (fun hvn _ => ?_)
      refine G.back subT ?_
      refine G.takeT hT9 (i := 7) (rem' := 256) rfl rfl rfl kr (fun _ _ _ h => h) rfl (pv_fieldAddrK (sz := 0) (k := 4) Tryz.underlying28 rfl kr rfl rfl) subT ?_
      refine G.oneT hT9 (i := 8) (rem' := 0) kr kr ?_
      refine G.turnOp rfl rfl (G.store kr rfl rfl eqT selT leT ?_)
      refine G.back subT ?_
      refine G.overT hT9 kr ?_
      refine G.nBlock ?_
      refine G.nThen (G.region ?_)
      refine G.op rfl (G.val rfl rfl (pv_add64 rfl rfl (by omega)) ?_)
      refine G.mvT rfl rfl ?_
      refine G.nil ?_
      exact G.next ((i + 1, (vk2, ck2, vn, ys ++ [(it, vI2)]))) (by first | exact trivial | ((try dsimp only) <;> exact ⟨by omega, ⟨by rw [hc1, hck, hcm], by rw [its_snoc, hys, hmk, hit], by omega, by rw [List.length_append, hyl]; rfl⟩⟩)) (by (try dsimp only); omega) (.consE rfl veqT (.cons rfl (.cons rfl (.cons rfl (.cons rfl (.cons rfl (.cons rfl (.cons rfl .nil)))))))) subT
    refine G.turnOp rfl rfl (G.buildSlice (z := .agg #[.string ⟨#[]⟩, .int .i64 0, .int .i64 0, .int .i64 0, .string ⟨#[]⟩, .slice none 0 0]) (sz := 6) (cs := itC (it, vI2)) rfl Tryz.underlying26 kr (by decide) (by decide) rfl kr ?_)
    intro b46
    refine G.back subT ?_
    refine G.oneT hT9 (i := 1) (rem' := 448) kr kr ?_
    refine G.turnOp rfl rfl (G.val rfl rfl (pv_load Tryz.underlying26 rfl rfl celT) ?_)
    refine G.back subT ?_
    refine G.oneT hT9 (i := 6) (rem' := 384) kr kr ?_
    refine G.turnOp rfl rfl (G.append (k := ys.length) (j := 1) (cs := ys.flatMap itC) (news := itC (it, vI2)) (b := b46) (off := 0) rfl Tryz.underlying26 Tryz.infoIt rfl rfl rfl selT (fun _ => rfl) (fun h => by cases h) rfl (blk_news (k := 6) selT rfl) (itC_one h39) (by omega) (by omega) ?_)
    intro vn
    rw [itC_snoc ys (it, vI2), show ys.length + 1 = (ys ++ [(it, vI2)]).length from by rw [List.length_append]; rfl]
    refine G.datISnoc (ys := ys) (x := (it, vI2)) selT selT ?_
    refine G.ownFact (v := vn) selT (fun hvn _ => ?_)
    refine G.back subT ?_
    refine G.takeT hT9 (i := 7) (rem' := 256) rfl rfl rfl kr (fun _ _ _ h => h) rfl (pv_fieldAddrK (sz := 0) (k := 4) Tryz.underlying28 rfl kr rfl rfl) subT ?_
    refine G.oneT hT9 (i := 8) (rem' := 0) kr kr ?_
    refine G.turnOp rfl rfl (G.store kr rfl rfl eqT selT leT ?_)
    refine G.back subT ?_
    refine G.overT hT9 kr ?_
    refine G.nBlock ?_
    refine G.nThen (G.region ?_)
    refine G.op rfl (G.val rfl rfl (pv_add64 rfl rfl (by omega)) ?_)
    refine G.mvT rfl rfl ?_
    refine G.nil ?_
    exact G.next ((i + 1, (vk2, ck2, vn, ys ++ [(it, vI2)]))) (by first | exact trivial | ((try dsimp only) <;> exact ⟨by omega, ⟨by rw [hc1, hck, hcm], by rw [its_snoc, hys, hmk, hit], by omega, by rw [List.length_append, hyl]; rfl⟩⟩)) (by (try dsimp only); omega) (.consE rfl veqT (.cons rfl (.cons rfl (.cons rfl (.cons rfl (.cons rfl (.cons rfl (.cons rfl .nil)))))))) subT
  obtain rfl : i = xs.length := by omega
  rw [← hel', List.take_length] at hck hys
  refine G.ownFact (v := vw) selT (fun hvw _ => ?_)
  refine G.ownFact (v := vk) selT (fun hvk _ => ?_)
  have hok : ∀ x ∈ ys, ItOk x.1 ∧ all16 x.1.ids := fun x hx => by have h1 : x.1 ∈ its ys := List.mem_map.2 ⟨x, hx, rfl⟩; rw [hys] at h1; obtain ⟨e, he, h2⟩ := List.mem_map.1 h1; rw [← h2]; exact ⟨mkI_ok (hEn e he).1 (hEn e he).2, mkI_16 e⟩
  refine G.exit ?_
  refine G.eThen ?_
  refine G.eThen ?_
  refine G.eBlock ?_
  refine G.nThen (G.seq (G.seq (G.region ?_)))
  refine G.op rfl (G.val rfl rfl (pv_loadN (cs := [_, _, _, _, _]) Tryz.underlying28 rfl kr rfl (by first | exact blk_range (k := 5) selD (by rfl) | exact ro_rng0 (by assumption) | exact rng_range (k := 5) selD (by rfl) | exact ro_range (k := 5) (by assumption) (by rfl) | exact ro_rngR (k := 5) (by assumption) (by rfl))) ?_)
  refine G.op rfl (G.cS rfl rfl rfl rfl Tryz.func30 rfl rfl subT (may1 (may_items selT selT hok)) (mbytes_tr (⟨c, k, 0, t⟩ : Mh) _ ys) apT ?_)
  intro x52 hJ
  try dsimp only at hJ
  try dsimp only
  refine G.mvT rfl rfl ?_
  refine G.op rfl (G.val rfl rfl (pv_extract rfl rfl) ?_)
  refine G.op rfl (G.val rfl rfl (pv_extract rfl rfl) ?_)
  refine G.asT rfl rfl ?_
  refine G.asT rfl rfl ?_
  refine G.nil ?_
  refine G.nThen (G.seq (G.region ?_))
  refine G.mvT rfl rfl ?_
  refine G.op rfl (G.val rfl rfl (pv_neq rfl rfl) ?_)
  refine G.nil ?_
  refine G.nThen ?_
  refine G.condP rfl (fun h56 => ?_) (fun h56 => ?_)
  · refine G.seq (G.region ?_)
    refine G.op rfl (G.val rfl rfl (pv_buildSt (z := [.int .i64 0, .int .i64 0, .int .i64 0, .int .i64 0, .slice none 0 0]) (pl := [(0, 1), (1, 1), (2, 1), (3, 1), (4, 1)]) Tryz.underlying28 kr kr rfl flT) ?_)
    refine G.mvT rfl rfl ?_
    refine G.op rfl (G.storeN kr rfl rfl allT selT leT ?_)
    refine G.asT rfl rfl ?_
    refine G.asT rfl rfl ?_
    refine G.nil ?_
    refine G.nThen ?_
    refine G.ret ?_
    refine G.rThen ?_
    rw [mkM_no hz0 (by rw [← hys]; assumption), ← hys]
    refine G.ownNil 80 6 ?_
    refine G.datINil 66 ?_
    refine G.ownNil 71 17 ?_
    refine G.datDNil 5 ?_
    exact G.doneG (((.slice none 0 0, []), .slice none 0 0, [])) (by first | exact trivial | ((try dsimp only) <;> exact ⟨rfl, rfl⟩)) rfl (Rv.cellN (cs := [_, _, _, _, _]) rfl Tryz.underlying28 rfl kr (by first | exact blk_range (k := 5) selD (by rfl)) (Rv.tmp rfl (Rv.tmp rfl Rv.nil))) rfl subT
  refine G.skip ?_
  refine G.nThen (G.seq ?_)
  refine G.drawT (nn := 8) (p := [blk b8 _ _]) (rem := 255) [0, 0, 2, 4, 8, 1, 63, 127] [0, 0, 2, 4, 8, 1, 16, 0] kr ⟨rfl, by kernel_rfl, by kernel_rfl⟩ subT kr (fun hT14 => ?_)
  refine G.takeT hT14 (i := 1) (rem' := 253) rfl rfl rfl kr (fun _ _ _ h => h) rfl (pv_move rfl) subT ?_
  refine G.takeT hT14 (i := 2) (rem' := 249) rfl rfl rfl kr (fun _ _ _ h => h) rfl (pv_nilCheck rfl) subT ?_
  refine G.takeT hT14 (i := 3) (rem' := 241) rfl rfl rfl kr (fun _ _ _ h => h) rfl (pv_fieldAddrK (sz := 0) (k := 1) Tryz.underlying78 rfl kr rfl rfl) subT ?_
  refine G.takeT hT14 (i := 0) (rem' := 240) rfl rfl rfl kr (fun _ _ _ h => h) rfl (pv_loadN (cs := [_, _, _, _, _]) Tryz.underlying28 rfl kr rfl (by first | exact blk_range (k := 5) selD (by rfl) | exact ro_rng0 (by assumption) | exact rng_range (k := 5) selD (by rfl) | exact ro_range (k := 5) (by assumption) (by rfl) | exact ro_rngR (k := 5) (by assumption) (by rfl))) subT ?_
  refine G.takeT hT14 (i := 4) (rem' := 224) rfl rfl rfl kr (fun _ _ _ h => h) rfl (pv_load Tryz.underlying29 rfl rfl celT) subT ?_
  refine G.oneT hT14 (i := 5) (rem' := 192) kr kr ?_
  refine G.turnOp rfl rfl (G.storeN kr rfl rfl allT selT leT ?_)
  refine G.back subT ?_
  refine G.takeT hT14 (i := 6) (rem' := 128) rfl rfl rfl kr (fun _ _ _ h => h) rfl (pv_assign rfl) subT ?_
  refine G.takeT hT14 (i := 7) (rem' := 0) rfl rfl rfl kr (fun _ _ _ h => h) rfl (pv_assign rfl) subT ?_
  refine G.overT hT14 kr ?_
  refine G.nThen ?_
  refine G.ret ?_
  rw [mkM_ok hz0 (by rw [← hys]; omega)]
  exact G.doneG (((vw, ys), vk, cks')) (by first | exact trivial | ((try dsimp only) <;> exact ⟨hys, hck⟩)) rfl (Rv.cellN (cs := [_, _, _, _, _]) rfl Tryz.underlying28 rfl kr (by first | exact blk_range (k := 5) selD (by rfl)) (Rv.tmp rfl (Rv.tmp rfl Rv.nil))) rfl subT
end Go.Proofs.YtbfpbibkklfnfaaGreat

set_option linter.unusedVariables false
set_option linter.unusedSimpArgs false
namespace Go.Proofs.YtbfpbibkklfnfaaGreat
open Go.RowKit
/-- the bytes of a chunk's name among chunks, and the error -/
def foundM (cs : List (List UInt8 × List UInt8)) (id : List UInt8) : List UInt8 × Int := match cs.find? (fun p => decide (p.1 = id)) with
  | none => ([], 6)
  | some p => if nameM p.2 = id then (p.2, 0) else ([], 11)
def foundV (xs : List CT) (id : List UInt8) : Value := match xs.find? (fun x => decide (x.1.1 = id)) with
  | none => .slice none 0 0
  | some x => if nameM x.1.2 = id then x.2 else .slice none 0 0
def firstE (l : List Int) : Int := (l.find? fun e => ! decide (e = 0)).getD 0
def datOf (cs : List (List UInt8 × List UInt8)) (ids : List (List UInt8)) : List UInt8 := ids.flatMap fun id => (foundM cs id).1
def errB (cs : List (List UInt8 × List UInt8)) (ids : List (List UInt8)) : Int := firstE (ids.map fun id => (foundM cs id).2)
def errIt (cs : List (List UInt8 × List UInt8)) (x : It) : Int := if errB cs x.ids ≠ 0 then errB cs x.ids else if ((datOf cs x.ids).length : Int) ≠ x.size then 4 else 0
def mkE (cs : List (List UInt8 × List UInt8)) (x : It) : En := ⟨x.path, x.kind, x.mode, datOf cs x.ids, x.to⟩
/-- the tree of a manifest and chunks, and the error -/
def buildM (a : Mh) (ms : List It) (cs : List (List UInt8 × List UInt8)) : List En × Int := if (checkI a ms).1 ≠ 0 then ([], (checkI a ms).1) else if firstE (ms.map (errIt cs)) ≠ 0 then ([], firstE (ms.map (errIt cs))) else (ms.map (mkE cs), 0)
theorem firstE_bad {l : List Int} {i : Nat} (hi : i < l.length) (h : ∀ q (hq : q < l.length), q < i → l[q] = 0) (he : l[i] ≠ 0) : firstE l = l[i] := by
  unfold firstE
  rw [(List.find?_eq_some_iff_getElem (p := fun e : Int => ! decide (e = 0)) (b := l[i])).2 ⟨by simpa using he, i, hi, rfl, fun j hj => by simpa using h j (by omega) hj⟩]
  rfl
theorem firstE_ok {l : List Int} (h : ∀ q (hq : q < l.length), l[q] = 0) : firstE l = 0 := by
  unfold firstE
  rw [List.find?_eq_none.2 fun x hx => by
    obtain ⟨q, hq, rfl⟩ := List.getElem_of_mem hx
    simpa using h q hq]
  rfl
theorem buildM_check {a : Mh} {ms : List It} {cs : List (List UInt8 × List UInt8)} (h : (checkI a ms).1 ≠ 0) : buildM a ms cs = ([], (checkI a ms).1) := if_pos h
theorem buildM_bad {a : Mh} {ms : List It} {cs : List (List UInt8 × List UInt8)} {i : Nat} {e : Int} (h0 : (checkI a ms).1 = 0) (hi : i < ms.length) (h : ∀ q (hq : q < ms.length), q < i → errIt cs ms[q] = 0) (he : errIt cs ms[i] = e) (hn : e ≠ 0) : buildM a ms cs = ([], e) := by
  have h1 : firstE (ms.map (errIt cs)) = e := by
    rw [firstE_bad (i := i) (by rw [List.length_map]; exact hi) (fun q hq hqi => by rw [List.getElem_map]; exact h q (by rw [List.length_map] at hq; exact hq) hqi) (by rw [List.getElem_map, he]; exact hn), List.getElem_map, he]
  unfold buildM
  rw [if_neg (not_not_intro h0), h1, if_pos hn]
theorem buildM_ok {a : Mh} {ms : List It} {cs : List (List UInt8 × List UInt8)} (h0 : (checkI a ms).1 = 0) (h : ∀ q (hq : q < ms.length), errIt cs ms[q] = 0) : buildM a ms cs = (ms.map (mkE cs), 0) := by
  have h1 : firstE (ms.map (errIt cs)) = 0 := firstE_ok fun q hq => by rw [List.getElem_map]; exact h q (by rw [List.length_map] at hq; exact hq)
  unfold buildM
  rw [if_neg (not_not_intro h0), if_neg (not_not_intro h1)]
theorem errIt_bad {cs : List (List UInt8 × List UInt8)} {x : It} {q : Nat} (hq : q < x.ids.length) (h : ∀ r (hr : r < x.ids.length), r < q → (foundM cs x.ids[r]).2 = 0) (he : (foundM cs x.ids[q]).2 ≠ 0) : errIt cs x = (foundM cs x.ids[q]).2 := by
  have h1 : errB cs x.ids = (foundM cs x.ids[q]).2 := by
    unfold errB
    rw [firstE_bad (i := q) (by rw [List.length_map]; exact hq) (fun r hr hrq => by rw [List.getElem_map]; exact h r (by rw [List.length_map] at hr; exact hr) hrq) (by rw [List.getElem_map]; exact he), List.getElem_map]
  unfold errIt
  rw [h1, if_pos he]
theorem errB_ok {cs : List (List UInt8 × List UInt8)} {x : It} (h : ∀ r (hr : r < x.ids.length), (foundM cs x.ids[r]).2 = 0) : errB cs x.ids = 0 := firstE_ok fun r hr => by rw [List.getElem_map]; exact h r (by rw [List.length_map] at hr; exact hr)
theorem errIt_size {cs : List (List UInt8 × List UInt8)} {x : It} (h : ∀ r (hr : r < x.ids.length), (foundM cs x.ids[r]).2 = 0) (h2 : ((datOf cs x.ids).length : Int) ≠ x.size) : errIt cs x = 4 := by
  unfold errIt
  rw [if_neg (not_not_intro (errB_ok h)), if_pos h2]
theorem errIt_ok {cs : List (List UInt8 × List UInt8)} {x : It} (h : ∀ r (hr : r < x.ids.length), (foundM cs x.ids[r]).2 = 0) (h2 : ((datOf cs x.ids).length : Int) = x.size) : errIt cs x = 0 := by
  unfold errIt
  rw [if_neg (not_not_intro (errB_ok h)), if_neg (not_not_intro h2)]
theorem datOf_take (cs : List (List UInt8 × List UInt8)) {ids : List (List UInt8)} {q : Nat} (h : q < ids.length) : datOf cs (ids.take (q + 1)) = datOf cs (ids.take q) ++ (foundM cs ids[q]).1 := by
  unfold datOf
  rw [List.take_succ_eq_append_getElem h, List.flatMap_append]
  simp
theorem found_none {xs : List CT} {id : List UInt8} (h : ∀ q (hq : q < xs.length), ¬ xs[q].1.1 = id) : foundM (cks xs) id = ([], 6) ∧ foundV xs id = .slice none 0 0 := by
  have h1 : (cks xs).find? (fun p => decide (p.1 = id)) = none := List.find?_eq_none.2 fun p hp => by
    obtain ⟨x, hx, rfl⟩ := List.mem_map.1 hp
    obtain ⟨q, hq, rfl⟩ := List.getElem_of_mem hx
    simpa using h q hq
  have h2 : xs.find? (fun x => decide (x.1.1 = id)) = none := List.find?_eq_none.2 fun x hx => by
    obtain ⟨q, hq, rfl⟩ := List.getElem_of_mem hx
    simpa using h q hq
  unfold foundM foundV
  rw [h1, h2]
  exact ⟨rfl, rfl⟩
theorem found_at {xs : List CT} {id : List UInt8} {i : Nat} (hi : i < xs.length) (h : ∀ q (hq : q < xs.length), q < i → ¬ xs[q].1.1 = id) (he : xs[i].1.1 = id) : foundM (cks xs) id = (if nameM xs[i].1.2 = id then (xs[i].1.2, 0) else ([], 11)) ∧ foundV xs id = (if nameM xs[i].1.2 = id then xs[i].2 else .slice none 0 0) := by
  have h2 : xs.find? (fun x => decide (x.1.1 = id)) = some xs[i] := (List.find?_eq_some_iff_getElem).2 ⟨by simpa using he, i, hi, rfl, fun j hj => by simpa using h j (by omega) hj⟩
  have h1 : (cks xs).find? (fun p => decide (p.1 = id)) = some xs[i].1 := by
    unfold cks
    rw [List.find?_map]
    show Option.map _ (xs.find? fun x => decide (x.1.1 = id)) = _
    rw [h2]
    rfl
  unfold foundM foundV
  rw [h1, h2]
  exact ⟨rfl, rfl⟩
/-- what is found is one of the chunks -/
theorem found_zero {xs : List CT} {id : List UInt8} (h : (foundM (cks xs) id).2 = 0) : ∃ i, ∃ hi : i < xs.length, (foundM (cks xs) id).1 = xs[i].1.2 ∧ foundV xs id = xs[i].2 := by
  by_cases h1 : ∀ q (hq : q < xs.length), ¬ xs[q].1.1 = id
  · rw [(found_none h1).1] at h
    cases h
  obtain ⟨i, hi, hp, hlt⟩ : ∃ i, ∃ hi : i < xs.length, xs[i].1.1 = id ∧ ∀ q (hq : q < xs.length), q < i → ¬ xs[q].1.1 = id := by
    have hex : ∃ i, ∃ hi : i < xs.length, xs[i].1.1 = id := Classical.byContradiction fun k => h1 fun q hq e => k ⟨q, hq, e⟩
    have hk : xs.findIdx (fun x => decide (x.1.1 = id)) < xs.length := List.findIdx_lt_length.2 (by
      obtain ⟨i, hi, e⟩ := hex
      exact ⟨xs[i], List.getElem_mem hi, by simpa using e⟩)
    exact ⟨_, hk, by simpa using List.findIdx_getElem (w := hk), fun q hq hqk => by simpa using List.not_of_lt_findIdx hqk⟩
  obtain ⟨e1, e2⟩ := found_at hi hlt hp
  rw [e1] at h
  split at h
  · rename_i hn
    exact ⟨i, hi, by rw [e1, if_pos hn], by rw [e2, if_pos hn]⟩
  cases h
end Go.Proofs.YtbfpbibkklfnfaaGreat

set_option linter.unusedVariables false
set_option linter.unusedSimpArgs false
namespace Go.Proofs.YtbfpbibkklfnfaaGreat
open Go.RowKit
theorem evC_one9 {x : ET} (h : x.2.oneCell' = true) : ∀ u ∈ evC x, u.oneCell' = true := fun u hu => by
  simp only [evC, List.mem_cons, List.not_mem_nil, or_false] at hu
  rcases hu with rfl | rfl | rfl | rfl | rfl
  · rfl
  · rfl
  · rfl
  · exact h
  rfl
theorem ens_snoc9 (ys : List ET) (x : ET) : ens (ys ++ [x]) = ens ys ++ [x.1] := by simp [ens]
theorem found_len {zs : List CT} (hd : ∀ x ∈ zs, x.1.2.length ≤ 100000) (id : List UInt8) : (foundM (cks zs) id).1.length ≤ 100000 := by
  by_cases h : (foundM (cks zs) id).2 = 0
  · obtain ⟨i, hi, h1, _⟩ := found_zero h
    rw [h1]
    exact hd _ (List.getElem_mem hi)
  unfold foundM at h ⊢
  split
  · exact Nat.zero_le _
  rename_i p hp
  rw [hp] at h
  simp only at h
  split
  · rename_i hn
    rw [if_pos hn] at h
    exact absurd rfl h
  exact Nat.zero_le _
theorem datOf_len (cs : List (List UInt8 × List UInt8)) (h : ∀ id, (foundM cs id).1.length ≤ 100000) : ∀ ids : List (List UInt8), (datOf cs ids).length ≤ ids.length * 100000
  | [] => Nat.le_refl _
  | id :: l => by
    have h1 := h id
    have h2 := datOf_len cs h l
    show ((foundM cs id).1 ++ datOf cs l).length ≤ _
    rw [List.length_append, List.length_cons]
    omega
end Go.Proofs.YtbfpbibkklfnfaaGreat

set_option linter.unusedVariables false
set_option linter.unusedSimpArgs false
set_option maxRecDepth 100000
namespace Go.Proofs.YtbfpbibkklfnfaaGreat
open Go.RowKit
section
variable {P : Program} {n : Nat} {w0 : World} {S : Nat → Prop} {l : Fr} {m : List Ck} {Q : Exit → Act → World → Prop} {K : Act → World → Prop} {r : Option Nat} {ds : List Deferred}
theorem I.asgA {Z : Type} {L : Z → Fr} {M2 : Z → List Ck} {m1 : List Ck} {Q' : Exit → Act → World → Prop} (z : Z) (hl : Fw l (L z)) (hm : m = M2 z ++ m1) : G n w0 S l m (dq [] (Exit.then (fun a w => ∃ z, At a n (L z) ∧ Hp w0 S w (M2 z ++ m1)) Q' .normal)) := fun a w ha hw => by
  unfold dq
  rw [da_nil ha]
  exact ⟨z, ha.weak hl, hm ▸ hw⟩
theorem I.round2A {X Z : Type} {fnx p1 p2 D lp i : Nat} {a : Act} {assign body : Code} {v1 v2 : Value} {l2 : Z → Fr} {M2 : Z → List Ck} {J : Bool → Nat → X → Prop} {B : Bool → Nat → X → List Ck} {jmp : X → Code} {x : X} {rr : List Ck} (ha : At a n l) (hp1 : Nat.blt p1 n = true) (hp2 : Nat.blt p2 n = true)
    (hassign : ∀ w1 S1 m1, G n w1 S1 ((p2, v2) :: (p1, v1) :: l) m1 (dq [] (assign.wpIn (fR (some lp)) 0 P (Exit.then (fun a w => ∃ z, At a n (l2 z) ∧ Hp w1 S1 w (M2 z ++ m1)) (fun _ _ _ => False)))))
    (hbody : ∀ w1 S1 c z, (∀ c ∈ rr, Ro w1 S1 c) → G n w1 S1 (l2 z) (c :: (B true i x ++ M2 z)) (dq [] (body.wpIn (fR (some lp)) 0 P (rnd w1 S1 J B jmp c i)))) :
    TrYr P lp [v1, v2].toArray rr [cL (recL fnx a.tmps p1 p2 assign body D) lp D B jmp true i x] (TX (fun z : Bool × X => J z.1 (i + 1) z.2) (fun z => .bool z.1) (fun z => [cL (recL fnx a.tmps p1 p2 assign body D) lp D B jmp z.1 (i + 1) z.2])) := by
  intro w1 hrr hw1
  have hds : a.defers = [] := ha.defs
  obtain ⟨S1, hS1⟩ : ∃ S1, U [cL (recL fnx a.tmps p1 p2 assign body D) lp D B jmp true i x] = S1 := ⟨_, rfl⟩
  rw [hS1] at hw1 hrr ⊢
  have hu : Hp w1 S1 w1 (obc lp (.loop (recL fnx a.tmps p1 p2 assign body D .ready none)) :: dfr D :: B true i x) := by
    have := Hp.unstar hw1
    rw [List.append_nil] at this
    exact this
  have hl : w1.heap[lp]? = some (.loop (recL fnx a.tmps p1 p2 assign body D .ready none)) := hu.holds _ (List.mem_cons_self ..)
  have hy := run_yield (P := P) (args := #[v1, v2]) hl rfl
  refine ⟨_, _, _, _, hy, roundIn_of_wpIn (F := Fence.wide) trivial ?_⟩
  have hA : At (n := n) { tmps := (a.tmps.setIfInBounds p1 v1).setIfInBounds p2 v2, defers := [] } ((p2, v2) :: (p1, v1) :: l) := by
    have h2 := (ha.put hp1 v1).put hp2 v2
    have e : ((a.put (some p1) v1).put (some p2) v2) = { tmps := (a.tmps.setIfInBounds p1 v1).setIfInBounds p2 v2, defers := [] } := by
      simp [Act.put, hds]
    rwa [e] at h2
  have h3 := hassign w1 S1 _ _ w1 hA hu
  unfold dq at h3
  rw [da_nil hA] at h3
  have eT : ((#[p1, p2] : Array Nat).zip #[v1, v2]).foldl (fun t (x : Nat × Value) => t.setIfInBounds x.1 x.2) a.tmps = (a.tmps.setIfInBounds p1 v1).setIfInBounds p2 v2 := by simp
  show assign.wpIn (fR (some lp)) 0 P _ { tmps := ((#[p1, p2] : Array Nat).zip #[v1, v2]).foldl (fun t (x : Nat × Value) => t.setIfInBounds x.1 x.2) a.tmps, defers := [] } w1
  rw [eT]
  refine wpIn_mono h3 ?_
  intro e a1 w2 hq
  cases e with
  | exit id => exact hq.elim
  | goto t => exact hq.elim
  | ret => exact hq.elim
  | panic ch => exact hq.elim
  | outgrown => exact hq.elim
  | normal =>
    obtain ⟨z, hA1, hH0⟩ := hq
    have hH1 : Hp w1 S1 w2 (obc lp (.loop (recL fnx a.tmps p1 p2 assign body D .ready none)) :: dfr D :: (B true i x ++ M2 z)) := hH0.perm List.perm_append_comm
    have hl1 : w2.heap[lp]? = some (.loop (recL fnx a.tmps p1 p2 assign body D .ready none)) := hH1.holds _ (List.mem_cons_self ..)
    have hbr := run_beginRound (P := P) hl1 rfl
    refine ⟨_, hbr, ?_⟩
    have hH2 := Hp.putO (.loop (recL fnx a.tmps p1 p2 assign body D .busy none)) hH1
    have hH3 := Hp.star (m := [_, _]) (r := B true i x ++ M2 z) hH2
    have h4 := hbody w1 S1 _ z hrr a1 _ hA1 hH3
    unfold dq at h4
    rw [da_nil hA1] at h4
    refine wpIn_mono h4 ?_
    intro e a2 w4 hq
    cases e with
    | normal =>
      obtain ⟨y, hJy, hH4⟩ := hq
      exact I.fin (b := true) hJy rfl hH4
    | ret =>
      obtain ⟨y, hJy, hj, hH4⟩ := hq
      exact I.fin (b := false) hJy (by rw [← hj]; rfl) hH4
    | exit k =>
      obtain ⟨y, hJy, hj, hH4⟩ := hq
      exact I.fin (b := false) hJy (by rw [← hj]; rfl) hH4
    | goto t => exact hq.elim
    | panic ch => exact hq.elim
    | outgrown => exact hq.elim
theorem I.rangeF2A {X Z : Type} {gf nn p1 p2 : Nat} {lb : Array Value} {rr ro pre q : List Ck} {encs : Nat → Value × Value} {g : Operand} {assign body : Code} {fn : Func} {c : Code}
    (J : Bool → Nat → X → Prop) (B : Bool → Nat → X → List Ck) (jmp : X → Code) (M2 : Nat → Z → List Ck) (L2 : Nat × Z → Fr) {x0 : X}
    (hg : ev l g = some (.func (.func gf) #[] lb)) (hf : P.funcs[gf]? = some fn) (hb : fn.body = some c) (hnm : (fn.name == "runtime.NumGoroutine") = false)
    (hseq : SeqR P gf lb ro pre nn (fun i => [(encs i).1, (encs i).2]))
    (hm : Sub m (B true 0 x0 ++ pre) q) (hro : ∀ c ∈ rr ++ ro, May w0 S q c) (h0 : J true 0 x0)
    (hp1 : Nat.blt p1 n = true) (hp2 : Nat.blt p2 n = true)
    (hassign : ∀ w1 S1 lp m1 i, i < nn → G n w1 S1 ((p2, (encs i).2) :: (p1, (encs i).1) :: l) m1 (dq [] (assign.wpIn (fR (some lp)) 0 P (Exit.then (fun a w => ∃ z, At a n (L2 (i, z)) ∧ Hp w1 S1 w (M2 i z ++ m1)) (fun _ _ _ => False)))))
    (hbody : ∀ w1 S1 lp c i x z, i < nn → J true i x → (∀ c ∈ rr, Ro w1 S1 c) → G n w1 S1 (L2 (i, z)) (c :: (B true i x ++ M2 i z)) (dq [] (body.wpIn (fR (some lp)) 0 P (rnd w1 S1 J B jmp c i))))
    (hdone : ∀ D x, J true nn x → G n w0 S l (dfr D :: (B true nn x ++ q)) (dq (mark D) (Q .normal)))
    (hstop : ∀ D i x, i ≤ nn → J false i x → G n w0 S l (dfr D :: (B false i x ++ q)) (dq (mark D) ((jmp x).wpIn (fR none) 0 P Q))) :
    G n w0 S l m (dq [] ((Code.rangeFunc g #[p1, p2] assign body).wpIn (fR none) 0 P Q)) := fun a w ha hw => by
  unfold dq
  rw [da_nil ha]
  have hds : a.defers = [] := ha.defs
  have hw' := hw.perm hm.perm
  refine wpIn_rangeFunc (F := fR none) (n := 0) ?_
  intro fnx _
  obtain ⟨W1, hW1⟩ : ∃ W1, (w.alloc (.deferred (some []))).alloc (.loop (recL fnx a.tmps p1 p2 assign body w.heap.size .ready none)) = W1 := ⟨_, rfl⟩
  have hp1W : Hp w0 S W1 (cL (recL fnx a.tmps p1 p2 assign body w.heap.size) (w.heap.size + 1) w.heap.size B jmp true 0 x0 :: pre ++ q) := by
    rw [← hW1]
    have h2 := (hw'.allocO (.deferred (some []))).allocO (.loop (recL fnx a.tmps p1 p2 assign body w.heap.size .ready none))
    rw [World.size_alloc, List.append_assoc] at h2
    exact Hp.star (m := _ :: _ :: B true 0 x0) (r := pre ++ q) h2
  have hT := hseq rr (w.heap.size + 1) X J (cL (recL fnx a.tmps p1 p2 assign body w.heap.size) (w.heap.size + 1) w.heap.size B jmp) x0 h0 fun i x hi hJ => I.round2A (l2 := fun z => L2 (i, z)) (M2 := M2 i) ha hp1 hp2 (fun w1 S1 m1 => hassign w1 S1 _ m1 i hi) (fun w1 S1 c z hr => hbody w1 S1 _ c i x z hi hJ hr)
  have hpp : Hp W1 (U (cL (recL fnx a.tmps p1 p2 assign body w.heap.size) (w.heap.size + 1) w.heap.size B jmp true 0 x0 :: pre)) W1 (cL (recL fnx a.tmps p1 p2 assign body w.heap.size) (w.heap.size + 1) w.heap.size B jmp true 0 x0 :: pre) := ⟨Chg.refl _ _, fun c hc => hp1W.holds c (List.mem_append_left _ hc), fun c hc b hb => ⟨.inl ⟨c, hc, hb⟩, (hp1W.own c (List.mem_append_left _ hc) b hb).2⟩, (List.pairwise_append.1 hp1W.dis).1⟩
  have hcall := hT W1 (fun c hc => (hro c hc).ro hp1W) hpp
  have henter : (Instr.enterLoop fnx a.tmps #[p1, p2] assign body (fR none).round).run P w = .ok (w.heap.size + 1, mark w.heap.size) W1 := by
    rw [← hW1]
    exact run_enterLoop_outer _ _ _ _ _
  have hres : (resolve a.eval (rangeCall g (w.heap.size + 1)) 0).run P W1 = .ok { target := .fn (.func gf) lb, args := #[.func (.yield (w.heap.size + 1)) #[] #[]] } W1 := by
    simp only [resolve, rangeCall, ha.eval hg]
    simp [Deferred.ofValue, Sem.run_bind, Sem.run_pure, Result.andThen, Act.eval, Sem.run]
  have hinv := run_invokeF (P := P) (args := #[.func (.yield (w.heap.size + 1)) #[] #[]]) (cap := lb) hf hb hnm W1
  have hz : (fR none).depth.isSome = true → 1 ≤ 0 := fun h => by simp [fR, Fence.wide] at h
  suffices hfin : CallsIn (fR none) 0 P gf (#[.func (.yield (w.heap.size + 1)) #[] #[]] ++ lb) W1 (rangePost (fR none) 0 P (w.heap.size + 1) Q { a with defers := mark w.heap.size ++ a.defers }) from
    ⟨w.heap.size + 1, mark w.heap.size, W1, _, W1, gf, _, W1, henter, hres, fun _ _ => trivial, hinv, hz, hfin⟩
  refine calls_fR (callsIn_wide.2 (hcall.mono ?_))
  rintro e w3 ⟨v, m', rfl, ⟨⟨b, i, y⟩, ⟨hJ, hle, hall⟩, rfl, rfl⟩, hm'⟩
  have hu2 := Hp.unstar (m := _ :: _ :: B b i y) (r := q) (hp1W.turn hm')
  have hl3 : w3.heap[w.heap.size + 1]? = some (.loop (recL fnx a.tmps p1 p2 assign body w.heap.size (stL b) (peL jmp b y))) := hu2.holds _ (List.mem_cons_self ..)
  have hend := run_endLoop (P := P) hl3 (by cases b <;> simp [recL, stL])
  have hu3 := (Hp.putO (.loop { recL fnx a.tmps p1 p2 assign body w.heap.size (stL b) (peL jmp b y) with state := .exhausted }) hu2).tail
  have eD : ({ a with defers := mark w.heap.size ++ a.defers } : Act) = da (mark w.heap.size) a := by
    unfold da
    rw [hds]
    rfl
  refine ⟨_, _, hend, ?_⟩
  rw [eD]
  cases b with
  | true =>
    have hJ' : i = nn := hall rfl
    subst hJ'
    exact hdone _ y hJ a _ ha hu3
  | false => exact hstop _ i y hle hJ a _ ha hu3
theorem I.rangeK2A {X Z : Type} {gf nn p1 p2 : Nat} {lb : Array Value} {rr ro pre q : List Ck} {encs : Nat → Value × Value} {g : Operand} {assign body : Code} {fn : Func} {c : Code}
    (J : Bool → Nat → X → Prop) (B : Bool → Nat → X → List Ck) (jmp : X → Code) (M2 : Nat → Z → List Ck) (A : Nat × Z → Fr) {x0 : X} {ts : List Nat} {l1 : Fr} {L2 : Nat × Z → Fr}
    (hg : ev l g = some (.func (.func gf) #[] lb)) (hf : P.funcs[gf]? = some fn) (hb : fn.body = some c) (hnm : (fn.name == "runtime.NumGoroutine") = false)
    (hseq : SeqR P gf lb ro pre nn (fun i => [(encs i).1, (encs i).2]))
    (hm : Sub m (B true 0 x0 ++ pre) q) (hro : ∀ c ∈ rr ++ ro, May w0 S q c) (h0 : J true 0 x0)
    (hp1 : Nat.blt p1 n = true) (hp2 : Nat.blt p2 n = true) (hk : Kp l ts l1) (hL : Ap A l1 L2)
    (hassign : ∀ w1 S1 lp m1 i, i < nn → G n w1 S1 ((p2, (encs i).2) :: (p1, (encs i).1) :: l) m1 (dq [] (assign.wpIn (fR (some lp)) 0 P (Exit.then (fun a w => ∃ z, At a n (L2 (i, z)) ∧ Hp w1 S1 w (M2 i z ++ m1)) (fun _ _ _ => False)))))
    (hbody : ∀ w1 S1 lp c i x z, i < nn → J true i x → (∀ c ∈ rr, Ro w1 S1 c) → G n w1 S1 (L2 (i, z)) (c :: (B true i x ++ M2 i z)) (dq [] (body.wpIn (fR (some lp)) 0 P (rnd w1 S1 J B jmp c i))))
    (hdone : ∀ D x, J true nn x → G n w0 S l (dfr D :: (B true nn x ++ q)) (dq (mark D) (Q .normal)))
    (hstop : ∀ D i x, i ≤ nn → J false i x → G n w0 S l (dfr D :: (B false i x ++ q)) (dq (mark D) ((jmp x).wpIn (fR none) 0 P Q))) :
    G n w0 S l m (dq [] ((Code.rangeFunc g #[p1, p2] assign body).wpIn (fR none) 0 P Q)) :=
  I.rangeF2A J B jmp M2 L2 hg hf hb hnm hseq hm hro h0 hp1 hp2 hassign hbody hdone hstop
end
end Go.Proofs.YtbfpbibkklfnfaaGreat

set_option linter.unusedVariables false
set_option linter.unusedSimpArgs false
namespace Go.Proofs.YtbfpbibkklfnfaaGreat
open Go.RowKit
/-- the k-th chunk from behind -/
def bk (xs : List CT) (k : Nat) : CT := (xs[xs.length - 1 - k]?).getD (([], []), .slice none 0 0)
theorem bk_eq {xs : List CT} {k : Nat} (h : k < xs.length) : bk xs k = xs[xs.length - 1 - k]'(by omega) := by
  unfold bk
  rw [List.getElem?_eq_getElem (show xs.length - 1 - k < xs.length by omega)]
  rfl
/-- what a map of chunks holds -/
def AllAt (l : List (List UInt8 × Value)) (ys : List CT) : Prop := ∀ id, mget l id = (ys.find? fun x => decide (x.1.1 = id)).map (·.2)
theorem all_nil : AllAt [] [] := fun id => rfl
theorem AllAt.put {l : List (List UInt8 × Value)} {ys : List CT} (h : AllAt l ys) (x : CT) : AllAt (mset l x.1.1 x.2) (x :: ys) := fun id => by
  rw [mget_mset, List.find?_cons]
  by_cases h1 : x.1.1 = id
  · rw [if_pos h1, decide_eq_true h1]
    rfl
  rw [if_neg h1, decide_eq_false h1]
  exact h id
theorem drop_bk {xs : List CT} {k : Nat} (h : k < xs.length) : xs.drop (xs.length - (k + 1)) = bk xs k :: xs.drop (xs.length - k) := by
  rw [bk_eq h, List.drop_eq_getElem_cons (show xs.length - (k + 1) < xs.length by omega)]
  congr 1
  · congr 1
    omega
  congr 1
  omega
def gotV (xs : List CT) (id : List UInt8) : Value := ((xs.find? fun x => decide (x.1.1 = id)).map (·.2)).getD (.slice none 0 0)
def gotB (xs : List CT) (id : List UInt8) : Bool := (xs.find? fun x => decide (x.1.1 = id)).isSome
theorem got_look {l : List (List UInt8 × Value)} {xs : List CT} (h : AllAt l xs) (id : List UInt8) : (if true = true then Value.tuple #[(mget l id).getD (.slice none 0 0), .bool (mget l id).isSome] else (mget l id).getD (.slice none 0 0)) = .tuple #[gotV xs id, .bool (gotB xs id)] := by
  rw [if_pos rfl, h id]
  unfold gotV gotB
  rw [Option.isSome_map]
theorem got_none {xs : List CT} {id : List UInt8} (h : gotB xs id = false) : foundM (cks xs) id = ([], 6) := by
  refine (found_none fun q hq e => ?_).1
  unfold gotB at h
  rw [Option.isSome_eq_false_iff, Option.isNone_iff_eq_none, List.find?_eq_none] at h
  exact h _ (List.getElem_mem hq) (by simpa using e)
theorem got_some {xs : List CT} {id : List UInt8} (h : gotB xs id = true) : ∃ j, ∃ hj : j < xs.length, gotV xs id = xs[j].2 ∧ foundM (cks xs) id = (if nameM xs[j].1.2 = id then (xs[j].1.2, 0) else ([], 11)) := by
  unfold gotB at h
  obtain ⟨x, hx⟩ := Option.isSome_iff_exists.1 h
  obtain ⟨hp, j, hj, he, hlt⟩ := List.find?_eq_some_iff_getElem.1 hx
  subst he
  refine ⟨j, hj, by unfold gotV; rw [hx]; rfl, (found_at hj (fun q hq hqj => by simpa using hlt q hqj) (by simpa using hp)).1⟩
set_option maxRecDepth 20000 in
set_option maxHeartbeats 4000000 in
theorem back_tr (v : Value) (hv : v.oneCell' = true) : Tr Tryz.prog 62 #[v] [] [] (TX (fun _ : Nat => True) (fun b => .func (.func 96) #[] #[.pointer (some ⟨b, 0, none⟩)]) (fun b => [blk b 29 [v]])) := by
  refine Tr.of (l := [(0, v)]) Tryz.func62 rfl (n := 4) rfl (.cons rfl .nil) (fun w0 hro => ?_)
  refine G.seq (G.region ?_)
  refine G.op rfl (G.box rfl rfl (cs := [v]) (cells_of hv) ?_)
  intro b1
  refine G.asT rfl rfl ?_
  refine G.nil ?_
  refine G.nThen (G.seq (G.region ?_))
  refine G.op rfl (G.val rfl rfl (pv_makeFunc rfl rfl) ?_)
  refine G.asT rfl rfl ?_
  refine G.nil ?_
  refine G.nThen ?_
  refine G.ret ?_
  exact G.doneX1 (b1) trT rfl rfl (by first | rfl | exact int_eq (by omega) | (simp; done)) subT
set_option maxRecDepth 20000 in
set_option maxHeartbeats 4000000 in
theorem back_seq {Pv : Nat → Prop} (v : Value) (xs : List CT) (bb : Nat) : SeqR Tryz.prog 96 #[.pointer (some ⟨bb, 0, none⟩)] [slc rCT Pv v xs] [blk bb 29 [v]] xs.length (fun k => [.int .i64 ((xs.length : Int) - 1 - (k : Int)), .agg (chC (bk xs k)).toArray]) := by
  intro rr lp X J C x0 h0 hY
  show Tr _ _ #[.func (.yield lp) #[] #[], .pointer (some ⟨bb, 0, none⟩)] _ _ _
  refine Tr.ofI (l := [(0, .func (.yield lp) #[] #[]), (1, .pointer (some ⟨bb, 0, none⟩))]) Tryz.func96 rfl (n := 19) rfl (.cons rfl (.cons rfl .nil)) (fun w0 hro => ?_)
  have hv := hro _ (List.mem_append_right _ (List.mem_cons_self ..))
  have hrr : ∀ c ∈ rr, Ro w0 _ c := fun c hc => hro c (List.mem_append_left _ hc)
  obtain ⟨av, cv, bv, fv, rfl, hcapv, hmaxv, hnilv, hadv, helv⟩ := Ro.open hv
  refine I.seq ?_
  refine I.region kr (by rintro ⟨_, _, h⟩; first | exact h | exact noOut h) ?_
  refine G.op rfl (G.val rfl rfl (pv_load Tryz.underlying29 rfl rfl celT) ?_)
  refine G.op rfl (G.val rfl rfl (pv_lenSl Tryz.underlying29 rfl) ?_)
  refine G.op rfl (G.val rfl rfl (pv_sub64 rfl rfl (by omega)) ?_)
  refine G.asT rfl rfl ?_
  refine I.nil ?_
  refine I.nThen ?_
  refine I.block ?_
  refine I.loopK (X := Nat × X) (ts := [0, 1]) (fun st => st.1 ≤ xs.length ∧ J true st.1 st.2) (fun st => [(3, .int .i64 ((xs.length : Int) - 1 - (st.1 : Int)))]) (fun st => [C true st.1 st.2]) (fun st => xs.length - st.1) (x0 := (0, x0)) (.cons rfl (.cons rfl .nil)) subT (.cons .nil) apT (by first | exact trivial | ((try dsimp only) <;> exact ⟨Nat.zero_le _, h0⟩)) (.consE rfl veqT .nil) (fun st hJ => ?_)
  obtain ⟨i, x⟩ := st
  try dsimp only at hJ
  try dsimp only
  obtain ⟨hki, hJx⟩ := hJ
  refine I.seq ?_
  refine I.seq ?_
  refine I.region kr (by rintro ⟨_, _, h⟩; first | exact h | exact noOut h) ?_
  refine G.mvT rfl rfl ?_
  refine G.op rfl (G.val rfl rfl (pv_geq rfl rfl) ?_)
  refine I.nil ?_
  refine I.nThen ?_
  refine I.condP rfl (fun h8 => ?_) (fun h8 => ?_)
  · have hlt : i < xs.length := by omega
    obtain ⟨j, hj⟩ : ∃ j, xs.length - 1 - i = j := ⟨_, rfl⟩
    have hjl : j < xs.length := by omega
    have hbk : bk xs i = xs[j] := by rw [bk_eq hlt]; congr 1
    have hE := helv j hjl
    have hR := Ro.ckRng hE
    refine I.skip ?_
    refine I.nThen ?_
    refine I.seq ?_
    refine I.block ?_
    refine I.seq ?_
    refine IL.region ?_
    refine IL.op rfl (IL.lift kr (G.val rfl rfl (pv_move rfl) ?_))
    refine IL.op rfl (IL.lift kr (G.val rfl rfl (pv_move rfl) ?_))
    refine IL.op rfl (IL.lift kr (G.val rfl rfl (pv_load Tryz.underlying29 rfl rfl celT) ?_))
    refine IL.op rfl (IL.lift kr (G.val rfl rfl (pv_move rfl) ?_))
    refine IL.op rfl (IL.lift kr (G.val rfl rfl (pv_ixSl (sz := 17) (k := j) Tryz.underlying29 kr rfl rfl hadv (by omega) (by omega)) ?_))
    refine IL.op rfl (IL.lift kr (G.val rfl rfl (pv_loadN (cs := chC (bk xs i)) Tryz.underlying71 rfl (by rw [chC_len]; kernel_rfl) rfl (by rw [hbk]; exact fun w hw => hR.at hw)) ?_))
    refine IL.op rfl (IL.yieldR rfl rfl rfl rfl rfl subT (fun c hc => .old (hrr c hc)) (hY i x hlt hJx) apT ?_)
    intro x17 hJ
    obtain ⟨v, y⟩ := x17
    try dsimp only at hJ
    try dsimp only
    have hJ2 := hJ
    refine IL.op rfl (IL.lift kr (G.val rfl rfl (pv_not rfl) ?_))
    refine IL.nil ?_
    refine I.nThen ?_
    refine I.cond rfl (fun h18 => ?_) (fun h18 => ?_)
    · obtain rfl : v = false := by cases v <;> simp_all
      refine I.ret ?_
      refine I.rBlock ?_
      refine I.rThen ?_
      refine I.rThen ?_
      refine I.rBlock ?_
      exact I.doneIr ((false, i + 1, y)) (by first | exact trivial | ((try dsimp only) <;> exact ⟨hJ2, by omega, fun h => by cases h⟩)) rfl rfl subT
    obtain rfl : v = true := by cases v <;> simp_all
    refine I.skip ?_
    refine I.nBlock ?_
    refine I.nThen ?_
    refine I.region kr (by rintro ⟨_, _, h⟩; first | exact h | exact noOut h) ?_
    refine G.mvT rfl rfl ?_
    refine G.op rfl (G.val rfl rfl (pv_sub64 rfl rfl (by omega)) ?_)
    refine G.asT rfl rfl ?_
    refine I.nil ?_
    exact I.next ((i + 1, y)) (by first | exact trivial | ((try dsimp only) <;> exact ⟨by omega, hJ2⟩)) (by (try dsimp only); omega) (.consE rfl veqT (.cons rfl (.cons rfl .nil))) subT
  obtain rfl : i = xs.length := by omega
  refine I.exit ?_
  refine I.eThen ?_
  refine I.eThen ?_
  refine I.eBlock ?_
  exact I.doneI ((true, xs.length, x)) (by first | exact trivial | ((try dsimp only) <;> exact ⟨hJx, Nat.le_refl _, fun _ => rfl⟩)) rfl rfl subT
end Go.Proofs.YtbfpbibkklfnfaaGreat

set_option linter.unusedVariables false
set_option linter.unusedSimpArgs false
namespace Go.Proofs.YtbfpbibkklfnfaaGreat
open Go.RowKit
set_option maxRecDepth 20000 in
set_option maxHeartbeats 4000000 in
theorem mbuild_tr {Ps Pz : Nat → Prop} (a : Mh) (v vz : Value) (xs : List IT) (zs : List CT) (hm2 : ∀ x ∈ xs, x.1.ids.length ≤ 100000) (hd : ∀ x ∈ zs, x.1.2.length ≤ 100000) : Tr Tryz.prog 26 #[.agg #[.int .i64 a.c, .int .i64 a.k, .int .i64 a.n, .int .i64 a.t, v], vz] [slc rIT Ps v xs, slc rCT Pz vz zs] []
    (TX (fun z : Value × List ET => ens z.2 = (buildM a (its xs) (cks zs)).1) (fun z => .tuple #[z.1, .int .i64 (buildM a (its xs) (cks zs)).2]) (fun z => [ownT 68 z.1 z.2, datC 5 z.2])) := by
  refine Tr.ofM (l := [(0, .agg #[.int .i64 a.c, .int .i64 a.k, .int .i64 a.n, .int .i64 a.t, v]), (1, vz)]) Tryz.func26 rfl (n := 92) rfl (.cons rfl (.cons rfl .nil)) (fun w0 hro => ?_)
  obtain ⟨hx0, hz0⟩ := ro2 hro
  have hv := hx0
  have hv' := hv
  obtain ⟨av, cv, bv, fv, rfl, hcapv, hmaxv, hnilv, hadv, helv⟩ := Ro.open hv
  have hel' := its_length xs
  have hzv := hz0
  obtain ⟨az, cz, bz, fz, rfl, -, -, -, -, helz⟩ := Ro.open hzv
  have hbk1 : ∀ k, (bk zs k).2.oneCell' = true := fun k => by unfold bk; cases h : zs[zs.length - 1 - k]? with | none => rfl | some x => exact (Ro.allCk helz x (List.mem_of_getElem? h)).2.2
  have hbk16 : ∀ k, k < zs.length → (bk zs k).1.1.length = 16 := fun k hk => by rw [bk_eq hk]; exact Ro.ckID (helz _ (by omega))
  refine I.seq ?_
  refine I.region kr (by rintro ⟨_, _, h⟩; first | exact h | exact noOut h) ?_
  refine G.op rfl (G.box rfl rfl (cs := [_, _, _, _, _]) rfl ?_)
  intro b2
  refine G.asT rfl rfl ?_
  refine G.asT rfl rfl ?_
  refine I.nil ?_
  refine I.nThen ?_
  refine I.seq ?_
  refine I.seq ?_
  refine I.region kr (by rintro ⟨_, _, h⟩; first | exact h | exact noOut h) ?_
  refine G.op rfl (G.val rfl rfl (pv_loadN (cs := [_, _, _, _, _]) Tryz.underlying28 rfl kr rfl (by first | exact blk_range (k := 5) selD (by rfl) | exact ro_rng0 (by assumption) | exact rng_range (k := 5) selD (by rfl) | exact ro_range (k := 5) (by assumption) (by rfl) | exact ro_rngR (k := 5) (by assumption) (by rfl))) ?_)
  refine G.op rfl (G.cR rfl rfl rfl rfl Tryz.func31 rfl rfl (may1 (.old hv)) (mcheck_tr a _ xs) ?_)
  refine G.mvT rfl rfl ?_
  refine G.op rfl (G.val rfl rfl (pv_extract rfl rfl) ?_)
  refine G.op rfl (G.val rfl rfl (pv_extract rfl rfl) ?_)
  refine G.asT rfl rfl ?_
  refine G.asT rfl rfl ?_
  refine I.nil ?_
  refine I.nThen ?_
  refine I.seq ?_
  refine I.region kr (by rintro ⟨_, _, h⟩; first | exact h | exact noOut h) ?_
  refine G.mvT rfl rfl ?_
  refine G.op rfl (G.val rfl rfl (pv_neq rfl rfl) ?_)
  refine I.nil ?_
  refine I.nThen ?_
  refine I.condP rfl (fun h25 => ?_) (fun h25 => ?_)
  · refine I.seq ?_
    refine I.region kr (by rintro ⟨_, _, h⟩; first | exact h | exact noOut h) ?_
    refine G.mvT rfl rfl ?_
    refine G.asT rfl rfl ?_
    refine G.asT rfl rfl ?_
    refine I.nil ?_
    refine I.nThen ?_
    refine I.ret ?_
    refine I.rThen ?_
    rw [buildM_check (by assumption)]
    refine G.ownNil 68 5 ?_
    refine G.datNil 5 ?_
    exact I.doneM0 ((.slice none 0 0, [])) (by first | exact trivial | ((try dsimp only) <;> exact rfl)) rfl (Rv.tmp rfl (Rv.tmp rfl Rv.nil)) rfl subT
  have hc0 : (checkI a (its xs)).1 = 0 := by omega
  obtain ⟨-, h200, -, -⟩ := checkI_zero hc0
  refine I.skip ?_
  refine I.nThen ?_
  refine I.seq ?_
  refine I.region kr (by rintro ⟨_, _, h⟩; first | exact h | exact noOut h) ?_
  refine G.op rfl (G.mapNew vID ok16 rfl ?_)
  intro bm
  refine G.op rfl (G.alloc (z := .map none) (cs := [.map none]) rfl kr rfl ?_)
  intro b8
  refine G.op rfl (G.store kr rfl rfl eqT selT leT ?_)
  refine I.nil ?_
  refine I.nThen ?_
  refine I.seq ?_
  refine I.seq ?_
  refine I.region kr (by rintro ⟨_, _, h⟩; first | exact h | exact noOut h) ?_
  refine G.mvT rfl rfl ?_
  refine G.op rfl (G.cS rfl rfl rfl rfl Tryz.func62 rfl rfl subT may0 (back_tr _ rfl) apT ?_)
  intro x29 hJ
  try dsimp only at hJ
  try dsimp only
  refine I.nil ?_
  refine I.nThen ?_
  refine I.block ?_
  refine I.rangeK2A (X := (List (List UInt8 × Value))) (rr := [slc rCT Pz (.slice az zs.length cz) zs]) (encs := fun i => (.int .i64 ((zs.length : Int) - 1 - (i : Int)), .agg (chC (bk zs i)).toArray)) (ts := [8]) (fun b i l => b = true ∧ AllAt l (zs.drop (zs.length - i))) (fun b i l => [blk b8 97 [.map (some bm)], mpc vID ok16 bm l]) (fun l => .ret) (fun i (zb : Nat) => [blk zb 71 (chC (bk zs i))]) (fun p => [(10, .pointer (some ⟨p.2, 0, none⟩))]) (x0 := []) rfl Tryz.func96 rfl rfl (back_seq (Pv := Pz) (.slice az zs.length cz) zs x29) (by show Sub _ [blk b8 97 [.map (some bm)], mpc vID ok16 bm [], blk x29 29 [.slice az zs.length cz]] _; repeat (first | exact Sub.nil | (apply Sub.cons; (repeat (first | with_reducible exact Sel.here | exact Sel.here | apply Sel.there))))) (may2 (.old hz0) (.old hz0)) (by first | exact trivial | (exact ⟨rfl, by rw [Nat.sub_zero, List.drop_length]; exact all_nil⟩)) rfl rfl (.cons rfl .nil) (.cons .nil) ?_ ?_ ?_ ?_
  · intro w1 S1 lp m1 i hi
    try dsimp only at hJ
    try dsimp only
    refine I.region kr (by rintro ⟨_, _, h⟩; first | exact h | exact noOut h) ?_
    refine G.op rfl (G.alloc (z := .agg #[.int .u8 0, .int .u8 0, .int .u8 0, .int .u8 0, .int .u8 0, .int .u8 0, .int .u8 0, .int .u8 0, .int .u8 0, .int .u8 0, .int .u8 0, .int .u8 0, .int .u8 0, .int .u8 0, .int .u8 0, .int .u8 0, .slice none 0 0]) (cs := [.int .u8 0, .int .u8 0, .int .u8 0, .int .u8 0, .int .u8 0, .int .u8 0, .int .u8 0, .int .u8 0, .int .u8 0, .int .u8 0, .int .u8 0, .int .u8 0, .int .u8 0, .int .u8 0, .int .u8 0, .int .u8 0, .slice none 0 0]) rfl kr rfl ?_)
    intro b10
    refine G.op rfl (G.storeN (vs := chC (bk zs i)) (by rw [chC_len]; kernel_rfl) rfl rfl (List.all_eq_true.2 (chC_one (hbk1 i))) selT (by rw [chC_len]; exact Nat.le_of_ble_eq_true rfl) ?_)
    rw [putN_whole _ _ (by rw [chC_len]; rfl)]
    refine I.nil ?_
    exact I.asgA (Z := Nat) b10 (.consE rfl veqT (.cons rfl .nil)) rfl
  · intro w1 S1 lp c i l zb hi hJ hrr
    try dsimp only at hJ
    try dsimp only
    obtain ⟨hbt, hal⟩ := hJ
    have hk16 := hbk16 i hi
    refine I.block ?_
    refine I.region kr (by rintro ⟨_, _, h⟩; first | exact h | exact noOut h) ?_
    refine G.op rfl (G.val rfl rfl (pv_load Tryz.underlying97 rfl rfl celT) ?_)
    refine G.op rfl (G.val rfl rfl (pv_fieldAddrK (sz := 15) (k := 0) Tryz.underlying71 rfl kr rfl rfl) ?_)
    refine G.op rfl (G.val rfl rfl (pv_loadN (cs := (bk zs i).1.1.map vByte) Tryz.underlying66 rfl (by rw [List.length_map, hk16]; kernel_rfl) rfl (blk_range (k := 16) selT (chC_id hk16))) ?_)
    refine G.op rfl (G.val rfl rfl (pv_fieldAddrK (sz := 0) (k := 16) Tryz.underlying71 rfl kr rfl rfl) ?_)
    refine G.op rfl (G.val rfl rfl (pv_load (v := (bk zs i).2) Tryz.underlying39 rfl rfl (blk_cell selD (chC_dat _))) ?_)
    refine G.op rfl (G.mapSet (f := vID) (ok := ok16) (x := (bk zs i).1.1) (v := (bk zs i).2) (xs := l) keyI Tryz.underlying97 rfl rfl rfl hk16 selT ?_)
    refine I.nil ?_
    refine I.nBlock ?_
    exact I.rN (mset l (bk zs i).1.1 (bk zs i).2) (by first | exact trivial | ((try dsimp only) <;> exact ⟨rfl, by rw [drop_bk hi]; exact hal.put (bk zs i)⟩)) subT
  · intro D l hJ
    try dsimp only at hJ
    try dsimp only
    obtain ⟨hbt, hal⟩ := hJ
    rw [Nat.sub_self, List.drop_zero] at hal
    refine I.nBlock ?_
    refine I.nThen ?_
    refine I.seq ?_
    refine I.region kr (by rintro ⟨_, _, h⟩; first | exact h | exact noOut h) ?_
    refine G.asT rfl rfl ?_
    refine I.nil ?_
    refine I.nThen ?_
    refine I.seq ?_
    refine I.seq ?_
    refine I.region kr (by rintro ⟨_, _, h⟩; first | exact h | exact noOut h) ?_
    refine G.op rfl (G.val rfl rfl (pv_fieldAddrK (sz := 0) (k := 4) Tryz.underlying28 rfl kr rfl rfl) ?_)
    refine G.op rfl (G.val rfl rfl (pv_load Tryz.underlying26 rfl rfl celT) ?_)
    refine G.op rfl (G.val rfl rfl (pv_lenSl Tryz.underlying26 rfl) ?_)
    refine G.mvT rfl rfl ?_
    refine I.nil ?_
    refine I.nThen ?_
    refine I.block ?_
    refine G.ownNil 68 5 ?_
    refine G.datNil 5 ?_
    refine I.loopK (X := Nat × Value × (List ET)) (ts := [8, 38, 39]) (fun st => st.1 ≤ xs.length ∧ (ens st.2.2 = ((its xs).take st.1).map (mkE (cks zs)) ∧ (∀ q (hq : q < (its xs).length), q < st.1 → errIt (cks zs) (its xs)[q] = 0) ∧ st.2.2.length = st.1)) (fun st => [(40, .int .i64 (st.1 : Int)), (11, st.2.1)]) (fun st => [ownT 68 st.2.1 st.2.2, datC 5 st.2.2]) (fun st => xs.length - st.1) (x0 := (0, .slice none 0 0, [])) (.cons rfl (.cons rfl (.cons rfl .nil))) subT (.cons (.cons .nil)) apT (by first | exact trivial | ((try dsimp only) <;> exact ⟨Nat.zero_le _, ⟨rfl, fun q hq h => absurd h (by omega), rfl⟩⟩)) (.consE rfl veqT (.consE rfl veqT .nil)) (fun st hJ => ?_)
    obtain ⟨i, vw, ys⟩ := st
    try dsimp only at hJ
    try dsimp only
    obtain ⟨hki, hJ⟩ := hJ
    obtain ⟨hys, herr, hyl⟩ := hJ
    refine I.seq ?_
    refine I.region kr (by rintro ⟨_, _, h⟩; first | exact h | exact noOut h) ?_
    refine G.op rfl (G.val rfl rfl (pv_lss rfl rfl) ?_)
    refine I.nil ?_
    refine I.nThen ?_
    refine I.seq ?_
    refine I.condP rfl (fun h41 => ?_) (fun h41 => ?_)
    · have hlt : i < xs.length := by omega
      have hlt' : i < (its xs).length := by omega
      have hg := its_get hlt
      have hEv := helv i hlt
      have hRv := Ro.itRng hEv
      have hDv := Ro.itIds hEv
      have hOv := Ro.itOk hEv
      obtain ⟨hk1v, hk2v, hk3v, hlpv, hltv, hlnv⟩ := hOv
      have hCv := Ro.one1I hDv
      obtain ⟨aD, cD, bD, oD, hx2, hcD, hmD, -, hadD, helD⟩ := Ro.open hDv
      rw [hx2] at hRv hCv
      have hil := hm2 _ (List.getElem_mem hlt)
      have hmk : ((its xs).take (i + 1)).map (mkE (cks zs)) = ((its xs).take i).map (mkE (cks zs)) ++ [mkE (cks zs) xs[i].1] := by rw [List.take_succ_eq_append_getElem hlt', List.map_append, hg]; rfl
      refine I.skip ?_
      refine I.nThen ?_
      refine I.seq ?_
      refine I.block ?_
      refine I.seq ?_
      refine I.region kr (by rintro ⟨_, _, h⟩; first | exact h | exact noOut h) ?_
      refine G.op rfl (G.val rfl rfl (pv_ixSl (sz := 6) (k := i) Tryz.underlying26 kr rfl rfl (by first | with_reducible assumption | assumption | exact fun _ => rfl) (by omega) (by omega)) ?_)
      refine G.op rfl (G.val rfl rfl (pv_loadN (cs := [_, _, _, _, _, _]) Tryz.underlying80 rfl kr rfl (by first | exact blk_range (k := 6) selD (by rfl) | exact ro_rng0 (by assumption) | exact rng_range (k := 6) selD (by rfl) | exact ro_range (k := 6) (by assumption) (by rfl) | exact ro_rngR (k := 6) (by assumption) (by rfl))) ?_)
      refine G.op rfl (G.alloc (z := .agg #[.string ⟨#[]⟩, .int .i64 0, .int .i64 0, .int .i64 0, .string ⟨#[]⟩, .slice none 0 0]) (cs := [.string ⟨#[]⟩, .int .i64 0, .int .i64 0, .int .i64 0, .string ⟨#[]⟩, .slice none 0 0]) rfl kr rfl ?_)
      intro b13
      refine G.op rfl (G.storeN kr rfl rfl allT selT leT ?_)
      refine I.nil ?_
      refine I.nThen ?_
      refine I.seq ?_
      refine I.region kr (by rintro ⟨_, _, h⟩; first | exact h | exact noOut h) ?_
      refine G.op rfl (G.val rfl rfl (pv_fieldAddrK (sz := 0) (k := 0) Tryz.underlying80 rfl kr rfl rfl) ?_)
      refine G.op rfl (G.val rfl rfl (pv_load Tryz.underlying9 rfl rfl celT) ?_)
      refine G.op rfl (G.val rfl rfl (pv_fieldAddrK (sz := 0) (k := 1) Tryz.underlying80 rfl kr rfl rfl) ?_)
      refine G.op rfl (G.val rfl rfl (pv_load Tryz.underlying3 rfl rfl celT) ?_)
      refine G.op rfl (G.val rfl rfl (pv_fieldAddrK (sz := 0) (k := 2) Tryz.underlying80 rfl kr rfl rfl) ?_)
      refine G.op rfl (G.val rfl rfl (pv_load Tryz.underlying3 rfl rfl celT) ?_)
      refine G.op rfl (G.val rfl rfl (pv_fieldAddrK (sz := 0) (k := 4) Tryz.underlying80 rfl kr rfl rfl) ?_)
      refine G.op rfl (G.val rfl rfl (pv_load Tryz.underlying9 rfl rfl celT) ?_)
      refine G.op rfl (G.val rfl rfl (pv_buildSt (z := [.string ⟨#[]⟩, .int .i64 0, .int .i64 0, .slice none 0 0, .string ⟨#[]⟩]) (pl := [(0, 1), (1, 1), (2, 1), (3, 1), (4, 1)]) Tryz.underlying68 kr kr rfl flT) ?_)
      refine G.op rfl (G.alloc (z := .agg #[.string ⟨#[]⟩, .int .i64 0, .int .i64 0, .slice none 0 0, .string ⟨#[]⟩]) (cs := [.string ⟨#[]⟩, .int .i64 0, .int .i64 0, .slice none 0 0, .string ⟨#[]⟩]) rfl kr rfl ?_)
      intro b14
      refine G.op rfl (G.storeN kr rfl rfl allT selT leT ?_)
      refine I.nil ?_
      refine I.nThen ?_
      refine I.seq ?_
      refine I.seq ?_
      refine I.region kr (by rintro ⟨_, _, h⟩; first | exact h | exact noOut h) ?_
      refine G.op rfl (G.val rfl rfl (pv_fieldAddrK (sz := 0) (k := 5) Tryz.underlying80 rfl kr rfl rfl) ?_)
      refine G.op rfl (G.val rfl rfl (pv_load Tryz.underlying60 rfl rfl celT) ?_)
      refine G.op rfl (G.val rfl rfl (pv_lenSl Tryz.underlying60 rfl) ?_)
      refine G.mvT rfl rfl ?_
      refine I.nil ?_
      refine I.nThen ?_
      refine I.block ?_
      refine G.ownBNil 5 ?_
      refine I.loopK (X := Nat × Value) (ts := [8, 11, 13, 14, 38, 39, 40, 54, 55]) (fun st => st.1 ≤ xs[i].1.ids.length ∧ (∀ r (hr : r < xs[i].1.ids.length), r < st.1 → (foundM (cks zs) xs[i].1.ids[r]).2 = 0)) (fun st => [(56, .int .i64 (st.1 : Int))]) (fun st => [blk b14 68 [.string (sB xs[i].1.path), .int .i64 xs[i].1.kind, .int .i64 xs[i].1.mode, st.2, .string (sB xs[i].1.to)], ownB 5 st.2 (datOf (cks zs) (xs[i].1.ids.take st.1))]) (fun st => xs[i].1.ids.length - st.1) (x0 := (0, .slice none 0 0)) (.cons rfl (.cons rfl (.cons rfl (.cons rfl (.cons rfl (.cons rfl (.cons rfl (.cons rfl (.cons rfl .nil))))))))) subT (.cons .nil) apT (by first | exact trivial | ((try dsimp only) <;> exact ⟨Nat.zero_le _, fun r hr h => absurd h (by omega)⟩)) (.consE rfl veqT .nil) (fun st hJ => ?_)
      obtain ⟨q, vD⟩ := st
      try dsimp only at hJ
      try dsimp only
      obtain ⟨hkq, hJ⟩ := hJ
      have hJq := hJ
      refine I.seq ?_
      refine I.region kr (by rintro ⟨_, _, h⟩; first | exact h | exact noOut h) ?_
      refine G.op rfl (G.val rfl rfl (pv_lss rfl rfl) ?_)
      refine I.nil ?_
      refine I.nThen ?_
      refine I.seq ?_
      refine I.condP rfl (fun h57 => ?_) (fun h57 => ?_)
      · have hlq : q < xs[i].1.ids.length := by omega
        obtain ⟨lq, rq⟩ := Ro.arr8 (helD q hlq)
        have hdt := datOf_take (cks zs) hlq
        have hdl := datOf_len (cks zs) (fun id => found_len hd id) (xs[i].1.ids.take q)
        have hqt : (xs[i].1.ids.take q).length ≤ q := List.length_take_le _ _
        refine I.skip ?_
        refine I.nThen ?_
        refine I.seq ?_
        refine I.block ?_
        refine I.seq ?_
        refine I.region kr (by rintro ⟨_, _, h⟩; first | exact h | exact noOut h) ?_
        refine G.op rfl (G.val rfl rfl (pv_ixSl (sz := 16) (k := q) Tryz.underlying60 kr rfl rfl hadD rfl (by omega)) ?_)
        refine G.op rfl (G.val rfl rfl (pv_loadN (cs := xs[i].1.ids[q].map vByte) Tryz.underlying66 rfl (by rw [List.length_map, lq]; kernel_rfl) rfl rq) ?_)
        refine G.op rfl (G.alloc (z := .agg #[.int .u8 0, .int .u8 0, .int .u8 0, .int .u8 0, .int .u8 0, .int .u8 0, .int .u8 0, .int .u8 0, .int .u8 0, .int .u8 0, .int .u8 0, .int .u8 0, .int .u8 0, .int .u8 0, .int .u8 0, .int .u8 0]) (cs := [.int .u8 0, .int .u8 0, .int .u8 0, .int .u8 0, .int .u8 0, .int .u8 0, .int .u8 0, .int .u8 0, .int .u8 0, .int .u8 0, .int .u8 0, .int .u8 0, .int .u8 0, .int .u8 0, .int .u8 0, .int .u8 0]) rfl kr rfl ?_)
        intro b16
        refine G.op rfl (G.storeN (by rw [List.length_map, lq]; kernel_rfl) rfl rfl (List.all_eq_true.2 (vByte_one _)) selT (by simp [lq]) ?_)
        rw [putN_whole _ _ (by rw [List.length_map, lq]; rfl)]
        refine I.nil ?_
        refine I.nThen ?_
        refine I.seq ?_
        refine I.region kr (by rintro ⟨_, _, h⟩; first | exact h | exact noOut h) ?_
        refine G.op rfl (G.val rfl rfl (pv_load Tryz.underlying97 rfl rfl celT) ?_)
        refine G.op rfl (G.val rfl rfl (pv_loadN (cs := xs[i].1.ids[q].map vByte) Tryz.underlying66 rfl (by rw [List.length_map, lq]; kernel_rfl) rfl (blk_range (k := 16) selT (List.take_of_length_le (by rw [List.drop_zero, List.length_map, lq]; exact Nat.le_refl _)))) ?_)
        refine G.op rfl (G.val rfl rfl ((pv_mapGet (f := vID) (ok := ok16) (x := xs[i].1.ids[q]) (z := .slice none 0 0) (xs := l) keyI Tryz.underlying97 (fun w => by kernel_rfl) rfl rfl lq (sel_map selT)).cast (got_look hal _)) ?_)
        refine G.mvT rfl rfl ?_
        refine G.op rfl (G.val rfl rfl (pv_extract rfl rfl) ?_)
        refine G.op rfl (G.val rfl rfl (pv_extract rfl rfl) ?_)
        refine G.asT rfl rfl ?_
        refine G.asT rfl rfl ?_
        refine I.nil ?_
        refine I.nThen ?_
        refine I.seq ?_
        refine I.block ?_
        refine I.seq ?_
        refine I.region kr (by rintro ⟨_, _, h⟩; first | exact h | exact noOut h) ?_
        refine G.mvT rfl rfl ?_
        refine G.op rfl (G.val rfl rfl (pv_not rfl) ?_)
        refine G.asT rfl rfl ?_
        refine I.nil ?_
        refine I.nThen ?_
        refine I.cond rfl (fun h66 => ?_) (fun h66 => ?_)
        · have hfm := got_none (show gotB zs xs[i].1.ids[q] = false by simpa using h66)
          refine I.seq ?_
          refine I.region kr (by rintro ⟨_, _, h⟩; first | exact h | exact noOut h) ?_
          refine G.asT rfl rfl ?_
          refine G.asT rfl rfl ?_
          refine I.nil ?_
          refine I.nThen ?_
          refine I.ret ?_
          refine I.rBlock ?_
          refine I.rThen ?_
          refine I.rBlock ?_
          refine I.rThen ?_
          refine I.rThen ?_
          refine I.rBlock ?_
          refine I.rThen ?_
          refine I.rBlock ?_
          refine I.rThen ?_
          refine I.rThen ?_
          refine I.rBlock ?_
          refine I.rThen ?_
          rw [buildM_bad (e := 6) hc0 hlt' herr (by rw [hg]; exact (errIt_bad hlq (fun r hr hrq => hJq r hr hrq) (by rw [hfm]; decide)).trans (by rw [hfm])) (by decide)]
          refine G.ownNil 68 5 ?_
          refine G.datNil 5 ?_
          exact I.doneM ((.slice none 0 0, [])) (by first | exact trivial | ((try dsimp only) <;> exact rfl)) rfl (by (repeat (first | with_reducible exact Sel.here | exact Sel.here | apply Sel.there))) (Rv.tmp rfl (Rv.tmp rfl Rv.nil)) rfl subT
        obtain ⟨j, hj, hgv, hfm⟩ := got_some (show gotB zs xs[i].1.ids[q] = true by simpa using h66)
        rw [hgv]
        have hDz := Ro.ckDat (helz j hj)
        have hdz := hd _ (List.getElem_mem hj)
        have hnl := nameM_len zs[j].1.2
        refine I.seq ?_
        refine I.drawN (nn := 5) (p := []) (rem := 31) [0, 1, 0, 6, 10] [0, 1, 0, 6, 8] kr kr ⟨rfl, by kernel_rfl, by kernel_rfl⟩ subT kr (fun hT19 => ?_)
        refine G.takeT hT19 (i := 0) (rem' := 30) rfl rfl rfl kr (fun _ _ _ h => h) rfl (pv_move rfl) subT ?_
        refine G.takeT hT19 (i := 2) (rem' := 26) rfl rfl rfl kr (fun _ _ _ h => h) rfl (pv_loadN (cs := xs[i].1.ids[q].map vByte) Tryz.underlying66 rfl (by rw [List.length_map, lq]; kernel_rfl) rfl (blk_range (k := 16) selT (List.take_of_length_le (by rw [List.drop_zero, List.length_map, lq]; exact Nat.le_refl _)))) subT ?_
        refine G.oneT hT19 (i := 1) (rem' := 24) kr kr ?_
        refine G.turnOp rfl rfl (G.cR rfl rfl rfl rfl Tryz.func63 rfl rfl (may1 (.old hDz)) (name_tr _ zs[j].1.2 (by omega)) ?_)
        refine G.back subT ?_
        refine G.takeT hT19 (i := 3) (rem' := 16) rfl rfl rfl kr (fun _ _ _ h => h) rfl ((pv_neqAr8 (a := nameM zs[j].1.2) (b := xs[i].1.ids[q]) Tryz.underlying66 rfl kr Tryz.underlying5 kr rfl rfl hnl lq).cast (v' := .bool (decide (nameM zs[j].1.2 ≠ xs[i].1.ids[q]))) (neq_list _ _)) subT ?_
        refine G.takeT hT19 (i := 4) (rem' := 0) rfl rfl rfl kr (fun _ _ _ h => h) rfl (pv_assign rfl) subT ?_
        refine I.overN hT19 kr ?_
        refine I.nThen ?_
        refine I.condP rfl (fun h69 => ?_) (fun h69 => ?_)
        · rw [if_neg (by assumption)] at hfm
          refine I.seq ?_
          refine I.region kr (by rintro ⟨_, _, h⟩; first | exact h | exact noOut h) ?_
          refine G.asT rfl rfl ?_
          refine G.asT rfl rfl ?_
          refine I.nil ?_
          refine I.nThen ?_
          refine I.ret ?_
          refine I.rBlock ?_
          refine I.rThen ?_
          refine I.rBlock ?_
          refine I.rThen ?_
          refine I.rThen ?_
          refine I.rBlock ?_
          refine I.rThen ?_
          refine I.rBlock ?_
          refine I.rThen ?_
          refine I.rThen ?_
          refine I.rBlock ?_
          refine I.rThen ?_
          rw [buildM_bad (e := 11) hc0 hlt' herr (by rw [hg]; exact (errIt_bad hlq (fun r hr hrq => hJq r hr hrq) (by rw [hfm]; decide)).trans (by rw [hfm])) (by decide)]
          refine G.ownNil 68 5 ?_
          refine G.datNil 5 ?_
          exact I.doneM ((.slice none 0 0, [])) (by first | exact trivial | ((try dsimp only) <;> exact rfl)) rfl (by (repeat (first | with_reducible exact Sel.here | exact Sel.here | apply Sel.there))) (Rv.tmp rfl (Rv.tmp rfl Rv.nil)) rfl subT
        rw [if_pos (Decidable.of_not_not (by assumption))] at hfm
        have hfz : (foundM (cks zs) xs[i].1.ids[q]).2 = 0 := by rw [hfm]
        have hff : (foundM (cks zs) xs[i].1.ids[q]).1 = zs[j].1.2 := by rw [hfm]
        rw [hff] at hdt
        refine G.ownBFact (v := vD) selT (fun hvD1 => ?_)
        refine I.skip ?_
        refine I.nBlock ?_
        refine I.nThen ?_
        refine I.region kr (by rintro ⟨_, _, h⟩; first | exact h | exact noOut h) ?_
        refine G.op rfl (G.val rfl rfl (pv_fieldAddrK (sz := 0) (k := 3) Tryz.underlying68 rfl kr rfl rfl) ?_)
        refine G.op rfl (G.val rfl rfl (pv_load Tryz.underlying39 rfl rfl celT) ?_)
        refine G.mvT rfl rfl ?_
        refine G.op rfl (G.appendB (xs := (datOf (cks zs) (xs[i].1.ids.take q))) (ys := zs[j].1.2) (Ps := Pz) rfl Tryz.underlying39 Tryz.infoByte rfl rfl selT (ro_sl hDz) (by omega) (by omega) ?_)
        intro x77
        rw [← hdt]
        refine G.ownBFact (v := x77) selT (fun hx77 => ?_)
        refine G.op rfl (G.val rfl rfl (pv_fieldAddrK (sz := 0) (k := 3) Tryz.underlying68 rfl kr rfl rfl) ?_)
        refine G.op rfl (G.store kr rfl rfl eqT selT leT ?_)
        refine I.nil ?_
        refine I.nBlock ?_
        refine I.nThen ?_
        refine I.region kr (by rintro ⟨_, _, h⟩; first | exact h | exact noOut h) ?_
        refine G.op rfl (G.val rfl rfl (pv_add64 rfl rfl (by omega)) ?_)
        refine G.mvT rfl rfl ?_
        refine I.nil ?_
        exact I.next ((q + 1, x77)) (by first | exact trivial | ((try dsimp only) <;> exact ⟨by omega, fun r hr hrq => by rcases Nat.lt_or_ge r q with h1 | h1; exact hJq r hr h1; obtain rfl : r = q := (by omega); exact hfz⟩)) (by (try dsimp only); omega) (.consE rfl veqT (.cons rfl (.cons rfl (.cons rfl (.cons rfl (.cons rfl (.cons rfl (.cons rfl (.cons rfl (.cons rfl .nil)))))))))) subT
      obtain rfl : q = xs[i].1.ids.length := by omega
      have hall := hJq
      rw [List.take_length]
      have hdl := datOf_len (cks zs) (fun id => found_len hd id) xs[i].1.ids
      refine G.ownBSl (v := vD) selT (fun adD capD hvD => ?_)
      subst hvD
      refine I.exit ?_
      refine I.eThen ?_
      refine I.eThen ?_
      refine I.eBlock ?_
      refine I.nThen ?_
      refine I.seq ?_
      refine I.seq ?_
      refine I.region kr (by rintro ⟨_, _, h⟩; first | exact h | exact noOut h) ?_
      refine G.op rfl (G.val rfl rfl (pv_fieldAddrK (sz := 0) (k := 3) Tryz.underlying68 rfl kr rfl rfl) ?_)
      refine G.op rfl (G.val rfl rfl (pv_load Tryz.underlying39 rfl rfl celT) ?_)
      refine G.op rfl (G.val rfl rfl (pv_lenSl Tryz.underlying39 rfl) ?_)
      refine G.op rfl (G.val rfl rfl (pv_fieldAddrK (sz := 0) (k := 3) Tryz.underlying80 rfl kr rfl rfl) ?_)
      refine G.op rfl (G.val rfl rfl (pv_load Tryz.underlying3 rfl rfl celT) ?_)
      refine G.op rfl (G.val rfl rfl (pv_neq rfl rfl) ?_)
      refine I.nil ?_
      refine I.nThen ?_
      refine I.condP rfl (fun h85 => ?_) (fun h85 => ?_)
      · refine I.seq ?_
        refine I.region kr (by rintro ⟨_, _, h⟩; first | exact h | exact noOut h) ?_
        refine G.asT rfl rfl ?_
        refine G.asT rfl rfl ?_
        refine I.nil ?_
        refine I.nThen ?_
        refine I.ret ?_
        refine I.rThen ?_
        refine I.rBlock ?_
        refine I.rThen ?_
        refine I.rThen ?_
        refine I.rBlock ?_
        refine I.rThen ?_
        rw [buildM_bad (e := 4) hc0 hlt' herr (by rw [hg]; exact errIt_size (fun r hr => hall r hr (by omega)) (by assumption)) (by decide)]
        refine G.ownNil 68 5 ?_
        refine G.datNil 5 ?_
        exact I.doneM ((.slice none 0 0, [])) (by first | exact trivial | ((try dsimp only) <;> exact rfl)) rfl (by (repeat (first | with_reducible exact Sel.here | exact Sel.here | apply Sel.there))) (Rv.tmp rfl (Rv.tmp rfl Rv.nil)) rfl subT
      have hok1 : errIt (cks zs) (its xs)[i] = 0 := by rw [hg]; exact errIt_ok (fun r hr => hall r hr (by omega)) (by omega)
      obtain ⟨en, hen⟩ : ∃ c, mkE (cks zs) xs[i].1 = c := ⟨_, rfl⟩
      rw [show blk b14 68 [.string (sB xs[i].1.path), .int .i64 xs[i].1.kind, .int .i64 xs[i].1.mode, (.slice adD (datOf (cks zs) xs[i].1.ids).length capD), .string (sB xs[i].1.to)] = blk b14 68 (evC (en, .slice adD (datOf (cks zs) xs[i].1.ids).length capD)) from by rw [← hen]; rfl, show ownB 5 (.slice adD (datOf (cks zs) xs[i].1.ids).length capD) (datOf (cks zs) xs[i].1.ids) = ownB 5 (.slice adD (datOf (cks zs) xs[i].1.ids).length capD) en.data from by rw [← hen]; rfl]
      obtain ⟨dv, hdv⟩ : ∃ c, Value.slice adD (datOf (cks zs) xs[i].1.ids).length capD = c := ⟨_, rfl⟩
      have hone : dv.oneCell' = true := by rw [← hdv]; rfl
      rw [hdv]
      refine I.skip ?_
      refine I.nThen ?_
      refine I.region kr (by rintro ⟨_, _, h⟩; first | exact h | exact noOut h) ?_
      refine G.mvT rfl rfl ?_
      refine G.op rfl (G.val rfl rfl (pv_loadN (cs := evC (en, dv)) Tryz.underlying68 rfl kr rfl (blk_range (k := 5) selT rfl)) ?_)
      refine G.op rfl (G.buildSlice (z := .agg #[.string ⟨#[]⟩, .int .i64 0, .int .i64 0, .slice none 0 0, .string ⟨#[]⟩]) (sz := 5) (cs := evC (en, dv)) rfl Tryz.underlying22 kr (by decide) (by decide) rfl kr ?_)
      intro b88
      rw [show ownT 68 vw ys = own 68 5 vw ys.length (flatT ys) from rfl]
      refine G.op rfl (G.append (k := ys.length) (j := 1) (cs := flatT ys) (news := evC (en, dv)) (b := b88) (off := 0) rfl Tryz.underlying22 Tryz.infoEn' rfl rfl rfl selT (fun _ => rfl) (fun h => by cases h) rfl (blk_news (k := 5) selT rfl) (evC_one9 hone) (by omega) (by omega) ?_)
      intro vn
      rw [show flatT ys ++ evC (en, dv) = flatT (ys ++ [(en, dv)]) from by rw [flatT_app, flatT_one], show ys.length + 1 = (ys ++ [(en, dv)]).length from by rw [List.length_append]; rfl]
      refine G.datSnoc (ys := ys) (x := (en, dv)) selT selT ?_
      refine G.ownFact (v := vn) selT (fun hvn _ => ?_)
      refine G.asT rfl rfl ?_
      refine I.nil ?_
      refine I.nBlock ?_
      refine I.nThen ?_
      refine I.region kr (by rintro ⟨_, _, h⟩; first | exact h | exact noOut h) ?_
      refine G.op rfl (G.val rfl rfl (pv_add64 rfl rfl (by omega)) ?_)
      refine G.mvT rfl rfl ?_
      refine I.nil ?_
      exact I.next ((i + 1, (vn, ys ++ [(en, dv)]))) (by first | exact trivial | ((try dsimp only) <;> exact ⟨by omega, ⟨by rw [ens_snoc9, hys, hmk, hen], fun r hr hri => by rcases Nat.lt_or_ge r i with h1 | h1; exact herr r hr h1; obtain rfl : r = i := (by omega); exact hok1, by rw [List.length_append, hyl]; rfl⟩⟩)) (by (try dsimp only); omega) (.consE rfl veqT (.consE rfl veqT (.cons rfl (.cons rfl (.cons rfl .nil))))) subT
    obtain rfl : i = xs.length := by omega
    rw [← hel', List.take_length] at hys
    refine I.exit ?_
    refine I.eThen ?_
    refine I.eThen ?_
    refine I.eBlock ?_
    refine I.nThen ?_
    refine I.seq ?_
    refine I.region kr (by rintro ⟨_, _, h⟩; first | exact h | exact noOut h) ?_
    refine G.mvT rfl rfl ?_
    refine G.asT rfl rfl ?_
    refine G.asT rfl rfl ?_
    refine I.nil ?_
    refine I.nThen ?_
    refine I.ret ?_
    rw [buildM_ok hc0 (fun q hq => herr q hq (by omega))]
    exact I.doneM ((vw, ys)) (by first | exact trivial | ((try dsimp only) <;> exact hys)) rfl (by (repeat (first | with_reducible exact Sel.here | exact Sel.here | apply Sel.there))) (Rv.tmp rfl (Rv.tmp rfl Rv.nil)) rfl subT
  intro D i l hle hJ
  try dsimp only at hJ
  try dsimp only
  obtain ⟨h, _⟩ := hJ
  cases h
end Go.Proofs.YtbfpbibkklfnfaaGreat

set_option linter.unusedVariables false
set_option linter.unusedSimpArgs false
namespace Go.Proofs.YtbfpbibkklfnfaaGreat
open Go.RowKit
def nA : En := ⟨[97], 1, 0, [], []⟩
def nB : En := ⟨[97, 47, 98], 2, 0, [120], []⟩
def sam9E : List En := [nA, nB]
def sam9T (b : Nat) : List ET := [(nA, .slice none 0 0), (nB, .slice (some ⟨b, 0, none⟩) 1 1)]
def sam9B (b : Nat) : Ck := slc rByte (· = b) (.slice (some ⟨b, 0, none⟩) 1 1) [120]
theorem nil_sl9 {α : Type} (E : Rdr α) (Ps : Nat → Prop) (w : World) : IsSl E Ps w (.slice none 0 0) [] := ⟨none, 0, 0, 0, rfl, Nat.le_refl _, by omega, fun _ => rfl, fun h => by simp at h, fun i hi => by simp at hi⟩
theorem sam9_dat {b : Nat} {w : World} (h : (sam9B b).φ w) : ∀ x ∈ sam9T b, IsSl rByte (sam9B b).S w x.2 x.1.data := fun x hx => by
  have : x = (nA, .slice none 0 0) ∨ x = (nB, .slice (some ⟨b, 0, none⟩) 1 1) := by simpa [sam9T] using hx
  rcases this with rfl | rfl
  · exact nil_sl9 _ _ _
  exact h
theorem sam9_ok {b : Nat} : ∀ x ∈ sam9T b, EnOk x.1 := fun x hx => by
  have : x = (nA, .slice none 0 0) ∨ x = (nB, .slice (some ⟨b, 0, none⟩) 1 1) := by simpa [sam9T] using hx
  rcases this with rfl | rfl
  · exact (show EnOk nA from ⟨⟨by decide, by decide⟩, ⟨by decide, by decide⟩, by decide, by decide, by decide⟩)
  exact (show EnOk nB from ⟨⟨by decide, by decide⟩, ⟨by decide, by decide⟩, by decide, by decide, by decide⟩)
theorem sam9_small (b : Nat) : ∀ x ∈ sam9T b, x.1.data.length ≤ 10000 := fun x hx => by
  have : x = (nA, .slice none 0 0) ∨ x = (nB, .slice (some ⟨b, 0, none⟩) 1 1) := by simpa [sam9T] using hx
  rcases this with rfl | rfl
  · exact Nat.zero_le _
  show 1 ≤ 10000
  decide
section
variable {P : Program} {n : Nat} {w0 : World} {S : Nat → Prop} {l : Fr} {m : List Ck} {Q : Exit → Act → World → Prop} {K : Act → World → Prop}
theorem may_tree9 {e : TypeId} {c : Ck} {v : Value} {xs : List ET} {r r' : List Ck} (h : Sel m (ownT e v xs) r) (h' : Sel m c r') (hok : ∀ x ∈ xs, EnOk x.1) (hd : ∀ w, c.φ w → ∀ x ∈ xs, IsSl rByte c.S w x.2 x.1.data) : May w0 S m (slc rEV (fun b => v.ownBlock = some b ∨ c.S b) v xs) :=
  .mix (fun w hw => ownT_sl (hw.holds _ h.mem) (fun b hb => .inl hb) hok fun x hx => (hd w (hw.holds _ h'.mem) x hx).mono fun k hk => .inr hk) fun b hb => .inr (by
    rcases hb with hb | hb
    · exact ⟨_, h.mem, hb⟩
    exact ⟨_, h'.mem, hb⟩)
theorem may_datD {e : TypeId} {xs : List CT} {r : List Ck} (h : Sel m (datD e xs) r) {x : CT} (hx : x ∈ xs) : May w0 S m (slc rByte (datD e xs).S x.2 x.1.2) :=
  .view h.mem (fun w hw => datD_sl hw _ hx) fun b hb => hb
end
def a9 : Mh := ⟨1, 2, 0, 3⟩
def n9 : List UInt8 := nameM [120]
def sam9M : List It := [⟨[97], 1, 0, 0, [], []⟩, ⟨[97, 47, 98], 2, 0, 1, [], [n9]⟩]
theorem mk9 : mkM a9 sam9E = ((a9, sam9M), [(n9, [120])], 0) := by kernel_rfl
theorem bd9 : buildM a9 sam9M [(n9, [120])] = (sam9E, 0) := by kernel_rfl
def small9 (x : UInt8) : List UInt8 := [1, 2, 0, 3, 1, 1, x, 1, 0, 0, 0, 0]
theorem rd9 : rdM ((small9 97).take 11) = ((mh0, []), (4, 11)) := by kernel_rfl
theorem n9_len : n9.length = 16 := nameM_len _
theorem it9_ok {ms : List IT} (h : its ms = sam9M) : ∀ x ∈ ms, (ItOk x.1 ∧ all16 x.1.ids) ∧ x.1.ids.length ≤ 100000 := fun x hx => by
  have h1 : x.1 ∈ its ms := List.mem_map.2 ⟨x, hx, rfl⟩
  rw [h] at h1
  simp only [sam9M, List.mem_cons, List.not_mem_nil, or_false] at h1
  rcases h1 with h1 | h1
  · rw [h1]
    exact ⟨⟨⟨⟨by decide, by decide⟩, ⟨by decide, by decide⟩, ⟨by decide, by decide⟩, by decide, by decide, by decide⟩, fun y hy => by cases hy⟩, by decide⟩
  rw [h1]
  refine ⟨⟨⟨⟨by decide, by decide⟩, ⟨by decide, by decide⟩, ⟨by decide, by decide⟩, by decide, by decide, by decide⟩, fun y hy => ?_⟩, by decide⟩
  obtain rfl : y = n9 := by simpa using hy
  exact n9_len
theorem ck9 {ks : List CT} (h : cks ks = [(n9, [120])]) : ∃ u, ks = [((n9, [120]), u)] := by
  have hl : ks.length = 1 := by have := congrArg List.length h; simpa [cks] using this
  obtain ⟨x, rfl⟩ := List.length_eq_one_iff.1 hl
  have h2 : x.1 = (n9, [120]) := by simpa [cks] using h
  exact ⟨x.2, by rw [← h2]⟩
theorem ok_ens9 {xs ys : List ET} (h : ens xs = ens ys) (hy : ∀ x ∈ ys, EnOk x.1) : ∀ x ∈ xs, EnOk x.1 := fun x hx => by
  have h1 : x.1 ∈ ens xs := List.mem_map.2 ⟨x, hx, rfl⟩
  rw [h] at h1
  obtain ⟨y, hy2, e⟩ := List.mem_map.1 h1
  rw [← e]
  exact hy y hy2
theorem sameT9 {Ps Pu : Nat → Prop} (v u : Value) (xs ys : List ET) (h : ens xs = ens ys) : Tr Tryz.prog 17 #[v, u] [slc rEV Ps v xs, slc rEV Pu u ys] [] (T0 (.bool true)) := by
  have := sameTree_tr (Ps := Ps) (Pu := Pu) v u xs ys
  rwa [decide_eq_true h] at this
set_option maxRecDepth 20000 in
set_option maxHeartbeats 4000000 in
theorem sample9_tr : Tr Tryz.prog 41 #[] [] [] (TX (fun _ : Nat × Nat => True) (fun z => .slice (some ⟨z.1, 0, none⟩) 2 2) (fun z => [ownT 68 (.slice (some ⟨z.1, 0, none⟩) 2 2) (sam9T z.2), sam9B z.2])) := by
  refine Tr.of (l := []) Tryz.func41 rfl (n := 6) rfl Fa.nil (fun w0 hro => ?_)
  refine G.seq (G.region ?_)
  refine G.asT rfl rfl ?_
  refine G.nil ?_
  refine G.nThen (G.seq (G.region ?_))
  refine G.op rfl (G.val rfl rfl (pv_buildSt (z := [.string ⟨#[]⟩, .int .i64 0, .int .i64 0, .slice none 0 0, .string ⟨#[]⟩]) (pl := [(0, 1), (1, 1), (2, 1), (3, 1), (4, 1)]) Tryz.underlying68 kr kr rfl flT) ?_)
  refine G.op rfl (G.lit1 (vs := [.int .u8 120]) rfl Tryz.underlying39 kr rfl (by decide) (by decide) rfl rfl ?_)
  intro b2
  refine G.op rfl (G.constB (b := b2) (xs := [120]) rfl Tryz.underlying39 Tryz.underlying5 rfl (by decide) selT ?_)
  refine G.op rfl (G.val rfl rfl (pv_buildSt (z := [.string ⟨#[]⟩, .int .i64 0, .int .i64 0, .slice none 0 0, .string ⟨#[]⟩]) (pl := [(0, 1), (1, 1), (2, 1), (3, 1), (4, 1)]) Tryz.underlying68 kr kr rfl flT) ?_)
  refine G.op rfl (G.buildSlice (z := .agg #[.string ⟨#[]⟩, .int .i64 0, .int .i64 0, .slice none 0 0, .string ⟨#[]⟩]) (sz := 5) (cs := flatT (sam9T b2)) rfl Tryz.underlying22 kr (by decide) (by decide) rfl kr ?_)
  intro b5
  refine G.ownBlk (b := b5) (k := 2) (sz := 5) selT rfl (by omega) ?_
  refine G.asT rfl rfl ?_
  refine G.nil ?_
  refine G.nThen ?_
  refine G.ret ?_
  exact G.doneX1 ((b5, b2)) trT rfl rfl rfl subT
set_option maxRecDepth 20000 in
set_option maxHeartbeats 4000000 in
theorem small9_tr (x : UInt8) : Tr Tryz.prog 43 #[.int .u8 (x.toNat : Int)] [] [] (TX (fun _ : Nat => True) (fun b => .slice (some ⟨b, 0, none⟩) 12 12) (fun b => [blk b 5 ((small9 x).map vByte)])) := by
  refine Tr.of (l := [(0, .int .u8 (x.toNat : Int))]) Tryz.func43 rfl (n := 5) rfl (.cons rfl .nil) (fun w0 hro => ?_)
  refine G.seq (G.region ?_)
  refine G.asT rfl rfl ?_
  refine G.nil ?_
  refine G.nThen (G.seq (G.region ?_))
  refine G.mvT rfl rfl ?_
  refine G.op rfl (G.lit1 (vs := (small9 x).map vByte) rfl Tryz.underlying39 kr rfl (by decide) (by decide) rfl rfl ?_)
  intro b4
  refine G.asT rfl rfl ?_
  refine G.nil ?_
  refine G.nThen ?_
  refine G.ret ?_
  exact G.doneX1 (b4) trT rfl rfl (by first | rfl | exact int_eq (by omega) | (simp; done)) subT
set_option maxRecDepth 20000 in
set_option maxHeartbeats 4000000 in
theorem fails9 {Pv : Nat → Prop} (v : Value) (b : List UInt8) (e p : Int) (hb : b.length ≤ 1000000000) (h : (rdM b).2 = (e, p)) : Tr Tryz.prog 42 #[v, .int .i64 e, .int .i64 p] [slc rByte Pv v b] [] (T0 (.bool true)) := by
  refine Tr.of (l := [(0, v), (1, .int .i64 e), (2, .int .i64 p)]) Tryz.func42 rfl (n := 19) rfl (.cons rfl (.cons rfl (.cons rfl .nil))) (fun w0 hro => ?_)
  have hv := ro1 hro
  refine G.seq (G.region ?_)
  refine G.asT rfl rfl ?_
  refine G.nil ?_
  refine G.nThen (G.seq (G.region ?_))
  refine G.mvT rfl rfl ?_
  refine G.op rfl (G.cS rfl rfl rfl rfl Tryz.func19 rfl rfl subT (may1 (.old hv)) (mread_tr _ b hb) apT ?_)
  intro x11 hJ
  obtain ⟨mv, ms⟩ := x11
  try dsimp only at hJ
  try dsimp only
  rw [h]
  refine G.ownFact (v := mv) selT (fun hmv _ => ?_)
  refine G.mvT rfl rfl ?_
  refine G.op rfl (G.val rfl rfl (pv_extract rfl rfl) ?_)
  refine G.op rfl (G.val rfl rfl (pv_extract rfl rfl) ?_)
  refine G.op rfl (G.alloc (z := .agg #[.int .i64 0, .int .i64 0, .int .i64 0, .int .i64 0, .slice none 0 0]) (cs := [.int .i64 0, .int .i64 0, .int .i64 0, .int .i64 0, .slice none 0 0]) rfl kr rfl ?_)
  intro b7
  refine G.op rfl (G.alloc (z := .agg #[.int .i64 0, .int .i64 0]) (cs := [.int .i64 0, .int .i64 0]) rfl kr rfl ?_)
  intro b8
  refine G.op rfl (G.storeN kr rfl rfl allT selT leT ?_)
  refine G.op rfl (G.storeN kr rfl rfl allT selT leT ?_)
  refine G.nil ?_
  refine G.nThen (G.seq (G.region ?_))
  refine G.op rfl (G.val rfl rfl (pv_loadN (cs := [_, _]) Tryz.underlying42 rfl kr rfl (by first | exact blk_range (k := 2) selD (by rfl) | exact ro_rng0 (by assumption) | exact rng_range (k := 2) selD (by rfl) | exact ro_range (k := 2) (by assumption) (by rfl) | exact ro_rngR (k := 2) (by assumption) (by rfl))) ?_)
  refine G.mvT rfl rfl ?_
  refine G.mvT rfl rfl ?_
  refine G.op rfl (G.val rfl rfl (pv_buildSt (z := [.int .i64 0, .int .i64 0]) (pl := [(0, 1), (1, 1)]) Tryz.underlying42 kr kr rfl flT) ?_)
  refine G.op rfl (G.val rfl rfl ((pv_eqlSt (xs := [.int .i64 e, .int .i64 p]) (ys := [.int .i64 e, .int .i64 p]) (r := decide ((e : Int) = e) && (decide ((p : Int) = p) && true)) Tryz.underlying42 kr kr rfl rfl kr).cast (v' := .bool true) (congrArg Value.bool (by simp))) ?_)
  refine G.asT rfl rfl ?_
  refine G.nil ?_
  refine G.nThen ?_
  refine G.ret ?_
  exact G.done0G rfl (Rv.tmp rfl Rv.nil) (by first | rfl | exact int_eq (by omega) | (simp; done))
set_option maxRecDepth 20000 in
set_option maxHeartbeats 4000000 in
theorem awake9_tr : Tr Tryz.prog 9 #[] [] [] (T0 (.bool true)) := by
  refine Tr.of (l := []) Tryz.func9 rfl (n := 48) rfl Fa.nil (fun w0 hro => ?_)
  refine G.seq (G.region ?_)
  refine G.asT rfl rfl ?_
  refine G.nil ?_
  refine G.nThen (G.seq (G.region ?_))
  refine G.op rfl (G.cS rfl rfl rfl rfl Tryz.func41 rfl rfl subT may0 (sample9_tr) apT ?_)
  intro x7 hJ
  obtain ⟨g7, b7⟩ := x7
  try dsimp only at hJ
  try dsimp only
  refine G.op rfl (G.cS rfl rfl rfl rfl Tryz.func11 rfl rfl subT (may1 (may_tree9 (c := sam9B b7) selT selT sam9_ok (fun w h => sam9_dat h))) (mmake_tr 1 2 3 _ (sam9T b7) (sam9_small b7)) apT ?_)
  intro x8 hJ
  obtain ⟨⟨mv, ms⟩, kv, ks⟩ := x8
  try dsimp only at hJ
  try dsimp only
  rw [show mkM (⟨1, 2, 0, 3⟩ : Mh) (ens (sam9T b7)) = ((a9, sam9M), [(n9, [120])], 0) from mk9] at hJ ⊢
  obtain ⟨hms, hks⟩ := hJ
  have hms : its ms = sam9M := hms
  have hks : cks ks = [(n9, [120])] := hks
  obtain ⟨u, rfl⟩ := ck9 hks
  have hio := it9_ok hms
  refine G.ownFact (v := mv) selT (fun hmv _ => ?_)
  refine G.ownNews (v := kv) selT (fun ad9 cp9 bk9 hsv hks9 hms9 hads hnils hnews => ?_)
  subst hsv
  refine G.mvT rfl rfl ?_
  refine G.op rfl (G.val rfl rfl (pv_extract rfl rfl) ?_)
  refine G.op rfl (G.val rfl rfl (pv_extract rfl rfl) ?_)
  refine G.op rfl (G.val rfl rfl (pv_extract rfl rfl) ?_)
  refine G.op rfl (G.alloc (z := .agg #[.int .i64 0, .int .i64 0, .int .i64 0, .int .i64 0, .slice none 0 0]) (cs := [.int .i64 0, .int .i64 0, .int .i64 0, .int .i64 0, .slice none 0 0]) rfl kr rfl ?_)
  intro b1
  refine G.op rfl (G.storeN kr rfl rfl allT selT leT ?_)
  refine G.asT rfl rfl ?_
  refine G.asT rfl rfl ?_
  refine G.nil ?_
  refine G.nThen (G.seq (G.region ?_))
  refine G.op rfl (G.val rfl rfl (pv_loadN (cs := [_, _, _, _, _]) Tryz.underlying28 rfl kr rfl (by first | exact blk_range (k := 5) selD (by rfl) | exact ro_rng0 (by assumption) | exact rng_range (k := 5) selD (by rfl) | exact ro_range (k := 5) (by assumption) (by rfl) | exact ro_rngR (k := 5) (by assumption) (by rfl))) ?_)
  refine G.mvT rfl rfl ?_
  refine G.op rfl (G.cS rfl rfl rfl rfl Tryz.func26 rfl rfl subT (may2 (may_items selT selT (fun x hx => (hio x hx).1)) (may_chunks selT selT (fun x hx => by obtain rfl : x = _ := (by simpa using hx); exact ⟨n9_len, by show 1 ≤ 140737488355328; decide⟩))) (mbuild_tr a9 _ _ ms [((n9, [120]), u)] (fun x hx => (hio x hx).2) (fun x hx => by obtain rfl : x = _ := (by simpa using hx); show 1 ≤ 100000; decide)) apT ?_)
  intro x15 hJ
  obtain ⟨tv, ts⟩ := x15
  try dsimp only at hJ
  try dsimp only
  rw [show buildM a9 (its ms) (cks [((n9, [120]), u)]) = (sam9E, 0) from by rw [hms]; exact bd9] at hJ ⊢
  have hts : ens ts = ens (sam9T 0) := hJ
  refine G.ownFact (v := tv) selT (fun htv _ => ?_)
  refine G.mvT rfl rfl ?_
  refine G.op rfl (G.val rfl rfl (pv_extract rfl rfl) ?_)
  refine G.op rfl (G.val rfl rfl (pv_extract rfl rfl) ?_)
  refine G.asT rfl rfl ?_
  refine G.asT rfl rfl ?_
  refine G.nil ?_
  refine G.nThen (G.seq (G.region ?_))
  refine G.mvT rfl rfl ?_
  refine G.op rfl (G.val rfl rfl ((pv_eql rfl rfl).cast (v' := .bool true) (congrArg Value.bool (by exact decide_eq_true rfl))) ?_)
  refine G.mvT rfl rfl ?_
  refine G.want rfl rfl rfl (G.val rfl rfl (pv_move rfl) ?_)
  refine G.want rfl rfl rfl (G.val rfl rfl (pv_lenSl Tryz.underlying29 rfl) ?_)
  refine G.want rfl rfl rfl (G.val rfl rfl ((pv_eql rfl rfl).cast (v' := .bool true) (congrArg Value.bool (by exact decide_eq_true rfl))) ?_)
  refine G.op rfl (G.val rfl rfl (pv_pick rfl rfl) ?_)
  refine G.mvT rfl rfl ?_
  refine G.want rfl rfl rfl (G.val rfl rfl (pv_move rfl) ?_)
  refine G.want rfl rfl rfl (G.val rfl rfl (pv_ixSl (sz := 17) (k := 0) Tryz.underlying29 kr rfl rfl hads rfl (by show 0 < 1; decide)) ?_)
  refine G.want rfl rfl rfl (G.val rfl rfl (pv_fieldAddrK (sz := 0) (k := 16) Tryz.underlying71 rfl kr rfl rfl) ?_)
  refine G.want rfl rfl rfl (G.val rfl rfl (pv_load (v := u) Tryz.underlying39 rfl rfl (fun w hw => by have h := hnews selT w hw 16 u (by rw [List.flatMap_cons, List.flatMap_nil, List.append_nil]; exact chC_dat _); simpa using h)) ?_)
  refine G.want rfl rfl rfl (G.lit1 (vs := [.int .u8 120]) rfl Tryz.underlying39 kr rfl (by decide) (by decide) rfl rfl ?_)
  intro b30
  refine G.want rfl rfl rfl (G.constB (b := b30) (xs := [120]) rfl Tryz.underlying39 Tryz.underlying5 rfl (by decide) selT ?_)
  refine G.want rfl rfl rfl (G.cR rfl rfl rfl rfl Tryz.func32 rfl rfl (may2 (may_datD selT (x := ((n9, [120]), u)) (List.mem_cons_self ..)) (Sel.may selT)) (same_self _ _ [120]) ?_)
  refine G.op rfl (G.val rfl rfl (pv_pick rfl rfl) ?_)
  refine G.mvT rfl rfl ?_
  refine G.want rfl rfl rfl (G.val rfl rfl (pv_move rfl) ?_)
  refine G.want rfl rfl rfl (G.val rfl rfl ((pv_eql rfl rfl).cast (v' := .bool true) (congrArg Value.bool (by exact decide_eq_true rfl))) ?_)
  refine G.op rfl (G.val rfl rfl (pv_pick rfl rfl) ?_)
  refine G.mvT rfl rfl ?_
  refine G.want rfl rfl rfl (G.val rfl rfl (pv_move rfl) ?_)
  refine G.want rfl rfl rfl (G.cS rfl rfl rfl rfl Tryz.func41 rfl rfl subT may0 (sample9_tr) apT ?_)
  intro x40 hJ
  obtain ⟨g40, b40⟩ := x40
  try dsimp only at hJ
  try dsimp only
  refine G.want rfl rfl rfl (G.cR rfl rfl rfl rfl Tryz.func17 rfl rfl (may2 (may_tree selT selT (ok_ens9 hts sam9_ok)) (may_tree9 (c := sam9B b40) selT selT sam9_ok (fun w h => sam9_dat h))) (sameT9 _ _ ts (sam9T b40) hts) ?_)
  refine G.op rfl (G.val rfl rfl (pv_pick rfl rfl) ?_)
  refine G.mvT rfl rfl ?_
  refine G.want rfl rfl rfl (G.cS rfl rfl rfl rfl Tryz.func43 rfl rfl subT may0 (small9_tr 97) apT ?_)
  intro x44 hJ
  try dsimp only at hJ
  try dsimp only
  refine G.want rfl rfl rfl (G.val rfl rfl (pv_subH (sz := 1) (k := 11) Tryz.underlying39 kr rfl rfl rfl (by decide)) ?_)
  refine G.want rfl rfl rfl (G.cR rfl rfl rfl rfl Tryz.func42 rfl rfl (may1 (may_pre (f := vByte) (p := fun _ => True) (xs := small9 97) selT rfl (fun _ _ => trivial) (by decide) (by decide) (by decide))) (fails9 _ ((small9 97).take 11) 4 11 (by decide) (by rw [rd9])) ?_)
  refine G.op rfl (G.val rfl rfl (pv_pick rfl rfl) ?_)
  refine G.asT rfl rfl ?_
  refine G.nil ?_
  refine G.nThen ?_
  refine G.ret ?_
  exact G.done0G rfl (Rv.tmp rfl Rv.nil) (by first | rfl | exact int_eq (by omega) | (simp; done))
end Go.Proofs.YtbfpbibkklfnfaaGreat

set_option linter.unusedVariables false
set_option linter.unusedSimpArgs false
namespace Go.Proofs.YtbfpbibkklfnfaaGreat
open Go.RowKit
theorem itS_few (b : List UInt8) (s : Rs) : (itS b s).1.ids.length ≤ 16384 := by
  rw [itS_eq rfl rfl rfl rfl rfl rfl]
  have h6 := @numS_most b 0 16384 3 (bytS b 200 (numS b 0 1048576 5 (numS b 0 511 5 (numS b 1 3 5 (bytS b 200 s).2).2).2).2).2 (by decide)
  have h7 := idsN_len b (numS b 0 16384 3 (bytS b 200 (numS b 0 1048576 5 (numS b 0 511 5 (numS b 1 3 5 (bytS b 200 s).2).2).2).2).2).2 (numS b 0 16384 3 (bytS b 200 (numS b 0 1048576 5 (numS b 0 511 5 (numS b 1 3 5 (bytS b 200 s).2).2).2).2).2).1
  simp only
  omega
theorem itsN_few {b : List UInt8} (s : Rs) : ∀ j, ∀ x ∈ (itsN b s j).1, x.ids.length ≤ 16384
  | 0 => fun x hx => by cases hx
  | j + 1 => fun x hx => by
    have ih := itsN_few (b := b) s j
    have hx : x ∈ (stepT b (itsN b s j)).1 := hx
    unfold stepT at hx
    split at hx
    · rcases List.mem_append.1 hx with h | h
      · exact ih x h
      obtain rfl : x = _ := by simpa using h
      exact itS_few b _
    exact ih x hx
theorem rdM_few (b : List UInt8) : (rdM b).1.2.length ≤ 200 ∧ ∀ x ∈ (rdM b).1.2, x.ids.length ≤ 16384 := by
  by_cases hl : 262144 < b.length
  · rw [rdM_long hl]
    exact ⟨by decide, fun x hx => by cases hx⟩
  unfold rdM
  rw [if_neg hl]
  simp only
  unfold finR
  split
  · exact ⟨by show 0 ≤ 200; decide, fun x hx => by cases hx⟩
  split
  · exact ⟨by show 0 ≤ 200; decide, fun x hx => by cases hx⟩
  refine ⟨?_, itsN_few _ _⟩
  have h1 := @numS_most b 0 200 3 (numS b 0 2147483647 5 (numS b 0 2147483647 5 (numS b 1 2147483647 5 (numS b 1 2147483647 5 rs0).2).2).2).2 (by decide)
  have h2 := itsN_len b (numS b 0 200 3 (numS b 0 2147483647 5 (numS b 0 2147483647 5 (numS b 1 2147483647 5 (numS b 1 2147483647 5 rs0).2).2).2).2).2 (numS b 0 200 3 (numS b 0 2147483647 5 (numS b 0 2147483647 5 (numS b 1 2147483647 5 (numS b 1 2147483647 5 rs0).2).2).2).2).1
  simp only
  omega
theorem sameM9 {Ps Pu : Nat → Prop} (a : Mh) (v u : Value) (xs ys : List IT) (h : its xs = its ys) : Tr Tryz.prog 13 #[.agg #[.int .i64 a.c, .int .i64 a.k, .int .i64 a.n, .int .i64 a.t, v], .agg #[.int .i64 a.c, .int .i64 a.k, .int .i64 a.n, .int .i64 a.t, u]] [slc rIT Ps v xs, slc rIT Pu u ys] [] (T0 (.bool true)) := by
  have := sameM_tr (Ps := Ps) (Pu := Pu) a a v u xs ys
  rwa [decide_eq_true (show a = a ∧ its xs = its ys from ⟨rfl, h⟩)] at this
theorem its_all {xs : List IT} {ms : List It} {p : It → Prop} (h : its xs = ms) (hp : ∀ x ∈ ms, p x) : ∀ x ∈ xs, p x.1 := fun x hx => hp x.1 (by rw [← h]; exact List.mem_map.2 ⟨x, hx, rfl⟩)
set_option maxRecDepth 20000 in
set_option maxHeartbeats 4000000 in
theorem mreads {Pu : Nat → Prop} (u : Value) (b : List UInt8) : Tr Tryz.prog 4 #[u] [slc rByte Pu u b] [] (T0 (.bool true)) := by
  refine Tr.of (l := [(0, u)]) Tryz.func4 rfl (n := 44) rfl (.cons rfl .nil) (fun w0 hro => ?_)
  have hu := ro1 hro
  obtain ⟨R, hR⟩ : ∃ R, rdM b = R := ⟨_, rfl⟩
  have hfw := rdM_few b
  rw [hR] at hfw
  obtain ⟨hl200, hfew⟩ := hfw
  have ou := Ro.open hu
  obtain ⟨au, cu, qu, ou, rfl, -⟩ := ou
  refine G.seq (G.region ?_)
  refine G.asT rfl rfl ?_
  refine G.nil ?_
  refine G.nThen (G.seq (G.seq (G.region ?_)))
  refine G.mvT rfl rfl ?_
  refine G.op rfl (G.val rfl rfl (pv_lenSl Tryz.underlying39 rfl) ?_)
  refine G.op rfl (G.val rfl rfl (pv_gtr rfl rfl) ?_)
  refine G.nil ?_
  refine G.nThen ?_
  refine G.condP rfl (fun h11 => ?_) (fun h11 => ?_)
  · refine G.seq (G.region ?_)
    refine G.op rfl (G.cR rfl rfl rfl rfl Tryz.func9 rfl rfl may0 (awake9_tr) ?_)
    refine G.asT rfl rfl ?_
    refine G.nil ?_
    refine G.nThen ?_
    refine G.ret ?_
    refine G.rThen ?_
    exact G.done0G rfl (Rv.tmp rfl Rv.nil) (by first | rfl | exact int_eq (by omega) | (simp; done))
  have hbl : b.length ≤ 3000 := by omega
  have hall := rdM_all (b := b) (by omega)
  rw [hR] at hall
  refine G.skip ?_
  refine G.nThen (G.seq (G.region ?_))
  refine G.mvT rfl rfl ?_
  refine G.op rfl (G.cS rfl rfl rfl rfl Tryz.func18 rfl rfl subT (may1 (by first | (apply May.old; first | with_reducible assumption | assumption) | (apply Sel.may; (repeat (first | with_reducible exact Sel.here | exact Sel.here | apply Sel.there)); done) | (apply may_own; (repeat (first | with_reducible exact Sel.here | exact Sel.here | apply Sel.there)); exact rfl; exact (fun _ _ => trivial); done) | (apply may_ownB; (repeat (first | with_reducible exact Sel.here | exact Sel.here | apply Sel.there)); done) | (apply may_ownI; (repeat (first | with_reducible exact Sel.here | exact Sel.here | apply Sel.there)); assumption; done) | (apply may_ownN; (repeat (first | with_reducible exact Sel.here | exact Sel.here | apply Sel.there)); assumption; done) | (apply may_tree; (repeat (first | with_reducible exact Sel.here | exact Sel.here | apply Sel.there)); (repeat (first | with_reducible exact Sel.here | exact Sel.here | apply Sel.there)); assumption; done))) (lent_tr _ b (by omega)) apT ?_)
  intro x14 hJ
  try dsimp only at hJ
  try dsimp only
  refine G.asT rfl rfl ?_
  refine G.nil ?_
  refine G.nThen (G.seq (G.region ?_))
  refine G.mvT rfl rfl ?_
  refine G.op rfl (G.cS rfl rfl rfl rfl Tryz.func19 rfl rfl subT (may1 (may_pre (f := vByte) (p := fun _ => True) (xs := lentM b) (b := x14) selT (by unfold lentM; simp) (fun _ _ => trivial) (by rw [lentM_length]; omega) (by omega) (by omega))) (mread_tr _ b (by omega)) apT ?_)
  intro x17 hJ
  obtain ⟨mv, ms⟩ := x17
  try dsimp only at hJ
  try dsimp only
  rw [hR] at hJ ⊢
  have hms : its ms = R.1.2 := hJ
  refine G.ownFact (v := mv) selT (fun hmv _ => ?_)
  refine G.mvT rfl rfl ?_
  refine G.op rfl (G.val rfl rfl (pv_extract rfl rfl) ?_)
  refine G.op rfl (G.val rfl rfl (pv_extract rfl rfl) ?_)
  refine G.op rfl (G.alloc (z := .agg #[.int .i64 0, .int .i64 0, .int .i64 0, .int .i64 0, .slice none 0 0]) (cs := [.int .i64 0, .int .i64 0, .int .i64 0, .int .i64 0, .slice none 0 0]) rfl kr rfl ?_)
  intro b4
  refine G.op rfl (G.alloc (z := .agg #[.int .i64 0, .int .i64 0]) (cs := [.int .i64 0, .int .i64 0]) rfl kr rfl ?_)
  intro b5
  refine G.op rfl (G.storeN kr rfl rfl allT selT leT ?_)
  refine G.op rfl (G.storeN kr rfl rfl allT selT leT ?_)
  refine G.nil ?_
  refine G.nThen (G.seq (G.region ?_))
  refine G.mvT rfl rfl ?_
  refine G.op rfl (G.cS rfl rfl rfl rfl Tryz.func20 rfl rfl subT (may1 (.old hu)) (mreadR_tr _ b (by omega)) apT ?_)
  intro x22 hJ
  obtain ⟨wv, ws⟩ := x22
  try dsimp only at hJ
  try dsimp only
  rw [hR] at hJ ⊢
  have hws : its ws = R.1.2 := hJ
  refine G.ownFact (v := wv) selT (fun hwv _ => ?_)
  refine G.mvT rfl rfl ?_
  refine G.op rfl (G.val rfl rfl (pv_extract rfl rfl) ?_)
  refine G.op rfl (G.val rfl rfl (pv_extract rfl rfl) ?_)
  refine G.op rfl (G.alloc (z := .agg #[.int .i64 0, .int .i64 0, .int .i64 0, .int .i64 0, .slice none 0 0]) (cs := [.int .i64 0, .int .i64 0, .int .i64 0, .int .i64 0, .slice none 0 0]) rfl kr rfl ?_)
  intro b6
  refine G.op rfl (G.alloc (z := .agg #[.int .i64 0, .int .i64 0]) (cs := [.int .i64 0, .int .i64 0]) rfl kr rfl ?_)
  intro b7
  refine G.op rfl (G.storeN kr rfl rfl allT selT leT ?_)
  refine G.op rfl (G.storeN kr rfl rfl allT selT leT ?_)
  refine G.nil ?_
  refine G.nThen (G.seq (G.region ?_))
  refine G.op rfl (G.val rfl rfl (pv_loadN (cs := [_, _]) Tryz.underlying42 rfl kr rfl (by first | exact blk_range (k := 2) selD (by rfl) | exact ro_rng0 (by assumption) | exact rng_range (k := 2) selD (by rfl) | exact ro_range (k := 2) (by assumption) (by rfl) | exact ro_rngR (k := 2) (by assumption) (by rfl))) ?_)
  refine G.op rfl (G.val rfl rfl (pv_loadN (cs := [_, _]) Tryz.underlying42 rfl kr rfl (by first | exact blk_range (k := 2) selD (by rfl) | exact ro_rng0 (by assumption) | exact rng_range (k := 2) selD (by rfl) | exact ro_range (k := 2) (by assumption) (by rfl) | exact ro_rngR (k := 2) (by assumption) (by rfl))) ?_)
  refine G.op rfl (G.val rfl rfl ((pv_eqlSt (xs := [.int .i64 R.2.1, .int .i64 R.2.2]) (ys := [.int .i64 R.2.1, .int .i64 R.2.2]) (r := decide ((R.2.1 : Int) = R.2.1) && (decide ((R.2.2 : Int) = R.2.2) && true)) Tryz.underlying42 kr kr rfl rfl kr).cast (v' := .bool true) (congrArg Value.bool (by simp))) ?_)
  refine G.mvT rfl rfl ?_
  refine G.want rfl rfl rfl (G.val rfl rfl (pv_loadN (cs := [_, _, _, _, _]) Tryz.underlying28 rfl kr rfl (by first | exact blk_range (k := 5) selD (by rfl) | exact ro_rng0 (by assumption) | exact rng_range (k := 5) selD (by rfl) | exact ro_range (k := 5) (by assumption) (by rfl) | exact ro_rngR (k := 5) (by assumption) (by rfl))) ?_)
  refine G.want rfl rfl rfl (G.val rfl rfl (pv_loadN (cs := [_, _, _, _, _]) Tryz.underlying28 rfl kr rfl (by first | exact blk_range (k := 5) selD (by rfl) | exact ro_rng0 (by assumption) | exact rng_range (k := 5) selD (by rfl) | exact ro_range (k := 5) (by assumption) (by rfl) | exact ro_rngR (k := 5) (by assumption) (by rfl))) ?_)
  refine G.want rfl rfl rfl (G.cR rfl rfl rfl rfl Tryz.func13 rfl rfl (may2 (may_items selT selT (its_all hms hall)) (may_items selT selT (its_all hws hall))) (sameM9 R.1.1 _ _ ms ws (hms.trans hws.symm)) ?_)
  refine G.op rfl (G.val rfl rfl (pv_pick rfl rfl) ?_)
  refine G.asT rfl rfl ?_
  refine G.nil ?_
  refine G.nThen (G.seq (G.region ?_))
  refine G.op rfl (G.val rfl rfl (pv_loadN (cs := [_, _, _, _, _]) Tryz.underlying28 rfl kr rfl (by first | exact blk_range (k := 5) selD (by rfl) | exact ro_rng0 (by assumption) | exact rng_range (k := 5) selD (by rfl) | exact ro_range (k := 5) (by assumption) (by rfl) | exact ro_rngR (k := 5) (by assumption) (by rfl))) ?_)
  refine G.op rfl (G.cS rfl rfl rfl rfl Tryz.func15 rfl rfl subT may0 (overM_tr R.1.1 _ ms (by rw [← its_length, hms]; omega) (fun x hx => by have := its_all hms hfew x hx; omega)) apT ?_)
  intro x34 hJ
  try dsimp only at hJ
  try dsimp only
  refine G.nil ?_
  refine G.nThen (G.seq (G.region ?_))
  refine G.mvT rfl rfl ?_
  refine G.mvT rfl rfl ?_
  refine G.want rfl rfl rfl (G.val rfl rfl (pv_move rfl) ?_)
  refine G.want rfl rfl rfl (G.val rfl rfl (pv_move rfl) ?_)
  refine G.want rfl rfl rfl (G.cR rfl rfl rfl rfl Tryz.func21 rfl rfl (may2 (.old hu) (may_all (f := vByte) (p := fun _ => True) (xs := lentM b) (b := x14) selT (fun _ _ => trivial) rfl (by rw [lentM_length]; exact Nat.le_refl _) (by omega))) (kept_tr _ x14 b (by omega)) ?_)
  refine G.op rfl (G.val rfl rfl (pv_pick rfl rfl) ?_)
  refine G.mvT rfl rfl ?_
  refine G.want rfl rfl rfl (G.cR rfl rfl rfl rfl Tryz.func9 rfl rfl may0 (awake9_tr) ?_)
  refine G.op rfl (G.val rfl rfl (pv_pick rfl rfl) ?_)
  refine G.asT rfl rfl ?_
  refine G.nil ?_
  refine G.nThen ?_
  refine G.ret ?_
  exact G.done0G rfl (Rv.tmp rfl Rv.nil) (by first | rfl | exact int_eq (by omega) | (simp; done))
end Go.Proofs.YtbfpbibkklfnfaaGreat

set_option maxRecDepth 100000
set_option linter.unusedVariables false
set_option linter.unusedSimpArgs false
namespace Go.Proofs.YtbfpbibkklfnfaaGreat
open Go.ChangeShapes Go.WideShapes Go.ChangeAt Go.RowKit
section
variable {H : Type} {enc : TypeId × Value → H} {W : World}
theorem opn_bytes {r : Reach} {base : Nat} {v : Value} {d : DataW H} {p : List MemPlace} (hok : Value.okWide Tryz.prog W r base 39 v) (h : DataW.Trod enc Tryz.prog W 0 (fun _ => true) true 39 v d p) :
    ∃ l : List UInt8, Ro W (fun _ => False) (slc rByte (· < W.heap.size) v l) ∧ sliceLen d = l.length := by
  suffices hs : ∃ l : List UInt8, IsSl rByte (· < W.heap.size) W v l ∧ sliceLen d = l.length by
    obtain ⟨l, h1, h2⟩ := hs
    exact ⟨l, ro_new h1 fun b hb => hb, h2⟩
  obtain ⟨a1, len, cap, rfl⟩ := okWide_slice Tryz.underlying39 hok
  obtain ⟨fuel, hf⟩ := h
  rcases open_ints Tryz.underlying39 Tryz.underlying5 kr hf with ⟨hcs, hx⟩ | ⟨a, len', cap', zs, hcs, _, hl, hm, hz, hx, hcell, hwz⟩
  · simp [Value.cells] at hcs
    obtain ⟨rfl, rfl, rfl⟩ := hcs
    simp only [Prod.mk.injEq] at hx
    obtain ⟨rfl, rfl⟩ := hx
    exact ⟨[], ⟨none, 0, 0, 0, rfl, Nat.le_refl _, by omega, fun _ => rfl, fun h => absurd h (by simp), fun i hi => absurd hi (by simp)⟩, rfl⟩
  simp [Value.cells] at hcs
  obtain ⟨rfl, rfl, rfl⟩ := hcs
  simp only [Prod.mk.injEq] at hx
  obtain ⟨rfl, rfl⟩ := hx
  simp only [if_true] at hz
  have hlen : ((zs.take len).map fun n => UInt8.ofNat n.toNat).length = len := by simp; omega
  refine ⟨(zs.take len).map fun n => UInt8.ofNat n.toNat, ⟨some a, cap, a.block, a.off, by rw [hlen], by omega, by unfold maxLen at hm; omega, by simp, fun h0 => ?_, fun i hi => ?_⟩, ?_⟩
  · rw [hlen] at h0
    have h1 := hcell 0 (by omega)
    have e : a.add 0 = a := by unfold Addr.add; simp
    rw [e] at h1
    exact congrArg some (spot_none h1)
  · rw [hlen] at hi
    have h0 := hcell 0 (by omega)
    have e : a.add 0 = a := by unfold Addr.add; simp
    rw [e] at h0
    have hs := spot_none h0
    have g := add_none (hcell i (by omega)) hs
    have hb := range_u8 hwz i
    have e2 : zs.getD i 0 = zs[i]'(by omega) := by simp [List.getD, List.getElem?_eq_getElem (show i < zs.length by omega)]
    have e3 : zs[i]?.getD 0 = zs[i]'(by omega) := by simp [List.getElem?_eq_getElem (show i < zs.length by omega)]
    rw [e2] at g
    rw [e3] at hb
    refine ⟨cell_lt h0, ?_, trivial⟩
    show W.cell? ⟨a.block, a.off + i * 1, none⟩ = _
    rw [Nat.mul_one, g]
    simp only [List.getElem_map, List.getElem_take, vByte]
    congr 2
    simp only [UInt8.toNat_ofNat']
    omega
  simp [sliceLen, lits]
end
end Go.Proofs.YtbfpbibkklfnfaaGreat

