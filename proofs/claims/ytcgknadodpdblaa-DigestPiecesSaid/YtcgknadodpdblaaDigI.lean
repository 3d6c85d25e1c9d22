/- Contracts of layer 3: the digest of bytes, and their name. Conditions: the slice lies in memory. -/
import Derived.Test.YtcgknadodpdblaaDigH
import Derived.Deep.MidRow
set_option linter.unusedVariables false
set_option linter.unusedSimpArgs false
namespace Go.Proofs.Ytcgknadodpdblaa
open Go.RowKit

theorem outM_length (s : List Int) : (outM s).length = 32 := by simp [outM]
theorem sumM_length (b : List UInt8) : (sumM b).length = 32 := outM_length _
theorem bytesArr (l : List UInt8) : (l.flatMap encByte).toArray.size = l.length ∧ (l.flatMap encByte).toArray.all (·.oneCell') = true := by
  refine ⟨by rw [List.size_toArray, flatMap_length encByte 1 (fun _ => rfl)]; omega, ?_⟩
  rw [List.all_toArray, List.all_eq_true]
  exact fun u hu => oneCell_flat encByte encByte_one _ u hu
theorem Chg.rowOld {S : Nat → Prop} {w w' : World} {g n : Nat} {T : TypeId} {f : Nat → Value} (h : Chg S w w') (hr : w.rowIs g T n f) (hS : ¬ S g) : w'.rowIs g T n f := h.row hr hS

set_option maxHeartbeats 1000000 in
set_option maxRecDepth 20000 in
theorem sum_any (B : Nat) (v : Value) (b : List UInt8) (w : World) (hB : B ≤ w.heap.size) (hv : SlByte B w v b) (hl : b.length ≤ 1000000) :
    Calls Try.prog 12 #[v] w fun e w' => e = .returned (aggB (sumM b)) ∧ Below w.heap.size w w' := by
  have HV := Lib.hid hv; have HL := Lib.hid hl; clear hv hl
  go_enter Try.func12, Try.ntmps12
  go_wp2_with fail
  generalize hW : w.alloc _ = W1
  have hr : W1.rowIs w.heap.size 25 32 (fun _ => .int .u8 0) := by
    subst hW; exact zeros_row w _ _ _ 32 (by kernel_rfl)
  have hb1 : Below w.heap.size w W1 := by subst hW; exact (Below.refl _ _).alloc (Nat.le_refl _) _
  have hz : W1.heap.size = w.heap.size + 1 := by subst hW; simp
  have HR := Lib.hid hr; have HB1 := Lib.hid hb1; have HZ := Lib.hid hz
  clear hW hr hb1 hz
  refine (new_any W1).mono ?_
  rintro e w2 ⟨D, rfl, hD, hdig, hb2⟩
  have HD := Lib.hid hD; have HDIG := Lib.hid hdig; have HB2 := Lib.hid hb2
  clear hD hdig hb2
  go_wp2_with fail
  refine (write_any D v [] b w2 HDIG.out (SlP.of (SlByte.below HV.out ((HB1.out.trans (HB2.out.mono HB1.out.size)).mono hB) (Nat.le_refl _)) fun x hx e => by have := HD.out; have := HZ.out; omega) (by have := HL.out; simp; omega)).mono ?_
  rintro e w3 ⟨rfl, hd3, hc3⟩
  rw [List.nil_append] at hd3
  have HD3 := Lib.hid hd3; have HC3 := Lib.hid hc3
  clear hd3 hc3
  go_wp2_with fail
  refine (sumD_any D b w3 HD3.out HL.out).mono ?_
  rintro e w4 ⟨rfl, hb4⟩
  have hr4 : w4.rowIs w.heap.size 25 32 (fun _ => .int .u8 0) :=
    (HC3.out.row (HR.out.of_block (HB2.out.block _ HR.out.lt)) (by have := HD.out; have := HZ.out; omega)).of_block (hb4.block _ (Nat.lt_of_lt_of_le (HR.out.lt) (Nat.le_trans HB2.out.size HC3.out.size)))
  have hbb : Below w.heap.size w w4 := ((HB1.out.trans (HB2.out.mono HB1.out.size)).trans (HC3.out.below (fun k hk e => by have := HD.out; have := HZ.out; omega) (by have := HB2.out.size; have := HZ.out; omega))).trans (hb4.mono (by have := HB2.out.size; have := HZ.out; have := HC3.out.size; omega))
  obtain ⟨old, g0, hold⟩ := row_any hr4
  have HBB := Lib.hid hbb
  clear hr4 hbb hb4
  obtain ⟨ob, hob⟩ : ∃ ob, ob = ((sumM b).flatMap encByte).toArray := ⟨_, rfl⟩
  unfold aggB
  rw [← hob]
  have hoa := bytesArr (sumM b)
  rw [← hob, sumM_length] at hoa
  have HOB := Lib.hid hob; have HOA := Lib.hid hoa
  clear hob hoa
  have h25 : (Try.prog.info? 25).map (·.size) = some 32 := by kernel_rfl
  go_wp2_with (first | (refine wpList_store_row rfl 25 _ _ rfl w.heap.size ob rfl rfl 25 old g0 (by rw [h25, HOA.out.1]) (by rw [HOA.out.1, hold]) HOA.out.2 ?_) | fail)
  have hB9 := below_setRow HBB.out (Nat.le_refl _) ob
  have g9 := setRow_heap w4 w.heap.size old ob 25 (0, 0) g0
  refine bodyPost_ret (v := .agg ob) ?_ rfl ⟨by rw [HOB.out]; rfl, hB9⟩
  exact results_cell_row rfl _ _ w.heap.size 25 _ (0, 0) _ rfl g9 Try.underlying25 rfl (by rw [h25, HOA.out.1])

theorem slice_16 (b : Nat) (w : World) : (Instr.sliceAt 25 (.pointer (some ⟨b, 0, none⟩)) none (some (.int .i64 16)) none).run Try.prog w = .ok (.slice (some ⟨b, 0, none⟩) 16 32) w := by
  have hz := sizeByte
  simp [go_sem, Addr.add]
theorem take_flat (l : List UInt8) (n : Nat) (hn : n ≤ l.length) (j : Nat) (hj : j < n) : (l.flatMap encByte)[j]? = ((l.take n).flatMap encByte)[j]? := by
  have e1 := flatMap_get encByte 1 (fun _ => rfl) l j 0 (by omega) (by omega)
  have e2 := flatMap_get encByte 1 (fun _ => rfl) (l.take n) j 0 (by simp; omega) (by omega)
  rw [Nat.mul_one, Nat.add_zero] at e1 e2
  rw [e1, e2]
  simp
theorem arr_of (b len cap : Nat) (hn : 16 ≤ len) (w : World) : (Instr.arrayAt 28 (.slice (some ⟨b, 0, none⟩) len cap)).run Try.prog w = .ok (.pointer (some ⟨b, 0, none⟩)) w :=
  run_arrayAt w _ 5 16 _ _ _ (by kernel_rfl) hn
set_option maxHeartbeats 1000000 in
set_option maxRecDepth 20000 in
theorem id_any (B : Nat) (v : Value) (b : List UInt8) (w : World) (hB : B ≤ w.heap.size) (hv : SlByte B w v b) (hl : b.length ≤ 1000000) :
    Calls Try.prog 14 #[v] w fun e w' => e = .returned (aggB ((sumM b).take 16)) ∧ Below w.heap.size w w' := by
  have HV := Lib.hid hv; have HL := Lib.hid hl; clear hv hl
  go_enter Try.func14, Try.ntmps14
  go_wp2_with fail
  generalize hW : w.alloc _ = W1
  have hr : W1.rowIs w.heap.size 28 16 (fun _ => .int .u8 0) := by
    subst hW; exact zeros_row w _ _ _ 16 (by kernel_rfl)
  have hb1 : Below w.heap.size w W1 := by subst hW; exact (Below.refl _ _).alloc (Nat.le_refl _) _
  have hz : W1.heap.size = w.heap.size + 1 := by subst hW; simp
  have HR := Lib.hid hr; have HB1 := Lib.hid hb1; have HZ := Lib.hid hz
  clear hW hr hb1 hz
  refine (sum_any B v b W1 (Nat.le_trans hB HB1.out.size) (SlByte.below HV.out (HB1.out.mono hB) (Nat.le_refl _)) HL.out).mono ?_
  rintro e w2 ⟨rfl, hb2⟩
  have HB2 := Lib.hid hb2; clear hb2
  obtain ⟨ob, hob⟩ : ∃ ob, ob = ((sumM b).flatMap encByte).toArray := ⟨_, rfl⟩
  unfold aggB
  rw [← hob]
  have hoa := bytesArr (sumM b)
  rw [← hob, sumM_length] at hoa
  have HOB := Lib.hid hob; have HOA := Lib.hid hoa
  clear hob hoa
  have h25 : (Try.prog.info? 25).map (·.size) = some 32 := by kernel_rfl
  have h28 : (Try.prog.info? 28).map (·.size) = some 16 := by kernel_rfl
  go_upto_region 2 with (first | (refine wpList_store_row rfl 25 _ _ rfl w2.heap.size ob rfl rfl 25 _ (heap_alloc_new _ _) (by rw [h25, HOA.out.1]) (by rw [HOA.out.1]; rfl) HOA.out.2 ?_) | fail)
  generalize hW3 : World.setRow (World.alloc w2 _) _ _ = W3
  have g3 : W3.heap[w2.heap.size]? = some (.cells ob 25 (0, 0)) := by subst hW3; exact setRow_heap _ _ _ _ _ (0, 0) (heap_alloc_new _ _)
  have hb3 : Below w2.heap.size w2 W3 := by subst hW3; exact below_setRow ((Below.refl _ _).alloc (Nat.le_refl _) _) (Nat.le_refl _) _
  clear hW3
  obtain ⟨l16, h16⟩ : ∃ l16, l16 = (sumM b).take 16 := ⟨_, rfl⟩
  have hl16 : l16.length = 16 := by rw [h16, List.length_take, sumM_length]; rfl
  obtain ⟨oc, hoc⟩ : ∃ oc, oc = l16.flatMap encByte := ⟨_, rfl⟩
  have hocl : oc.length = 16 := by rw [hoc, flatMap_length encByte 1 (fun _ => rfl)]; omega
  have hrg : W3.rangeAt w2.heap.size 0 oc := by
    intro j u hj
    rw [cell_of_row W3 _ _ ob _ (0, 0) g3, HOB.out, Nat.zero_add, List.getElem?_toArray, ← hj, hoc, h16]
    exact take_flat (sumM b) 16 (by rw [sumM_length]; omega) j (Nat.lt_of_not_le fun h => by rw [List.getElem?_eq_none (by omega)] at hj; cases hj)
  have hoca : oc.toArray.all (·.oneCell') = true := by rw [hoc]; exact (bytesArr l16).2
  have HOC := Lib.hid hoc; have H16 := Lib.hid h16
  have hsl := fun wx => slice_16 w2.heap.size wx
  have harr := fun wx => arr_of w2.heap.size 16 32 (by omega) wx
  have hr3 : W3.rowIs w.heap.size 28 16 (fun _ => .int .u8 0) :=
    (HR.out.of_block (HB2.out.block _ HR.out.lt)).of_block (hb3.block _ (Nat.lt_of_lt_of_le HR.out.lt HB2.out.size))
  obtain ⟨old, g0, hold⟩ := row_any hr3
  have hbb : Below w.heap.size w W3 := (HB1.out.trans (HB2.out.mono HB1.out.size)).trans (hb3.mono (Nat.le_trans HB1.out.size HB2.out.size))
  have HBB := Lib.hid hbb; have HRG := Lib.hid hrg; have HOCL := Lib.hid hocl; have HOCA := Lib.hid hoca
  clear hbb hb3 hrg hocl hoca hr3 hoc hl16 h16 g3
  go_wp2_with (first | (refine wpList_load_mid rfl 28 _ rfl w2.heap.size 0 rfl oc _ HRG.out Try.underlying28 rfl (by rw [h28, HOCL.out]) ?_) | (refine wpList_store_row rfl 28 _ _ rfl w.heap.size oc.toArray rfl rfl 28 old g0 (by rw [h28]; simp [HOCL.out]) (by simp [HOCL.out, hold]) HOCA.out ?_) | fail)
  have hB9 := below_setRow HBB.out (Nat.le_refl _) oc.toArray
  have g9 := setRow_heap W3 w.heap.size old oc.toArray 28 (0, 0) g0
  refine bodyPost_ret (v := .agg oc.toArray) ?_ rfl ⟨by rw [HOC.out, H16.out]; rfl, hB9⟩
  exact results_cell_row rfl _ _ w.heap.size 28 _ (0, 0) _ rfl g9 Try.underlying28 rfl (by rw [h28]; simp [HOCL.out])
end Go.Proofs.Ytcgknadodpdblaa
