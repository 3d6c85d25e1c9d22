/- Contracts of layer 3: the reference's name of bytes. Conditions: the slice lies in memory. -/
import Derived.Test.YtcgknadodpdblaaDigK
set_option linter.unusedVariables false
set_option linter.unusedSimpArgs false
namespace Go.Proofs.Ytcgknadodpdblaa
open Go.RowKit

/-- what lies in memory while the reference names bytes -/
structure NameAt (w wr : World) (N P : Nat) (s : List UInt8) (k : Nat) : Prop where
  below : Below N w wr
  hNP : N + 1 < P
  r0 : wr.rowIs N 28 16 (fun _ => .int .u8 0)
  r1 : wr.rowIs (N + 1) 28 16 (byteF (s.take k))
  sm : wr.rowIs P 25 32 (byteF s)
theorem byteM_take (s : List UInt8) (k i : Nat) : byteM (s.take k) i = if i < k then byteM s i else 0 := by
  unfold byteM
  rw [List.getD_eq_getElem?_getD, List.getElem?_take]
  by_cases h : i < k
  · rw [if_pos h, if_pos h, List.getD_eq_getElem?_getD]
  · rw [if_neg h, if_neg h]; rfl
theorem NameAt.put {w wr : World} {N P k : Nat} {s : List UInt8} (h : NameAt w wr N P s k) (hk : k < 16) : NameAt w (wr.setCell ⟨N + 1, k, none⟩ (.int .u8 (byteM s k))) N P s (k + 1) where
  below := h.below.setCell (by show N ≤ N + 1; omega) _
  hNP := h.hNP
  r0 := h.r0.setOther (by show N ≠ N + 1; omega) _
  sm := h.sm.setOther (by have := h.hNP; show P ≠ N + 1; omega) _
  r1 := (h.r1.set k _).congr fun i hi => by
    unfold byteF
    rw [byteM_take, byteM_take]
    by_cases e : i = k
    · subst e; rw [if_pos rfl, if_pos (by omega)]
    · rw [if_neg e]
      by_cases h1 : i < k
      · rw [if_pos h1, if_pos (by omega)]
      · rw [if_neg h1, if_neg (by omega)]
set_option maxHeartbeats 1000000 in
set_option maxRecDepth 20000 in
theorem idR_any (B : Nat) (v : Value) (b : List UInt8) (w : World) (hB : B ≤ w.heap.size) (hv : SlByte B w v b) (hl : b.length ≤ 1000000) :
    Calls Try.prog 15 #[v] w fun e w' => e = .returned (aggB ((sumM b).take 16)) ∧ Below w.heap.size w w' := by
  have HV := Lib.hid hv; have HL := Lib.hid hl; clear hv hl
  go_enter Try.func15, Try.ntmps15
  go_wp2_with fail
  generalize hW : World.alloc (World.alloc w _) _ = W1
  have hb1 : Below w.heap.size w W1 := by subst hW; exact ((Below.refl _ _).alloc (Nat.le_refl _) _).alloc (by simp) _
  have hr0 : W1.rowIs w.heap.size 28 16 (fun _ => .int .u8 0) := by
    subst hW; exact (zeros_row w _ _ _ 16 (by kernel_rfl)).alloc _
  have hr1 : W1.rowIs (w.heap.size + 1) 28 16 (fun _ => .int .u8 0) := by
    subst hW
    have := zeros_row (w.alloc (.cells (Array.replicate 16 (Value.int .u8 0)) 28)) (Array.replicate 16 (Value.int .u8 0)) 28 _ 16 rfl
    rw [World.size_alloc] at this
    exact this
  have hz : W1.heap.size = w.heap.size + 2 := by subst hW; simp
  have HR0 := Lib.hid hr0; have HR1 := Lib.hid hr1; have HB1 := Lib.hid hb1; have HZ := Lib.hid hz
  clear hW hr0 hr1 hb1 hz
  refine (sumR_any B v b W1 (Nat.le_trans hB HB1.out.size) (SlByte.below HV.out (HB1.out.mono hB) (Nat.le_refl _)) HL.out).mono ?_
  rintro e w2 ⟨rfl, hb2⟩
  have HB2 := Lib.hid hb2; clear hb2
  obtain ⟨ob, hob⟩ : ∃ ob, ob = ((sumM b).flatMap encByte).toArray := ⟨_, rfl⟩
  unfold aggB
  rw [← hob]
  have hoa := bytesArr (sumM b)
  rw [← hob, sumM_length] at hoa
  have HOB := Lib.hid hob; have HOA := Lib.hid hoa
  clear hob hoa
  have h25 : (Try.prog.info? 25).map (·.size) = some 32 := by kernel_rfl
  have h28 : (Try.prog.info? 28).map (·.size) = some 16 := by kernel_rfl
  go_upto_region 3 with (first | (refine wpList_store_row rfl 25 _ _ rfl w2.heap.size ob rfl rfl 25 _ (heap_alloc_new _ _) (by rw [h25, HOA.out.1]) (by rw [HOA.out.1]; rfl) HOA.out.2 ?_) | fail)
  generalize hW3 : World.setRow (World.alloc w2 _) _ _ = W3
  have g3 : W3.heap[w2.heap.size]? = some (.cells ob 25 (0, 0)) := by subst hW3; exact setRow_heap _ _ _ _ _ (0, 0) (heap_alloc_new _ _)
  have hb3 : Below w2.heap.size w2 W3 := by subst hW3; exact below_setRow ((Below.refl _ _).alloc (Nat.le_refl _) _) (Nat.le_refl _) _
  clear hW3
  have hN : NameAt w W3 w.heap.size w2.heap.size (sumM b) 0 := by
    have k0 := HR0.out.lt
    have k1 := HR1.out.lt
    refine ⟨(HB1.out.trans (HB2.out.mono HB1.out.size)).trans (hb3.mono (Nat.le_trans HB1.out.size HB2.out.size)), by have := HB2.out.size; omega, (HR0.out.of_block (HB2.out.block _ k0)).of_block (hb3.block _ (Nat.lt_of_lt_of_le k0 HB2.out.size)), ((HR1.out.of_block (HB2.out.block _ k1)).of_block (hb3.block _ (Nat.lt_of_lt_of_le k1 HB2.out.size))).congr fun i _ => rfl, ?_⟩
    rw [HOB.out, ← rowArr_bytes (sumM b) 32 (sumM_length b)] at g3
    exact ⟨_, g3, by simp [rowArr], fun i hi => by simp [rowArr, hi]⟩
  have HN := Lib.hid hN
  clear g3 hb3 hN
  generalize hsm : sumM b = sm at *
  have HSM := Lib.hid hsm; clear hsm
  go_wp2_with fail
  go_loopw [5] (fun i wr => ∃ k : Nat, k ≤ 16 ∧ i = .int .i64 k ∧ NameAt w wr w.heap.size w2.heap.size sm k) (fun i _ => (16 - intOf i).toNat)
  case atStart => exact ⟨0, by omega, rfl, HN.out⟩
  case round =>
    obtain ⟨k, hk, rfl, hE⟩ := hrel
    by_cases hlt : k < 16
    · have q := hE.sm.cell (show k < 32 by omega)
      unfold byteF at q
      have p := hE.r1.cell hlt
      have f := hE.r1.frozen k
      have HE := Lib.hid hE; clear hE
      go_wp2_with fail
      go_roundw
      case rel => exact ⟨k + 1, by omega, by go_num, HE.out.put hlt⟩
      case measure => simp [intOf]; omega
    · obtain rfl : k = 16 := by omega
      have hl16 : (sm.take 16).length = 16 := by rw [List.length_take, ← HSM.out, sumM_length]; rfl
      have g1 := rowIs_heap hE.r1
      rw [rowArr_bytes _ 16 hl16] at g1
      obtain ⟨old, g0, hold⟩ := row_any hE.r0
      have HBE := Lib.hid hE.below
      obtain ⟨oc, hoc⟩ : ∃ oc, oc = ((sm.take 16).flatMap encByte).toArray := ⟨_, rfl⟩
      rw [← hoc] at g1
      have hoca := bytesArr (sm.take 16)
      rw [← hoc, hl16] at hoca
      have HOC := Lib.hid hoc; have HOCA := Lib.hid hoca
      clear hE hoc hoca hl16
      go_wp2_with (first | (refine wpList_load_row rfl 28 _ rfl _ rfl 28 _ (0, 0) _ g1 Try.underlying28 rfl (by rw [h28, HOCA.out.1]) ?_) | (refine wpList_store_row rfl 28 _ _ rfl w.heap.size oc rfl rfl 28 old g0 (by rw [h28, HOCA.out.1]) (by rw [HOCA.out.1, hold]) HOCA.out.2 ?_) | fail)
      (try simp only [Exit.inBlock, Exit.then])
      refine bodyPost_ret (v := .agg oc) ?_ rfl ⟨by rw [HOC.out, ← HSM.out]; rfl, below_setRow HBE.out (Nat.le_refl _) oc⟩
      exact results_cell_row rfl _ _ w.heap.size 28 _ (0, 0) _ rfl (setRow_heap _ w.heap.size old oc 28 (0, 0) g0) Try.underlying28 rfl (by rw [h28, HOCA.out.1])

end Go.Proofs.Ytcgknadodpdblaa
