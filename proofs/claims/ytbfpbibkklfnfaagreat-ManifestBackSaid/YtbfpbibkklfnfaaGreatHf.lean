/- Merged of DigK, DigR, VB, VQ, VF, VR, VS, VT, VU, VV, WP, VW, VX, VY, VZ, WA9, Opn, TreeOpn, WB9, ManOpn, WC9. Conditions: none. -/
import Derived.Test.YtbfpbibkklfnfaaGreatHe
import Derived.ChangeMaps5
namespace Go.Proofs.YtbfpbibkklfnfaaGreat
open Go.RowKit
set_option linter.unusedVariables false
set_option linter.unusedSimpArgs false
set_option maxRecDepth 100000
def put8' (w : World) (D : Nat) (g : Nat → Int) : World :=
 (((((((w.setCell ⟨D, 0, none⟩ (.int .u32 (g 0))).setCell ⟨D, 1, none⟩ (.int .u32 (g 1))).setCell ⟨D, 2, none⟩ (.int .u32 (g 2))).setCell ⟨D, 3, none⟩ (.int .u32 (g 3))).setCell ⟨D, 4, none⟩ (.int .u32 (g 4))).setCell ⟨D, 5, none⟩ (.int .u32 (g 5))).setCell ⟨D, 6, none⟩ (.int .u32 (g 6))).setCell ⟨D, 7, none⟩ (.int .u32 (g 7))
theorem put8'_below {B : Nat} {w w1 : World} {D : Nat} {g : Nat → Int} (h : Below B w w1) (hD : B ≤ D) : Below B w (put8' w1 D g) :=
 (((((((h.setCell (by exact hD) _).setCell (by exact hD) _).setCell (by exact hD) _).setCell (by exact hD) _).setCell (by exact hD) _).setCell (by exact hD) _).setCell (by exact hD) _).setCell (by exact hD) _
theorem put8'_other {w : World} {D g n : Nat} {T : TypeId} {f : Nat → Value} {k : Nat → Int} (h : w.rowIs g T n f) (hD : g ≠ D) : (put8' w D k).rowIs g T n f :=
 (((((((h.setOther (a := ⟨D, 0, none⟩) hD _).setOther (a := ⟨D, 1, none⟩) hD _).setOther (a := ⟨D, 2, none⟩) hD _).setOther (a := ⟨D, 3, none⟩) hD _).setOther (a := ⟨D, 4, none⟩) hD _).setOther (a := ⟨D, 5, none⟩) hD _).setOther (a := ⟨D, 6, none⟩) hD _).setOther (a := ⟨D, 7, none⟩) hD _
theorem put8'_row {w : World} {D : Nat} {T : TypeId} {f : Nat → Value} (h : w.rowIs D T 8 f) (s : List Int) : (put8' w D (gI s)).rowIs D T 8 (fun j => .int .u32 (gI s j)) := by
 unfold put8'
 refine ((((((((h.set 0 _).set 1 _).set 2 _).set 3 _).set 4 _).set 5 _).set 6 _).set 7 _).congr fun i hi => ?_
 have : i = 0 ∨ i = 1 ∨ i = 2 ∨ i = 3 ∨ i = 4 ∨ i = 5 ∨ i = 6 ∨ i = 7 := by omega
 rcases this with rfl | rfl | rfl | rfl | rfl | rfl | rfl | rfl <;> rfl
structure RefAt (w wr : World) (N : Nat) (v : Value) (x : List UInt8) (s : List Int) : Prop where
 below : Below N w wr
 r0 : wr.rowIs N 124 32 (fun _ => .int .u8 0)
 s8 : wr.rowIs (N + 1) 161 8 (fun j => .int .u32 (gI s j))
 xs : SlP RByte 1 (N + 2 ≤ ·) wr v x
theorem RefAt.drew {w wr : World} {N : Nat} {v : Value} {x : List UInt8} {s : List Int} (h : RefAt w wr N v x s) : RefAt w wr.drew N v x s :=
 ⟨h.below.drew, h.r0.drew, h.s8.drew, h.xs.chg (S := fun _ => True) fun _ _ _ _ r => r⟩
theorem RefAt.after {w wr w' : World} {N : Nat} {v : Value} {x : List UInt8} {s : List Int} (h : RefAt w wr N v x s) (hb : Below wr.heap.size wr w') : RefAt w w' N v x s :=
 ⟨h.below.trans (hb.mono (by have := h.r0.lt; omega)), h.r0.of_block (hb.block _ h.r0.lt), h.s8.of_block (hb.block _ h.s8.lt), h.xs.bytes (S := fun _ => False) (Chg.of_below hb fun k hk _ => hk) fun _ _ h => h⟩
theorem put8'_chg {S : Nat → Prop} {w w1 : World} {D : Nat} {g : Nat → Int} (h : Chg S w w1) (hD : S D) : Chg S w (put8' w1 D g) :=
 (((((((h.setCell (p := ⟨D, 0, none⟩) hD _).setCell (p := ⟨D, 1, none⟩) hD _).setCell (p := ⟨D, 2, none⟩) hD _).setCell (p := ⟨D, 3, none⟩) hD _).setCell (p := ⟨D, 4, none⟩) hD _).setCell (p := ⟨D, 5, none⟩) hD _).setCell (p := ⟨D, 6, none⟩) hD _).setCell (p := ⟨D, 7, none⟩) hD _
theorem RefAt.put {w wr : World} {N : Nat} {v : Value} {x : List UInt8} {s : List Int} (h : RefAt w wr N v x s) (s' : List Int) : RefAt w (put8' wr (N + 1) (gI s')) N v x s' :=
 ⟨put8'_below h.below (by omega), put8'_other h.r0 (by omega), put8'_row h.s8 s', h.xs.bytes (S := (· = N + 1)) (put8'_chg (Chg.refl _ _) rfl) fun b hb e => by omega⟩
theorem SlP.bound {P : Nat → Prop} {w : World} {v : Value} {xs : List UInt8} (h : SlP RByte 1 P w v xs) : SlByte w.heap.size w v xs := by
 obtain ⟨a, b, off, cap, h1, h2, h3, h4, h5, h6⟩ := h
 exact ⟨a, b, off, cap, h1, h2, h3, h4, fun hp => ⟨(h5 hp).1, cell_lt (h6 0 hp)⟩, h6⟩
theorem row8_kept {w w1 : World} {D : Nat} {T : TypeId} {s : List Int} (h : w.rowIs D T 8 (fun j => .int .u32 (gI s j))) (hb : Below w.drew.heap.size w.drew w1) :
 w1.cell? ⟨D, 0, none⟩ = some (.int .u32 (gI s 0)) ∧ w1.cell? ⟨D, 1, none⟩ = some (.int .u32 (gI s 1)) ∧ w1.cell? ⟨D, 2, none⟩ = some (.int .u32 (gI s 2)) ∧ w1.cell? ⟨D, 3, none⟩ = some (.int .u32 (gI s 3)) ∧
 w1.cell? ⟨D, 4, none⟩ = some (.int .u32 (gI s 4)) ∧ w1.cell? ⟨D, 5, none⟩ = some (.int .u32 (gI s 5)) ∧ w1.cell? ⟨D, 6, none⟩ = some (.int .u32 (gI s 6)) ∧ w1.cell? ⟨D, 7, none⟩ = some (.int .u32 (gI s 7)) ∧
 w1.frozen? ⟨D, 0, none⟩ = false ∧ w1.frozen? ⟨D, 1, none⟩ = false ∧ w1.frozen? ⟨D, 2, none⟩ = false ∧ w1.frozen? ⟨D, 3, none⟩ = false ∧ w1.frozen? ⟨D, 4, none⟩ = false ∧ w1.frozen? ⟨D, 5, none⟩ = false ∧ w1.frozen? ⟨D, 6, none⟩ = false ∧ w1.frozen? ⟨D, 7, none⟩ = false := by
 have hr := h.drew.of_block (hb.block D h.lt)
 exact ⟨hr.cell (by omega), hr.cell (by omega), hr.cell (by omega), hr.cell (by omega), hr.cell (by omega), hr.cell (by omega), hr.cell (by omega), hr.cell (by omega), hr.frozen _, hr.frozen _, hr.frozen _, hr.frozen _, hr.frozen _, hr.frozen _, hr.frozen _, hr.frozen _⟩
structure OutAt (w wr : World) (N P : Nat) (s : List Int) (k : Nat) : Prop where
 below : Below N w wr
 hNP : N + 1 < P
 r0 : wr.rowIs N 124 32 (fun _ => .int .u8 0)
 s8 : wr.rowIs (N + 1) 161 8 (fun j => .int .u32 (gI s j))
 r1 : wr.rowIs P 124 32 (byteF (outTo s k))
theorem OutAt.put {w wr : World} {N P k : Nat} {s : List Int} (h : OutAt w wr N P s k) (hk : k < 32) (h0 : 0 ≤ gI s (k / 4)) : OutAt w (wr.setCell ⟨P, k, none⟩ (.int .u8 (gI s (k / 4) / 2 ^ (24 - 8 * (k % 4)) % 256))) N P s (k + 1) where
 below := h.below.setCell (by have := h.hNP; show N ≤ P; omega) _
 hNP := h.hNP
 r0 := h.r0.setOther (by have := h.hNP; show N ≠ P; omega) _
 s8 := h.s8.setOther (by have := h.hNP; show N + 1 ≠ P; omega) _
 r1 := (h.r1.set k _).congr fun i hi => by
  unfold byteF
  rw [outTo_get _ _ _ hi, outTo_get _ _ _ hi]
  by_cases e : i = k
  ·subst e
   rw [if_pos rfl, if_pos (by omega)]
   have := outB_quot s (i / 4) (i % 4) (by omega) h0
   rw [show 4 * (i / 4) + i % 4 = i by omega] at this
   rw [this]
  rw [if_neg e]
  by_cases h1 : i < k
  ·rw [if_pos h1, if_pos (by omega)]
  rw [if_neg h1, if_neg (by omega)]
set_option maxHeartbeats 2000000 in
set_option maxRecDepth 100000 in
theorem sumR_any (B : Nat) (v : Value) (b : List UInt8) (w : World) (hB : B ≤ w.heap.size) (hv : SlByte B w v b) (hl : b.length ≤ 1000000) :
 Calls Tryz.prog 86 #[v] w fun e w' => e = .returned (aggB (sumM b)) ∧ Below w.heap.size w w' := by
 have HV := Lib.hid hv; have HL := Lib.hid hl; clear hv hl
 go_enter Tryz.func86, Tryz.ntmps86
 go_upto_region 2 with fail
 generalize hW2 : World.alloc (World.alloc w _) _ = W2
 have hb2 : Below w.heap.size w W2 := by subst hW2; exact ((Below.refl _ _).alloc (Nat.le_refl _) _).alloc (by simp) _
 have hr0 : W2.rowIs w.heap.size 124 32 (fun _ => .int .u8 0) := by
  subst hW2; exact (zeros_row w _ _ _ 32 kr).alloc _
 have hr8 : W2.rowIs (w.heap.size + 1) 161 8 (fun j => .int .u32 (gI firstM j)) := by
  subst hW2
  have := World.rowIs_alloc (w.alloc (.cells (Array.replicate 32 (Value.int .u8 0)) 124)) #[.int .u32 (gI firstM 0), .int .u32 (gI firstM 1), .int .u32 (gI firstM 2), .int .u32 (gI firstM 3), .int .u32 (gI firstM 4), .int .u32 (gI firstM 5), .int .u32 (gI firstM 6), .int .u32 (gI firstM 7)] 161 (fun j => .int .u32 (gI firstM j)) (fun i hi => row8 firstM i hi)
  rw [World.size_alloc] at this
  exact this
 have hz2 : W2.heap.size = w.heap.size + 2 := by subst hW2; simp
 clear hW2
 have HB2 := Lib.hid hb2; have HR0 := Lib.hid hr0; have HR8 := Lib.hid hr8; have HZ2 := Lib.hid hz2
 clear hb2 hr0 hr8 hz2
 go_wp2_with fail
 refine (fill_any B v b W2 (Nat.le_trans hB HB2.out.size) (SlByte.below HV.out (HB2.out.mono hB) (Nat.le_refl _)) HL.out).mono ?_
 rintro e w3 ⟨x, rfl, hx, hb3⟩
 have hR : RefAt w w3 w.heap.size x (b ++ padM b.length) (stateN firstM (b ++ padM b.length) 0) :=
  ⟨HB2.out.trans (hb3.mono HB2.out.size), HR0.out.of_block (hb3.block _ HR0.out.lt), HR8.out.of_block (hb3.block _ HR8.out.lt), hx.imp fun k hk => by have := HZ2.out; omega⟩
 obtain ⟨M, hM⟩ : ∃ M, (b ++ padM b.length).length = 64 * M := by
  refine ⟨(b.length + 72) / 64, ?_⟩
  rw [List.length_append, padM_length]
  omega
 obtain ⟨L, hLL⟩ : ∃ L, L = b ++ padM b.length := ⟨_, rfl⟩
 rw [← hLL] at hR hM
 have hMb : 64 * M ≤ 1000072 := by
  rw [← hM, hLL, List.length_append, padM_length]; have := HL.out; omega
 obtain ⟨ax, bx, ox, cx, hx1, hx2, hx3, hx4, hx5, hx6⟩ := id hR.xs
 rw [hM] at hx1 hx2
 have hcb : cx ≤ 9223372036854775807 := by unfold maxLen at hx3; omega
 subst hx1
 have HR := Lib.hid hR; have HLL := Lib.hid hLL; have HM := Lib.hid hM
 clear hR hLL hM hx hb3 hx3 hx4 hx5 hx6 HV
 go_wp2_with fail
 go_loopw [5] (fun i wr => ∃ k : Nat, k ≤ M ∧ i = .int .i64 ((64 * k : Nat) : Int) ∧ RefAt w wr w.heap.size (.slice ax (64 * M) cx) L (stateN firstM L k)) (fun i _ => (64 * (M : Int) - intOf i).toNat)
 case atStart => exact ⟨0, Nat.zero_le _, rfl, HR.out⟩
 case round =>
  obtain ⟨k, hk, rfl, hE⟩ := hrel
  obtain ⟨at_, hat⟩ : ∃ at_, at_ = 64 * k := ⟨_, rfl⟩
  obtain ⟨ln, hln⟩ : ∃ ln, ln = 64 * M := ⟨_, rfl⟩
  rw [← hat]
  rw [← hln] at hx2 hE hMb ⊢
  by_cases hlt : k < M
  ·have h64 : at_ + 64 ≤ ln := by omega
   have hsub := run_sub (P := Tryz.prog) Tryz.underlying39 sizeByte ax ln cx at_ (at_ + 64) .i64 .i64 (by omega) (by omega)
   rw [show ((at_ + 64 : Nat) : Int) = (at_ : Int) + 64 by omega] at hsub
   have hsp := hE.xs.sub (l := at_) (h := at_ + 64) (by omega) (by rw [HM.out]; omega)
   have hblk : (L.take (at_ + 64)).drop at_ = (L.drop (64 * k)).take 64 := by
    rw [List.drop_take, hat]; congr 1; omega
   rw [hblk] at hsp
   have hbl : ((L.drop (64 * k)).take 64).length = 64 := by rw [List.length_take, List.length_drop, HM.out]; omega
   obtain ⟨st, hst⟩ : ∃ st, st = stateN firstM L k := ⟨_, rfl⟩
   have hst1 : stateN firstM L (k + 1) = stepM st ((L.drop (64 * k)).take 64) := by rw [hst]; rfl
   rw [← hst] at hE
   obtain ⟨blk, hbk⟩ : ∃ blk, blk = (L.drop (64 * k)).take 64 := ⟨_, rfl⟩
   rw [← hbk] at hsp hbl hst1
   obtain ⟨v64, hv64⟩ : ∃ v64, v64 = subV 1 ax at_ (at_ + 64) cx := ⟨_, rfl⟩
   rw [← hv64] at hsub hsp
   have hstep := step_any wr.heap.size v64 st blk wr.drew (Nat.le_refl _) hsp.bound hbl
   unfold agg8 at hstep
   have s0 := hE.s8.cell (show 0 < 8 by omega)
   have s1 := hE.s8.cell (show 1 < 8 by omega)
   have s2 := hE.s8.cell (show 2 < 8 by omega)
   have s3 := hE.s8.cell (show 3 < 8 by omega)
   have s4 := hE.s8.cell (show 4 < 8 by omega)
   have s5 := hE.s8.cell (show 5 < 8 by omega)
   have s6 := hE.s8.cell (show 6 < 8 by omega)
   have s7 := hE.s8.cell (show 7 < 8 by omega)
   have HSTEP := Lib.hid hstep; have HE := Lib.hid hE; have HST1 := Lib.hid hst1; have HAT := Lib.hid hat; have HLN := Lib.hid hln
   clear hstep hE hst1 hst hbk hbl hsp hblk hat hln hv64
   have hab : (at_ : Int) < (ln : Int) := by omega
   have hw64 : IntKind.i64.wrap ((at_ : Int) + 64) = (at_ : Int) + 64 := wrap_i64 (by unfold I64; omega)
   go_upto_region 6 with fail
   go_region_with ((go_at_call 123; refine (HSTEP.out).mono ?_; rintro e w6 ⟨rfl, hb6⟩; obtain ⟨t0, t1, t2, t3, t4, t5, t6, t7, f0, f1, f2, f3, f4, f5, f6, f7⟩ := row8_kept HE.out.s8 hb6; have HB6 := Lib.hid hb6; clear hb6))
   clear t0 t1 t2 t3 t4 t5 t6 t7 f0 f1 f2 f3 f4 f5 f6 f7 s0 s1 s2 s3 s4 s5 s6 s7
   have hnew := (HE.out.drew.after HB6.out).put (stepM st blk)
   unfold put8' at hnew
   have HNEW := Lib.hid hnew; clear hnew
   generalize (((((((World.setCell w6 _ _).setCell _ _).setCell _ _).setCell _ _).setCell _ _).setCell _ _).setCell _ _).setCell _ _ = W7 at *
   go_wp2_with fail
   go_roundw
   case rel =>
    refine ⟨k + 1, by omega, int_eq (by have := HAT.out; omega), ?_⟩
    rw [HST1.out]
    exact HNEW.out
   case measure => have := HLN.out; have := HAT.out; simp [intOf]; omega
  obtain rfl : k = M := by omega
  have hdiv : L.length / 64 = k := by rw [HM.out]; omega
  obtain ⟨st, hst⟩ : ∃ st, st = stateM L := ⟨_, rfl⟩
  have hst1 : stateN firstM L k = st := by rw [hst]; unfold stateM; rw [hdiv]
  rw [hst1] at hE
  obtain rfl : at_ = ln := by omega
  have HE := Lib.hid hE; have HST := Lib.hid hst; have HAT := Lib.hid hat
  clear hE hst hst1 hdiv hat hln
  go_wp2_with fail
  generalize hW9 : wr.alloc _ = W9
  have ho : OutAt w W9 w.heap.size wr.heap.size st 0 := by
   subst hW9
   have hl := HE.out.s8.lt
   refine ⟨HE.out.below.alloc (by have := HE.out.below.size; omega) _, by omega, HE.out.r0.alloc _, HE.out.s8.alloc _, (zeros_row wr _ _ (.int .u8 0) 32 kr).congr fun i _ => rfl⟩
  clear hW9
  go_loopw [7] (fun i wq => ∃ j : Nat, j ≤ 32 ∧ i = .int .i64 j ∧ OutAt w wq w.heap.size wr.heap.size st j) (fun i _ => (32 - intOf i).toNat)
  case atStart => exact ⟨0, by omega, rfl, ho⟩
  case round =>
   obtain ⟨j, hj, rfl, hO⟩ := hrel
   by_cases hlt : j < 32
   ·have q := hO.s8.cell (show j / 4 < 8 by omega)
    have p := hO.r1.cell hlt
    have pf := hO.r1.frozen j
    have e4 : ((j : Int) / 4).toNat = j / 4 := by omega
    have b4 : 0 ≤ (j : Int) / 4 ∧ (j : Int) / 4 < 8 := by omega
    have sh : (24 - 8 * ((j : Int) % 4)).toNat = 24 - 8 * (j % 4) := by omega
    have shb : 0 ≤ 24 - 8 * ((j : Int) % 4) ∧ 24 - 8 * ((j : Int) % 4) < 32 := by omega
    have HO := Lib.hid hO; clear hO
    go_wp2_with fail
    go_roundw
    case rel => exact ⟨j + 1, by omega, by go_num, HO.out.put hlt (by rw [HST.out]; exact state_nonneg L _)⟩
    case measure => simp [intOf]; omega
   obtain rfl : j = 32 := by omega
   have g1 := rowIs_heap hO.r1
   have hall : outTo st 32 = outM st := List.take_of_length_le (by simp [outM])
   rw [hall, rowArr_bytes (outM st) 32 (by simp [outM])] at g1
   obtain ⟨old, g0, hold⟩ := row_any hO.r0
   have HBE := Lib.hid hO.below
   obtain ⟨ob, hob⟩ : ∃ ob, ob = ((outM st).flatMap encByte).toArray := ⟨_, rfl⟩
   rw [← hob] at g1
   have hoa := bytesArr (outM st)
   rw [← hob, outM_length] at hoa
   have HOB := Lib.hid hob; have HOA := Lib.hid hoa
   clear hO hall hob hoa
   have h25 : (Tryz.prog.info? 124).map (·.size) = some 32 := by kernel_rfl
   obtain ⟨P, hP⟩ : ∃ P, P = World.heap wr := ⟨_, rfl⟩
   go_wp2_with (first | (refine wpList_load_row rfl 124 _ rfl _ rfl 124 _ (0, 0) _ g1 Tryz.underlying124 rfl (by rw [h25, HOA.out.1]) ?_) | (refine wpList_store_row rfl 124 _ _ rfl w.heap.size ob rfl rfl 124 old g0 (by rw [h25, HOA.out.1]) (by rw [HOA.out.1, hold]) HOA.out.2 ?_) | fail)
   (try simp only [Exit.inBlock, Exit.then])
   refine bodyPost_ret (v := .agg ob) ?_ rfl ⟨?_, below_setRow HBE.out (Nat.le_refl _) ob⟩
   ·exact results_cell_row rfl _ _ w.heap.size 124 _ (0, 0) _ rfl (setRow_heap _ w.heap.size old ob 124 (0, 0) g0) Tryz.underlying124 rfl (by rw [h25, HOA.out.1])
   rw [HOB.out, HST.out, HLL.out]; rfl
structure NameAt (w wr : World) (N P : Nat) (s : List UInt8) (k : Nat) : Prop where
 below : Below N w wr
 hNP : N + 1 < P
 r0 : wr.rowIs N 66 16 (fun _ => .int .u8 0)
 r1 : wr.rowIs (N + 1) 66 16 (byteF (s.take k))
 sm : wr.rowIs P 124 32 (byteF s)
theorem byteM_take (s : List UInt8) (k i : Nat) : byteM (s.take k) i = if i < k then byteM s i else 0 := by
 unfold byteM
 rw [List.getD_eq_getElem?_getD, List.getElem?_take]
 by_cases h : i < k
 ·rw [if_pos h, if_pos h, List.getD_eq_getElem?_getD]
 rw [if_neg h, if_neg h]; rfl
theorem NameAt.put {w wr : World} {N P k : Nat} {s : List UInt8} (h : NameAt w wr N P s k) (hk : k < 16) : NameAt w (wr.setCell ⟨N + 1, k, none⟩ (.int .u8 (byteM s k))) N P s (k + 1) where
 below := h.below.setCell (by show N ≤ N + 1; omega) _
 hNP := h.hNP
 r0 := h.r0.setOther (by show N ≠ N + 1; omega) _
 sm := h.sm.setOther (by have := h.hNP; show P ≠ N + 1; omega) _
 r1 := (h.r1.set k _).congr fun i hi => by
  unfold byteF
  rw [byteM_take, byteM_take]
  by_cases e : i = k
  ·subst e; rw [if_pos rfl, if_pos (by omega)]
  rw [if_neg e]
  by_cases h1 : i < k
  ·rw [if_pos h1, if_pos (by omega)]
  rw [if_neg h1, if_neg (by omega)]
set_option maxHeartbeats 1000000 in
set_option maxRecDepth 100000 in
theorem idR_any (B : Nat) (v : Value) (b : List UInt8) (w : World) (hB : B ≤ w.heap.size) (hv : SlByte B w v b) (hl : b.length ≤ 1000000) :
 Calls Tryz.prog 49 #[v] w fun e w' => e = .returned (aggB ((sumM b).take 16)) ∧ Below w.heap.size w w' := by
 have HV := Lib.hid hv; have HL := Lib.hid hl; clear hv hl
 go_enter Tryz.func49, Tryz.ntmps49
 go_wp2_with fail
 generalize hW : World.alloc (World.alloc w _) _ = W1
 have hb1 : Below w.heap.size w W1 := by subst hW; exact ((Below.refl _ _).alloc (Nat.le_refl _) _).alloc (by simp) _
 have hr0 : W1.rowIs w.heap.size 66 16 (fun _ => .int .u8 0) := by
  subst hW; exact (zeros_row w _ _ _ 16 kr).alloc _
 have hr1 : W1.rowIs (w.heap.size + 1) 66 16 (fun _ => .int .u8 0) := by
  subst hW
  have := zeros_row (w.alloc (.cells (Array.replicate 16 (Value.int .u8 0)) 66)) (Array.replicate 16 (Value.int .u8 0)) 66 _ 16 rfl
  rw [World.size_alloc] at this
  exact this
 have hz : W1.heap.size = w.heap.size + 2 := by subst hW; simp
 have HR0 := Lib.hid hr0; have HR1 := Lib.hid hr1; have HB1 := Lib.hid hb1; have HZ := Lib.hid hz
 clear hW hr0 hr1 hb1 hz
 refine (sumR_any B v b W1 (Nat.le_trans hB HB1.out.size) (SlByte.below HV.out (HB1.out.mono hB) (Nat.le_refl _)) HL.out).mono ?_
 rintro e w2 ⟨rfl, hb2⟩
 have HB2 := Lib.hid hb2; clear hb2
 obtain ⟨ob, hob⟩ : ∃ ob, ob = ((sumM b).flatMap encByte).toArray := ⟨_, rfl⟩
 unfold aggB
 rw [← hob]
 have hoa := bytesArr (sumM b)
 rw [← hob, sumM_length] at hoa
 have HOB := Lib.hid hob; have HOA := Lib.hid hoa
 clear hob hoa
 have h25 : (Tryz.prog.info? 124).map (·.size) = some 32 := by kernel_rfl
 have h28 : (Tryz.prog.info? 66).map (·.size) = some 16 := by kernel_rfl
 go_upto_region 3 with (first | (refine wpList_store_row rfl 124 _ _ rfl w2.heap.size ob rfl rfl 124 _ (heap_alloc_new _ _) (by rw [h25, HOA.out.1]) (by rw [HOA.out.1]; rfl) HOA.out.2 ?_) | fail)
 generalize hW3 : World.setRow (World.alloc w2 _) _ _ = W3
 have g3 : W3.heap[w2.heap.size]? = some (.cells ob 124 (0, 0)) := by subst hW3; exact setRow_heap _ _ _ _ _ (0, 0) (heap_alloc_new _ _)
 have hb3 : Below w2.heap.size w2 W3 := by subst hW3; exact below_setRow ((Below.refl _ _).alloc (Nat.le_refl _) _) (Nat.le_refl _) _
 clear hW3
 have hN : NameAt w W3 w.heap.size w2.heap.size (sumM b) 0 := by
  have k0 := HR0.out.lt
  have k1 := HR1.out.lt
  refine ⟨(HB1.out.trans (HB2.out.mono HB1.out.size)).trans (hb3.mono (Nat.le_trans HB1.out.size HB2.out.size)), by have := HB2.out.size; omega, (HR0.out.of_block (HB2.out.block _ k0)).of_block (hb3.block _ (Nat.lt_of_lt_of_le k0 HB2.out.size)), ((HR1.out.of_block (HB2.out.block _ k1)).of_block (hb3.block _ (Nat.lt_of_lt_of_le k1 HB2.out.size))).congr fun i _ => rfl, ?_⟩
  rw [HOB.out, ← rowArr_bytes (sumM b) 32 (sumM_length b)] at g3
  exact ⟨_, g3, by simp [rowArr], fun i hi => by simp [rowArr, hi]⟩
 have HN := Lib.hid hN
 clear g3 hb3 hN
 generalize hsm : sumM b = sm at *
 have HSM := Lib.hid hsm; clear hsm
 go_wp2_with fail
 go_loopw [5] (fun i wr => ∃ k : Nat, k ≤ 16 ∧ i = .int .i64 k ∧ NameAt w wr w.heap.size w2.heap.size sm k) (fun i _ => (16 - intOf i).toNat)
 case atStart => exact ⟨0, by omega, rfl, HN.out⟩
 case round =>
  obtain ⟨k, hk, rfl, hE⟩ := hrel
  by_cases hlt : k < 16
  ·have q := hE.sm.cell (show k < 32 by omega)
   unfold byteF at q
   have p := hE.r1.cell hlt
   have f := hE.r1.frozen k
   have HE := Lib.hid hE; clear hE
   go_wp2_with fail
   go_roundw
   case rel => exact ⟨k + 1, by omega, by go_num, HE.out.put hlt⟩
   case measure => simp [intOf]; omega
  obtain rfl : k = 16 := by omega
  have hl16 : (sm.take 16).length = 16 := by rw [List.length_take, ← HSM.out, sumM_length]; rfl
  have g1 := rowIs_heap hE.r1
  rw [rowArr_bytes _ 16 hl16] at g1
  obtain ⟨old, g0, hold⟩ := row_any hE.r0
  have HBE := Lib.hid hE.below
  obtain ⟨oc, hoc⟩ : ∃ oc, oc = ((sm.take 16).flatMap encByte).toArray := ⟨_, rfl⟩
  rw [← hoc] at g1
  have hoca := bytesArr (sm.take 16)
  rw [← hoc, hl16] at hoca
  have HOC := Lib.hid hoc; have HOCA := Lib.hid hoca
  clear hE hoc hoca hl16
  go_wp2_with (first | (refine wpList_load_row rfl 66 _ rfl _ rfl 66 _ (0, 0) _ g1 Tryz.underlying66 rfl (by rw [h28, HOCA.out.1]) ?_) | (refine wpList_store_row rfl 66 _ _ rfl w.heap.size oc rfl rfl 66 old g0 (by rw [h28, HOCA.out.1]) (by rw [HOCA.out.1, hold]) HOCA.out.2 ?_) | fail)
  (try simp only [Exit.inBlock, Exit.then])
  refine bodyPost_ret (v := .agg oc) ?_ rfl ⟨by rw [HOC.out, ← HSM.out]; rfl, below_setRow HBE.out (Nat.le_refl _) oc⟩
  exact results_cell_row rfl _ _ w.heap.size 66 _ (0, 0) _ rfl (setRow_heap _ w.heap.size old oc 66 (0, 0) g0) Tryz.underlying66 rfl (by rw [h28, HOCA.out.1])
theorem aggB_eq (l : List UInt8) : aggB l = .agg (l.map vByte).toArray := by
 unfold aggB
 congr 2
 induction l with
 | nil => rfl
 | cons b l ih => rw [List.flatMap_cons, List.map_cons, ih]; rfl
theorem slByte_of {w : World} {Pu : Nat → Prop} {v : Value} {b : List UInt8} (h : IsSl rByte Pu w v b) (hb : ∀ k, Pu k → k < w.heap.size) : SlByte w.heap.size w v b := by
 obtain ⟨ad, cap, bb, off, rfl, hs⟩ := h
 refine ⟨ad, bb, off, cap, rfl, hs.hcap, by unfold maxLen; have := hs.hmax; omega, hs.hnil, fun h0 => ⟨hs.had h0, hb _ (hs.cell 0 h0).1⟩, fun i hi => (hs.cell i hi).2.1⟩
def nameM (b : List UInt8) : List UInt8 := (sumM b).take 16
theorem nameM_len (b : List UInt8) : (nameM b).length = 16 := by
 unfold nameM
 rw [List.length_take, sumM_length]
 rfl
theorem name_tr {Pu : Nat → Prop} (v : Value) (b : List UInt8) (hl : b.length ≤ 1000000) : Tr Tryz.prog 63 #[v] [slc rByte Pu v b] [] (T0 (vID (nameM b))) := fun w hro _ => by
 have hr := hro _ (List.mem_cons_self ..)
 rw [show vID (nameM b) = aggB ((sumM b).take 16) from (aggB_eq _).symm]
 refine (id_any w.heap.size v b w (Nat.le_refl _) (slByte_of hr.1 fun k hk => (hr.2 k hk).1) hl).mono ?_
 rintro e w' ⟨he, hb⟩
 exact ⟨_, [], he, ⟨rfl, rfl⟩, ⟨(Chg.none_of_below hb).mono fun b hb => hb.elim, by simp, by simp, .nil⟩⟩
theorem nameR_tr {Pu : Nat → Prop} (v : Value) (b : List UInt8) (hl : b.length ≤ 1000000) : Tr Tryz.prog 49 #[v] [slc rByte Pu v b] [] (T0 (vID (nameM b))) := fun w hro _ => by
 have hr := hro _ (List.mem_cons_self ..)
 rw [show vID (nameM b) = aggB ((sumM b).take 16) from (aggB_eq _).symm]
 refine (idR_any w.heap.size v b w (Nat.le_refl _) (slByte_of hr.1 fun k hk => (hr.2 k hk).1) hl).mono ?_
 rintro e w' ⟨he, hb⟩
 exact ⟨_, [], he, ⟨rfl, rfl⟩, ⟨(Chg.none_of_below hb).mono fun b hb => hb.elim, by simp, by simp, .nil⟩⟩
def nmsC (ck : List CT) : List (List UInt8) := (cks ck).map (·.1)
def tkV (ck : List CT) (b : List UInt8) (v : Value) : List CT := if nameM b ∈ nmsC ck then ck else ck ++ [((nameM b, b), v)]
def takeC (acc : List (List UInt8 × List UInt8)) (b : List UInt8) : List (List UInt8 × List UInt8) := if nameM b ∈ acc.map (·.1) then acc else acc ++ [(nameM b, b)]
theorem cks_snoc (ck : List CT) (x : CT) : cks (ck ++ [x]) = cks ck ++ [x.1] := by simp [cks]
theorem cks_tk (ck : List CT) (b : List UInt8) (v : Value) : cks (tkV ck b v) = takeC (cks ck) b := by
 unfold tkV takeC nmsC
 split
 ·rfl
 rw [cks_snoc]
theorem nms_snoc (ck : List CT) (x : CT) : nmsC (ck ++ [x]) = nmsC ck ++ [x.1.1] := by
 unfold nmsC
 rw [cks_snoc, List.map_append]
 rfl
theorem tkV_in {ck : List CT} {b : List UInt8} {v : Value} (h : nameM b ∈ nmsC ck) : tkV ck b v = ck := if_pos h
theorem tkV_new {ck : List CT} {b : List UInt8} {v : Value} (h : ¬ nameM b ∈ nmsC ck) : tkV ck b v = ck ++ [((nameM b, b), v)] := if_neg h
theorem tkV_len (ck : List CT) (b : List UInt8) (v : Value) : (tkV ck b v).length ≤ ck.length + 1 := by
 unfold tkV
 split
 ·omega
 rw [List.length_append, List.length_singleton]; omega
theorem chC_eq {id b : List UInt8} {v : Value} (h : id.length = 16) : chC ((id, b), v) = id.map vByte ++ [v] := by
 unfold chC
 rw [pad16_eq h]
theorem builtCk' : ∀ (xs : List Value) (v : Value), xs.length = 16 → v.oneCell' = true → Tryz.prog.built 71 [(0, .agg xs.toArray), (1, v)] = some (xs ++ [v]).toArray
 | [_, _, _, _, _, _, _, _, _, _, _, _, _, _, _, _], v, _, hv => by cases v <;> first | (cases hv; done) | kernel_rfl
theorem builtCk {id b : List UInt8} {v : Value} (h : id.length = 16) (hv : v.oneCell' = true) : Tryz.prog.built 71 [(0, vID id), (1, v)] = some (chC ((id, b), v)).toArray := by
 rw [chC_eq h]
 exact builtCk' (id.map vByte) v (by rw [List.length_map, h]) hv
theorem fillCk : ∀ xs : List Value, xs.length = 17 → Instr.fill (fun i => some (i * 17, 17)) ((Array.range (1 * 17)).map ((Value.agg #[.int .u8 0, .int .u8 0, .int .u8 0, .int .u8 0, .int .u8 0, .int .u8 0, .int .u8 0, .int .u8 0, .int .u8 0, .int .u8 0, .int .u8 0, .int .u8 0, .int .u8 0, .int .u8 0, .int .u8 0, .int .u8 0, .slice none 0 0]).cells[· % (Value.agg #[.int .u8 0, .int .u8 0, .int .u8 0, .int .u8 0, .int .u8 0, .int .u8 0, .int .u8 0, .int .u8 0, .int .u8 0, .int .u8 0, .int .u8 0, .int .u8 0, .int .u8 0, .int .u8 0, .int .u8 0, .int .u8 0, .slice none 0 0]).cells.size]!)) [(0, .agg xs.toArray)] = some xs.toArray
 | [_, _, _, _, _, _, _, _, _, _, _, _, _, _, _, _, _], _ => by kernel_rfl
theorem Tryz.infoCkfill : (Tryz.prog.info? 71).map (fun i => (i.zero, i.size)) = some (some (Value.agg #[.int .u8 0, .int .u8 0, .int .u8 0, .int .u8 0, .int .u8 0, .int .u8 0, .int .u8 0, .int .u8 0, .int .u8 0, .int .u8 0, .int .u8 0, .int .u8 0, .int .u8 0, .int .u8 0, .int .u8 0, .int .u8 0, .slice none 0 0]), 17) := by kernel_rfl
theorem chC_snoc (ck : List CT) (x : CT) : ck.flatMap chC ++ chC x = (ck ++ [x]).flatMap chC := by simp [List.flatMap_append]
set_option maxRecDepth 20000 in
set_option maxHeartbeats 4000000 in
theorem take_tr {Pu : Nat → Prop} (C bm : Nat) (vl v : Value) (ck : List CT) (b : List UInt8) (hn : ck.length ≤ 100000000) (hb : b.length ≤ 1000000) (hv : v.oneCell' = true) : Tr Tryz.prog 82 #[.pointer (some ⟨C, 0, none⟩), v] [slc rByte Pu v b] [blk C 78 [.map (some bm), vl], mpc vID ok16 bm (setL (nmsC ck)), own 71 17 vl ck.length (ck.flatMap chC)]
 (TX (fun _ : Value => True) (fun _ => vID (nameM b)) (fun x => [blk C 78 [.map (some bm), x], mpc vID ok16 bm (setL (nmsC (tkV ck b v))), own 71 17 x (tkV ck b v).length ((tkV ck b v).flatMap chC)])) := by
 refine Tr.of (l := [(0, .pointer (some ⟨C, 0, none⟩)), (1, v)]) Tryz.func82 rfl (n := 40) rfl (.cons rfl (.cons rfl .nil)) (fun w0 hro => ?_)
 have hd := ro1 hro
 obtain ⟨id, hid⟩ : ∃ c, nameM b = c := ⟨_, rfl⟩
 have lq := nameM_len b
 rw [hid] at lq
 rw [hid]
 refine G.ownFact (v := vl) selT (fun hvl _ => ?_)
 refine go [9,10,60,11] ?_
 intro b4
 refine go [7,8,9,10,0] ?_
 refine G.op rfl (G.cR rfl rfl rfl rfl Tryz.func63 rfl rfl (may1 Y2) (name_tr _ b hb) ?_)
 rw [hid]
 refine go [60,11] ?_
 intro b5
 refine G.op rfl (G.storeN Y12 rfl rfl (List.all_eq_true.2 (vByte_one _)) selT (by simp [lq]) ?_)
 rw [putN_whole _ _ (by rw [List.length_map, lq]; rfl)]
 refine go [7,8,9,9] ?_
 refine G.drawT (nn := 12) (p := []) (rem := 4095) [0, 1, 2, 4, 0, 24, 32, 64, 64, 0, 767, 2047] [0, 1, 2, 4, 0, 24, 32, 64, 64, 0, 640, 256] kr ⟨rfl, by kernel_rfl, by kernel_rfl⟩ subT kr (fun hT2 => ?_)
 refine go [22,0,4094,0,22,1,4092,8,22,2,4088,3,0,22,3,4080,4] ?_
 refine G.takeT hT2 (i := 4) (rem' := 4064) rfl rfl rfl kr (fun _ _ _ h => h) rfl (pv_loadN (cs := id.map vByte) Tryz.underlying66 rfl Y12 rfl (blk_range (k := 16) selT (List.take_of_length_le Y10))) subT ?_
 refine G.takeT hT2 (i := 5) (rem' := 4032) rfl rfl rfl kr (fun _ _ _ h => h) rfl ((pv_mapGet (f := vID) (ok := ok16) (x := id) (z := .agg #[]) (xs := setL (nmsC ck)) keyI Tryz.underlying76 (fun w => by kernel_rfl) rfl rfl lq (sel_map selT)).cast (setL_look _ _)) subT ?_
 refine go [22,6,3968,0,22,7,3840,7,22,8,3584,7,24,9,3072] ?_
 refine G.turnOp rfl rfl (G.alloc (z := .agg #[]) (cs := []) rfl kr rfl ?_)
 intro b6
 refine go [26,24,10,2048] ?_
 refine G.turnOp rfl rfl (G.storeN kr rfl rfl (by first | exact all1_nil | exact List.all_eq_true.2 (vByte_one _) | rfl) selT leT ?_)
 refine go [26,22,11,0,1,27,8,9,10,0,2,25,7,8] ?_
 refine G.cond rfl (fun h20 => ?_) (fun h20 => ?_)
 ·have hni : ¬ id ∈ nmsC ck := by simpa using h20
  rw [tkV_new (by rw [hid]; exact hni), hid]
  refine G.seq ?_
  refine G.drawT (nn := 7) (p := [mpc vID ok16 bm _]) (rem := 127) [0, 1, 2, 4, 0, 0, 63] [0, 1, 2, 4, 0, 0, 56] kr ⟨rfl, by kernel_rfl, by kernel_rfl⟩ subT kr (fun hT4 => ?_)
  refine go [22,0,126,0,22,1,124,8,22,2,120,3,0] ?_
  refine G.takeT hT4 (i := 5) (rem' := 88) rfl rfl rfl kr (fun _ _ _ h => h) rfl (pv_buildSt (z := []) (pl := []) Tryz.underlying117 kr kr rfl flT) subT ?_
  refine go [22,3,80,4,24,4,64] ?_
  refine G.turnOp rfl rfl (G.val rfl rfl (pv_loadN (cs := id.map vByte) Tryz.underlying66 rfl Y12 rfl (blk_range (k := 16) selT (List.take_of_length_le Y10))) ?_)
  refine go [26,24,6,0] ?_
  refine G.turnOp rfl rfl (G.mapSet (f := vID) (ok := ok16) (x := id) (v := .agg #[]) (xs := setL (nmsC ck)) keyI Tryz.underlying76 rfl rfl rfl lq selT ?_)
  rw [setL_set hni, show nmsC ck ++ [id] = nmsC (ck ++ [((id, b), v)]) from (nms_snoc ck ((id, b), v)).symm]
  refine go [26,27,8] ?_
  refine G.drawT (nn := 13) (p := [blk C _ _, own 71 17 _ _ _]) (rem := 8191) [0, 0, 2, 4, 8, 0, 0, 96, 128, 272, 1023, 2047, 3071] [0, 0, 2, 4, 8, 0, 0, 96, 128, 272, 1, 1024, 2560] kr ⟨rfl, by kernel_rfl, by kernel_rfl⟩ subT kr (fun hT5 => ?_)
  refine go [22,0,8190,0,22,1,8188,0,22,2,8184,8,22,3,8176,3,1,22,6,8112,0] ?_
  refine G.takeT hT5 (i := 5) (rem' := 8080) rfl rfl rfl kr (fun _ _ _ h => h) rfl (pv_loadN (cs := id.map vByte) Tryz.underlying66 rfl Y12 rfl (blk_range (k := 16) selT (List.take_of_length_le Y10))) subT ?_
  refine G.takeT hT5 (i := 7) (rem' := 7952) rfl rfl rfl kr (fun _ _ _ h => h) rfl (pv_build (cells := (chC ((id, b), v)).toArray) (fun a ha => ha.pevs rfl) (builtCk lq hv)) subT ?_
  refine G.twoT hT5 (i := 4) (j := 8) (rem' := 7936) (rem'' := 7696) kr kr kr ?_ ?_
  ·refine go [25,4,26,24,8,7680] ?_
   refine G.turnOp rfl rfl (G.buildSlice (sz := 17) (cs := chC ((id, b), v)) rfl Tryz.underlying29 Tryz.infoCkfill (by decide) (by decide) rfl (fillCk _ (chC_len _)) ?_)
   intro b35
   refine go [26,24,9,7168] ?_
   refine G.turnOp rfl rfl (G.append (k := ck.length) (j := 1) (cs := ck.flatMap chC) (news := chC ((id, b), v)) (b := b35) (off := 0) rfl Tryz.underlying29 Tryz.infoCk rfl rfl rfl selT (fun _ => rfl) (fun h => by cases h) (chC_len _) (blk_news (k := 17) selT (by rw [List.drop_zero]; exact List.take_of_length_le (Nat.le_of_eq (chC_len _)))) (chC_one hv) (by omega) (by omega) ?_)
   intro vn
   rw [chC_snoc ck ((id, b), v), show ck.length + 1 = (ck ++ [((id, b), v)]).length from by rw [List.length_append]; rfl]
   refine G.ownFact (v := vn) selT (fun hvn _ => ?_)
   refine go [26,22,10,6144,8,22,11,4096,3,1,24,12,0,30,26,27,8,9,10] ?_
   refine G.op rfl (G.val rfl rfl (pv_loadN (cs := id.map vByte) Tryz.underlying66 rfl Y12 rfl (blk_range (k := 16) selT (List.take_of_length_le Y10))) ?_)
   refine G.op rfl (G.storeN Y12 rfl rfl (List.all_eq_true.2 (vByte_one _)) selT (by simp [lq]) ?_)
   rw [putN_whole _ _ (by rw [List.length_map, lq]; rfl)]
   refine go [7,8,11] ?_
   exact G.doneG (vn) trT rfl (Rv.cellN (cs := id.map vByte) rfl Tryz.underlying66 rfl Y12 (blk_range (k := 16) (b := b4) selT (List.take_of_length_le Y10)) Rv.nil) Y6 subT
  refine G.turnOp rfl rfl (G.buildSlice (sz := 17) (cs := chC ((id, b), v)) rfl Tryz.underlying29 Tryz.infoCkfill (by decide) (by decide) rfl (fillCk _ (chC_len _)) ?_)
  intro b35
  refine go [26,24,4,7680,25,4,26,24,9,7168] ?_
  refine G.turnOp rfl rfl (G.append (k := ck.length) (j := 1) (cs := ck.flatMap chC) (news := chC ((id, b), v)) (b := b35) (off := 0) rfl Tryz.underlying29 Tryz.infoCk rfl rfl rfl selT (fun _ => rfl) (fun h => by cases h) (chC_len _) (blk_news (k := 17) selT (by rw [List.drop_zero]; exact List.take_of_length_le (Nat.le_of_eq (chC_len _)))) (chC_one hv) (by omega) (by omega) ?_)
  intro vn
  rw [chC_snoc ck ((id, b), v), show ck.length + 1 = (ck ++ [((id, b), v)]).length from by rw [List.length_append]; rfl]
  refine G.ownFact (v := vn) selT (fun hvn _ => ?_)
  refine go [26,22,10,6144,8,22,11,4096,3,1,24,12,0,30,26,27,8,9,10] ?_
  refine G.op rfl (G.val rfl rfl (pv_loadN (cs := id.map vByte) Tryz.underlying66 rfl Y12 rfl (blk_range (k := 16) selT (List.take_of_length_le Y10))) ?_)
  refine G.op rfl (G.storeN Y12 rfl rfl (List.all_eq_true.2 (vByte_one _)) selT (by simp [lq]) ?_)
  rw [putN_whole _ _ (by rw [List.length_map, lq]; rfl)]
  refine go [7,8,11] ?_
  exact G.doneG (vn) trT rfl (Rv.cellN (cs := id.map vByte) rfl Tryz.underlying66 rfl Y12 (blk_range (k := 16) (b := b4) selT (List.take_of_length_le Y10)) Rv.nil) Y6 subT
 have hyi : id ∈ nmsC ck := by simpa using h20
 rw [tkV_in (by rw [hid]; exact hyi)]
 refine go [13,8,9,10] ?_
 refine G.op rfl (G.val rfl rfl (pv_loadN (cs := id.map vByte) Tryz.underlying66 rfl Y12 rfl (blk_range (k := 16) selT (List.take_of_length_le Y10))) ?_)
 refine G.op rfl (G.storeN Y12 rfl rfl (List.all_eq_true.2 (vByte_one _)) selT (by simp [lq]) ?_)
 rw [putN_whole _ _ (by rw [List.length_map, lq]; rfl)]
 refine go [7,8,11] ?_
 exact G.doneG (vl) trT rfl (Rv.cellN (cs := id.map vByte) rfl Tryz.underlying66 rfl Y12 (blk_range (k := 16) (b := b4) selT (List.take_of_length_le Y10)) Rv.nil) Y6 subT
theorem getD_last (l : List Nat) : (0 :: l).getD l.length 0 = l.getLastD 0 := by
 rcases List.eq_nil_or_concat l with rfl | ⟨a, x, rfl⟩
 ·rfl
 rw [List.concat_eq_append, List.getLastD_concat, List.length_append, List.length_singleton, List.getD_cons_succ, List.getD_eq_getElem?_getD, List.getElem?_append_right (Nat.le_refl _)]
 simp
theorem getD_pre {l t : List Nat} {k : Nat} (h : k ≤ l.length) : (0 :: (l ++ t)).getD k 0 = (0 :: l).getD k 0 := by
 cases k with
 | zero => rfl
 | succ k => rw [List.getD_cons_succ, List.getD_cons_succ, List.getD_eq_getElem?_getD, List.getD_eq_getElem?_getD, List.getElem?_append_left (by omega)]
theorem cut_inv (b : List UInt8) : ∀ i, (∀ j, (cutTo b i).getLastD 0 < j → j ≤ i → ¬ endsP ((b.take j).drop ((cutTo b i).getLastD 0))) ∧
 (∀ k (h : k < (cutTo b i).length), endsP ((b.take (cutTo b i)[k]).drop ((0 :: cutTo b i).getD k 0)) ∧ (0 :: cutTo b i).getD k 0 < (cutTo b i)[k] ∧ ∀ j, (0 :: cutTo b i).getD k 0 < j → j < (cutTo b i)[k] → ¬ endsP ((b.take j).drop ((0 :: cutTo b i).getD k 0)))
 | 0 => ⟨fun j h1 h2 => by omega, fun k h => by cases h⟩
 | i + 1 => by
  obtain ⟨ih1, ih2⟩ := cut_inv b i
  have hl := last_le b i
  by_cases h : endsP ((b.take (i + 1)).drop ((cutTo b i).getLastD 0))
  ·have e : cutTo b (i + 1) = cutTo b i ++ [i + 1] := if_pos h
   rw [e]
   refine ⟨fun j h1 h2 => ?_, fun k hk => ?_⟩
   ·rw [List.getLastD_concat] at h1
    omega
   rw [List.length_append, List.length_singleton] at hk
   rcases Nat.lt_or_ge k (cutTo b i).length with h1 | h1
   ·simp only [getD_pre (t := [i + 1]) (Nat.le_of_lt h1), List.getElem_append_left h1]
    exact ih2 k h1
   obtain rfl : k = (cutTo b i).length := by omega
   simp only [getD_pre (t := [i + 1]) (Nat.le_refl _), getD_last, List.getElem_append_right (Nat.le_refl _), Nat.sub_self, List.getElem_cons_zero]
   exact ⟨h, by omega, fun j h2 h3 => ih1 j h2 (by omega)⟩
  have e : cutTo b (i + 1) = cutTo b i := if_neg h
  rw [e]
  refine ⟨fun j h1 h2 => ?_, ih2⟩
  rcases Nat.lt_or_ge j (i + 1) with h3 | h3
  ·exact ih1 j h1 (by omega)
  obtain rfl : j = i + 1 := by omega
  exact h
def nxtC (b : List UInt8) : Nat × Bool := match (List.range b.length).find? fun n => decide (endsP (b.take (n + 1))) with
 | some n => (n + 1, true)
 | none => (b.length, false)
theorem nxtC_at {b : List UInt8} {n : Nat} (hn : n < b.length) (h : endsP (b.take (n + 1))) (h2 : ∀ j, j < n → ¬ endsP (b.take (j + 1))) : nxtC b = (n + 1, true) := by
 have : (List.range b.length).find? (fun n => decide (endsP (b.take (n + 1)))) = some n := by
  rw [List.find?_eq_some_iff_getElem]
  refine ⟨by simpa using h, n, by simpa using hn, by simp, fun j hj => ?_⟩
  simpa using h2 j hj
 unfold nxtC
 rw [this]
theorem nxtC_no {b : List UInt8} (h : ∀ j, j < b.length → ¬ endsP (b.take (j + 1))) : nxtC b = (b.length, false) := by
 have : (List.range b.length).find? (fun n => decide (endsP (b.take (n + 1)))) = none := by
  rw [List.find?_eq_none]
  intro x hx
  simpa using h x (by simpa using hx)
 unfold nxtC
 rw [this]
theorem drop_take_at (b : List UInt8) (a n : Nat) : (b.drop a).take n = (b.take (a + n)).drop a := by rw [List.drop_take, Nat.add_sub_cancel_left]
theorem atC_cut {b : List UInt8} {k : Nat} (h : k < (cutL b).length) : atC b (k + 1) = (cutL b)[k] := by
 rw [atC_succ, List.getD_eq_getElem?_getD, List.getElem?_eq_getElem h]
 rfl
theorem piece_next {b : List UInt8} {k : Nat} (h : k < (cutL b).length) : nxtC (b.drop (atC b k)) = ((pieceC b k).length, true) ∧ 0 < (pieceC b k).length ∧ b.drop (atC b k) = pieceC b k ++ b.drop (atC b (k + 1)) := by
 obtain ⟨h1, h2, h3⟩ := (cut_inv b b.length).2 k h
 have e : (cutTo b b.length)[k] = atC b (k + 1) := (atC_cut h).symm
 have hle := atC_le b (k + 1)
 have h1 : endsP ((b.take (cutTo b b.length)[k]).drop (atC b k)) := h1
 have h2 : atC b k < (cutTo b b.length)[k] := h2
 have h3 : ∀ j, atC b k < j → j < (cutTo b b.length)[k] → ¬ endsP ((b.take j).drop (atC b k)) := h3
 rw [e] at h1 h2 h3
 have hlen : (pieceC b k).length = atC b (k + 1) - atC b k := by unfold pieceC; rw [List.length_drop, List.length_take]; omega
 refine ⟨?_, by omega, ?_⟩
 ·have := nxtC_at (b := b.drop (atC b k)) (n := (pieceC b k).length - 1) (by rw [List.length_drop]; omega) (by rw [drop_take_at, show atC b k + ((pieceC b k).length - 1 + 1) = atC b (k + 1) by omega]; exact h1) fun j hj => by
   rw [drop_take_at]
   exact h3 _ (by omega) (by omega)
  rw [this, show (pieceC b k).length - 1 + 1 = (pieceC b k).length by omega]
 unfold pieceC
 have e2 : b.drop (atC b k) = (b.take (atC b (k + 1)) ++ b.drop (atC b (k + 1))).drop (atC b k) := by rw [List.take_append_drop]
 rw [e2, List.drop_append_of_le_length (by rw [List.length_take]; omega)]
theorem tail_next (b : List UInt8) : nxtC (b.drop (atC b (cutL b).length)) = ((b.drop (atC b (cutL b).length)).length, false) := by
 have hat : atC b (cutL b).length = (cutTo b b.length).getLastD 0 := getD_last _
 refine nxtC_no fun j hj => ?_
 rw [drop_take_at, hat]
 rw [hat, List.length_drop] at hj
 exact (cut_inv b b.length).1 _ (by omega) (by omega)
theorem piecesC_len (b : List UInt8) (k : Nat) : (piecesC b k).length = k := by simp [piecesC]
theorem piecesC_get {b : List UInt8} {n k : Nat} (h : k < n) : (piecesC b n)[k]? = some (pieceC b k) := by simp [piecesC, h]
theorem chunks_next (b : List UInt8) : ∀ k, k ≤ (chunksC b).length → (k ≤ (cutL b).length → ((chunksC b).drop k).flatten = b.drop (atC b k)) ∧ (∀ h : k < (chunksC b).length, nxtC ((chunksC b).drop k).flatten = ((chunksC b)[k].length, decide (k < (cutL b).length)) ∧ 0 < (chunksC b)[k].length) := by
 have hlen : (chunksC b).length = (cutL b).length + (if atC b (cutL b).length < b.length then 1 else 0) := by
  unfold chunksC
  rw [List.length_append, piecesC_len]
  split <;> rfl
 have hget : ∀ k, k < (cutL b).length → (chunksC b)[k]? = some (pieceC b k) := fun k hk => by
  unfold chunksC
  rw [List.getElem?_append_left (by rw [piecesC_len]; exact hk), piecesC_get hk]
 have hend : (chunksC b).drop (cutL b).length = if atC b (cutL b).length < b.length then [b.drop (atC b (cutL b).length)] else [] := by
  unfold chunksC
  rw [List.drop_append_of_le_length (by rw [piecesC_len]; exact Nat.le_refl _), List.drop_of_length_le (by rw [piecesC_len]; exact Nat.le_refl _), List.nil_append]
 have flat : ∀ d k, k + d = (cutL b).length → ((chunksC b).drop k).flatten = b.drop (atC b k) := by
  intro d
  induction d with
  | zero =>
   intro k hk
   obtain rfl : k = (cutL b).length := by omega
   rw [hend]
   split
   ·simp
   rename_i h
   have := atC_le b (cutL b).length
   rw [List.drop_of_length_le (by omega)]
   rfl
  | succ d ih =>
   intro k hk
   have hk' : k < (cutL b).length := by omega
   have hk2 : k < (chunksC b).length := by omega
   have e := hget k hk'
   rw [List.getElem?_eq_getElem hk2] at e
   rw [List.drop_eq_getElem_cons hk2, List.flatten_cons, ih (k + 1) (by omega), Option.some.inj e]
   exact (piece_next hk').2.2.symm
 intro k hk
 refine ⟨fun h => flat ((cutL b).length - k) k (by omega), fun h => ?_⟩
 rcases Nat.lt_or_ge k (cutL b).length with h1 | h1
 ·have e := hget k h1
  rw [List.getElem?_eq_getElem h] at e
  rw [flat ((cutL b).length - k) k (by omega), Option.some.inj e, decide_eq_true h1]
  exact ⟨(piece_next h1).1, (piece_next h1).2.1⟩
 split at hlen
 ·rename_i hlt
  obtain rfl : k = (cutL b).length := by omega
  have e : (chunksC b)[(cutL b).length]'h = b.drop (atC b (cutL b).length) := by
   have e1 := List.drop_eq_getElem_cons h
   rw [hend, if_pos hlt] at e1
   exact (List.cons.inj e1).1.symm
  rw [flat 0 _ rfl, e, decide_eq_false (by omega), tail_next]
  exact ⟨rfl, by rw [List.length_drop]; omega⟩
 omega
theorem chunks_flat (b : List UInt8) : (chunksC b).flatten = b := by
 have := (chunks_next b 0 (Nat.zero_le _)).1 (Nat.zero_le _)
 rw [List.drop_zero] at this
 rw [this]
 rfl
theorem flat_step {α : Type} {l : List (List α)} {k : Nat} (h : k < l.length) : (l.drop k).flatten = l[k] ++ (l.drop (k + 1)).flatten := by rw [List.drop_eq_getElem_cons h, List.flatten_cons]
set_option maxRecDepth 20000 in
set_option maxHeartbeats 4000000 in
theorem endsR_tr {Pv : Nat → Prop} (v : Value) (b : List UInt8) : Tr Tryz.prog 121 #[v] [slc rByte Pv v b] [] (T0 (.bool (decide (endsP b)))) := by
 refine Tr.of (l := [(0, v)]) Tryz.func121 rfl (n := 21) rfl (.cons rfl .nil) (fun w0 hro => ?_)
 have hv := ro1 hro
 have hv' := hv
 obtain ⟨ad, cap, b0, off, rfl, hcap, hmax, hnil, had, hel⟩ := Ro.open hv
 refine go [9,10,1,7,8,9,10,0,2,5,1,7,8,9,10,0,2,13,0] ?_
 refine G.partP (t := 8) rfl (fun h8 => ?_) (fun h8 => ?_)
 ·refine go [4,4,4,6,6,6,6,6,6,6,4,2,2,1,7,8,11] ?_
  exact G.done0G rfl (Rv.tmp rfl Rv.nil) Y15
 refine go [3,0,3,12,3,0] ?_
 refine G.partP (t := 11) rfl (fun h11 => ?_) (fun h11 => ?_)
 ·have h64 : 64 ≤ b.length := by omega
  have hsub := Ro.sub hv' (show b.length - 16 ≤ b.length by omega) (Nat.le_refl _)
  rw [List.take_length] at hsub
  refine go [3,0,3,0,3,19] ?_
  refine G.want rfl rfl rfl (G.val rfl rfl (pv_subL (sz := 1) (k := b.length - 16) Tryz.underlying39 kr rfl rfl (by omega) (by omega)) ?_)
  refine G.want rfl rfl rfl (G.cR rfl rfl rfl rfl Tryz.func151 rfl rfl (may1 Y13) (rsumR_tr _ (b.drop (b.length - 16))) ?_)
  refine G.want rfl rfl rfl (G.val rfl rfl (pv_shr (s := 24) rfl rfl (by decide)) ?_)
  refine go [3,13,3,2,2,2,1,7,8,11] ?_
  exact G.done0G rfl (Rv.tmp rfl Rv.nil) Y15
 refine go [4,4,4,4,4,4,4,3,2,2,2,1,7,8,11] ?_
 exact G.done0G rfl (Rv.tmp rfl Rv.nil) Y15
set_option maxRecDepth 20000 in
set_option maxHeartbeats 4000000 in
theorem nextR_tr {Pv : Nat → Prop} (v : Value) (b : List UInt8) (hb : b.length ≤ 1000000000) : Tr Tryz.prog 85 #[v] [slc rByte Pv v b] [] (T0 (.tuple #[.int .i64 ((nxtC b).1 : Int), .bool (nxtC b).2])) := by
 refine Tr.of (l := [(0, v)]) Tryz.func85 rfl (n := 18) rfl (.cons rfl .nil) (fun w0 hro => ?_)
 have hv := ro1 hro
 have hv' := hv
 obtain ⟨ad, cap, b0, off, rfl, hcap, hmax, hnil, had, hel⟩ := Ro.open hv
 refine go [9,10,1,1,7,8,9,9,10,1,7,8,15] ?_
 refine G.loopK (X := Nat) (ts := [0]) (fun n => 1 ≤ n ∧ n ≤ b.length + 1 ∧ ∀ j, j + 1 < n → ¬ endsP (b.take (j + 1))) (fun n => [(4, .int .i64 (n : Int))]) (fun n => []) (fun n => b.length + 1 - n) (x0 := 1) (.cons rfl .nil) subT (.cons .nil) apT (by first | exact trivial | ((try dsimp only) <;> exact ⟨by omega, by omega, fun j h => by omega⟩)) (.consE rfl veqT .nil) (fun n hJ => ?_)
 try dsimp only at hJ
 try dsimp only
 obtain ⟨hn1, hn2, hno⟩ := hJ
 refine go [9,9,10,0,0,2,5,2,11,7,8] ?_
 refine G.condP rfl (fun h8 => ?_) (fun h8 => ?_)
 ·have hsub := Ro.sub hv' (Nat.zero_le _) (show n ≤ b.length by omega)
  rw [subV_zero, List.drop_zero] at hsub
  refine go [13,8,9,15,9,10,0,0] ?_
  refine G.op rfl (G.val rfl rfl (pv_subH (sz := 1) (k := n) Tryz.underlying39 kr rfl rfl rfl (by omega)) ?_)
  refine G.op rfl (G.cR rfl rfl rfl rfl Tryz.func121 rfl rfl (may1 Y13) (endsR_tr _ (b.take n)) ?_)
  refine go [7,8] ?_
  refine G.condP rfl (fun h14 => ?_) (fun h14 => ?_)
  ·refine go [9,10,0,1,1,7,8,11,17,12,12,17,12] ?_
   exact G.done0G rfl (Rv.tmp rfl (Rv.tmp rfl Rv.nil)) (by rw [nxtC_at (n := n - 1) (by omega) (by rw [show n - 1 + 1 = n by omega]; exact h14) (fun j hj => hno j (by omega)), show n - 1 + 1 = n by omega]; rfl)
  refine go [13,16,8,10,0,2,6,1,7] ?_
  exact G.next (n + 1) (by first | exact trivial | ((try dsimp only) <;> exact ⟨by omega, by omega, fun j hj => by rcases Nat.lt_or_ge (j + 1) n with h1 | h1; exact hno j h1; obtain rfl : n = j + 1 := (by omega); exact h14⟩)) (by (try dsimp only); omega) (.consE rfl veqT (.cons rfl .nil)) subT
 refine go [18,14,14,19,8,9,10,0,2,5,1,1,7,8,11] ?_
 exact G.done0G rfl (Rv.tmp rfl (Rv.tmp rfl Rv.nil)) (by rw [nxtC_no (fun j hj => hno j (by omega))]; rfl)
set_option maxRecDepth 20000 in
set_option maxHeartbeats 4000000 in
theorem csplitR_tr {Pv : Nat → Prop} (v : Value) (bs : List UInt8) (hb : bs.length ≤ 1000000) : Tr Tryz.prog 48 #[v] [slc rByte Pv v bs] []
 (TX (fun z : Value × LT => z.2.map (·.1) = chunksC bs) (fun z => z.1) (fun z => [own 39 1 z.1 z.2.length (z.2.map (·.2)), datB 5 z.2])) := by
 refine Tr.of (l := [(0, v)]) Tryz.func48 rfl (n := 26) rfl (.cons rfl .nil) (fun w0 hro => ?_)
 have hv0 := ro1 hro
 have hfl := chunks_flat bs
 refine go [9,10,1,7,8,9,10,1,7,8,9,15] ?_
 refine G.datBNil 5 ?_
 refine G.ownNil 39 1 ?_
 refine G.loopK (X := Nat × Value × Value × LT) (ts := [2]) (fun st => st.1 ≤ (chunksC bs).length ∧ Ro w0 (U []) (slc rByte Pv st.2.1 ((chunksC bs).drop st.1).flatten) ∧ st.2.2.2.map (·.1) = (chunksC bs).take st.1) (fun st => [(0, st.2.1), (3, st.2.2.1)]) (fun st => [own 39 1 st.2.2.1 st.2.2.2.length (st.2.2.2.map (·.2)), datB 5 st.2.2.2]) (fun st => (chunksC bs).length - st.1) (x0 := (0, v, .slice none 0 0, [])) (.cons rfl .nil) subT (.cons (.cons .nil)) apT (by first | exact trivial | ((try dsimp only) <;> exact ⟨Nat.zero_le _, by rw [List.drop_zero, hfl]; exact hv0, rfl⟩)) (.consE rfl veqT (.consE rfl veqT .nil)) (fun st hJ => ?_)
 obtain ⟨k, cv, ov, l⟩ := st
 try dsimp only at hJ
 try dsimp only
 obtain ⟨hk, hcv, hl⟩ := hJ
 have hcv' := hcv
 obtain ⟨ad, cap, b0, off, rfl, hcap, hmax, hnil, had, hel⟩ := Ro.open hcv
 have hlen : l.length = k := by have := congrArg List.length hl; rw [List.length_map, List.length_take] at this; omega
 have hlm : (l.map (fun z : List UInt8 × Value => z.2)).length = l.length := List.length_map _
 obtain ⟨hc1, hc2⟩ := chunks_next bs k hk
 have hcut := cutL_len bs bs.length
 have hcl : (chunksC bs).length ≤ (cutL bs).length + 1 := by unfold chunksC; rw [List.length_append, piecesC_len]; split <;> simp
 have hcut : (cutL bs).length ≤ bs.length := hcut
 have hfle : ((chunksC bs).drop k).flatten.length ≤ bs.length := by have := congrArg List.length (List.take_append_drop k (chunksC bs)); have h2 := congrArg List.length (congrArg List.flatten (List.take_append_drop k (chunksC bs))); rw [List.flatten_append, List.length_append, hfl] at h2; omega
 refine G.ownFact (v := ov) selT (fun hov _ => ?_)
 refine go [9,9,10,0,2,5,2,10,7,8] ?_
 refine G.condP rfl (fun h8 => ?_) (fun h8 => ?_)
 ·have hkl : k < (chunksC bs).length := by rcases Nat.lt_or_ge k (chunksC bs).length with h1 | h1; exact h1; rw [List.drop_of_length_le h1] at h8; simp at h8
  obtain ⟨hn, hpos⟩ := hc2 hkl
  have hst := flat_step hkl
  have hsl : (chunksC bs)[k].length ≤ ((chunksC bs).drop k).flatten.length := by rw [hst, List.length_append]; omega
  have hs1 := Ro.sub hcv' (Nat.zero_le _) hsl
  rw [subV_zero, List.drop_zero, hst, List.take_left' rfl] at hs1
  have hs2 := Ro.sub hcv' hsl (Nat.le_refl _)
  rw [List.take_length] at hs2
  conv at hs2 => arg 3; arg 4; rw [hst, List.drop_left' rfl]
  refine go [13,8,15,9,10,0] ?_
  refine G.op rfl (G.cR rfl rfl rfl rfl Tryz.func85 rfl rfl (may1 Y13) (nextR_tr _ ((chunksC bs).drop k).flatten (by omega)) ?_)
  rw [hn]
  refine go [0,2,7,2,7,1,1,7,8,9,10,0,60,14] ?_
  intro b15
  refine G.blkOwnB (b := b15) (xs := []) selT (by decide) ?_
  refine go [0,0] ?_
  refine G.op rfl (G.val rfl rfl (pv_subH (sz := 1) (k := (chunksC bs)[k].length) Tryz.underlying39 kr rfl rfl rfl (by omega)) ?_)
  refine G.op rfl (G.appendB (xs := []) (ys := (chunksC bs)[k]) (Ps := Pv) rfl Tryz.underlying39 Tryz.infoByte rfl rfl selT (ro_sl hs1) (by simp; omega) (by simp; omega) ?_)
  intro v19
  rw [List.nil_append (chunksC bs)[k]]
  refine G.ownBFact (v := v19) selT (fun hv19 => ?_)
  refine G.op rfl (G.lit1 (vs := [v19]) rfl Tryz.underlying82 kr rfl (by decide) (by decide) rfl (all1_cons hv19 all1_nil) ?_)
  intro b20
  refine G.op rfl (G.append (k := l.length) (j := 1) (cs := l.map (·.2)) (news := [v19]) (b := b20) (off := 0) rfl Tryz.underlying82 Tryz.infoSlB rfl rfl rfl selT (fun _ => rfl) (fun h => by cases h) rfl (blk_news (k := 1) selT rfl) (by intro u hu; obtain rfl : u = v19 := (by simpa using hu); exact hv19) (by omega) (by omega) ?_)
  intro v21
  refine go [1,7,8,10,0,0] ?_
  refine G.op rfl (G.val rfl rfl (pv_subL (sz := 1) (k := (chunksC bs)[k].length) Tryz.underlying39 kr rfl rfl rfl (by omega)) ?_)
  refine go [1,7,16] ?_
  refine G.datBSnoc (ys := l) (x := (chunksC bs)[k]) (u := v19) selT selT ?_
  rw [show l.map (fun z : List UInt8 × Value => z.2) ++ [v19] = (l ++ [((chunksC bs)[k], v19)]).map (·.2) from by rw [List.map_append]; rfl, show l.length + 1 = (l ++ [((chunksC bs)[k], v19)]).length from by rw [List.length_append]; rfl]
  exact G.next ((k + 1, _, v21, l ++ [((chunksC bs)[k], v19)])) (by first | exact trivial | ((try dsimp only) <;> exact ⟨by omega, hs2, by rw [List.map_append, hl, List.take_succ_eq_append_getElem hkl]; rfl⟩)) (by (try dsimp only); omega) (.consE rfl veqT (.consE rfl veqT (.cons rfl .nil))) subT
 have hkl : k = (chunksC bs).length := by rcases Nat.lt_or_ge k (chunksC bs).length with h1 | h1; exfalso; have h2 := (hc2 h1).2; have h3 := flat_step h1; rw [h3, List.length_append] at h8; omega; omega
 refine go [18,14,14,19,8,9,10,0,1,7,8,11] ?_
 exact G.doneX1 ((ov, l)) (by first | exact trivial | ((try dsimp only) <;> exact (by rw [hl, hkl, List.take_length]))) rfl rfl rfl subT
section
variable {P : Program} {n : Nat} {w0 : World} {S : Nat → Prop} {l : Fr} {m : List Ck} {K : Act → World → Prop}
theorem G.datBOne {e : TypeId} {x : List UInt8} {u : Value} {xs : LT} {r : List Ck} (h1 : Sel m (datB e ((x, u) :: xs)) r) (h : u.oneCell' = true → G n w0 S l m K) : G n w0 S l m K :=
 G.fact (p := u.oneCell' = true) (fun w hw => by
  have h2 : (datB e ((x, u) :: xs)).φ w := hw.holds _ h1.mem
  have h3 : (ownB e u x).φ w := h2.1 _ (List.mem_cons_self ..)
  exact (OwnB.one h3).1) h
theorem G.datTk {e : TypeId} {ck : List CT} {b : List UInt8} {v : Value} {r r' : List Ck} (h1 : Sel m (datD e ck) r) (h2 : Sel r (ownB e v b) r') (h : G n w0 S l (datD e (tkV ck b v) :: r') K) : G n w0 S l m K := by
 by_cases h3 : nameM b ∈ nmsC ck
 ·rw [tkV_in h3] at h
  refine G.mem (fun w hw => ?_) h
  have h4 := (hw.sel h1).perm (List.Perm.cons _ h2.perm)
  exact h4.sub (List.Sublist.cons_cons _ (List.sublist_cons_self _ _))
 rw [tkV_new h3] at h
 exact G.datDSnoc h1 h2 h
end
def mkI (e : En) : It := ⟨e.path, e.kind, e.mode, (e.data.length : Int), e.to, (chunksC e.data).map nameM⟩
def collC (acc : List (List UInt8 × List UInt8)) (l : List (List UInt8)) : List (List UInt8 × List UInt8) := l.foldl takeC acc
def makeC (es : List En) : List (List UInt8 × List UInt8) := collC [] (es.flatMap fun e => chunksC e.data)
theorem collC_take (acc : List (List UInt8 × List UInt8)) {l : List (List UInt8)} {i : Nat} (h : i < l.length) : collC acc (l.take (i + 1)) = takeC (collC acc (l.take i)) l[i] := by
 unfold collC
 rw [List.take_succ_eq_append_getElem h, List.foldl_append]
 rfl
theorem makeC_take {es : List En} {i : Nat} (h : i < es.length) : makeC (es.take (i + 1)) = collC (makeC (es.take i)) (chunksC es[i].data) := by
 unfold makeC collC
 rw [List.take_succ_eq_append_getElem h, List.flatMap_append, List.foldl_append]
 simp
theorem chunksC_len (b : List UInt8) : (chunksC b).length ≤ b.length + 1 := by
 have h := cutL_len b b.length
 have h2 : (cutL b).length ≤ b.length := h
 unfold chunksC piecesC
 rw [List.length_append, List.length_map, List.length_range]
 split
 ·rw [List.length_singleton]; omega
 rw [List.length_nil]; omega
theorem chunksC_le {b c : List UInt8} (h : c ∈ chunksC b) : c.length ≤ b.length := by
 have h1 := (List.sublist_flatten_of_mem h).length_le
 rwa [chunks_flat] at h1
theorem mkI_16 (e : En) : all16 (mkI e).ids := fun x hx => by
 obtain ⟨c, _, rfl⟩ := List.mem_map.1 hx
 exact nameM_len c
theorem mkI_ok {e : En} (h : EnOk e) (hd : e.data.length ≤ 10000) : ItOk (mkI e) := by
 obtain ⟨h1, h2, h3, h4, h5⟩ := h
 have h6 := chunksC_len e.data
 refine ⟨h1, h2, ⟨?_, ?_⟩, h3, h5, ?_⟩
 ·show _ ≤ (e.data.length : Int); omega
 ·show (e.data.length : Int) ≤ _; omega
 show ((chunksC e.data).map nameM).length ≤ _; rw [List.length_map]; omega
def mkM (a : Mh) (es : List En) : (Mh × List It) × List (List UInt8 × List UInt8) × Int := if (checkT es).1 ≠ 0 then ((mh0, []), [], (checkT es).1) else if bytesE a (es.map mkI) ≠ 0 then ((mh0, []), [], bytesE a (es.map mkI)) else ((a, es.map mkI), makeC es, 0)
theorem mkM_bad {a : Mh} {es : List En} (h : (checkT es).1 ≠ 0) : mkM a es = ((mh0, []), [], (checkT es).1) := if_pos h
theorem mkM_no {a : Mh} {es : List En} (h : (checkT es).1 = 0) (h2 : bytesE a (es.map mkI) ≠ 0) : mkM a es = ((mh0, []), [], bytesE a (es.map mkI)) := (if_neg (not_not_intro h)).trans (if_pos h2)
theorem mkM_ok {a : Mh} {es : List En} (h : (checkT es).1 = 0) (h2 : bytesE a (es.map mkI) = 0) : mkM a es = ((a, es.map mkI), makeC es, 0) := (if_neg (not_not_intro h)).trans (if_neg (not_not_intro h2))
set_option maxRecDepth 20000 in
set_option maxHeartbeats 4000000 in
theorem citem_tr {Pd : Nat → Prop} (C bm : Nat) (vl d : Value) (ck : List CT) (e : En) (hn : ck.length ≤ 90000000) (hb : e.data.length ≤ 10000) : Tr Tryz.prog 46 #[.pointer (some ⟨C, 0, none⟩), .agg #[.string (sB e.path), .int .i64 e.kind, .int .i64 e.mode, d, .string (sB e.to)]] [slc rByte Pd d e.data] [blk C 78 [.map (some bm), vl], mpc vID ok16 bm (setL (nmsC ck)), own 71 17 vl ck.length (ck.flatMap chC), datD 5 ck]
 (TX (fun z : Value × List CT × Value => cks z.2.1 = collC (cks ck) (chunksC e.data) ∧ z.2.1.length ≤ ck.length + e.data.length + 1) (fun z => .agg #[.string (sB (mkI e).path), .int .i64 (mkI e).kind, .int .i64 (mkI e).mode, .int .i64 (mkI e).size, .string (sB (mkI e).to), z.2.2]) (fun z => [blk C 78 [.map (some bm), z.1], mpc vID ok16 bm (setL (nmsC z.2.1)), own 71 17 z.1 z.2.1.length (z.2.1.flatMap chC), datD 5 z.2.1, own 66 16 z.2.2 (mkI e).ids.length (flatI (mkI e).ids)])) := by
 refine Tr.of (l := [(0, .pointer (some ⟨C, 0, none⟩)), (1, .agg #[.string (sB e.path), .int .i64 e.kind, .int .i64 e.mode, d, .string (sB e.to)])]) Tryz.func46 rfl (n := 38) rfl (.cons rfl (.cons rfl .nil)) (fun w0 hro => ?_)
 have hd := ro1 hro
 have hd0 := hd
 obtain ⟨ad, cap, rfl⟩ := Ro.slv hd
 have hcl := chunksC_len e.data
 refine go [9,10,60,0] ?_
 intro b3
 refine go [60,10] ?_
 intro b4
 refine go [7,8,9,10,2,3,0,2,4,2,3,1,2,4,2,3,2,2,4,2,3,3,2,4,2,5,2,3,4,2,4,2,50,8,60,10] ?_
 intro b5
 refine go [20,7,8,9,9,10,2,3,3,2,4] ?_
 refine G.op rfl (G.cS rfl rfl rfl rfl Tryz.func81 rfl rfl subT (may1 Y2) (csplit_tr _ e.data (by omega)) apT ?_)
 intro x22 hJ
 obtain ⟨sv, l⟩ := x22
 try dsimp only at hJ
 try dsimp only
 have hl : l.map (·.1) = chunksC e.data := hJ
 have hll : l.length = (chunksC e.data).length := by rw [← hl, List.length_map]
 refine G.ownNews (v := sv) selT (fun a9 c9 b9 hsv hks hms hads hnils hnews => ?_)
 subst hsv
 refine go [2,5,0,7,8,15] ?_
 refine G.ownNil 66 16 ?_
 rw [show datB 5 l = datB 5 (l.drop 0) from rfl]
 refine G.loopK (X := Nat × Value × (List CT) × Value) (ts := [0, 4, 5, 22, 23]) (fun st => st.1 ≤ l.length ∧ (cks st.2.2.1 = collC (cks ck) ((chunksC e.data).take st.1) ∧ st.2.2.1.length ≤ ck.length + st.1)) (fun st => [(24, .int .i64 (st.1 : Int))]) (fun st => [blk C 78 [.map (some bm), st.2.1], mpc vID ok16 bm (setL (nmsC st.2.2.1)), own 71 17 st.2.1 st.2.2.1.length (st.2.2.1.flatMap chC), datD 5 st.2.2.1, datB 5 (l.drop st.1), own 66 16 st.2.2.2 (((chunksC e.data).take st.1).map nameM).length (flatI (((chunksC e.data).take st.1).map nameM)), blk b5 80 [.string (sB e.path), .int .i64 e.kind, .int .i64 e.mode, .int .i64 (e.data.length : Int), .string (sB e.to), st.2.2.2]]) (fun st => l.length - st.1) (x0 := (0, vl, ck, .slice none 0 0)) (.cons rfl (.cons rfl (.cons rfl (.cons rfl (.cons rfl .nil))))) subT (.cons .nil) apT (by first | exact trivial | ((try dsimp only) <;> exact ⟨Nat.zero_le _, ⟨rfl, Nat.le_refl _⟩⟩)) (.consE rfl veqT .nil) (fun st hJ => ?_)
 obtain ⟨i, vk, cks', vI⟩ := st
 try dsimp only at hJ
 try dsimp only
 obtain ⟨hki, hJ⟩ := hJ
 obtain ⟨hck, hckl⟩ := hJ
 refine go [9,10,2,9,7,8,9] ?_
 refine G.condP rfl (fun h25 => ?_) (fun h25 => ?_)
 ·have hlt : i < l.length := by omega
  have hlt' : i < (chunksC e.data).length := by omega
  have hpi : l[i].1 = (chunksC e.data)[i] := (by have h : (l.map (·.1))[i]? = (chunksC e.data)[i]? := (by rw [hl]); rw [List.getElem?_map, List.getElem?_eq_getElem hlt, List.getElem?_eq_getElem hlt'] at h; exact Option.some.inj h)
  have hpl : l[i].1.length ≤ e.data.length := chunksC_le (by rw [hpi]; exact List.getElem_mem hlt')
  have hids : ((chunksC e.data).take i).map nameM ++ [nameM l[i].1] = ((chunksC e.data).take (i + 1)).map nameM := by rw [List.take_succ_eq_append_getElem hlt', List.map_append, hpi]; rfl
  have hidl : (((chunksC e.data).take i).map nameM).length ≤ i := by rw [List.length_map]; exact List.length_take_le _ _
  rw [drop_cons hlt]
  refine G.datBOne (x := l[i].1) (u := l[i].2) selT (fun hone => ?_)
  refine go [13,8,9,15,9,10] ?_
  refine G.op rfl (G.val rfl rfl (pv_ixSl (sz := 1) (k := i) Tryz.underlying82 kr rfl rfl hads rfl hlt) ?_)
  refine G.op rfl (G.val rfl rfl (pv_load (v := l[i].2) Tryz.underlying39 rfl rfl (fun w hw => by have h := hnews selT w hw i l[i].2 (by rw [List.getElem?_map, List.getElem?_eq_getElem hlt]; rfl); simpa using h)) ?_)
  refine go [1,7,8] ?_
  refine G.drawT (nn := 9) (p := [blk C _ _, mpc vID ok16 bm _, own 71 17 _ _ _, own 66 16 _ _ _, blk b5 _ _, datB 5 _, datD 5 _]) (rem := 511) [0, 1, 0, 0, 12, 16, 50, 127, 255] [0, 1, 0, 0, 12, 16, 34, 0, 192] kr ⟨rfl, by kernel_rfl, by kernel_rfl⟩ subT kr (fun hT5 => ?_)
  refine go [22,0,510,3,5,22,2,506,0,22,3,498,0] ?_
  refine G.twoT hT5 (i := 1) (j := 4) (rem' := 496) (rem'' := 482) kr kr kr ?_ ?_
  ·refine go [25,4,26,24,4,480] ?_
   refine G.turnOp rfl rfl (G.cS rfl rfl rfl rfl Tryz.func82 rfl rfl subT (may1 (may_datB selT (x := l[i].1) (u := l[i].2) (List.mem_cons_self ..))) (take_tr C bm _ l[i].2 cks' l[i].1 (by omega) (by omega) hone) apT ?_)
   intro x32 hJ
   try dsimp only at hJ
   try dsimp only
   obtain ⟨id, hid⟩ : ∃ c, nameM l[i].1 = c := ⟨_, rfl⟩
   have lq := nameM_len l[i].1
   rw [hid] at lq hids
   rw [hid]
   refine G.datBCons (x := l[i].1) (u := l[i].2) selT ?_
   refine G.datTk (b := l[i].1) (v := l[i].2) selT selT ?_
   refine go [26,24,5,448] ?_
   refine G.turnOp rfl rfl (G.buildSlice (sz := 16) (cs := id.map vByte) rfl Tryz.underlying60 Tryz.infoIDfill (by decide) (by decide) rfl (fillID _ (by rw [List.length_map, lq])) ?_)
   intro b33
   refine go [26,24,6,384] ?_
   refine G.turnOp rfl rfl (G.append (k := (((chunksC e.data).take i).map nameM).length) (j := 1) (cs := flatI (((chunksC e.data).take i).map nameM)) (news := id.map vByte) (b := b33) (off := 0) rfl Tryz.underlying60 Tryz.infoID' rfl rfl rfl selT (fun _ => rfl) (fun h => by cases h) (by rw [List.length_map, lq]) (blk_news (k := 16) selT (List.take_of_length_le Y10)) (vByte_one _) (by omega) (by omega) ?_)
   intro vn
   rw [own_oneI, hids]
   refine G.ownFact (v := vn) selT (fun hvn _ => ?_)
   refine go [26,22,7,256,3,5,24,8,0,30,26,27,16,8,10,2,6,0,7] ?_
   exact G.next ((i + 1, (x32, tkV cks' l[i].1 l[i].2, vn))) Y46 (by (try dsimp only); omega) (.consE rfl veqT (.cons rfl (.cons rfl (.cons rfl (.cons rfl (.cons rfl .nil)))))) subT
  refine G.turnOp rfl rfl (G.cS rfl rfl rfl rfl Tryz.func82 rfl rfl subT (may1 (may_datB selT (x := l[i].1) (u := l[i].2) (List.mem_cons_self ..))) (take_tr C bm _ l[i].2 cks' l[i].1 (by omega) (by omega) hone) apT ?_)
  intro x32 hJ
  try dsimp only at hJ
  try dsimp only
  obtain ⟨id, hid⟩ : ∃ c, nameM l[i].1 = c := ⟨_, rfl⟩
  have lq := nameM_len l[i].1
  rw [hid] at lq hids
  rw [hid]
  refine G.datBCons (x := l[i].1) (u := l[i].2) selT ?_
  refine G.datTk (b := l[i].1) (v := l[i].2) selT selT ?_
  refine go [26] ?_
  refine G.twoT hT5 (i := 1) (j := 5) (rem' := 480) (rem'' := 450) kr kr kr ?_ ?_
  ·refine go [25,4,26,24,5,448] ?_
   refine G.turnOp rfl rfl (G.buildSlice (sz := 16) (cs := id.map vByte) rfl Tryz.underlying60 Tryz.infoIDfill (by decide) (by decide) rfl (fillID _ (by rw [List.length_map, lq])) ?_)
   intro b33
   refine go [26,24,6,384] ?_
   refine G.turnOp rfl rfl (G.append (k := (((chunksC e.data).take i).map nameM).length) (j := 1) (cs := flatI (((chunksC e.data).take i).map nameM)) (news := id.map vByte) (b := b33) (off := 0) rfl Tryz.underlying60 Tryz.infoID' rfl rfl rfl selT (fun _ => rfl) (fun h => by cases h) (by rw [List.length_map, lq]) (blk_news (k := 16) selT (List.take_of_length_le Y10)) (vByte_one _) (by omega) (by omega) ?_)
   intro vn
   rw [own_oneI, hids]
   refine G.ownFact (v := vn) selT (fun hvn _ => ?_)
   refine go [26,22,7,256,3,5,24,8,0,30,26,27,16,8,10,2,6,0,7] ?_
   exact G.next ((i + 1, (x32, tkV cks' l[i].1 l[i].2, vn))) Y46 (by (try dsimp only); omega) (.consE rfl veqT (.cons rfl (.cons rfl (.cons rfl (.cons rfl (.cons rfl .nil)))))) subT
  refine G.turnOp rfl rfl (G.buildSlice (sz := 16) (cs := id.map vByte) rfl Tryz.underlying60 Tryz.infoIDfill (by decide) (by decide) rfl (fillID _ (by rw [List.length_map, lq])) ?_)
  intro b33
  refine go [26,24,1,448,25,4,26,24,6,384] ?_
  refine G.turnOp rfl rfl (G.append (k := (((chunksC e.data).take i).map nameM).length) (j := 1) (cs := flatI (((chunksC e.data).take i).map nameM)) (news := id.map vByte) (b := b33) (off := 0) rfl Tryz.underlying60 Tryz.infoID' rfl rfl rfl selT (fun _ => rfl) (fun h => by cases h) (by rw [List.length_map, lq]) (blk_news (k := 16) selT (List.take_of_length_le Y10)) (vByte_one _) (by omega) (by omega) ?_)
  intro vn
  rw [own_oneI, hids]
  refine G.ownFact (v := vn) selT (fun hvn _ => ?_)
  refine go [26,22,7,256,3,5,24,8,0,30,26,27,16,8,10,2,6,0,7] ?_
  exact G.next ((i + 1, (x32, tkV cks' l[i].1 l[i].2, vn))) Y46 (by (try dsimp only); omega) (.consE rfl veqT (.cons rfl (.cons rfl (.cons rfl (.cons rfl (.cons rfl .nil)))))) subT
 obtain rfl : i = l.length := by omega
 rw [hll, List.take_length] at hck
 rw [hll, List.take_length]
 refine G.ownFact (v := vI) selT (fun hvI _ => ?_)
 refine go [18,14,14,19,8,9,10,2,50,2,20,7,8,11] ?_
 exact G.doneG ((vk, cks', vI)) (by first | exact trivial | ((try dsimp only) <;> exact ⟨hck, by omega⟩)) rfl (Rv.cellN (cs := [_, _, _, _, _, _]) rfl Tryz.underlying80 rfl kr (by first | exact blk_range (k := 6) selD (by rfl)) Rv.nil) rfl subT
set_option maxRecDepth 20000 in
set_option maxHeartbeats 4000000 in
theorem mmake_tr {Ps : Nat → Prop} (c k t : Int) (v : Value) (xs : List ET) (hd : ∀ x ∈ xs, x.1.data.length ≤ 10000) : Tr Tryz.prog 11 #[.int .i64 c, .int .i64 k, .int .i64 t, v] [slc rEV Ps v xs] []
 (TX (fun z : (Value × List IT) × Value × List CT => its z.1.2 = (mkM (⟨c, k, 0, t⟩ : Mh) (ens xs)).1.2 ∧ cks z.2.2 = (mkM (⟨c, k, 0, t⟩ : Mh) (ens xs)).2.1) (fun z => .tuple #[.agg #[.int .i64 (mkM (⟨c, k, 0, t⟩ : Mh) (ens xs)).1.1.c, .int .i64 (mkM (⟨c, k, 0, t⟩ : Mh) (ens xs)).1.1.k, .int .i64 (mkM (⟨c, k, 0, t⟩ : Mh) (ens xs)).1.1.n, .int .i64 (mkM (⟨c, k, 0, t⟩ : Mh) (ens xs)).1.1.t, z.1.1], z.2.1, .int .i64 (mkM (⟨c, k, 0, t⟩ : Mh) (ens xs)).2.2]) (fun z => [own 80 6 z.1.1 z.1.2.length (z.1.2.flatMap itC), datI 66 z.1.2, own 71 17 z.2.1 z.2.2.length (z.2.2.flatMap chC), datD 5 z.2.2])) := by
 refine Tr.of (l := [(0, .int .i64 c), (1, .int .i64 k), (2, .int .i64 t), (3, v)]) Tryz.func11 rfl (n := 64) rfl (.cons rfl (.cons rfl (.cons rfl (.cons rfl .nil)))) (fun w0 hro => ?_)
 have hv := ro1 hro
 have hv' := hv
 obtain ⟨av, cv, bv, fv, rfl, hcapv, hmaxv, hnilv, hadv, helv⟩ := Ro.openT hv
 have hel' := ens_length xs
 have hEn : ∀ e ∈ ens xs, EnOk e ∧ e.data.length ≤ 10000 := fun e he => by obtain ⟨x, hx, rfl⟩ := List.mem_map.1 he; obtain ⟨q, hq, rfl⟩ := List.getElem_of_mem hx; exact ⟨Ro.evOk (helv q hq), hd _ hx⟩
 refine go [9,10,60,3] ?_
 intro b8
 refine go [1,1,7,8,9,9,10,0] ?_
 refine G.op rfl (G.cR rfl rfl rfl rfl Tryz.func45 rfl rfl (may1 (.old hv)) (tcheck_tr _ xs) ?_)
 refine go [0,2,7,2,7,1,1,7,8,9,10,0,2,14,7,8] ?_
 refine G.condP rfl (fun h25 => ?_) (fun h25 => ?_)
 ·refine go [9,10,2,50,4,0,20,1,1,7,8,11,12] ?_
  rw [mkM_bad (by assumption)]
  refine go [60,7,60,6] ?_
  refine G.ownNil 71 17 ?_
  refine G.datDNil 5 ?_
  exact G.doneG (((.slice none 0 0, []), .slice none 0 0, [])) Y57 rfl (Rv.cellN (cs := [_, _, _, _, _]) rfl Tryz.underlying28 rfl kr Y22 (Rv.tmp rfl (Rv.tmp rfl Rv.nil))) rfl subT
 obtain ⟨h200, -, -⟩ := checkT_zero (es := ens xs) (by omega)
 have hz0 : (checkT (ens xs)).1 = 0 := by omega
 refine go [13,8,9,10] ?_
 refine G.op rfl (G.mapNew vID ok16 rfl ?_)
 intro bm
 refine G.op rfl (G.val rfl rfl (pv_buildSt (z := [.map none, .slice none 0 0]) (pl := [(0, 1), (1, 1)]) Tryz.underlying78 kr kr rfl flT) ?_)
 refine G.op rfl (G.box rfl rfl (cs := [_, _]) rfl ?_)
 intro b30
 refine go [1,7,8,9,10,0,0,0,2,50,4,60,3] ?_
 intro b14
 refine go [20,7,8,9,9,10,0,2,5,0,7,8,15,60,7,60,6] ?_
 refine G.ownNil 71 17 ?_
 refine G.datDNil 5 ?_
 refine G.loopK (X := Nat × Value × (List CT) × Value × (List IT)) (ts := [8, 9, 10, 13, 14, 35, 36]) (fun st => st.1 ≤ xs.length ∧ (cks st.2.2.1 = makeC ((ens xs).take st.1) ∧ its st.2.2.2.2 = ((ens xs).take st.1).map mkI ∧ st.2.2.1.length ≤ st.1 * 20000 ∧ st.2.2.2.2.length = st.1)) (fun st => [(37, .int .i64 (st.1 : Int))]) (fun st => [blk b30 78 [.map (some bm), st.2.1], mpc vID ok16 bm (setL (nmsC st.2.2.1)), own 71 17 st.2.1 st.2.2.1.length (st.2.2.1.flatMap chC), datD 5 st.2.2.1, own 80 6 st.2.2.2.1 st.2.2.2.2.length (st.2.2.2.2.flatMap itC), datI 66 st.2.2.2.2, blk b14 28 [.int .i64 c, .int .i64 k, .int .i64 0, .int .i64 t, st.2.2.2.1]]) (fun st => xs.length - st.1) (x0 := (0, .slice none 0 0, [], .slice none 0 0, [])) (.cons rfl (.cons rfl (.cons rfl (.cons rfl (.cons rfl (.cons rfl (.cons rfl .nil))))))) subT (.cons .nil) apT (by first | exact trivial | ((try dsimp only) <;> exact ⟨Nat.zero_le _, ⟨rfl, rfl, Nat.zero_le _, rfl⟩⟩)) (.consE rfl veqT .nil) (fun st hJ => ?_)
 obtain ⟨i, vk, cks', vw, ys⟩ := st
 try dsimp only at hJ
 try dsimp only
 obtain ⟨hki, hJ⟩ := hJ
 obtain ⟨hck, hys, hcl, hyl⟩ := hJ
 refine go [9,10,2,9,7,8,9] ?_
 refine G.condP rfl (fun h38 => ?_) (fun h38 => ?_)
 ·have hlt : i < xs.length := by omega
  have hlt' : i < (ens xs).length := by omega
  have hdi := hd _ (List.getElem_mem hlt)
  have hmk : ((ens xs).take (i + 1)).map mkI = ((ens xs).take i).map mkI ++ [mkI xs[i].1] := by rw [List.take_succ_eq_append_getElem hlt', List.map_append, ens_get hlt]; rfl
  have hcm := makeC_take hlt'
  rw [ens_get hlt] at hcm
  have hEv := helv i hlt
  have hRv := Ro.evRng hEv
  have hDv := Ro.evDat hEv
  obtain ⟨hk1v, hk2v, hlpv, hldv, hltv⟩ := Ro.evOk hEv
  have hCv := Ro.one1 hDv
  refine go [13,8,9,15,9,10] ?_
  refine G.op rfl (G.val rfl rfl (pv_ixSl (sz := 5) (k := i) Tryz.underlying22 kr rfl rfl Y30 (by omega) (by omega)) ?_)
  refine go [2,50,0,60,17] ?_
  intro b16
  refine go [20,7,8] ?_
  refine G.drawT (nn := 9) (p := [blk b30 _ _, mpc vID ok16 bm _, own 71 17 _ _ _, own 80 6 _ _ _, datI 66 _, datD 5 _, blk b14 _ _]) (rem := 511) [0, 1, 0, 0, 12, 16, 50, 127, 255] [0, 1, 0, 0, 12, 16, 34, 0, 192] kr ⟨rfl, by kernel_rfl, by kernel_rfl⟩ subT kr (fun hT9 => ?_)
  refine go [22,0,510,3,4,22,2,506,0] ?_
  refine G.twoT hT9 (i := 1) (j := 3) (rem' := 504) (rem'' := 498) kr kr kr ?_ ?_
  ·refine go [25,4,26,24,3,496,25,50,0,26,24,4,480] ?_
   refine G.turnOp rfl rfl (G.cS rfl rfl rfl rfl Tryz.func46 rfl rfl subT (may1 Y2) (citem_tr b30 bm _ _ cks' xs[i].1 (by omega) hdi) apT ?_)
   intro x45 hJ
   obtain ⟨vk2, ck2, vI2⟩ := x45
   try dsimp only at hJ
   try dsimp only
   obtain ⟨hc1, hc2⟩ : cks ck2 = collC (cks cks') (chunksC xs[i].1.data) ∧ ck2.length ≤ cks'.length + xs[i].1.data.length + 1 := hJ
   obtain ⟨it, hit⟩ : ∃ c, mkI xs[i].1 = c := ⟨_, rfl⟩
   rw [hit]
   refine G.ownFact (v := vI2) selT (fun h39 _ => ?_)
   refine go [26,24,5,448] ?_
   refine G.turnOp rfl rfl (G.buildSlice (z := .agg #[.string ⟨#[]⟩, .int .i64 0, .int .i64 0, .int .i64 0, .string ⟨#[]⟩, .slice none 0 0]) (sz := 6) (cs := itC (it, vI2)) rfl Tryz.underlying26 kr (by decide) (by decide) rfl kr ?_)
   intro b46
   refine go [26,24,6,384] ?_
   refine G.turnOp rfl rfl (G.append (k := ys.length) (j := 1) (cs := ys.flatMap itC) (news := itC (it, vI2)) (b := b46) (off := 0) rfl Tryz.underlying26 Tryz.infoIt rfl rfl rfl selT (fun _ => rfl) (fun h => by cases h) rfl (blk_news (k := 6) selT rfl) (itC_one h39) (by omega) (by omega) ?_)
   intro vn
   rw [itC_snoc ys (it, vI2), show ys.length + 1 = (ys ++ [(it, vI2)]).length from by rw [List.length_append]; rfl]
   refine G.datISnoc (ys := ys) (x := (it, vI2)) selT selT ?_
   refine G.ownFact (v := vn) selT (fun hvn _ => ?_)
   refine go [26,22,7,256,3,4,24,8,0,30,26,27,16,8,10,2,6,0,7] ?_
   exact G.next ((i + 1, (vk2, ck2, vn, ys ++ [(it, vI2)]))) Y32 (by (try dsimp only); omega) (.consE rfl veqT (.cons rfl (.cons rfl (.cons rfl (.cons rfl (.cons rfl (.cons rfl (.cons rfl .nil)))))))) subT
  refine go [25,50,0,26] ?_
  refine G.twoT hT9 (i := 1) (j := 4) (rem' := 496) (rem'' := 482) kr kr kr ?_ ?_
  ·refine go [25,4,26,24,4,480] ?_
   refine G.turnOp rfl rfl (G.cS rfl rfl rfl rfl Tryz.func46 rfl rfl subT (may1 Y2) (citem_tr b30 bm _ _ cks' xs[i].1 (by omega) hdi) apT ?_)
   intro x45 hJ
   obtain ⟨vk2, ck2, vI2⟩ := x45
   try dsimp only at hJ
   try dsimp only
   obtain ⟨hc1, hc2⟩ : cks ck2 = collC (cks cks') (chunksC xs[i].1.data) ∧ ck2.length ≤ cks'.length + xs[i].1.data.length + 1 := hJ
   obtain ⟨it, hit⟩ : ∃ c, mkI xs[i].1 = c := ⟨_, rfl⟩
   rw [hit]
   refine G.ownFact (v := vI2) selT (fun h39 _ => ?_)
   refine go [26,24,5,448] ?_
   refine G.turnOp rfl rfl (G.buildSlice (z := .agg #[.string ⟨#[]⟩, .int .i64 0, .int .i64 0, .int .i64 0, .string ⟨#[]⟩, .slice none 0 0]) (sz := 6) (cs := itC (it, vI2)) rfl Tryz.underlying26 kr (by decide) (by decide) rfl kr ?_)
   intro b46
   refine go [26,24,6,384] ?_
   refine G.turnOp rfl rfl (G.append (k := ys.length) (j := 1) (cs := ys.flatMap itC) (news := itC (it, vI2)) (b := b46) (off := 0) rfl Tryz.underlying26 Tryz.infoIt rfl rfl rfl selT (fun _ => rfl) (fun h => by cases h) rfl (blk_news (k := 6) selT rfl) (itC_one h39) (by omega) (by omega) ?_)
   intro vn
   rw [itC_snoc ys (it, vI2), show ys.length + 1 = (ys ++ [(it, vI2)]).length from by rw [List.length_append]; rfl]
   refine G.datISnoc (ys := ys) (x := (it, vI2)) selT selT ?_
   refine G.ownFact (v := vn) selT (fun hvn _ => ?_)
   refine go [26,22,7,256,3,4,24,8,0,30,26,27,16,8,10,2,6,0,7] ?_
   exact G.next ((i + 1, (vk2, ck2, vn, ys ++ [(it, vI2)]))) Y32 (by (try dsimp only); omega) (.consE rfl veqT (.cons rfl (.cons rfl (.cons rfl (.cons rfl (.cons rfl (.cons rfl (.cons rfl .nil)))))))) subT
  refine G.turnOp rfl rfl (G.cS rfl rfl rfl rfl Tryz.func46 rfl rfl subT (may1 Y2) (citem_tr b30 bm _ _ cks' xs[i].1 (by omega) hdi) apT ?_)
  intro x45 hJ
  obtain ⟨vk2, ck2, vI2⟩ := x45
  try dsimp only at hJ
  try dsimp only
  obtain ⟨hc1, hc2⟩ : cks ck2 = collC (cks cks') (chunksC xs[i].1.data) ∧ ck2.length ≤ cks'.length + xs[i].1.data.length + 1 := hJ
  obtain ⟨it, hit⟩ : ∃ c, mkI xs[i].1 = c := ⟨_, rfl⟩
  rw [hit]
  refine G.ownFact (v := vI2) selT (fun h39 _ => ?_)
  refine go [26] ?_
  refine G.twoT hT9 (i := 1) (j := 5) (rem' := 480) (rem'' := 450) kr kr kr ?_ ?_
  ·refine go [25,4,26,24,5,448] ?_
   refine G.turnOp rfl rfl (G.buildSlice (z := .agg #[.string ⟨#[]⟩, .int .i64 0, .int .i64 0, .int .i64 0, .string ⟨#[]⟩, .slice none 0 0]) (sz := 6) (cs := itC (it, vI2)) rfl Tryz.underlying26 kr (by decide) (by decide) rfl kr ?_)
   intro b46
   refine go [26,24,6,384] ?_
   refine G.turnOp rfl rfl (G.append (k := ys.length) (j := 1) (cs := ys.flatMap itC) (news := itC (it, vI2)) (b := b46) (off := 0) rfl Tryz.underlying26 Tryz.infoIt rfl rfl rfl selT (fun _ => rfl) (fun h => by cases h) rfl (blk_news (k := 6) selT rfl) (itC_one h39) (by omega) (by omega) ?_)
   intro vn
   rw [itC_snoc ys (it, vI2), show ys.length + 1 = (ys ++ [(it, vI2)]).length from by rw [List.length_append]; rfl]
   refine G.datISnoc (ys := ys) (x := (it, vI2)) selT selT ?_
   refine G.ownFact (v := vn) selT (fun hvn _ => ?_)
   refine go [26,22,7,256,3,4,24,8,0,30,26,27,16,8,10,2,6,0,7] ?_
   exact G.next ((i + 1, (vk2, ck2, vn, ys ++ [(it, vI2)]))) Y32 (by (try dsimp only); omega) (.consE rfl veqT (.cons rfl (.cons rfl (.cons rfl (.cons rfl (.cons rfl (.cons rfl (.cons rfl .nil)))))))) subT
  refine G.turnOp rfl rfl (G.buildSlice (z := .agg #[.string ⟨#[]⟩, .int .i64 0, .int .i64 0, .int .i64 0, .string ⟨#[]⟩, .slice none 0 0]) (sz := 6) (cs := itC (it, vI2)) rfl Tryz.underlying26 kr (by decide) (by decide) rfl kr ?_)
  intro b46
  refine go [26,24,1,448,25,4,26,24,6,384] ?_
  refine G.turnOp rfl rfl (G.append (k := ys.length) (j := 1) (cs := ys.flatMap itC) (news := itC (it, vI2)) (b := b46) (off := 0) rfl Tryz.underlying26 Tryz.infoIt rfl rfl rfl selT (fun _ => rfl) (fun h => by cases h) rfl (blk_news (k := 6) selT rfl) (itC_one h39) (by omega) (by omega) ?_)
  intro vn
  rw [itC_snoc ys (it, vI2), show ys.length + 1 = (ys ++ [(it, vI2)]).length from by rw [List.length_append]; rfl]
  refine G.datISnoc (ys := ys) (x := (it, vI2)) selT selT ?_
  refine G.ownFact (v := vn) selT (fun hvn _ => ?_)
  refine go [26,22,7,256,3,4,24,8,0,30,26,27,16,8,10,2,6,0,7] ?_
  exact G.next ((i + 1, (vk2, ck2, vn, ys ++ [(it, vI2)]))) Y32 (by (try dsimp only); omega) (.consE rfl veqT (.cons rfl (.cons rfl (.cons rfl (.cons rfl (.cons rfl (.cons rfl (.cons rfl .nil)))))))) subT
 obtain rfl : i = xs.length := by omega
 rw [← hel', List.take_length] at hck hys
 refine G.ownFact (v := vw) selT (fun hvw _ => ?_)
 refine G.ownFact (v := vk) selT (fun hvk _ => ?_)
 have hok : ∀ x ∈ ys, ItOk x.1 ∧ all16 x.1.ids := fun x hx => by have h1 : x.1 ∈ its ys := List.mem_map.2 ⟨x, hx, rfl⟩; rw [hys] at h1; obtain ⟨e, he, h2⟩ := List.mem_map.1 h1; rw [← h2]; exact ⟨mkI_ok (hEn e he).1 (hEn e he).2, mkI_16 e⟩
 refine go [18,14,14,19,8,9,9,10,2,50,0] ?_
 refine G.op rfl (G.cS rfl rfl rfl rfl Tryz.func30 rfl rfl subT (may1 (may_items selT selT hok)) (mbytes_tr (⟨c, k, 0, t⟩ : Mh) _ ys) apT ?_)
 intro x52 hJ
 try dsimp only at hJ
 try dsimp only
 refine go [0,2,7,2,7,1,1,7,8,9,10,0,2,14,7,8] ?_
 refine G.condP rfl (fun h56 => ?_) (fun h56 => ?_)
 ·refine go [9,10,2,50,4,0,20,1,1,7,8,11,12] ?_
  rw [mkM_no hz0 (by rw [← hys]; assumption), ← hys]
  refine go [60,7,60,6] ?_
  refine G.ownNil 71 17 ?_
  refine G.datDNil 5 ?_
  exact G.doneG (((.slice none 0 0, []), .slice none 0 0, [])) Y57 rfl (Rv.cellN (cs := [_, _, _, _, _]) rfl Tryz.underlying28 rfl kr Y22 (Rv.tmp rfl (Rv.tmp rfl Rv.nil))) rfl subT
 refine go [13,8,9] ?_
 refine G.drawT (nn := 8) (p := [blk b8 _ _]) (rem := 255) [0, 0, 2, 4, 8, 1, 63, 127] [0, 0, 2, 4, 8, 1, 16, 0] kr ⟨rfl, by kernel_rfl, by kernel_rfl⟩ subT kr (fun hT14 => ?_)
 refine go [22,1,253,0,22,2,249,8,22,3,241,3,1,22,0,240,50,0,22,4,224,4,24,5,192,29,26,22,6,128,1,22,7,0,1,27,8,11] ?_
 rw [mkM_ok hz0 (by rw [← hys]; omega)]
 exact G.doneG (((vw, ys), vk, cks')) (by first | exact trivial | ((try dsimp only) <;> exact ⟨hys, hck⟩)) rfl (Rv.cellN (cs := [_, _, _, _, _]) rfl Tryz.underlying28 rfl kr Y22 (Rv.tmp rfl (Rv.tmp rfl Rv.nil))) rfl subT
theorem takeC_16 {acc : List (List UInt8 × List UInt8)} {b : List UInt8} (h : ∀ p ∈ acc, p.1.length = 16) : ∀ p ∈ takeC acc b, p.1.length = 16 := fun p hp => by
 unfold takeC at hp
 split at hp
 ·exact h p hp
 rcases List.mem_append.1 hp with hp | hp
 ·exact h p hp
 obtain rfl : p = _ := by simpa using hp
 exact nameM_len b
theorem collC_16 {acc : List (List UInt8 × List UInt8)} (h : ∀ p ∈ acc, p.1.length = 16) (l : List (List UInt8)) : ∀ p ∈ collC acc l, p.1.length = 16 := by
 induction l generalizing acc with
 | nil => exact h
 | cons b l ih => exact ih (takeC_16 h)
theorem makeC_16 (es : List En) : ∀ p ∈ makeC es, p.1.length = 16 := collC_16 (fun p hp => by cases hp) _
theorem nms_16 {ck : List CT} (h : ∀ p ∈ cks ck, p.1.length = 16) : all16 (nmsC ck) := fun x hx => by
 obtain ⟨p, hp, rfl⟩ := List.mem_map.1 hx
 exact h p hp
theorem takeC_in {acc : List (List UInt8 × List UInt8)} {b : List UInt8} (h : nameM b ∈ acc.map (·.1)) : takeC acc b = acc := if_pos h
theorem takeC_new {acc : List (List UInt8 × List UInt8)} {b : List UInt8} (h : ¬ nameM b ∈ acc.map (·.1)) : takeC acc b = acc ++ [(nameM b, b)] := if_neg h
theorem nms_len (ck : List CT) : (nmsC ck).length = ck.length := by unfold nmsC cks; simp
set_option maxRecDepth 20000 in
set_option maxHeartbeats 4000000 in
theorem mmakeR_tr {Ps : Nat → Prop} (c k t : Int) (v : Value) (xs : List ET) (hd : ∀ x ∈ xs, x.1.data.length ≤ 10000) : Tr Tryz.prog 12 #[.int .i64 c, .int .i64 k, .int .i64 t, v] [slc rEV Ps v xs] []
 (TX (fun z : (Value × List IT) × Value × List CT => its z.1.2 = (mkM (⟨c, k, 0, t⟩ : Mh) (ens xs)).1.2 ∧ cks z.2.2 = (mkM (⟨c, k, 0, t⟩ : Mh) (ens xs)).2.1) (fun z => .tuple #[.agg #[.int .i64 (mkM (⟨c, k, 0, t⟩ : Mh) (ens xs)).1.1.c, .int .i64 (mkM (⟨c, k, 0, t⟩ : Mh) (ens xs)).1.1.k, .int .i64 (mkM (⟨c, k, 0, t⟩ : Mh) (ens xs)).1.1.n, .int .i64 (mkM (⟨c, k, 0, t⟩ : Mh) (ens xs)).1.1.t, z.1.1], z.2.1, .int .i64 (mkM (⟨c, k, 0, t⟩ : Mh) (ens xs)).2.2]) (fun z => [own 80 6 z.1.1 z.1.2.length (z.1.2.flatMap itC), datI 66 z.1.2, own 71 17 z.2.1 z.2.2.length (z.2.2.flatMap chC), datD 5 z.2.2])) := by
 refine Tr.of (l := [(0, .int .i64 c), (1, .int .i64 k), (2, .int .i64 t), (3, v)]) Tryz.func12 rfl (n := 128) rfl (.cons rfl (.cons rfl (.cons rfl (.cons rfl .nil)))) (fun w0 hro => ?_)
 have hv := ro1 hro
 have hv' := hv
 obtain ⟨av, cv, bv, fv, rfl, hcapv, hmaxv, hnilv, hadv, helv⟩ := Ro.openT hv
 have hel' := ens_length xs
 have hEn : ∀ e ∈ ens xs, EnOk e ∧ e.data.length ≤ 10000 := fun e he => by obtain ⟨x, hx, rfl⟩ := List.mem_map.1 he; obtain ⟨q, hq, rfl⟩ := List.getElem_of_mem hx; exact ⟨Ro.evOk (helv q hq), hd _ hx⟩
 refine go [9,10,60,3] ?_
 intro b8
 refine go [1,1,7,8,9,10,0] ?_
 refine G.op rfl (G.cR rfl rfl rfl rfl Tryz.func47 rfl rfl (may1 (.old hv)) (tcheckR_tr _ xs) ?_)
 refine go [0,2,7,2,7,1,1,7,8,9,9,10,0,2,14,7,8] ?_
 refine G.condP rfl (fun h29 => ?_) (fun h29 => ?_)
 ·refine go [9,10,2,50,4,0,20,1,1,7,8,11,12] ?_
  rw [mkM_bad (by assumption)]
  refine go [60,7,60,6] ?_
  refine G.ownNil 71 17 ?_
  refine G.datDNil 5 ?_
  exact G.doneG (((.slice none 0 0, []), .slice none 0 0, [])) Y57 rfl (Rv.cellN (cs := [_, _, _, _, _]) rfl Tryz.underlying28 rfl kr Y22 (Rv.tmp rfl (Rv.tmp rfl Rv.nil))) rfl subT
 obtain ⟨h200, -, -⟩ := checkT_zero (es := ens xs) (by omega)
 have hz0 : (checkT (ens xs)).1 = 0 := by omega
 refine go [13,8,9,10,0,0,0,2,50,4,60,3] ?_
 intro b13
 refine go [20,7,8,9,10,1,7,8,9,10,1,7,8,9,9,10,1,7,8,15,60,7,60,6] ?_
 refine G.ownNil 71 17 ?_
 refine G.datDNil 5 ?_
 refine G.ownNil 66 16 ?_
 refine G.loopK (X := Nat × Value × Value × (List CT) × Value × (List IT)) (ts := [3, 8, 9, 10, 13]) (fun st => st.1 ≤ xs.length ∧ (cks st.2.2.2.1 = makeC ((ens xs).take st.1) ∧ its st.2.2.2.2.2 = ((ens xs).take st.1).map mkI ∧ st.2.2.2.1.length ≤ st.1 * 20000 ∧ st.2.2.2.2.2.length = st.1)) (fun st => [(16, .int .i64 (st.1 : Int)), (14, st.2.1), (15, st.2.2.1)]) (fun st => [own 71 17 st.2.1 st.2.2.2.1.length (st.2.2.2.1.flatMap chC), datD 5 st.2.2.2.1, own 66 16 st.2.2.1 (nmsC st.2.2.2.1).length (flatI (nmsC st.2.2.2.1)), own 80 6 st.2.2.2.2.1 st.2.2.2.2.2.length (st.2.2.2.2.2.flatMap itC), datI 66 st.2.2.2.2.2, blk b13 28 [.int .i64 c, .int .i64 k, .int .i64 0, .int .i64 t, st.2.2.2.2.1]]) (fun st => xs.length - st.1) (x0 := (0, .slice none 0 0, .slice none 0 0, [], .slice none 0 0, [])) (.cons rfl (.cons rfl (.cons rfl (.cons rfl (.cons rfl .nil))))) subT (.cons (.cons (.cons .nil))) apT (by first | exact trivial | ((try dsimp only) <;> exact ⟨Nat.zero_le _, ⟨rfl, rfl, Nat.zero_le _, rfl⟩⟩)) (.consE rfl veqT (.consE rfl veqT (.consE rfl veqT .nil))) (fun st hJ => ?_)
 obtain ⟨i, vk, vh, cks', vw, ys⟩ := st
 try dsimp only at hJ
 try dsimp only
 obtain ⟨hki, hJ⟩ := hJ
 obtain ⟨hck, hys, hcl, hyl⟩ := hJ
 refine go [9,9,10,0,0,2,5,2,9,7,8] ?_
 refine G.condP rfl (fun h39 => ?_) (fun h39 => ?_)
 ·have hlt : i < xs.length := by omega
  have hlt' : i < (ens xs).length := by omega
  have hdi := hd _ (List.getElem_mem hlt)
  have hmk : ((ens xs).take (i + 1)).map mkI = ((ens xs).take i).map mkI ++ [mkI xs[i].1] := by rw [List.take_succ_eq_append_getElem hlt', List.map_append, ens_get hlt]; rfl
  have hcm := makeC_take hlt'
  rw [ens_get hlt] at hcm
  have hEv := helv i hlt
  have hRv := Ro.evRng hEv
  have hDv := Ro.evDat hEv
  obtain ⟨hk1v, hk2v, hlpv, hldv, hltv⟩ := Ro.evOk hEv
  have hCv := Ro.one1 hDv
  obtain ⟨aD, cD, hx2⟩ := Ro.slv hDv
  rw [hx2] at hRv hCv hDv
  refine go [13,8,9,15,9] ?_
  refine G.drawT (nn := 29) (p := []) (rem := 536870911) [0, 0, 3, 4, 8, 0, 0, 96, 128, 256, 0, 0, 3072, 4096, 8192, 0, 0, 98304, 131072, 262144, 524288, 0, 0, 6291456, 8388608, 16777216, 34619920, 0, 268435455] [0, 0, 3, 4, 8, 0, 0, 96, 128, 256, 0, 0, 3072, 4096, 8192, 0, 0, 98304, 131072, 262144, 524288, 0, 0, 6291456, 8388608, 16777216, 34619920, 0, 201326592] kr ⟨rfl, by kernel_rfl, by kernel_rfl⟩ subT kr (fun hT10 => ?_)
  refine go [22,0,536870910,0,22,1,536870908,0] ?_
  refine G.takeT hT10 (i := 2) (rem' := 536870904) rfl rfl rfl kr (fun _ _ _ h => h) rfl (pv_ixSl (sz := 5) (k := i) Tryz.underlying22 kr rfl rfl Y30 (by omega) (by omega)) subT ?_
  refine go [22,3,536870896,3,0,22,5,536870864,0,22,6,536870800,0] ?_
  refine G.takeT hT10 (i := 7) (rem' := 536870672) rfl rfl rfl kr (fun _ _ _ h => h) rfl (pv_ixSl (sz := 5) (k := i) Tryz.underlying22 kr rfl rfl Y30 (by omega) (by omega)) subT ?_
  refine go [22,8,536870416,3,1,22,10,536869392,0,22,11,536867344,0] ?_
  refine G.takeT hT10 (i := 12) (rem' := 536863248) rfl rfl rfl kr (fun _ _ _ h => h) rfl (pv_ixSl (sz := 5) (k := i) Tryz.underlying22 kr rfl rfl Y30 (by omega) (by omega)) subT ?_
  refine go [22,13,536855056,3,2,22,15,536822288,0,22,16,536756752,0] ?_
  refine G.takeT hT10 (i := 17) (rem' := 536625680) rfl rfl rfl kr (fun _ _ _ h => h) rfl (pv_ixSl (sz := 5) (k := i) Tryz.underlying22 kr rfl rfl Y30 (by omega) (by omega)) subT ?_
  refine go [22,18,536363536,3,3,22,21,534266384,0,22,22,530072080,0] ?_
  refine G.takeT hT10 (i := 23) (rem' := 521683472) rfl rfl rfl kr (fun _ _ _ h => h) rfl (pv_ixSl (sz := 5) (k := i) Tryz.underlying22 kr rfl rfl Y30 (by omega) (by omega)) subT ?_
  refine go [22,24,504906256,3,4,22,4,504906240,4,22,9,504905728,4,22,14,504889344,4,22,19,504365056,4,22,20,503316480,5,22,25,469762048,4,22,26,402653184,50,8,24,27,268435456,60,16] ?_
  intro b17
  refine go [26,24,28,0,29,26,27,8,9,10,0,0] ?_
  refine G.op rfl (G.val rfl rfl (pv_ixSl (sz := 5) (k := i) Tryz.underlying22 kr rfl rfl Y30 (by omega) (by omega)) ?_)
  refine go [2,3,3,2,4] ?_
  refine G.op rfl (G.cS rfl rfl rfl rfl Tryz.func48 rfl rfl subT (may1 Y2) (csplitR_tr _ xs[i].1.data (by omega)) apT ?_)
  intro x74 hJ
  obtain ⟨sv, l⟩ := x74
  try dsimp only at hJ
  try dsimp only
  have hl : l.map (·.1) = chunksC xs[i].1.data := hJ
  have hll : l.length = (chunksC xs[i].1.data).length := by rw [← hl, List.length_map]
  have hcl2 := chunksC_len xs[i].1.data
  refine G.ownNews (v := sv) selT (fun a9 c9 b9 hsv hks hms hads hnils hnews => ?_)
  subst hsv
  refine go [1,7,8,9,9,10,1,7,8,15] ?_
  refine G.ownNil 66 16 ?_
  refine G.loopK (X := Nat × Value × Value × (List CT) × Value) (ts := [3, 8, 9, 10, 13, 16, 17, 18]) (fun st => st.1 ≤ l.length ∧ (cks st.2.2.2.1 = collC (makeC ((ens xs).take i)) ((chunksC xs[i].1.data).take st.1) ∧ st.2.2.2.1.length ≤ cks'.length + st.1)) (fun st => [(19, .int .i64 (st.1 : Int)), (14, st.2.1), (15, st.2.2.1)]) (fun st => [own 71 17 st.2.1 st.2.2.2.1.length (st.2.2.2.1.flatMap chC), datD 5 st.2.2.2.1, own 66 16 st.2.2.1 (nmsC st.2.2.2.1).length (flatI (nmsC st.2.2.2.1)), own 66 16 st.2.2.2.2 (((chunksC xs[i].1.data).take st.1).map nameM).length (flatI (((chunksC xs[i].1.data).take st.1).map nameM)), blk b17 80 [.string (sB xs[i].1.path), .int .i64 xs[i].1.kind, .int .i64 xs[i].1.mode, .int .i64 (xs[i].1.data.length : Int), .string (sB xs[i].1.to), st.2.2.2.2]]) (fun st => l.length - st.1) (x0 := (0, vk, vh, cks', .slice none 0 0)) (.cons rfl (.cons rfl (.cons rfl (.cons rfl (.cons rfl (.cons rfl (.cons rfl (.cons rfl .nil)))))))) subT (.cons (.cons (.cons .nil))) apT (by first | exact trivial | ((try dsimp only) <;> exact ⟨Nat.zero_le _, ⟨hck, Nat.le_refl _⟩⟩)) (.consE rfl veqT (.consE rfl veqT (.consE rfl veqT .nil))) (fun st hJ => ?_)
  obtain ⟨q, vq, vhq, ckq, vI⟩ := st
  try dsimp only at hJ
  try dsimp only
  obtain ⟨hkq, hJ⟩ := hJ
  obtain ⟨hqk, hql⟩ := hJ
  refine go [9,9,10,0,0,2,5,2,9,7,8] ?_
  refine G.condP rfl (fun h78 => ?_) (fun h78 => ?_)
  ·have hq : q < l.length := by omega
   have hq' : q < (chunksC xs[i].1.data).length := by omega
   have hpi : l[q].1 = (chunksC xs[i].1.data)[q] := (by have h : (l.map (·.1))[q]? = (chunksC xs[i].1.data)[q]? := (by rw [hl]); rw [List.getElem?_map, List.getElem?_eq_getElem hq, List.getElem?_eq_getElem hq'] at h; exact Option.some.inj h)
   have hpl : l[q].1.length ≤ xs[i].1.data.length := chunksC_le (by rw [hpi]; exact List.getElem_mem hq')
   have hids : ((chunksC xs[i].1.data).take q).map nameM ++ [nameM l[q].1] = ((chunksC xs[i].1.data).take (q + 1)).map nameM := by rw [List.take_succ_eq_append_getElem hq', List.map_append, hpi]; rfl
   have hidl : (((chunksC xs[i].1.data).take q).map nameM).length ≤ q := by rw [List.length_map]; exact List.length_take_le _ _
   have hmem : (l[q].1, l[q].2) ∈ l := List.getElem_mem hq
   have hco := collC_take (makeC ((ens xs).take i)) hq'
   rw [← hqk, ← hpi] at hco
   have hn16 : all16 (nmsC ckq) := nms_16 (by rw [hqk]; exact collC_16 (makeC_16 _) _)
   have hnl := nms_len ckq
   obtain ⟨id, hid⟩ : ∃ c, nameM l[q].1 = c := ⟨_, rfl⟩
   have lq := nameM_len l[q].1
   rw [hid] at lq hids
   refine go [13,8,9,15,9,10,0,0] ?_
   refine G.op rfl (G.val rfl rfl (pv_ixSl (sz := 1) (k := q) Tryz.underlying82 kr rfl rfl hads rfl hq) ?_)
   refine G.op rfl (G.val rfl rfl (pv_load (v := l[q].2) Tryz.underlying39 rfl rfl (fun w hw => by have h := hnews selT w hw q l[q].2 (by rw [List.getElem?_map, List.getElem?_eq_getElem hq]; rfl); simpa using h)) ?_)
   refine G.op rfl (G.cR rfl rfl rfl rfl Tryz.func49 rfl rfl (may1 (may_datB selT (x := l[q].1) (u := l[q].2) hmem)) (nameR_tr _ l[q].1 (by omega)) ?_)
   rw [hid]
   refine go [60,11] ?_
   intro b20
   refine G.op rfl (G.storeN Y12 rfl rfl (List.all_eq_true.2 (vByte_one _)) selT (by simp [lq]) ?_)
   rw [putN_whole _ _ (by rw [List.length_map, lq]; rfl)]
   refine go [7,8,9,10,2,3,5,2,4] ?_
   refine G.op rfl (G.val rfl rfl (pv_loadN (cs := id.map vByte) Tryz.underlying66 rfl Y12 rfl (blk_range (k := 16) selT (List.take_of_length_le Y10))) ?_)
   refine G.op rfl (G.buildSlice (sz := 16) (cs := id.map vByte) rfl Tryz.underlying60 Tryz.infoIDfill (by decide) (by decide) rfl (fillID _ (by rw [List.length_map, lq])) ?_)
   intro b89
   refine G.op rfl (G.append (k := (((chunksC xs[i].1.data).take q).map nameM).length) (j := 1) (cs := flatI (((chunksC xs[i].1.data).take q).map nameM)) (news := id.map vByte) (b := b89) (off := 0) rfl Tryz.underlying60 Tryz.infoID' rfl rfl rfl selT (fun _ => rfl) (fun h => by cases h) (by rw [List.length_map, lq]) (blk_news (k := 16) selT (List.take_of_length_le Y10)) (vByte_one _) (by omega) (by omega) ?_)
   intro vi3
   rw [own_oneI, hids]
   refine G.ownFact (v := vi3) selT (fun hvnvi3 _ => ?_)
   refine go [2,3,5,21,7,8,9,10,0] ?_
   refine G.op rfl (G.val rfl rfl (pv_loadN (cs := id.map vByte) Tryz.underlying66 rfl Y12 rfl (blk_range (k := 16) selT (List.take_of_length_le Y10))) ?_)
   refine G.op rfl (G.cR rfl rfl rfl rfl Tryz.func50 rfl rfl (may1 (may_ownI selT hn16)) (in_tr _ (nmsC ckq) id lq) ?_)
   refine go [2,25,7,8] ?_
   refine G.cond rfl (fun h95 => ?_) (fun h95 => ?_)
   ·have hni : ¬ id ∈ nmsC ckq := by simpa using h95
    have hni2 : ¬ nameM l[q].1 ∈ (cks ckq).map (·.1) := by rw [hid]; exact hni
    refine go [9,10,0] ?_
    refine G.op rfl (G.val rfl rfl (pv_loadN (cs := id.map vByte) Tryz.underlying66 rfl Y12 rfl (blk_range (k := 16) selT (List.take_of_length_le Y10))) ?_)
    refine G.op rfl (G.buildSlice (sz := 16) (cs := id.map vByte) rfl Tryz.underlying60 Tryz.infoIDfill (by decide) (by decide) rfl (fillID _ (by rw [List.length_map, lq])) ?_)
    intro b98
    refine G.op rfl (G.append (k := (nmsC ckq).length) (j := 1) (cs := flatI (nmsC ckq)) (news := id.map vByte) (b := b98) (off := 0) rfl Tryz.underlying60 Tryz.infoID' rfl rfl rfl selT (fun _ => rfl) (fun h => by cases h) (by rw [List.length_map, lq]) (blk_news (k := 16) selT (List.take_of_length_le Y10)) (vByte_one _) (by omega) (by omega) ?_)
    intro vh3
    rw [own_oneI, show nmsC ckq ++ [id] = nmsC (ckq ++ [((id, l[q].1), Value.bool false)]) from (nms_snoc ckq ((id, l[q].1), Value.bool false)).symm]
    refine G.ownFact (v := vh3) selT (fun hvnvh3 _ => ?_)
    refine go [1,7,8] ?_
    refine G.drawT (nn := 12) (p := [own 71 17 vq ckq.length (ckq.flatMap chC), datD 5 ckq]) (rem := 4095) [0, 0, 0, 0, 0, 24, 32, 68, 130, 256, 641, 2047] [0, 0, 0, 0, 0, 24, 32, 68, 130, 256, 513, 1025] kr ⟨rfl, by kernel_rfl, by kernel_rfl⟩ subT kr (fun hT19 => ?_)
    refine go [22,0,4094,0,22,3,4086,0,22,4,4070,0] ?_
    refine G.takeT hT19 (i := 5) (rem' := 4038) rfl rfl rfl kr (fun _ _ _ h => h) rfl (pv_ixSl (sz := 1) (k := q) Tryz.underlying82 kr rfl rfl hads rfl hq) subT ?_
    refine G.takeT hT19 (i := 1) (rem' := 4036) rfl rfl rfl kr (fun _ _ _ h => h) rfl (pv_loadN (cs := id.map vByte) Tryz.underlying66 rfl Y12 rfl (blk_range (k := 16) selT (List.take_of_length_le Y10))) subT ?_
    refine G.takeT hT19 (i := 6) (rem' := 3972) rfl rfl rfl kr (fun _ _ _ h => h) rfl (pv_load (v := l[q].2) Tryz.underlying39 rfl rfl (fun w hw => by have h := hnews selT w hw q l[q].2 (by rw [List.getElem?_map, List.getElem?_eq_getElem hq]; rfl); simpa using h)) subT ?_
    refine go [24,2,3968] ?_
    refine G.turnOp rfl rfl (G.lit0 rfl Tryz.underlying39 kr rfl ?_)
    intro b102
    refine G.blkOwnB (b := b102) (xs := []) selT (by decide) ?_
    refine go [26,24,7,3840] ?_
    refine G.turnOp rfl rfl (G.appendB (xs := []) (ys := l[q].1) (Ps := (datB 5 l).S) rfl Tryz.underlying39 Tryz.infoByte rfl rfl selT (fun w hw => datB_sl (hw.holds _ (Sel.mem selT)) _ hmem) (by simp; omega) (by simp; omega) ?_)
    intro x107
    rw [List.nil_append l[q].1]
    refine G.ownBFact (v := x107) selT (fun hone => ?_)
    refine go [26] ?_
    refine G.takeT hT19 (i := 8) (rem' := 3584) rfl rfl rfl kr (fun _ _ _ h => h) rfl (pv_build (cells := (chC ((id, l[q].1), x107)).toArray) (fun a ha => ha.pevs rfl) (builtCk lq hone)) subT ?_
    refine go [24,9,3072] ?_
    refine G.turnOp rfl rfl (G.buildSlice (sz := 17) (cs := chC ((id, l[q].1), x107)) rfl Tryz.underlying29 Tryz.infoCkfill (by decide) (by decide) rfl (fillCk _ (chC_len _)) ?_)
    intro b109
    refine go [26,24,10,2048] ?_
    refine G.turnOp rfl rfl (G.append (k := ckq.length) (j := 1) (cs := ckq.flatMap chC) (news := chC ((id, l[q].1), x107)) (b := b109) (off := 0) rfl Tryz.underlying29 Tryz.infoCk rfl rfl rfl selT (fun _ => rfl) (fun h => by cases h) (chC_len _) (blk_news (k := 17) selT (by rw [List.drop_zero]; exact List.take_of_length_le (Nat.le_of_eq (chC_len _)))) (chC_one hone) (by omega) (by omega) ?_)
    intro vk3
    rw [chC_snoc ckq ((id, l[q].1), x107), show ckq.length + 1 = (ckq ++ [((id, l[q].1), x107)]).length from by rw [List.length_append]; rfl]
    refine G.datDSnoc (ys := ckq) (x := ((id, l[q].1), x107)) selT selT ?_
    refine G.ownFact (v := vk3) selT (fun hvk3 _ => ?_)
    rw [show nmsC (ckq ++ [((id, l[q].1), Value.bool false)]) = nmsC (ckq ++ [((id, l[q].1), x107)]) from by rw [nms_snoc, nms_snoc]]
    refine go [26,22,11,0,1,27,16,8,10,0,2,6,1,7] ?_
    exact G.next ((q + 1, (vk3, vh3, ckq ++ [((id, l[q].1), x107)], vi3))) (by first | exact trivial | ((try dsimp only) <;> exact ⟨by omega, ⟨by rw [cks_snoc, hco, takeC_new hni2, hid], by rw [List.length_append, List.length_singleton]; omega⟩⟩)) (by (try dsimp only); omega) (.consE rfl veqT (.consE rfl veqT (.consE rfl veqT (.cons rfl (.cons rfl (.cons rfl (.cons rfl (.cons rfl (.cons rfl (.cons rfl (.cons rfl .nil))))))))))) subT
   have hyi : id ∈ nmsC ckq := by simpa using h95
   have hyi2 : nameM l[q].1 ∈ (cks ckq).map (·.1) := by rw [hid]; exact hyi
   refine go [13,16,8,10,0,2,6,1,7] ?_
   exact G.next ((q + 1, (vq, vhq, ckq, vi3))) (by first | exact trivial | ((try dsimp only) <;> exact ⟨by omega, ⟨by rw [hco, takeC_in hyi2], by omega⟩⟩)) (by (try dsimp only); omega) (.consE rfl veqT (.consE rfl veqT (.consE rfl veqT (.cons rfl (.cons rfl (.cons rfl (.cons rfl (.cons rfl (.cons rfl (.cons rfl (.cons rfl .nil))))))))))) subT
  obtain rfl : q = l.length := by omega
  rw [hll, List.take_length] at hqk
  rw [hll, List.take_length]
  refine G.ownFact (v := vI) selT (fun h39 _ => ?_)
  obtain ⟨it, hit⟩ : ∃ c, mkI xs[i].1 = c := ⟨_, rfl⟩
  rw [show own 66 16 vI ((chunksC xs[i].1.data).map nameM).length (flatI ((chunksC xs[i].1.data).map nameM)) = own 66 16 vI it.ids.length (flatI it.ids) from by rw [← hit]; rfl, show blk b17 80 [.string (sB xs[i].1.path), .int .i64 xs[i].1.kind, .int .i64 xs[i].1.mode, .int .i64 (xs[i].1.data.length : Int), .string (sB xs[i].1.to), vI] = blk b17 80 (itC (it, vI)) from by rw [← hit]; rfl]
  refine go [18,14,14,19,8,10,2,3,4,2,4] ?_
  refine G.op rfl (G.val rfl rfl (pv_loadN (cs := itC (it, vI)) Tryz.underlying80 rfl kr rfl (blk_range (k := 6) selT rfl)) ?_)
  refine G.op rfl (G.buildSlice (z := .agg #[.string ⟨#[]⟩, .int .i64 0, .int .i64 0, .int .i64 0, .string ⟨#[]⟩, .slice none 0 0]) (sz := 6) (cs := itC (it, vI)) rfl Tryz.underlying26 kr (by decide) (by decide) rfl kr ?_)
  intro b114
  refine G.op rfl (G.append (k := ys.length) (j := 1) (cs := ys.flatMap itC) (news := itC (it, vI)) (b := b114) (off := 0) rfl Tryz.underlying26 Tryz.infoIt rfl rfl rfl selT (fun _ => rfl) (fun h => by cases h) rfl (blk_news (k := 6) selT rfl) (itC_one h39) (by omega) (by omega) ?_)
  intro vn
  rw [itC_snoc ys (it, vI), show ys.length + 1 = (ys ++ [(it, vI)]).length from by rw [List.length_append]; rfl]
  refine G.datISnoc (ys := ys) (x := (it, vI)) selT selT ?_
  refine G.ownFact (v := vn) selT (fun hvn _ => ?_)
  refine go [2,3,4,21,7,16,8,10,0,2,6,1,7] ?_
  exact G.next ((i + 1, (vq, vhq, ckq, vn, ys ++ [(it, vI)]))) (by first | exact trivial | ((try dsimp only) <;> exact ⟨by omega, ⟨by rw [hqk, hcm], by rw [its_snoc, hys, hmk, hit], by omega, by rw [List.length_append, hyl]; rfl⟩⟩)) (by (try dsimp only); omega) (.consE rfl veqT (.consE rfl veqT (.consE rfl veqT (.cons rfl (.cons rfl (.cons rfl (.cons rfl (.cons rfl .nil)))))))) subT
 obtain rfl : i = xs.length := by omega
 rw [← hel', List.take_length] at hck hys
 refine G.ownFact (v := vw) selT (fun hvw _ => ?_)
 refine G.ownFact (v := vk) selT (fun hvk _ => ?_)
 have hok : ∀ x ∈ ys, ItOk x.1 ∧ all16 x.1.ids := fun x hx => by have h1 : x.1 ∈ its ys := List.mem_map.2 ⟨x, hx, rfl⟩; rw [hys] at h1; obtain ⟨e, he, h2⟩ := List.mem_map.1 h1; rw [← h2]; exact ⟨mkI_ok (hEn e he).1 (hEn e he).2, mkI_16 e⟩
 refine go [18,14,14,19,8,9,10,2,50,0] ?_
 refine G.op rfl (G.cS rfl rfl rfl rfl Tryz.func34 rfl rfl subT (may1 (may_items selT selT hok)) (mbytesR_tr (⟨c, k, 0, t⟩ : Mh) _ ys) apT ?_)
 intro x119 hJ
 try dsimp only at hJ
 try dsimp only
 refine go [0,2,7,2,7,1,1,7,8,9,9,10,0,2,14,7,8] ?_
 refine G.condP rfl (fun h123 => ?_) (fun h123 => ?_)
 ·refine go [9,10,2,50,4,0,20,1,1,7,8,11,12] ?_
  rw [mkM_no hz0 (by rw [← hys]; assumption), ← hys]
  refine go [60,7,60,6] ?_
  refine G.ownNil 71 17 ?_
  refine G.datDNil 5 ?_
  exact G.doneG (((.slice none 0 0, []), .slice none 0 0, [])) Y57 rfl (Rv.cellN (cs := [_, _, _, _, _]) rfl Tryz.underlying28 rfl kr Y22 (Rv.tmp rfl (Rv.tmp rfl Rv.nil))) rfl subT
 refine go [13,8,9,10,2,50,0,0,20,1,1,7,8,11] ?_
 rw [mkM_ok hz0 (by rw [← hys]; omega)]
 exact G.doneG (((vw, ys), vk, cks')) (by first | exact trivial | ((try dsimp only) <;> exact ⟨hys, hck⟩)) rfl (Rv.cellN (cs := [_, _, _, _, _]) rfl Tryz.underlying28 rfl kr Y22 (Rv.tmp rfl (Rv.tmp rfl Rv.nil))) rfl subT
def foundM (cs : List (List UInt8 × List UInt8)) (id : List UInt8) : List UInt8 × Int := match cs.find? (fun p => decide (p.1 = id)) with
 | none => ([], 6)
 | some p => if nameM p.2 = id then (p.2, 0) else ([], 11)
def foundV (xs : List CT) (id : List UInt8) : Value := match xs.find? (fun x => decide (x.1.1 = id)) with
 | none => .slice none 0 0
 | some x => if nameM x.1.2 = id then x.2 else .slice none 0 0
def firstE (l : List Int) : Int := (l.find? fun e => ! decide (e = 0)).getD 0
def datOf (cs : List (List UInt8 × List UInt8)) (ids : List (List UInt8)) : List UInt8 := ids.flatMap fun id => (foundM cs id).1
def errB (cs : List (List UInt8 × List UInt8)) (ids : List (List UInt8)) : Int := firstE (ids.map fun id => (foundM cs id).2)
def errIt (cs : List (List UInt8 × List UInt8)) (x : It) : Int := if errB cs x.ids ≠ 0 then errB cs x.ids else if ((datOf cs x.ids).length : Int) ≠ x.size then 4 else 0
def mkE (cs : List (List UInt8 × List UInt8)) (x : It) : En := ⟨x.path, x.kind, x.mode, datOf cs x.ids, x.to⟩
def buildM (a : Mh) (ms : List It) (cs : List (List UInt8 × List UInt8)) : List En × Int := if (checkI a ms).1 ≠ 0 then ([], (checkI a ms).1) else if firstE (ms.map (errIt cs)) ≠ 0 then ([], firstE (ms.map (errIt cs))) else (ms.map (mkE cs), 0)
theorem firstE_bad {l : List Int} {i : Nat} (hi : i < l.length) (h : ∀ q (hq : q < l.length), q < i → l[q] = 0) (he : l[i] ≠ 0) : firstE l = l[i] := by
 unfold firstE
 rw [(List.find?_eq_some_iff_getElem (p := fun e : Int => ! decide (e = 0)) (b := l[i])).2 ⟨by simpa using he, i, hi, rfl, fun j hj => by simpa using h j (by omega) hj⟩]
 rfl
theorem firstE_ok {l : List Int} (h : ∀ q (hq : q < l.length), l[q] = 0) : firstE l = 0 := by
 unfold firstE
 rw [List.find?_eq_none.2 fun x hx => by
  obtain ⟨q, hq, rfl⟩ := List.getElem_of_mem hx
  simpa using h q hq]
 rfl
theorem buildM_check {a : Mh} {ms : List It} {cs : List (List UInt8 × List UInt8)} (h : (checkI a ms).1 ≠ 0) : buildM a ms cs = ([], (checkI a ms).1) := if_pos h
theorem buildM_bad {a : Mh} {ms : List It} {cs : List (List UInt8 × List UInt8)} {i : Nat} {e : Int} (h0 : (checkI a ms).1 = 0) (hi : i < ms.length) (h : ∀ q (hq : q < ms.length), q < i → errIt cs ms[q] = 0) (he : errIt cs ms[i] = e) (hn : e ≠ 0) : buildM a ms cs = ([], e) := by
 have h1 : firstE (ms.map (errIt cs)) = e := by
  rw [firstE_bad (i := i) (by rw [List.length_map]; exact hi) (fun q hq hqi => by rw [List.getElem_map]; exact h q (by rw [List.length_map] at hq; exact hq) hqi) (by rw [List.getElem_map, he]; exact hn), List.getElem_map, he]
 unfold buildM
 rw [if_neg (not_not_intro h0), h1, if_pos hn]
theorem buildM_ok {a : Mh} {ms : List It} {cs : List (List UInt8 × List UInt8)} (h0 : (checkI a ms).1 = 0) (h : ∀ q (hq : q < ms.length), errIt cs ms[q] = 0) : buildM a ms cs = (ms.map (mkE cs), 0) := by
 have h1 : firstE (ms.map (errIt cs)) = 0 := firstE_ok fun q hq => by rw [List.getElem_map]; exact h q (by rw [List.length_map] at hq; exact hq)
 unfold buildM
 rw [if_neg (not_not_intro h0), if_neg (not_not_intro h1)]
theorem errIt_bad {cs : List (List UInt8 × List UInt8)} {x : It} {q : Nat} (hq : q < x.ids.length) (h : ∀ r (hr : r < x.ids.length), r < q → (foundM cs x.ids[r]).2 = 0) (he : (foundM cs x.ids[q]).2 ≠ 0) : errIt cs x = (foundM cs x.ids[q]).2 := by
 have h1 : errB cs x.ids = (foundM cs x.ids[q]).2 := by
  unfold errB
  rw [firstE_bad (i := q) (by rw [List.length_map]; exact hq) (fun r hr hrq => by rw [List.getElem_map]; exact h r (by rw [List.length_map] at hr; exact hr) hrq) (by rw [List.getElem_map]; exact he), List.getElem_map]
 unfold errIt
 rw [h1, if_pos he]
theorem errB_ok {cs : List (List UInt8 × List UInt8)} {x : It} (h : ∀ r (hr : r < x.ids.length), (foundM cs x.ids[r]).2 = 0) : errB cs x.ids = 0 := firstE_ok fun r hr => by rw [List.getElem_map]; exact h r (by rw [List.length_map] at hr; exact hr)
theorem errIt_size {cs : List (List UInt8 × List UInt8)} {x : It} (h : ∀ r (hr : r < x.ids.length), (foundM cs x.ids[r]).2 = 0) (h2 : ((datOf cs x.ids).length : Int) ≠ x.size) : errIt cs x = 4 := by
 unfold errIt
 rw [if_neg (not_not_intro (errB_ok h)), if_pos h2]
theorem errIt_ok {cs : List (List UInt8 × List UInt8)} {x : It} (h : ∀ r (hr : r < x.ids.length), (foundM cs x.ids[r]).2 = 0) (h2 : ((datOf cs x.ids).length : Int) = x.size) : errIt cs x = 0 := by
 unfold errIt
 rw [if_neg (not_not_intro (errB_ok h)), if_neg (not_not_intro h2)]
theorem datOf_take (cs : List (List UInt8 × List UInt8)) {ids : List (List UInt8)} {q : Nat} (h : q < ids.length) : datOf cs (ids.take (q + 1)) = datOf cs (ids.take q) ++ (foundM cs ids[q]).1 := by
 unfold datOf
 rw [List.take_succ_eq_append_getElem h, List.flatMap_append]
 simp
theorem found_none {xs : List CT} {id : List UInt8} (h : ∀ q (hq : q < xs.length), ¬ xs[q].1.1 = id) : foundM (cks xs) id = ([], 6) ∧ foundV xs id = .slice none 0 0 := by
 have h1 : (cks xs).find? (fun p => decide (p.1 = id)) = none := List.find?_eq_none.2 fun p hp => by
  obtain ⟨x, hx, rfl⟩ := List.mem_map.1 hp
  obtain ⟨q, hq, rfl⟩ := List.getElem_of_mem hx
  simpa using h q hq
 have h2 : xs.find? (fun x => decide (x.1.1 = id)) = none := List.find?_eq_none.2 fun x hx => by
  obtain ⟨q, hq, rfl⟩ := List.getElem_of_mem hx
  simpa using h q hq
 unfold foundM foundV
 rw [h1, h2]
 exact ⟨rfl, rfl⟩
theorem found_at {xs : List CT} {id : List UInt8} {i : Nat} (hi : i < xs.length) (h : ∀ q (hq : q < xs.length), q < i → ¬ xs[q].1.1 = id) (he : xs[i].1.1 = id) : foundM (cks xs) id = (if nameM xs[i].1.2 = id then (xs[i].1.2, 0) else ([], 11)) ∧ foundV xs id = (if nameM xs[i].1.2 = id then xs[i].2 else .slice none 0 0) := by
 have h2 : xs.find? (fun x => decide (x.1.1 = id)) = some xs[i] := (List.find?_eq_some_iff_getElem).2 ⟨by simpa using he, i, hi, rfl, fun j hj => by simpa using h j (by omega) hj⟩
 have h1 : (cks xs).find? (fun p => decide (p.1 = id)) = some xs[i].1 := by
  unfold cks
  rw [List.find?_map]
  show Option.map _ (xs.find? fun x => decide (x.1.1 = id)) = _
  rw [h2]
  rfl
 unfold foundM foundV
 rw [h1, h2]
 exact ⟨rfl, rfl⟩
theorem found_zero {xs : List CT} {id : List UInt8} (h : (foundM (cks xs) id).2 = 0) : ∃ i, ∃ hi : i < xs.length, (foundM (cks xs) id).1 = xs[i].1.2 ∧ foundV xs id = xs[i].2 := by
 by_cases h1 : ∀ q (hq : q < xs.length), ¬ xs[q].1.1 = id
 ·rw [(found_none h1).1] at h
  cases h
 obtain ⟨i, hi, hp, hlt⟩ : ∃ i, ∃ hi : i < xs.length, xs[i].1.1 = id ∧ ∀ q (hq : q < xs.length), q < i → ¬ xs[q].1.1 = id := by
  have hex : ∃ i, ∃ hi : i < xs.length, xs[i].1.1 = id := Classical.byContradiction fun k => h1 fun q hq e => k ⟨q, hq, e⟩
  have hk : xs.findIdx (fun x => decide (x.1.1 = id)) < xs.length := List.findIdx_lt_length.2 (by
   obtain ⟨i, hi, e⟩ := hex
   exact ⟨xs[i], List.getElem_mem hi, by simpa using e⟩)
  exact ⟨_, hk, by simpa using List.findIdx_getElem (w := hk), fun q hq hqk => by simpa using List.not_of_lt_findIdx hqk⟩
 obtain ⟨e1, e2⟩ := found_at hi hlt hp
 rw [e1] at h
 split at h
 ·rename_i hn
  exact ⟨i, hi, by rw [e1, if_pos hn], by rw [e2, if_pos hn]⟩
 cases h
set_option maxRecDepth 20000 in
set_option maxHeartbeats 4000000 in
theorem found_tr {Ps : Nat → Prop} (v : Value) (xs : List CT) (id : List UInt8) (lq : id.length = 16) (hd : ∀ x ∈ xs, x.1.2.length ≤ 100000) : Tr Tryz.prog 64 #[v, vID id] [slc rCT Ps v xs] [] (T0 (.tuple #[foundV xs id, .int .i64 (foundM (cks xs) id).2])) := by
 refine Tr.of (l := [(0, v), (1, vID id)]) Tryz.func64 rfl (n := 33) rfl (.cons rfl (.cons rfl .nil)) (fun w0 hro => ?_)
 have hv := ro1 hro
 have hv' := hv
 obtain ⟨av, cv, bv, fv, rfl, hcapv, hmaxv, hnilv, hadv, helv⟩ := Ro.open hv
 refine go [9,10] ?_
 refine G.op rfl (G.box (cs := id.map vByte) rfl rfl rfl ?_)
 intro b3
 refine go [1,1,7,8,9,9,10,1,7,8,15] ?_
 refine G.loopK (X := Nat) (ts := [0, 3]) (fun i => i ≤ xs.length ∧ (∀ q (hq : q < xs.length), q < i → ¬ xs[q].1.1 = id)) (fun i => [(6, .int .i64 (i : Int))]) (fun i => []) (fun i => xs.length - i) (x0 := 0) (.cons rfl (.cons rfl .nil)) subT (.cons .nil) apT Y31 (.consE rfl veqT .nil) (fun i hJ => ?_)
 try dsimp only at hJ
 try dsimp only
 obtain ⟨hki, hJ⟩ := hJ
 have hJ0 := hJ
 refine go [9,9,10,0,0,2,5,2,9,7,8] ?_
 refine G.condP rfl (fun h10 => ?_) (fun h10 => ?_)
 ·have hlt : i < xs.length := by omega
  have hEv := helv i hlt
  have hRv := Ro.ckRng hEv
  have hDv := Ro.ckDat hEv
  have hIv := Ro.ckID hEv
  have hdlv := Ro.ckLen hEv
  have hCv := Ro.one1 hDv
  have hdi := hd _ (List.getElem_mem hlt)
  have hnl := nameM_len xs[i].1.2
  refine go [13,8,9,15,9,9] ?_
  refine G.drawT (nn := 7) (p := []) (rem := 127) [0, 0, 3, 4, 8, 0, 48] [0, 0, 3, 4, 8, 0, 48] kr ⟨rfl, by kernel_rfl, by kernel_rfl⟩ subT kr (fun hT4 => ?_)
  refine go [22,0,126,0,22,1,124,0] ?_
  refine G.takeT hT4 (i := 2) (rem' := 120) rfl rfl rfl kr (fun _ _ _ h => h) rfl (pv_ixSl (sz := 17) (k := i) Tryz.underlying29 kr rfl rfl adT (by omega) (by omega)) subT ?_
  refine go [22,3,112,3,0] ?_
  refine G.takeT hT4 (i := 4) (rem' := 96) rfl rfl rfl kr (fun _ _ _ h => h) rfl (pv_loadN (cs := xs[i].1.1.map vByte) Tryz.underlying66 rfl (by rw [List.length_map, hIv]; kernel_rfl) rfl (ro_rng16 hRv hIv)) subT ?_
  refine go [24,5,64] ?_
  refine G.turnOp rfl rfl (G.val rfl rfl (pv_loadN (cs := id.map vByte) Tryz.underlying66 rfl Y12 rfl (blk_range (k := 16) selT (List.take_of_length_le Y10))) ?_)
  refine go [26] ?_
  refine G.takeT hT4 (i := 6) (rem' := 0) rfl rfl rfl kr (fun _ _ _ h => h) rfl ((pv_neqAr8 (a := xs[i].1.1) (b := id) Tryz.underlying66 rfl kr Tryz.underlying5 kr rfl rfl hIv lq).cast (v' := .bool (decide (xs[i].1.1 ≠ id))) (neq_list _ _)) subT ?_
  refine go [27,8] ?_
  refine G.condP rfl (fun h19 => ?_) (fun h19 => ?_)
  ·have hne : ¬ xs[i].1.1 = id := by assumption
   refine go [18,14,19,8,10,0,2,6,1,7] ?_
   exact G.next (i + 1) (by first | exact trivial | ((try dsimp only) <;> exact ⟨by omega, fun q hq hqi => by rcases Nat.lt_or_ge q i with h1 | h1; exact hJ0 q hq h1; obtain rfl : q = i := (by omega); exact hne⟩)) (by (try dsimp only); omega) (.consE rfl veqT (.cons rfl (.cons rfl .nil))) subT
  have hye : xs[i].1.1 = id := Decidable.of_not_not (by assumption)
  obtain ⟨hf1, hf2⟩ := found_at hlt hJ0 hye
  refine go [13,8,9,9] ?_
  refine G.drawT (nn := 8) (p := []) (rem := 255) [0, 0, 3, 4, 8, 16, 0, 96] [0, 0, 3, 4, 8, 16, 0, 96] kr ⟨rfl, by kernel_rfl, by kernel_rfl⟩ subT kr (fun hT5 => ?_)
  refine go [22,0,254,0,22,1,252,0] ?_
  refine G.takeT hT5 (i := 2) (rem' := 248) rfl rfl rfl kr (fun _ _ _ h => h) rfl (pv_ixSl (sz := 17) (k := i) Tryz.underlying29 kr rfl rfl adT (by omega) (by omega)) subT ?_
  refine go [22,3,240,3,16] ?_
  refine G.takeT hT5 (i := 4) (rem' := 224) rfl rfl rfl kr (fun _ _ _ h => h) rfl (pv_load (v := xs[i].2) Tryz.underlying39 rfl rfl (ro_rngD hRv)) subT ?_
  refine G.takeT hT5 (i := 6) (rem' := 160) rfl rfl rfl kr (fun _ _ _ h => h) rfl (pv_loadN (cs := id.map vByte) Tryz.underlying66 rfl Y12 rfl (blk_range (k := 16) selT (List.take_of_length_le Y10))) subT ?_
  refine go [24,5,128] ?_
  refine G.turnOp rfl rfl (G.cR rfl rfl rfl rfl Tryz.func49 rfl rfl (may1 (.old hDv)) (nameR_tr _ xs[i].1.2 (by omega)) ?_)
  refine go [26] ?_
  refine G.takeT hT5 (i := 7) (rem' := 0) rfl rfl rfl kr (fun _ _ _ h => h) rfl ((pv_neqAr8 (a := nameM xs[i].1.2) (b := id) Tryz.underlying66 rfl kr Tryz.underlying5 kr rfl rfl hnl lq).cast (v' := .bool (decide (nameM xs[i].1.2 ≠ id))) (neq_list _ _)) subT ?_
  refine go [27,8] ?_
  refine G.condP rfl (fun h27 => ?_) (fun h27 => ?_)
  ·rw [if_neg (by assumption)] at hf1 hf2
   refine go [9,10,1,1,7,8,11,12,17,12,12,17,12] ?_
   exact G.done0G rfl (Rv.tmp rfl (Rv.tmp rfl Rv.nil)) (by rw [hf1, hf2]; rfl)
  rw [if_pos (Decidable.of_not_not (by assumption))] at hf1 hf2
  refine go [13,8,9,10,0,0] ?_
  refine G.op rfl (G.val rfl rfl (pv_ixSl (sz := 17) (k := i) Tryz.underlying29 kr rfl rfl adT (by omega) (by omega)) ?_)
  refine go [2,3,16] ?_
  refine G.op rfl (G.val rfl rfl (pv_load (v := xs[i].2) Tryz.underlying39 rfl rfl (ro_rngD hRv)) ?_)
  refine go [1,1,7,8,11,17,12,12,17,12] ?_
  exact G.done0G rfl (Rv.tmp rfl (Rv.tmp rfl Rv.nil)) (by rw [hf1, hf2]; rfl)
 have hfn := found_none (id := id) (fun q hq => hJ0 q hq (by omega))
 refine go [18,14,14,19,8,9,10,1,1,7,8,11] ?_
 exact G.done0G rfl (Rv.tmp rfl (Rv.tmp rfl Rv.nil)) (by rw [hfn.1, hfn.2]; rfl)
theorem evC_one9 {x : ET} (h : x.2.oneCell' = true) : ∀ u ∈ evC x, u.oneCell' = true := fun u hu => by
 simp only [evC, List.mem_cons, List.not_mem_nil, or_false] at hu
 rcases hu with rfl | rfl | rfl | rfl | rfl
 ·rfl
 ·rfl
 ·rfl
 ·exact h
 rfl
theorem ens_snoc9 (ys : List ET) (x : ET) : ens (ys ++ [x]) = ens ys ++ [x.1] := by simp [ens]
theorem found_len {zs : List CT} (hd : ∀ x ∈ zs, x.1.2.length ≤ 100000) (id : List UInt8) : (foundM (cks zs) id).1.length ≤ 100000 := by
 by_cases h : (foundM (cks zs) id).2 = 0
 ·obtain ⟨i, hi, h1, _⟩ := found_zero h
  rw [h1]
  exact hd _ (List.getElem_mem hi)
 unfold foundM at h ⊢
 split
 ·exact Nat.zero_le _
 rename_i p hp
 rw [hp] at h
 simp only at h
 split
 ·rename_i hn
  rw [if_pos hn] at h
  exact absurd rfl h
 exact Nat.zero_le _
theorem datOf_len (cs : List (List UInt8 × List UInt8)) (h : ∀ id, (foundM cs id).1.length ≤ 100000) : ∀ ids : List (List UInt8), (datOf cs ids).length ≤ ids.length * 100000
 | [] => Nat.le_refl _
 | id :: l => by
  have h1 := h id
  have h2 := datOf_len cs h l
  show ((foundM cs id).1 ++ datOf cs l).length ≤ _
  rw [List.length_append, List.length_cons]
  omega
set_option maxRecDepth 20000 in
set_option maxHeartbeats 4000000 in
theorem mbuildR_tr {Ps Pz : Nat → Prop} (a : Mh) (v vz : Value) (xs : List IT) (zs : List CT) (hm2 : ∀ x ∈ xs, x.1.ids.length ≤ 100000) (hd : ∀ x ∈ zs, x.1.2.length ≤ 100000) : Tr Tryz.prog 27 #[.agg #[.int .i64 a.c, .int .i64 a.k, .int .i64 a.n, .int .i64 a.t, v], vz] [slc rIT Ps v xs, slc rCT Pz vz zs] []
 (TX (fun z : Value × List ET => ens z.2 = (buildM a (its xs) (cks zs)).1) (fun z => .tuple #[z.1, .int .i64 (buildM a (its xs) (cks zs)).2]) (fun z => [ownT 68 z.1 z.2, datC 5 z.2])) := by
 refine Tr.of (l := [(0, .agg #[.int .i64 a.c, .int .i64 a.k, .int .i64 a.n, .int .i64 a.t, v]), (1, vz)]) Tryz.func27 rfl (n := 80) rfl (.cons rfl (.cons rfl .nil)) (fun w0 hro => ?_)
 obtain ⟨hx0, hz0⟩ := ro2 hro
 have hv := hx0
 have hv' := hv
 obtain ⟨av, cv, bv, fv, rfl, hcapv, hmaxv, hnilv, hadv, helv⟩ := Ro.open hv
 have hel' := its_length xs
 have hzv := hz0
 obtain ⟨az, cz, bz, fz, rfl, -, -, -, -, helz⟩ := Ro.open hzv
 refine go [9,10,60,0] ?_
 intro b2
 refine go [1,1,7,8,9,10,2,50,0] ?_
 refine G.op rfl (G.cR rfl rfl rfl rfl Tryz.func33 rfl rfl (may1 (.old hv)) (mcheckR_tr a _ xs) ?_)
 refine go [0,2,7,2,7,1,1,7,8,9,9,10,0,2,14,7,8] ?_
 refine G.condP rfl (fun h21 => ?_) (fun h21 => ?_)
 ·refine go [9,10,0,1,1,7,8,11,12] ?_
  rw [buildM_check (by assumption)]
  refine G.ownNil 68 5 ?_
  refine G.datNil 5 ?_
  exact G.doneX2 ((.slice none 0 0, [])) Y16 rfl rfl rfl rfl subT
 have hc0 : (checkI a (its xs)).1 = 0 := by omega
 obtain ⟨-, h200, -, -⟩ := checkI_zero hc0
 refine go [13,8,9,10,1,7,8,9,9,10,1,7,8,15] ?_
 refine G.ownNil 68 5 ?_
 refine G.datNil 5 ?_
 refine G.loopK (X := Nat × Value × (List ET)) (ts := [1, 2]) (fun st => st.1 ≤ xs.length ∧ (ens st.2.2 = ((its xs).take st.1).map (mkE (cks zs)) ∧ (∀ q (hq : q < (its xs).length), q < st.1 → errIt (cks zs) (its xs)[q] = 0) ∧ st.2.2.length = st.1)) (fun st => [(9, .int .i64 (st.1 : Int)), (8, st.2.1)]) (fun st => [ownT 68 st.2.1 st.2.2, datC 5 st.2.2]) (fun st => xs.length - st.1) (x0 := (0, .slice none 0 0, [])) (.cons rfl (.cons rfl .nil)) subT (.cons (.cons .nil)) apT (by first | exact trivial | ((try dsimp only) <;> exact ⟨Nat.zero_le _, ⟨rfl, fun q hq h => absurd h (by omega), rfl⟩⟩)) (.consE rfl veqT (.consE rfl veqT .nil)) (fun st hJ => ?_)
 obtain ⟨i, vw, ys⟩ := st
 try dsimp only at hJ
 try dsimp only
 obtain ⟨hki, hJ⟩ := hJ
 obtain ⟨hys, herr, hyl⟩ := hJ
 refine go [9,9,10,0,2,3,4,2,4,2,5,2,9,7,8] ?_
 refine G.condP rfl (fun h27 => ?_) (fun h27 => ?_)
 ·have hlt : i < xs.length := by omega
  have hlt' : i < (its xs).length := by omega
  have hg := its_get hlt
  have hEv := helv i hlt
  have hRv := Ro.itRng hEv
  have hDv := Ro.itIds hEv
  have hOv := Ro.itOk hEv
  obtain ⟨hk1v, hk2v, hk3v, hlpv, hltv, hlnv⟩ := hOv
  have hCv := Ro.one1I hDv
  obtain ⟨aD, cD, bD, oD, hx2, hcD, hmD, -, hadD, helD⟩ := Ro.open hDv
  rw [hx2] at hRv hCv
  have hil := hm2 _ (List.getElem_mem hlt)
  have hmk : ((its xs).take (i + 1)).map (mkE (cks zs)) = ((its xs).take i).map (mkE (cks zs)) ++ [mkE (cks zs) xs[i].1] := by rw [List.take_succ_eq_append_getElem hlt', List.map_append, hg]; rfl
  refine go [13,8,9,15,9,10,2,3,4,2,4,0] ?_
  refine G.op rfl (G.val rfl rfl (pv_ixSl (sz := 6) (k := i) Tryz.underlying26 kr rfl rfl adT (by omega) (by omega)) ?_)
  refine go [2,50,2,60,10] ?_
  intro b10
  refine go [20,7,8,9,10,2,3,0,2,4,2,3,1,2,4,2,3,2,2,4,2,3,4,2,4,2,50,6,60,17] ?_
  intro b11
  refine go [20,7,8,9,9,10,1,7,8,15] ?_
  refine G.ownBNil 5 ?_
  refine G.loopK (X := Nat × Value) (ts := [1, 2, 8, 9, 10, 11]) (fun st => st.1 ≤ xs[i].1.ids.length ∧ (∀ r (hr : r < xs[i].1.ids.length), r < st.1 → (foundM (cks zs) xs[i].1.ids[r]).2 = 0)) (fun st => [(12, .int .i64 (st.1 : Int))]) (fun st => [blk b11 68 [.string (sB xs[i].1.path), .int .i64 xs[i].1.kind, .int .i64 xs[i].1.mode, st.2, .string (sB xs[i].1.to)], ownB 5 st.2 (datOf (cks zs) (xs[i].1.ids.take st.1))]) (fun st => xs[i].1.ids.length - st.1) (x0 := (0, .slice none 0 0)) (.cons rfl (.cons rfl (.cons rfl (.cons rfl (.cons rfl (.cons rfl .nil)))))) subT (.cons .nil) apT (by first | exact trivial | ((try dsimp only) <;> exact ⟨Nat.zero_le _, fun r hr h => absurd h (by omega)⟩)) (.consE rfl veqT .nil) (fun st hJ => ?_)
  obtain ⟨q, vD⟩ := st
  try dsimp only at hJ
  try dsimp only
  obtain ⟨hkq, hJ⟩ := hJ
  have hJq := hJ
  refine go [9,9,10,0,2,3,5,2,4,2,5,2,9,7,8] ?_
  refine G.condP rfl (fun h48 => ?_) (fun h48 => ?_)
  ·have hlq : q < xs[i].1.ids.length := by omega
   obtain ⟨lq, rq⟩ := Ro.arr8 (helD q hlq)
   have hdt := datOf_take (cks zs) hlq
   have hdl := datOf_len (cks zs) (fun id => found_len hd id) (xs[i].1.ids.take q)
   have hqt : (xs[i].1.ids.take q).length ≤ q := List.length_take_le _ _
   refine go [13,8,9,15,9,10,0,2,3,5,2,4,0] ?_
   refine G.op rfl (G.val rfl rfl (pv_ixSl (sz := 16) (k := q) Tryz.underlying60 kr rfl rfl hadD rfl (by omega)) ?_)
   refine G.op rfl (G.val rfl rfl (pv_loadN (cs := xs[i].1.ids[q].map vByte) Tryz.underlying66 rfl Y12 rfl rq) ?_)
   refine G.op rfl (G.cR rfl rfl rfl rfl Tryz.func64 rfl rfl (may1 (.old hz0)) (found_tr _ zs xs[i].1.ids[q] lq hd) ?_)
   refine go [0,2,7,2,7,1,1,7,8,9,9,10,0,2,14,7,8] ?_
   refine G.condP rfl (fun h62 => ?_) (fun h62 => ?_)
   ·refine go [9,10,0,1,1,7,8,11,12,17,12,12,17,12,17,12,12,17,12] ?_
    rw [buildM_bad (e := (foundM (cks zs) xs[i].1.ids[q]).2) hc0 hlt' herr (by rw [hg]; exact errIt_bad hlq (fun r hr hrq => hJq r hr hrq) (by assumption)) (by assumption)]
    refine G.ownNil 68 5 ?_
    refine G.datNil 5 ?_
    exact G.doneX2 ((.slice none 0 0, [])) Y16 rfl rfl rfl rfl subT
   have hfz : (foundM (cks zs) xs[i].1.ids[q]).2 = 0 := by omega
   have hRf : Ro w0 (U []) (slc rByte Pz (foundV zs xs[i].1.ids[q]) (foundM (cks zs) xs[i].1.ids[q]).1) := by obtain ⟨j, hj, hf1, hf2⟩ := found_zero hfz; rw [hf1, hf2]; exact Ro.ckDat (helz j hj)
   have hfl := found_len hd xs[i].1.ids[q]
   refine G.ownBFact (v := vD) selT (fun hvD1 => ?_)
   refine go [13,8,10,2,3,3,2,4,0] ?_
   refine G.op rfl (G.appendB (xs := (datOf (cks zs) (xs[i].1.ids.take q))) (ys := (foundM (cks zs) xs[i].1.ids[q]).1) (Ps := Pz) rfl Tryz.underlying39 Tryz.infoByte rfl rfl selT (ro_sl hRf) (by omega) (by omega) ?_)
   intro x67
   rw [← hdt]
   refine G.ownBFact (v := x67) selT (fun hx67 => ?_)
   refine go [2,3,3,21,7,16,8,10,0,2,6,1,7] ?_
   exact G.next ((q + 1, x67)) (by first | exact trivial | ((try dsimp only) <;> exact ⟨by omega, fun r hr hrq => by rcases Nat.lt_or_ge r q with h1 | h1; exact hJq r hr h1; obtain rfl : r = q := (by omega); exact hfz⟩)) (by (try dsimp only); omega) (.consE rfl veqT (.cons rfl (.cons rfl (.cons rfl (.cons rfl (.cons rfl (.cons rfl .nil))))))) subT
  obtain rfl : q = xs[i].1.ids.length := by omega
  have hall := hJq
  rw [List.take_length]
  have hdl := datOf_len (cks zs) (fun id => found_len hd id) xs[i].1.ids
  refine G.ownBSl (v := vD) selT (fun adD capD hvD => ?_)
  subst hvD
  refine go [18,14,14,19,8,9,9,10,2,3,3,2,4,2,5,2,3,3,2,4,2,14,7,8] ?_
  refine G.condP rfl (fun h74 => ?_) (fun h74 => ?_)
  ·refine go [9,10,1,1,7,8,11,12,17,12,12,17,12] ?_
   rw [buildM_bad (e := 4) hc0 hlt' herr (by rw [hg]; exact errIt_size (fun r hr => hall r hr (by omega)) (by assumption)) (by decide)]
   refine G.ownNil 68 5 ?_
   refine G.datNil 5 ?_
   exact G.doneX2 ((.slice none 0 0, [])) Y16 rfl rfl rfl rfl subT
  have hok1 : errIt (cks zs) (its xs)[i] = 0 := by rw [hg]; exact errIt_ok (fun r hr => hall r hr (by omega)) (by omega)
  obtain ⟨en, hen⟩ : ∃ c, mkE (cks zs) xs[i].1 = c := ⟨_, rfl⟩
  rw [show blk b11 68 [.string (sB xs[i].1.path), .int .i64 xs[i].1.kind, .int .i64 xs[i].1.mode, (.slice adD (datOf (cks zs) xs[i].1.ids).length capD), .string (sB xs[i].1.to)] = blk b11 68 (evC (en, .slice adD (datOf (cks zs) xs[i].1.ids).length capD)) from by rw [← hen]; rfl, show ownB 5 (.slice adD (datOf (cks zs) xs[i].1.ids).length capD) (datOf (cks zs) xs[i].1.ids) = ownB 5 (.slice adD (datOf (cks zs) xs[i].1.ids).length capD) en.data from by rw [← hen]; rfl]
  obtain ⟨dv, hdv⟩ : ∃ c, Value.slice adD (datOf (cks zs) xs[i].1.ids).length capD = c := ⟨_, rfl⟩
  have hone : dv.oneCell' = true := by rw [← hdv]; rfl
  rw [hdv]
  refine go [13,8,10,0] ?_
  refine G.op rfl (G.val rfl rfl (pv_loadN (cs := evC (en, dv)) Tryz.underlying68 rfl kr rfl (blk_range (k := 5) selT rfl)) ?_)
  refine G.op rfl (G.buildSlice (z := .agg #[.string ⟨#[]⟩, .int .i64 0, .int .i64 0, .slice none 0 0, .string ⟨#[]⟩]) (sz := 5) (cs := evC (en, dv)) rfl Tryz.underlying22 kr (by decide) (by decide) rfl kr ?_)
  intro b77
  rw [show ownT 68 vw ys = own 68 5 vw ys.length (flatT ys) from rfl]
  refine G.op rfl (G.append (k := ys.length) (j := 1) (cs := flatT ys) (news := evC (en, dv)) (b := b77) (off := 0) rfl Tryz.underlying22 Tryz.infoEn' rfl rfl rfl selT (fun _ => rfl) (fun h => by cases h) rfl (blk_news (k := 5) selT rfl) (evC_one9 hone) (by omega) (by omega) ?_)
  intro vn
  rw [show flatT ys ++ evC (en, dv) = flatT (ys ++ [(en, dv)]) from by rw [flatT_app, flatT_one], show ys.length + 1 = (ys ++ [(en, dv)]).length from by rw [List.length_append]; rfl]
  refine G.datSnoc (ys := ys) (x := (en, dv)) selT selT ?_
  refine G.ownFact (v := vn) selT (fun hvn _ => ?_)
  refine go [1,7,16,8,10,0,2,6,1,7] ?_
  exact G.next ((i + 1, (vn, ys ++ [(en, dv)]))) (by first | exact trivial | ((try dsimp only) <;> exact ⟨by omega, ⟨by rw [ens_snoc9, hys, hmk, hen], fun r hr hri => by rcases Nat.lt_or_ge r i with h1 | h1; exact herr r hr h1; obtain rfl : r = i := (by omega); exact hok1, by rw [List.length_append, hyl]; rfl⟩⟩)) (by (try dsimp only); omega) (.consE rfl veqT (.consE rfl veqT (.cons rfl (.cons rfl .nil)))) subT
 obtain rfl : i = xs.length := by omega
 rw [← hel', List.take_length] at hys
 refine go [18,14,14,19,8,9,10,0,1,1,7,8,11] ?_
 rw [buildM_ok hc0 (fun q hq => herr q hq (by omega))]
 exact G.doneX2 ((vw, ys)) (by first | exact trivial | ((try dsimp only) <;> exact hys)) rfl rfl rfl rfl subT
section
variable {P : Program} {n : Nat} {w0 : World} {S : Nat → Prop} {l : Fr} {m : List Ck} {Q : Exit → Act → World → Prop} {K : Act → World → Prop} {r : Option Nat} {ds : List Deferred}
theorem I.asgA {Z : Type} {L : Z → Fr} {M2 : Z → List Ck} {m1 : List Ck} {Q' : Exit → Act → World → Prop} (z : Z) (hl : Fw l (L z)) (hm : m = M2 z ++ m1) : G n w0 S l m (dq [] (Exit.then (fun a w => ∃ z, At a n (L z) ∧ Hp w0 S w (M2 z ++ m1)) Q' .normal)) := fun a w ha hw => by
 unfold dq
 rw [da_nil ha]
 exact ⟨z, ha.weak hl, hm ▸ hw⟩
theorem I.round2A {X Z : Type} {fnx p1 p2 D lp i : Nat} {a : Act} {assign body : Code} {v1 v2 : Value} {l2 : Z → Fr} {M2 : Z → List Ck} {J : Bool → Nat → X → Prop} {B : Bool → Nat → X → List Ck} {jmp : X → Code} {x : X} {rr : List Ck} (ha : At a n l) (hp1 : Nat.blt p1 n = true) (hp2 : Nat.blt p2 n = true)
 (hassign : ∀ w1 S1 m1, G n w1 S1 ((p2, v2) :: (p1, v1) :: l) m1 (dq [] (assign.wpIn (fR (some lp)) 0 P (Exit.then (fun a w => ∃ z, At a n (l2 z) ∧ Hp w1 S1 w (M2 z ++ m1)) (fun _ _ _ => False)))))
 (hbody : ∀ w1 S1 c z, (∀ c ∈ rr, Ro w1 S1 c) → G n w1 S1 (l2 z) (c :: (B true i x ++ M2 z)) (dq [] (body.wpIn (fR (some lp)) 0 P (rnd w1 S1 J B jmp c i)))) :
 TrYr P lp [v1, v2].toArray rr [cL (recL fnx a.tmps p1 p2 assign body D) lp D B jmp true i x] (TX (fun z : Bool × X => J z.1 (i + 1) z.2) (fun z => .bool z.1) (fun z => [cL (recL fnx a.tmps p1 p2 assign body D) lp D B jmp z.1 (i + 1) z.2])) := by
 intro w1 hrr hw1
 have hds : a.defers = [] := ha.defs
 obtain ⟨S1, hS1⟩ : ∃ S1, U [cL (recL fnx a.tmps p1 p2 assign body D) lp D B jmp true i x] = S1 := ⟨_, rfl⟩
 rw [hS1] at hw1 hrr ⊢
 have hu : Hp w1 S1 w1 (obc lp (.loop (recL fnx a.tmps p1 p2 assign body D .ready none)) :: dfr D :: B true i x) := by
  have := Hp.unstar hw1
  rw [List.append_nil] at this
  exact this
 have hl : w1.heap[lp]? = some (.loop (recL fnx a.tmps p1 p2 assign body D .ready none)) := hu.holds _ (List.mem_cons_self ..)
 have hy := run_yield (P := P) (args := #[v1, v2]) hl rfl
 refine ⟨_, _, _, _, hy, roundIn_of_wpIn (F := Fence.wide) trivial ?_⟩
 have hA : At (n := n) { tmps := (a.tmps.setIfInBounds p1 v1).setIfInBounds p2 v2, defers := [] } ((p2, v2) :: (p1, v1) :: l) := by
  have h2 := (ha.put hp1 v1).put hp2 v2
  have e : ((a.put (some p1) v1).put (some p2) v2) = { tmps := (a.tmps.setIfInBounds p1 v1).setIfInBounds p2 v2, defers := [] } := by
   simp [Act.put, hds]
  rwa [e] at h2
 have h3 := hassign w1 S1 _ _ w1 hA hu
 unfold dq at h3
 rw [da_nil hA] at h3
 have eT : ((#[p1, p2] : Array Nat).zip #[v1, v2]).foldl (fun t (x : Nat × Value) => t.setIfInBounds x.1 x.2) a.tmps = (a.tmps.setIfInBounds p1 v1).setIfInBounds p2 v2 := by simp
 show assign.wpIn (fR (some lp)) 0 P _ { tmps := ((#[p1, p2] : Array Nat).zip #[v1, v2]).foldl (fun t (x : Nat × Value) => t.setIfInBounds x.1 x.2) a.tmps, defers := [] } w1
 rw [eT]
 refine wpIn_mono h3 ?_
 intro e a1 w2 hq
 cases e with
 | exit id => exact hq.elim
 | goto t => exact hq.elim
 | ret => exact hq.elim
 | panic ch => exact hq.elim
 | outgrown => exact hq.elim
 | normal =>
  obtain ⟨z, hA1, hH0⟩ := hq
  have hH1 : Hp w1 S1 w2 (obc lp (.loop (recL fnx a.tmps p1 p2 assign body D .ready none)) :: dfr D :: (B true i x ++ M2 z)) := hH0.perm List.perm_append_comm
  have hl1 : w2.heap[lp]? = some (.loop (recL fnx a.tmps p1 p2 assign body D .ready none)) := hH1.holds _ (List.mem_cons_self ..)
  have hbr := run_beginRound (P := P) hl1 rfl
  refine ⟨_, hbr, ?_⟩
  have hH2 := Hp.putO (.loop (recL fnx a.tmps p1 p2 assign body D .busy none)) hH1
  have hH3 := Hp.star (m := [_, _]) (r := B true i x ++ M2 z) hH2
  have h4 := hbody w1 S1 _ z hrr a1 _ hA1 hH3
  unfold dq at h4
  rw [da_nil hA1] at h4
  refine wpIn_mono h4 ?_
  intro e a2 w4 hq
  cases e with
  | normal =>
   obtain ⟨y, hJy, hH4⟩ := hq
   exact I.fin (b := true) hJy rfl hH4
  | ret =>
   obtain ⟨y, hJy, hj, hH4⟩ := hq
   exact I.fin (b := false) hJy (by rw [← hj]; rfl) hH4
  | exit k =>
   obtain ⟨y, hJy, hj, hH4⟩ := hq
   exact I.fin (b := false) hJy (by rw [← hj]; rfl) hH4
  | goto t => exact hq.elim
  | panic ch => exact hq.elim
  | outgrown => exact hq.elim
theorem I.rangeF2A {X Z : Type} {gf nn p1 p2 : Nat} {lb : Array Value} {rr ro pre q : List Ck} {encs : Nat → Value × Value} {g : Operand} {assign body : Code} {fn : Func} {c : Code}
 (J : Bool → Nat → X → Prop) (B : Bool → Nat → X → List Ck) (jmp : X → Code) (M2 : Nat → Z → List Ck) (L2 : Nat × Z → Fr) {x0 : X}
 (hg : ev l g = some (.func (.func gf) #[] lb)) (hf : P.funcs[gf]? = some fn) (hb : fn.body = some c) (hnm : (fn.name == "runtime.NumGoroutine") = false)
 (hseq : SeqR P gf lb ro pre nn (fun i => [(encs i).1, (encs i).2]))
 (hm : Sub m (B true 0 x0 ++ pre) q) (hro : ∀ c ∈ rr ++ ro, May w0 S q c) (h0 : J true 0 x0)
 (hp1 : Nat.blt p1 n = true) (hp2 : Nat.blt p2 n = true)
 (hassign : ∀ w1 S1 lp m1 i, i < nn → G n w1 S1 ((p2, (encs i).2) :: (p1, (encs i).1) :: l) m1 (dq [] (assign.wpIn (fR (some lp)) 0 P (Exit.then (fun a w => ∃ z, At a n (L2 (i, z)) ∧ Hp w1 S1 w (M2 i z ++ m1)) (fun _ _ _ => False)))))
 (hbody : ∀ w1 S1 lp c i x z, i < nn → J true i x → (∀ c ∈ rr, Ro w1 S1 c) → G n w1 S1 (L2 (i, z)) (c :: (B true i x ++ M2 i z)) (dq [] (body.wpIn (fR (some lp)) 0 P (rnd w1 S1 J B jmp c i))))
 (hdone : ∀ D x, J true nn x → G n w0 S l (dfr D :: (B true nn x ++ q)) (dq (mark D) (Q .normal)))
 (hstop : ∀ D i x, i ≤ nn → J false i x → G n w0 S l (dfr D :: (B false i x ++ q)) (dq (mark D) ((jmp x).wpIn (fR none) 0 P Q))) :
 G n w0 S l m (dq [] ((Code.rangeFunc g #[p1, p2] assign body).wpIn (fR none) 0 P Q)) := fun a w ha hw => by
 unfold dq
 rw [da_nil ha]
 have hds : a.defers = [] := ha.defs
 have hw' := hw.perm hm.perm
 refine wpIn_rangeFunc (F := fR none) (n := 0) ?_
 intro fnx _
 obtain ⟨W1, hW1⟩ : ∃ W1, (w.alloc (.deferred (some []))).alloc (.loop (recL fnx a.tmps p1 p2 assign body w.heap.size .ready none)) = W1 := ⟨_, rfl⟩
 have hp1W : Hp w0 S W1 (cL (recL fnx a.tmps p1 p2 assign body w.heap.size) (w.heap.size + 1) w.heap.size B jmp true 0 x0 :: pre ++ q) := by
  rw [← hW1]
  have h2 := (hw'.allocO (.deferred (some []))).allocO (.loop (recL fnx a.tmps p1 p2 assign body w.heap.size .ready none))
  rw [World.size_alloc, List.append_assoc] at h2
  exact Hp.star (m := _ :: _ :: B true 0 x0) (r := pre ++ q) h2
 have hT := hseq rr (w.heap.size + 1) X J (cL (recL fnx a.tmps p1 p2 assign body w.heap.size) (w.heap.size + 1) w.heap.size B jmp) x0 h0 fun i x hi hJ => I.round2A (l2 := fun z => L2 (i, z)) (M2 := M2 i) ha hp1 hp2 (fun w1 S1 m1 => hassign w1 S1 _ m1 i hi) (fun w1 S1 c z hr => hbody w1 S1 _ c i x z hi hJ hr)
 have hpp : Hp W1 (U (cL (recL fnx a.tmps p1 p2 assign body w.heap.size) (w.heap.size + 1) w.heap.size B jmp true 0 x0 :: pre)) W1 (cL (recL fnx a.tmps p1 p2 assign body w.heap.size) (w.heap.size + 1) w.heap.size B jmp true 0 x0 :: pre) := ⟨Chg.refl _ _, fun c hc => hp1W.holds c (List.mem_append_left _ hc), fun c hc b hb => ⟨.inl ⟨c, hc, hb⟩, (hp1W.own c (List.mem_append_left _ hc) b hb).2⟩, (List.pairwise_append.1 hp1W.dis).1⟩
 have hcall := hT W1 (fun c hc => (hro c hc).ro hp1W) hpp
 have henter : (Instr.enterLoop fnx a.tmps #[p1, p2] assign body (fR none).round).run P w = .ok (w.heap.size + 1, mark w.heap.size) W1 := by
  rw [← hW1]
  exact run_enterLoop_outer _ _ _ _ _
 have hres : (resolve a.eval (rangeCall g (w.heap.size + 1)) 0).run P W1 = .ok { target := .fn (.func gf) lb, args := #[.func (.yield (w.heap.size + 1)) #[] #[]] } W1 := by
  simp only [resolve, rangeCall, ha.eval hg]
  simp [Deferred.ofValue, Sem.run_bind, Sem.run_pure, Result.andThen, Act.eval, Sem.run]
 have hinv := run_invokeF (P := P) (args := #[.func (.yield (w.heap.size + 1)) #[] #[]]) (cap := lb) hf hb hnm W1
 have hz : (fR none).depth.isSome = true → 1 ≤ 0 := fun h => by simp [fR, Fence.wide] at h
 suffices hfin : CallsIn (fR none) 0 P gf (#[.func (.yield (w.heap.size + 1)) #[] #[]] ++ lb) W1 (rangePost (fR none) 0 P (w.heap.size + 1) Q { a with defers := mark w.heap.size ++ a.defers }) from
  ⟨w.heap.size + 1, mark w.heap.size, W1, _, W1, gf, _, W1, henter, hres, fun _ _ => trivial, hinv, hz, hfin⟩
 refine calls_fR (callsIn_wide.2 (hcall.mono ?_))
 rintro e w3 ⟨v, m', rfl, ⟨⟨b, i, y⟩, ⟨hJ, hle, hall⟩, rfl, rfl⟩, hm'⟩
 have hu2 := Hp.unstar (m := _ :: _ :: B b i y) (r := q) (hp1W.turn hm')
 have hl3 : w3.heap[w.heap.size + 1]? = some (.loop (recL fnx a.tmps p1 p2 assign body w.heap.size (stL b) (peL jmp b y))) := hu2.holds _ (List.mem_cons_self ..)
 have hend := run_endLoop (P := P) hl3 (by cases b <;> simp [recL, stL])
 have hu3 := (Hp.putO (.loop { recL fnx a.tmps p1 p2 assign body w.heap.size (stL b) (peL jmp b y) with state := .exhausted }) hu2).tail
 have eD : ({ a with defers := mark w.heap.size ++ a.defers } : Act) = da (mark w.heap.size) a := by
  unfold da
  rw [hds]
  rfl
 refine ⟨_, _, hend, ?_⟩
 rw [eD]
 cases b with
 | true =>
  have hJ' : i = nn := hall rfl
  subst hJ'
  exact hdone _ y hJ a _ ha hu3
 | false => exact hstop _ i y hle hJ a _ ha hu3
theorem I.rangeK2A {X Z : Type} {gf nn p1 p2 : Nat} {lb : Array Value} {rr ro pre q : List Ck} {encs : Nat → Value × Value} {g : Operand} {assign body : Code} {fn : Func} {c : Code}
 (J : Bool → Nat → X → Prop) (B : Bool → Nat → X → List Ck) (jmp : X → Code) (M2 : Nat → Z → List Ck) (A : Nat × Z → Fr) {x0 : X} {ts : List Nat} {l1 : Fr} {L2 : Nat × Z → Fr}
 (hg : ev l g = some (.func (.func gf) #[] lb)) (hf : P.funcs[gf]? = some fn) (hb : fn.body = some c) (hnm : (fn.name == "runtime.NumGoroutine") = false)
 (hseq : SeqR P gf lb ro pre nn (fun i => [(encs i).1, (encs i).2]))
 (hm : Sub m (B true 0 x0 ++ pre) q) (hro : ∀ c ∈ rr ++ ro, May w0 S q c) (h0 : J true 0 x0)
 (hp1 : Nat.blt p1 n = true) (hp2 : Nat.blt p2 n = true) (hk : Kp l ts l1) (hL : Ap A l1 L2)
 (hassign : ∀ w1 S1 lp m1 i, i < nn → G n w1 S1 ((p2, (encs i).2) :: (p1, (encs i).1) :: l) m1 (dq [] (assign.wpIn (fR (some lp)) 0 P (Exit.then (fun a w => ∃ z, At a n (L2 (i, z)) ∧ Hp w1 S1 w (M2 i z ++ m1)) (fun _ _ _ => False)))))
 (hbody : ∀ w1 S1 lp c i x z, i < nn → J true i x → (∀ c ∈ rr, Ro w1 S1 c) → G n w1 S1 (L2 (i, z)) (c :: (B true i x ++ M2 i z)) (dq [] (body.wpIn (fR (some lp)) 0 P (rnd w1 S1 J B jmp c i))))
 (hdone : ∀ D x, J true nn x → G n w0 S l (dfr D :: (B true nn x ++ q)) (dq (mark D) (Q .normal)))
 (hstop : ∀ D i x, i ≤ nn → J false i x → G n w0 S l (dfr D :: (B false i x ++ q)) (dq (mark D) ((jmp x).wpIn (fR none) 0 P Q))) :
 G n w0 S l m (dq [] ((Code.rangeFunc g #[p1, p2] assign body).wpIn (fR none) 0 P Q)) :=
 I.rangeF2A J B jmp M2 L2 hg hf hb hnm hseq hm hro h0 hp1 hp2 hassign hbody hdone hstop
end
def bk (xs : List CT) (k : Nat) : CT := (xs[xs.length - 1 - k]?).getD (([], []), .slice none 0 0)
theorem bk_eq {xs : List CT} {k : Nat} (h : k < xs.length) : bk xs k = xs[xs.length - 1 - k]'(by omega) := by
 unfold bk
 rw [List.getElem?_eq_getElem (show xs.length - 1 - k < xs.length by omega)]
 rfl
def AllAt (l : List (List UInt8 × Value)) (ys : List CT) : Prop := ∀ id, mget l id = (ys.find? fun x => decide (x.1.1 = id)).map (·.2)
theorem all_nil : AllAt [] [] := fun id => rfl
theorem AllAt.put {l : List (List UInt8 × Value)} {ys : List CT} (h : AllAt l ys) (x : CT) : AllAt (mset l x.1.1 x.2) (x :: ys) := fun id => by
 rw [mget_mset, List.find?_cons]
 by_cases h1 : x.1.1 = id
 ·rw [if_pos h1, decide_eq_true h1]
  rfl
 rw [if_neg h1, decide_eq_false h1]
 exact h id
theorem drop_bk {xs : List CT} {k : Nat} (h : k < xs.length) : xs.drop (xs.length - (k + 1)) = bk xs k :: xs.drop (xs.length - k) := by
 rw [bk_eq h, List.drop_eq_getElem_cons (show xs.length - (k + 1) < xs.length by omega)]
 congr 1
 ·congr 1
  omega
 congr 1
 omega
def gotV (xs : List CT) (id : List UInt8) : Value := ((xs.find? fun x => decide (x.1.1 = id)).map (·.2)).getD (.slice none 0 0)
def gotB (xs : List CT) (id : List UInt8) : Bool := (xs.find? fun x => decide (x.1.1 = id)).isSome
theorem got_look {l : List (List UInt8 × Value)} {xs : List CT} (h : AllAt l xs) (id : List UInt8) : (if true = true then Value.tuple #[(mget l id).getD (.slice none 0 0), .bool (mget l id).isSome] else (mget l id).getD (.slice none 0 0)) = .tuple #[gotV xs id, .bool (gotB xs id)] := by
 rw [if_pos rfl, h id]
 unfold gotV gotB
 rw [Option.isSome_map]
theorem got_none {xs : List CT} {id : List UInt8} (h : gotB xs id = false) : foundM (cks xs) id = ([], 6) := by
 refine (found_none fun q hq e => ?_).1
 unfold gotB at h
 rw [Option.isSome_eq_false_iff, Option.isNone_iff_eq_none, List.find?_eq_none] at h
 exact h _ (List.getElem_mem hq) (by simpa using e)
theorem got_some {xs : List CT} {id : List UInt8} (h : gotB xs id = true) : ∃ j, ∃ hj : j < xs.length, gotV xs id = xs[j].2 ∧ foundM (cks xs) id = (if nameM xs[j].1.2 = id then (xs[j].1.2, 0) else ([], 11)) := by
 unfold gotB at h
 obtain ⟨x, hx⟩ := Option.isSome_iff_exists.1 h
 obtain ⟨hp, j, hj, he, hlt⟩ := List.find?_eq_some_iff_getElem.1 hx
 subst he
 refine ⟨j, hj, by unfold gotV; rw [hx]; rfl, (found_at hj (fun q hq hqj => by simpa using hlt q hqj) (by simpa using hp)).1⟩
set_option maxRecDepth 20000 in
set_option maxHeartbeats 4000000 in
theorem back_tr (v : Value) (hv : v.oneCell' = true) : Tr Tryz.prog 62 #[v] [] [] (TX (fun _ : Nat => True) (fun b => .func (.func 96) #[] #[.pointer (some ⟨b, 0, none⟩)]) (fun b => [blk b 29 [v]])) := by
 refine Tr.of (l := [(0, v)]) Tryz.func62 rfl (n := 4) rfl (.cons rfl .nil) (fun w0 hro => ?_)
 refine go [9,10] ?_
 refine G.op rfl (G.box rfl rfl (cs := [v]) (cells_of hv) ?_)
 intro b1
 refine go [1,7,8,9,10,2,26,1,7,8,11] ?_
 exact G.doneX1 (b1) trT rfl rfl Y6 subT
set_option maxRecDepth 20000 in
set_option maxHeartbeats 4000000 in
theorem back_seq {Pv : Nat → Prop} (v : Value) (xs : List CT) (bb : Nat) : SeqR Tryz.prog 96 #[.pointer (some ⟨bb, 0, none⟩)] [slc rCT Pv v xs] [blk bb 29 [v]] xs.length (fun k => [.int .i64 ((xs.length : Int) - 1 - (k : Int)), .agg (chC (bk xs k)).toArray]) := by
 intro rr lp X J C x0 h0 hY
 show Tr _ _ #[.func (.yield lp) #[] #[], .pointer (some ⟨bb, 0, none⟩)] _ _ _
 refine Tr.ofI (l := [(0, .func (.yield lp) #[] #[]), (1, .pointer (some ⟨bb, 0, none⟩))]) Tryz.func96 rfl (n := 19) rfl (.cons rfl (.cons rfl .nil)) (fun w0 hro => ?_)
 have hv := hro _ (List.mem_append_right _ (List.mem_cons_self ..))
 have hrr : ∀ c ∈ rr, Ro w0 _ c := fun c hc => hro c (List.mem_append_left _ hc)
 obtain ⟨av, cv, bv, fv, rfl, hcapv, hmaxv, hnilv, hadv, helv⟩ := Ro.open hv
 refine go [32,33,2,4,2,5,2,19,1,34,31,38] ?_
 refine I.loopK (X := Nat × X) (ts := [0, 1]) (fun st => st.1 ≤ xs.length ∧ J true st.1 st.2) (fun st => [(3, .int .i64 ((xs.length : Int) - 1 - (st.1 : Int)))]) (fun st => [C true st.1 st.2]) (fun st => xs.length - st.1) (x0 := (0, x0)) (.cons rfl (.cons rfl .nil)) subT (.cons .nil) apT (by first | exact trivial | ((try dsimp only) <;> exact ⟨Nat.zero_le _, h0⟩)) (.consE rfl veqT .nil) (fun st hJ => ?_)
 obtain ⟨i, x⟩ := st
 try dsimp only at hJ
 try dsimp only
 obtain ⟨hki, hJx⟩ := hJ
 refine go [32,32,33,0,2,12,34,31] ?_
 refine I.condP rfl (fun h8 => ?_) (fun h8 => ?_)
 ·have hlt : i < xs.length := by omega
  obtain ⟨j, hj⟩ : ∃ j, xs.length - 1 - i = j := ⟨_, rfl⟩
  have hjl : j < xs.length := by omega
  have hbk : bk xs i = xs[j] := by rw [bk_eq hlt]; congr 1
  have hE := helv j hjl
  have hR := Ro.ckRng hE
  refine go [39,31,32,38,32] ?_
  refine IL.region ?_
  refine go [60,12,60,12] ?_
  refine IL.op rfl (IL.lift kr (G.val rfl rfl (pv_load Tryz.underlying29 rfl rfl celT) ?_))
  refine go [60,12] ?_
  refine IL.op rfl (IL.lift kr (G.val rfl rfl (pv_ixSl (sz := 17) (k := j) Tryz.underlying29 kr rfl rfl hadv (by omega) (by omega)) ?_))
  refine IL.op rfl (IL.lift kr (G.val rfl rfl (pv_loadN (cs := chC (bk xs i)) Tryz.underlying71 rfl (by rw [chC_len]; kernel_rfl) rfl (by rw [hbk]; exact fun w hw => hR.at hw)) ?_))
  refine IL.op rfl (IL.yieldR rfl rfl rfl rfl rfl subT (fun c hc => .old (hrr c hc)) (hY i x hlt hJx) apT ?_)
  intro x17 hJ
  obtain ⟨v, y⟩ := x17
  try dsimp only at hJ
  try dsimp only
  have hJ2 := hJ
  refine go [60,21] ?_
  refine IL.nil ?_
  refine I.nThen ?_
  refine I.cond rfl (fun h18 => ?_) (fun h18 => ?_)
  ·obtain rfl : v = false := by cases v <;> simp_all
   refine go [37,36,35,35,36] ?_
   exact I.doneIr ((false, i + 1, y)) (by first | exact trivial | ((try dsimp only) <;> exact ⟨hJ2, by omega, fun h => by cases h⟩)) rfl rfl subT
  obtain rfl : v = true := by cases v <;> simp_all
  refine go [39,40,31,33,0,2,19,1,34] ?_
  exact I.next ((i + 1, y)) (by first | exact trivial | ((try dsimp only) <;> exact ⟨by omega, hJ2⟩)) (by (try dsimp only); omega) (.consE rfl veqT (.cons rfl (.cons rfl .nil))) subT
 obtain rfl : i = xs.length := by omega
 refine go [42,41,41,43] ?_
 exact I.doneI ((true, xs.length, x)) (by first | exact trivial | ((try dsimp only) <;> exact ⟨hJx, Nat.le_refl _, fun _ => rfl⟩)) rfl rfl subT
set_option maxRecDepth 20000 in
set_option maxHeartbeats 4000000 in
theorem mbuild_tr {Ps Pz : Nat → Prop} (a : Mh) (v vz : Value) (xs : List IT) (zs : List CT) (hm2 : ∀ x ∈ xs, x.1.ids.length ≤ 100000) (hd : ∀ x ∈ zs, x.1.2.length ≤ 100000) : Tr Tryz.prog 26 #[.agg #[.int .i64 a.c, .int .i64 a.k, .int .i64 a.n, .int .i64 a.t, v], vz] [slc rIT Ps v xs, slc rCT Pz vz zs] []
 (TX (fun z : Value × List ET => ens z.2 = (buildM a (its xs) (cks zs)).1) (fun z => .tuple #[z.1, .int .i64 (buildM a (its xs) (cks zs)).2]) (fun z => [ownT 68 z.1 z.2, datC 5 z.2])) := by
 refine Tr.ofM (l := [(0, .agg #[.int .i64 a.c, .int .i64 a.k, .int .i64 a.n, .int .i64 a.t, v]), (1, vz)]) Tryz.func26 rfl (n := 92) rfl (.cons rfl (.cons rfl .nil)) (fun w0 hro => ?_)
 obtain ⟨hx0, hz0⟩ := ro2 hro
 have hv := hx0
 have hv' := hv
 obtain ⟨av, cv, bv, fv, rfl, hcapv, hmaxv, hnilv, hadv, helv⟩ := Ro.open hv
 have hel' := its_length xs
 have hzv := hz0
 obtain ⟨az, cz, bz, fz, rfl, -, -, -, -, helz⟩ := Ro.open hzv
 have hbk1 : ∀ k, (bk zs k).2.oneCell' = true := fun k => by unfold bk; cases h : zs[zs.length - 1 - k]? with | none => rfl | some x => exact (Ro.allCk helz x (List.mem_of_getElem? h)).2.2
 have hbk16 : ∀ k, k < zs.length → (bk zs k).1.1.length = 16 := fun k hk => by rw [bk_eq hk]; exact Ro.ckID (helz _ (by omega))
 refine go [32,33,60,0] ?_
 intro b2
 refine go [1,1,34,31,32,32,33,2,50,0] ?_
 refine G.op rfl (G.cR rfl rfl rfl rfl Tryz.func31 rfl rfl (may1 (.old hv)) (mcheck_tr a _ xs) ?_)
 refine go [0,2,7,2,7,1,1,34,31,32,33,0,2,14,34,31] ?_
 refine I.condP rfl (fun h25 => ?_) (fun h25 => ?_)
 ·refine go [32,33,0,1,1,34,31,37,35] ?_
  rw [buildM_check (by assumption)]
  refine G.ownNil 68 5 ?_
  refine G.datNil 5 ?_
  exact I.doneM0 ((.slice none 0 0, [])) Y16 rfl (Rv.tmp rfl (Rv.tmp rfl Rv.nil)) rfl subT
 have hc0 : (checkI a (its xs)).1 = 0 := by omega
 obtain ⟨-, h200, -, -⟩ := checkI_zero hc0
 refine go [39,31,32,33] ?_
 refine G.op rfl (G.mapNew vID ok16 rfl ?_)
 intro bm
 refine G.op rfl (G.alloc (z := .map none) (cs := [.map none]) rfl kr rfl ?_)
 intro b8
 refine go [21,34,31,32,32,33,0] ?_
 refine G.op rfl (G.cS rfl rfl rfl rfl Tryz.func62 rfl rfl subT may0 (back_tr _ rfl) apT ?_)
 intro x29 hJ
 try dsimp only at hJ
 try dsimp only
 refine go [34,31,38] ?_
 refine I.rangeK2A (X := (List (List UInt8 × Value))) (rr := [slc rCT Pz (.slice az zs.length cz) zs]) (encs := fun i => (.int .i64 ((zs.length : Int) - 1 - (i : Int)), .agg (chC (bk zs i)).toArray)) (ts := [8]) (fun b i l => b = true ∧ AllAt l (zs.drop (zs.length - i))) (fun b i l => [blk b8 97 [.map (some bm)], mpc vID ok16 bm l]) (fun l => .ret) (fun i (zb : Nat) => [blk zb 71 (chC (bk zs i))]) (fun p => [(10, .pointer (some ⟨p.2, 0, none⟩))]) (x0 := []) rfl Tryz.func96 rfl rfl (back_seq (Pv := Pz) (.slice az zs.length cz) zs x29) (by show Sub _ [blk b8 97 [.map (some bm)], mpc vID ok16 bm [], blk x29 29 [.slice az zs.length cz]] _; repeat (first | exact Sub.nil | (apply Sub.cons; (repeat (first | with_reducible exact Sel.here | exact Sel.here | apply Sel.there))))) (may2 (.old hz0) (.old hz0)) (by first | exact trivial | (exact ⟨rfl, by rw [Nat.sub_zero, List.drop_length]; exact all_nil⟩)) rfl rfl (.cons rfl .nil) (.cons .nil) ?_ ?_ ?_ ?_
 ·intro w1 S1 lp m1 i hi
  try dsimp only at hJ
  try dsimp only
  refine go [33] ?_
  refine G.op rfl (G.alloc (z := .agg #[.int .u8 0, .int .u8 0, .int .u8 0, .int .u8 0, .int .u8 0, .int .u8 0, .int .u8 0, .int .u8 0, .int .u8 0, .int .u8 0, .int .u8 0, .int .u8 0, .int .u8 0, .int .u8 0, .int .u8 0, .int .u8 0, .slice none 0 0]) (cs := [.int .u8 0, .int .u8 0, .int .u8 0, .int .u8 0, .int .u8 0, .int .u8 0, .int .u8 0, .int .u8 0, .int .u8 0, .int .u8 0, .int .u8 0, .int .u8 0, .int .u8 0, .int .u8 0, .int .u8 0, .int .u8 0, .slice none 0 0]) rfl kr rfl ?_)
  intro b10
  refine G.op rfl (G.storeN (vs := chC (bk zs i)) (by rw [chC_len]; kernel_rfl) rfl rfl (List.all_eq_true.2 (chC_one (hbk1 i))) selT (by rw [chC_len]; exact Nat.le_of_ble_eq_true rfl) ?_)
  rw [putN_whole _ _ (by rw [chC_len]; rfl)]
  refine I.nil ?_
  exact I.asgA (Z := Nat) b10 (.consE rfl veqT (.cons rfl .nil)) rfl
 ·intro w1 S1 lp c i l zb hi hJ hrr
  try dsimp only at hJ
  try dsimp only
  obtain ⟨hbt, hal⟩ := hJ
  have hk16 := hbk16 i hi
  refine go [38,33,2,4,2,3,0] ?_
  refine G.op rfl (G.val rfl rfl (pv_loadN (cs := (bk zs i).1.1.map vByte) Tryz.underlying66 rfl (by rw [List.length_map, hk16]; kernel_rfl) rfl (blk_range (k := 16) selT (chC_id hk16))) ?_)
  refine go [2,3,16] ?_
  refine G.op rfl (G.val rfl rfl (pv_load (v := (bk zs i).2) Tryz.underlying39 rfl rfl (blk_cell selD (chC_dat _))) ?_)
  refine G.op rfl (G.mapSet (f := vID) (ok := ok16) (x := (bk zs i).1.1) (v := (bk zs i).2) (xs := l) keyI Tryz.underlying97 rfl rfl rfl hk16 selT ?_)
  refine go [34,40] ?_
  exact I.rN (mset l (bk zs i).1.1 (bk zs i).2) (by first | exact trivial | ((try dsimp only) <;> exact ⟨rfl, by rw [drop_bk hi]; exact hal.put (bk zs i)⟩)) subT
 ·intro D l hJ
  try dsimp only at hJ
  try dsimp only
  obtain ⟨hbt, hal⟩ := hJ
  rw [Nat.sub_self, List.drop_zero] at hal
  refine go [40,31,32,33,1,34,31,32,32,33,2,3,4,2,4,2,5,0,34,31,38] ?_
  refine G.ownNil 68 5 ?_
  refine G.datNil 5 ?_
  refine I.loopK (X := Nat × Value × (List ET)) (ts := [8, 38, 39]) (fun st => st.1 ≤ xs.length ∧ (ens st.2.2 = ((its xs).take st.1).map (mkE (cks zs)) ∧ (∀ q (hq : q < (its xs).length), q < st.1 → errIt (cks zs) (its xs)[q] = 0) ∧ st.2.2.length = st.1)) (fun st => [(40, .int .i64 (st.1 : Int)), (11, st.2.1)]) (fun st => [ownT 68 st.2.1 st.2.2, datC 5 st.2.2]) (fun st => xs.length - st.1) (x0 := (0, .slice none 0 0, [])) (.cons rfl (.cons rfl (.cons rfl .nil))) subT (.cons (.cons .nil)) apT (by first | exact trivial | ((try dsimp only) <;> exact ⟨Nat.zero_le _, ⟨rfl, fun q hq h => absurd h (by omega), rfl⟩⟩)) (.consE rfl veqT (.consE rfl veqT .nil)) (fun st hJ => ?_)
  obtain ⟨i, vw, ys⟩ := st
  try dsimp only at hJ
  try dsimp only
  obtain ⟨hki, hJ⟩ := hJ
  obtain ⟨hys, herr, hyl⟩ := hJ
  refine go [32,33,2,9,34,31,32] ?_
  refine I.condP rfl (fun h41 => ?_) (fun h41 => ?_)
  ·have hlt : i < xs.length := by omega
   have hlt' : i < (its xs).length := by omega
   have hg := its_get hlt
   have hEv := helv i hlt
   have hRv := Ro.itRng hEv
   have hDv := Ro.itIds hEv
   have hOv := Ro.itOk hEv
   obtain ⟨hk1v, hk2v, hk3v, hlpv, hltv, hlnv⟩ := hOv
   have hCv := Ro.one1I hDv
   obtain ⟨aD, cD, bD, oD, hx2, hcD, hmD, -, hadD, helD⟩ := Ro.open hDv
   rw [hx2] at hRv hCv
   have hil := hm2 _ (List.getElem_mem hlt)
   have hmk : ((its xs).take (i + 1)).map (mkE (cks zs)) = ((its xs).take i).map (mkE (cks zs)) ++ [mkE (cks zs) xs[i].1] := by rw [List.take_succ_eq_append_getElem hlt', List.map_append, hg]; rfl
   refine go [39,31,32,38,32,33] ?_
   refine G.op rfl (G.val rfl rfl (pv_ixSl (sz := 6) (k := i) Tryz.underlying26 kr rfl rfl adT (by omega) (by omega)) ?_)
   refine go [2,50,2,60,10] ?_
   intro b13
   refine go [20,34,31,32,33,2,3,0,2,4,2,3,1,2,4,2,3,2,2,4,2,3,4,2,4,2,50,6,60,17] ?_
   intro b14
   refine go [20,34,31,32,32,33,2,3,5,2,4,2,5,0,34,31,38] ?_
   refine G.ownBNil 5 ?_
   refine I.loopK (X := Nat × Value) (ts := [8, 11, 13, 14, 38, 39, 40, 54, 55]) (fun st => st.1 ≤ xs[i].1.ids.length ∧ (∀ r (hr : r < xs[i].1.ids.length), r < st.1 → (foundM (cks zs) xs[i].1.ids[r]).2 = 0)) (fun st => [(56, .int .i64 (st.1 : Int))]) (fun st => [blk b14 68 [.string (sB xs[i].1.path), .int .i64 xs[i].1.kind, .int .i64 xs[i].1.mode, st.2, .string (sB xs[i].1.to)], ownB 5 st.2 (datOf (cks zs) (xs[i].1.ids.take st.1))]) (fun st => xs[i].1.ids.length - st.1) (x0 := (0, .slice none 0 0)) (.cons rfl (.cons rfl (.cons rfl (.cons rfl (.cons rfl (.cons rfl (.cons rfl (.cons rfl (.cons rfl .nil))))))))) subT (.cons .nil) apT (by first | exact trivial | ((try dsimp only) <;> exact ⟨Nat.zero_le _, fun r hr h => absurd h (by omega)⟩)) (.consE rfl veqT .nil) (fun st hJ => ?_)
   obtain ⟨q, vD⟩ := st
   try dsimp only at hJ
   try dsimp only
   obtain ⟨hkq, hJ⟩ := hJ
   have hJq := hJ
   refine go [32,33,2,9,34,31,32] ?_
   refine I.condP rfl (fun h57 => ?_) (fun h57 => ?_)
   ·have hlq : q < xs[i].1.ids.length := by omega
    obtain ⟨lq, rq⟩ := Ro.arr8 (helD q hlq)
    have hdt := datOf_take (cks zs) hlq
    have hdl := datOf_len (cks zs) (fun id => found_len hd id) (xs[i].1.ids.take q)
    have hqt : (xs[i].1.ids.take q).length ≤ q := List.length_take_le _ _
    refine go [39,31,32,38,32,33] ?_
    refine G.op rfl (G.val rfl rfl (pv_ixSl (sz := 16) (k := q) Tryz.underlying60 kr rfl rfl hadD rfl (by omega)) ?_)
    refine G.op rfl (G.val rfl rfl (pv_loadN (cs := xs[i].1.ids[q].map vByte) Tryz.underlying66 rfl Y12 rfl rq) ?_)
    refine go [60,11] ?_
    intro b16
    refine G.op rfl (G.storeN Y12 rfl rfl (List.all_eq_true.2 (vByte_one _)) selT (by simp [lq]) ?_)
    rw [putN_whole _ _ (by rw [List.length_map, lq]; rfl)]
    refine go [34,31,32,33,2,4] ?_
    refine G.op rfl (G.val rfl rfl (pv_loadN (cs := xs[i].1.ids[q].map vByte) Tryz.underlying66 rfl Y12 rfl (blk_range (k := 16) selT (List.take_of_length_le Y10))) ?_)
    refine G.op rfl (G.val rfl rfl ((pv_mapGet (f := vID) (ok := ok16) (x := xs[i].1.ids[q]) (z := .slice none 0 0) (xs := l) keyI Tryz.underlying97 (fun w => by kernel_rfl) rfl rfl lq (sel_map selT)).cast (got_look hal _)) ?_)
    refine go [0,2,7,2,7,1,1,34,31,32,38,32,33,0,2,25,1,34,31] ?_
    refine I.cond rfl (fun h66 => ?_) (fun h66 => ?_)
    ·have hfm := got_none (show gotB zs xs[i].1.ids[q] = false by simpa using h66)
     refine go [32,33,1,1,34,31,37,36,35,36,35,35,36,35,36,35,35,36,35] ?_
     rw [buildM_bad (e := 6) hc0 hlt' herr (by rw [hg]; exact (errIt_bad hlq (fun r hr hrq => hJq r hr hrq) (by rw [hfm]; decide)).trans (by rw [hfm])) (by decide)]
     refine G.ownNil 68 5 ?_
     refine G.datNil 5 ?_
     exact I.doneM ((.slice none 0 0, [])) Y16 rfl Y23 (Rv.tmp rfl (Rv.tmp rfl Rv.nil)) rfl subT
    obtain ⟨j, hj, hgv, hfm⟩ := got_some (show gotB zs xs[i].1.ids[q] = true by simpa using h66)
    rw [hgv]
    have hDz := Ro.ckDat (helz j hj)
    have hdz := hd _ (List.getElem_mem hj)
    have hnl := nameM_len zs[j].1.2
    refine I.seq ?_
    refine I.drawN (nn := 5) (p := []) (rem := 31) [0, 1, 0, 6, 10] [0, 1, 0, 6, 8] kr kr ⟨rfl, by kernel_rfl, by kernel_rfl⟩ subT kr (fun hT19 => ?_)
    refine go [22,0,30,0] ?_
    refine G.takeT hT19 (i := 2) (rem' := 26) rfl rfl rfl kr (fun _ _ _ h => h) rfl (pv_loadN (cs := xs[i].1.ids[q].map vByte) Tryz.underlying66 rfl Y12 rfl (blk_range (k := 16) selT (List.take_of_length_le Y10))) subT ?_
    refine go [24,1,24] ?_
    refine G.turnOp rfl rfl (G.cR rfl rfl rfl rfl Tryz.func63 rfl rfl (may1 (.old hDz)) (name_tr _ zs[j].1.2 (by omega)) ?_)
    refine go [26] ?_
    refine G.takeT hT19 (i := 3) (rem' := 16) rfl rfl rfl kr (fun _ _ _ h => h) rfl ((pv_neqAr8 (a := nameM zs[j].1.2) (b := xs[i].1.ids[q]) Tryz.underlying66 rfl kr Tryz.underlying5 kr rfl rfl hnl lq).cast (v' := .bool (decide (nameM zs[j].1.2 ≠ xs[i].1.ids[q]))) (neq_list _ _)) subT ?_
    refine go [22,4,0,1] ?_
    refine I.overN hT19 kr ?_
    refine I.nThen ?_
    refine I.condP rfl (fun h69 => ?_) (fun h69 => ?_)
    ·rw [if_neg (by assumption)] at hfm
     refine go [32,33,1,1,34,31,37,36,35,36,35,35,36,35,36,35,35,36,35] ?_
     rw [buildM_bad (e := 11) hc0 hlt' herr (by rw [hg]; exact (errIt_bad hlq (fun r hr hrq => hJq r hr hrq) (by rw [hfm]; decide)).trans (by rw [hfm])) (by decide)]
     refine G.ownNil 68 5 ?_
     refine G.datNil 5 ?_
     exact I.doneM ((.slice none 0 0, [])) Y16 rfl Y23 (Rv.tmp rfl (Rv.tmp rfl Rv.nil)) rfl subT
    rw [if_pos (Decidable.of_not_not (by assumption))] at hfm
    have hfz : (foundM (cks zs) xs[i].1.ids[q]).2 = 0 := by rw [hfm]
    have hff : (foundM (cks zs) xs[i].1.ids[q]).1 = zs[j].1.2 := by rw [hfm]
    rw [hff] at hdt
    refine G.ownBFact (v := vD) selT (fun hvD1 => ?_)
    refine go [39,40,31,33,2,3,3,2,4,0] ?_
    refine G.op rfl (G.appendB (xs := (datOf (cks zs) (xs[i].1.ids.take q))) (ys := zs[j].1.2) (Ps := Pz) rfl Tryz.underlying39 Tryz.infoByte rfl rfl selT (ro_sl hDz) (by omega) (by omega) ?_)
    intro x77
    rw [← hdt]
    refine G.ownBFact (v := x77) selT (fun hx77 => ?_)
    refine go [2,3,3,21,34,40,31,33,2,6,0,34] ?_
    exact I.next ((q + 1, x77)) (by first | exact trivial | ((try dsimp only) <;> exact ⟨by omega, fun r hr hrq => by rcases Nat.lt_or_ge r q with h1 | h1; exact hJq r hr h1; obtain rfl : r = q := (by omega); exact hfz⟩)) (by (try dsimp only); omega) (.consE rfl veqT (.cons rfl (.cons rfl (.cons rfl (.cons rfl (.cons rfl (.cons rfl (.cons rfl (.cons rfl (.cons rfl .nil)))))))))) subT
   obtain rfl : q = xs[i].1.ids.length := by omega
   have hall := hJq
   rw [List.take_length]
   have hdl := datOf_len (cks zs) (fun id => found_len hd id) xs[i].1.ids
   refine G.ownBSl (v := vD) selT (fun adD capD hvD => ?_)
   subst hvD
   refine go [42,41,41,43,31,32,32,33,2,3,3,2,4,2,5,2,3,3,2,4,2,14,34,31] ?_
   refine I.condP rfl (fun h85 => ?_) (fun h85 => ?_)
   ·refine go [32,33,1,1,34,31,37,35,36,35,35,36,35] ?_
    rw [buildM_bad (e := 4) hc0 hlt' herr (by rw [hg]; exact errIt_size (fun r hr => hall r hr (by omega)) (by assumption)) (by decide)]
    refine G.ownNil 68 5 ?_
    refine G.datNil 5 ?_
    exact I.doneM ((.slice none 0 0, [])) Y16 rfl Y23 (Rv.tmp rfl (Rv.tmp rfl Rv.nil)) rfl subT
   have hok1 : errIt (cks zs) (its xs)[i] = 0 := by rw [hg]; exact errIt_ok (fun r hr => hall r hr (by omega)) (by omega)
   obtain ⟨en, hen⟩ : ∃ c, mkE (cks zs) xs[i].1 = c := ⟨_, rfl⟩
   rw [show blk b14 68 [.string (sB xs[i].1.path), .int .i64 xs[i].1.kind, .int .i64 xs[i].1.mode, (.slice adD (datOf (cks zs) xs[i].1.ids).length capD), .string (sB xs[i].1.to)] = blk b14 68 (evC (en, .slice adD (datOf (cks zs) xs[i].1.ids).length capD)) from by rw [← hen]; rfl, show ownB 5 (.slice adD (datOf (cks zs) xs[i].1.ids).length capD) (datOf (cks zs) xs[i].1.ids) = ownB 5 (.slice adD (datOf (cks zs) xs[i].1.ids).length capD) en.data from by rw [← hen]; rfl]
   obtain ⟨dv, hdv⟩ : ∃ c, Value.slice adD (datOf (cks zs) xs[i].1.ids).length capD = c := ⟨_, rfl⟩
   have hone : dv.oneCell' = true := by rw [← hdv]; rfl
   rw [hdv]
   refine go [39,31,33,0] ?_
   refine G.op rfl (G.val rfl rfl (pv_loadN (cs := evC (en, dv)) Tryz.underlying68 rfl kr rfl (blk_range (k := 5) selT rfl)) ?_)
   refine G.op rfl (G.buildSlice (z := .agg #[.string ⟨#[]⟩, .int .i64 0, .int .i64 0, .slice none 0 0, .string ⟨#[]⟩]) (sz := 5) (cs := evC (en, dv)) rfl Tryz.underlying22 kr (by decide) (by decide) rfl kr ?_)
   intro b88
   rw [show ownT 68 vw ys = own 68 5 vw ys.length (flatT ys) from rfl]
   refine G.op rfl (G.append (k := ys.length) (j := 1) (cs := flatT ys) (news := evC (en, dv)) (b := b88) (off := 0) rfl Tryz.underlying22 Tryz.infoEn' rfl rfl rfl selT (fun _ => rfl) (fun h => by cases h) rfl (blk_news (k := 5) selT rfl) (evC_one9 hone) (by omega) (by omega) ?_)
   intro vn
   rw [show flatT ys ++ evC (en, dv) = flatT (ys ++ [(en, dv)]) from by rw [flatT_app, flatT_one], show ys.length + 1 = (ys ++ [(en, dv)]).length from by rw [List.length_append]; rfl]
   refine G.datSnoc (ys := ys) (x := (en, dv)) selT selT ?_
   refine G.ownFact (v := vn) selT (fun hvn _ => ?_)
   refine go [1,34,40,31,33,2,6,0,34] ?_
   exact I.next ((i + 1, (vn, ys ++ [(en, dv)]))) (by first | exact trivial | ((try dsimp only) <;> exact ⟨by omega, ⟨by rw [ens_snoc9, hys, hmk, hen], fun r hr hri => by rcases Nat.lt_or_ge r i with h1 | h1; exact herr r hr h1; obtain rfl : r = i := (by omega); exact hok1, by rw [List.length_append, hyl]; rfl⟩⟩)) (by (try dsimp only); omega) (.consE rfl veqT (.consE rfl veqT (.cons rfl (.cons rfl (.cons rfl .nil))))) subT
  obtain rfl : i = xs.length := by omega
  rw [← hel', List.take_length] at hys
  refine go [42,41,41,43,31,32,33,0,1,1,34,31,37] ?_
  rw [buildM_ok hc0 (fun q hq => herr q hq (by omega))]
  exact I.doneM ((vw, ys)) (by first | exact trivial | ((try dsimp only) <;> exact hys)) rfl Y23 (Rv.tmp rfl (Rv.tmp rfl Rv.nil)) rfl subT
 intro D i l hle hJ
 try dsimp only at hJ
 try dsimp only
 obtain ⟨h, _⟩ := hJ
 cases h
def nA : En := ⟨[97], 1, 0, [], []⟩
def nB : En := ⟨[97, 47, 98], 2, 0, [120], []⟩
def sam9E : List En := [nA, nB]
def sam9T (b : Nat) : List ET := [(nA, .slice none 0 0), (nB, .slice (some ⟨b, 0, none⟩) 1 1)]
def sam9B (b : Nat) : Ck := slc rByte (· = b) (.slice (some ⟨b, 0, none⟩) 1 1) [120]
theorem nil_sl9 {α : Type} (E : Rdr α) (Ps : Nat → Prop) (w : World) : IsSl E Ps w (.slice none 0 0) [] := ⟨none, 0, 0, 0, rfl, Nat.le_refl _, by omega, fun _ => rfl, fun h => by simp at h, fun i hi => by simp at hi⟩
theorem sam9_dat {b : Nat} {w : World} (h : (sam9B b).φ w) : ∀ x ∈ sam9T b, IsSl rByte (sam9B b).S w x.2 x.1.data := fun x hx => by
 have : x = (nA, .slice none 0 0) ∨ x = (nB, .slice (some ⟨b, 0, none⟩) 1 1) := by simpa [sam9T] using hx
 rcases this with rfl | rfl
 ·exact nil_sl9 _ _ _
 exact h
theorem sam9_ok {b : Nat} : ∀ x ∈ sam9T b, EnOk x.1 := fun x hx => by
 have : x = (nA, .slice none 0 0) ∨ x = (nB, .slice (some ⟨b, 0, none⟩) 1 1) := by simpa [sam9T] using hx
 rcases this with rfl | rfl
 ·exact (show EnOk nA from ⟨⟨by decide, by decide⟩, ⟨by decide, by decide⟩, by decide, by decide, by decide⟩)
 exact (show EnOk nB from ⟨⟨by decide, by decide⟩, ⟨by decide, by decide⟩, by decide, by decide, by decide⟩)
theorem sam9_small (b : Nat) : ∀ x ∈ sam9T b, x.1.data.length ≤ 10000 := fun x hx => by
 have : x = (nA, .slice none 0 0) ∨ x = (nB, .slice (some ⟨b, 0, none⟩) 1 1) := by simpa [sam9T] using hx
 rcases this with rfl | rfl
 ·exact Nat.zero_le _
 show 1 ≤ 10000
 decide
section
variable {P : Program} {n : Nat} {w0 : World} {S : Nat → Prop} {l : Fr} {m : List Ck} {Q : Exit → Act → World → Prop} {K : Act → World → Prop}
theorem may_tree9 {e : TypeId} {c : Ck} {v : Value} {xs : List ET} {r r' : List Ck} (h : Sel m (ownT e v xs) r) (h' : Sel m c r') (hok : ∀ x ∈ xs, EnOk x.1) (hd : ∀ w, c.φ w → ∀ x ∈ xs, IsSl rByte c.S w x.2 x.1.data) : May w0 S m (slc rEV (fun b => v.ownBlock = some b ∨ c.S b) v xs) :=
 .mix (fun w hw => ownT_sl (hw.holds _ h.mem) (fun b hb => .inl hb) hok fun x hx => (hd w (hw.holds _ h'.mem) x hx).mono fun k hk => .inr hk) fun b hb => .inr (by
  rcases hb with hb | hb
  ·exact ⟨_, h.mem, hb⟩
  exact ⟨_, h'.mem, hb⟩)
theorem may_datD {e : TypeId} {xs : List CT} {r : List Ck} (h : Sel m (datD e xs) r) {x : CT} (hx : x ∈ xs) : May w0 S m (slc rByte (datD e xs).S x.2 x.1.2) :=
 .view h.mem (fun w hw => datD_sl hw _ hx) fun b hb => hb
end
def a9 : Mh := ⟨1, 2, 0, 3⟩
def n9 : List UInt8 := nameM [120]
def sam9M : List It := [⟨[97], 1, 0, 0, [], []⟩, ⟨[97, 47, 98], 2, 0, 1, [], [n9]⟩]
theorem mk9 : mkM a9 sam9E = ((a9, sam9M), [(n9, [120])], 0) := by kernel_rfl
theorem bd9 : buildM a9 sam9M [(n9, [120])] = (sam9E, 0) := by kernel_rfl
def small9 (x : UInt8) : List UInt8 := [1, 2, 0, 3, 1, 1, x, 1, 0, 0, 0, 0]
theorem rd9 : rdM ((small9 97).take 11) = ((mh0, []), (4, 11)) := by kernel_rfl
theorem n9_len : n9.length = 16 := nameM_len _
theorem it9_ok {ms : List IT} (h : its ms = sam9M) : ∀ x ∈ ms, (ItOk x.1 ∧ all16 x.1.ids) ∧ x.1.ids.length ≤ 100000 := fun x hx => by
 have h1 : x.1 ∈ its ms := List.mem_map.2 ⟨x, hx, rfl⟩
 rw [h] at h1
 simp only [sam9M, List.mem_cons, List.not_mem_nil, or_false] at h1
 rcases h1 with h1 | h1
 ·rw [h1]
  exact ⟨⟨⟨⟨by decide, by decide⟩, ⟨by decide, by decide⟩, ⟨by decide, by decide⟩, by decide, by decide, by decide⟩, fun y hy => by cases hy⟩, by decide⟩
 rw [h1]
 refine ⟨⟨⟨⟨by decide, by decide⟩, ⟨by decide, by decide⟩, ⟨by decide, by decide⟩, by decide, by decide, by decide⟩, fun y hy => ?_⟩, by decide⟩
 obtain rfl : y = n9 := by simpa using hy
 exact n9_len
theorem ck9 {ks : List CT} (h : cks ks = [(n9, [120])]) : ∃ u, ks = [((n9, [120]), u)] := by
 have hl : ks.length = 1 := by have := congrArg List.length h; simpa [cks] using this
 obtain ⟨x, rfl⟩ := List.length_eq_one_iff.1 hl
 have h2 : x.1 = (n9, [120]) := by simpa [cks] using h
 exact ⟨x.2, by rw [← h2]⟩
theorem ok_ens9 {xs ys : List ET} (h : ens xs = ens ys) (hy : ∀ x ∈ ys, EnOk x.1) : ∀ x ∈ xs, EnOk x.1 := fun x hx => by
 have h1 : x.1 ∈ ens xs := List.mem_map.2 ⟨x, hx, rfl⟩
 rw [h] at h1
 obtain ⟨y, hy2, e⟩ := List.mem_map.1 h1
 rw [← e]
 exact hy y hy2
theorem sameT9 {Ps Pu : Nat → Prop} (v u : Value) (xs ys : List ET) (h : ens xs = ens ys) : Tr Tryz.prog 17 #[v, u] [slc rEV Ps v xs, slc rEV Pu u ys] [] (T0 (.bool true)) := by
 have := sameTree_tr (Ps := Ps) (Pu := Pu) v u xs ys
 rwa [decide_eq_true h] at this
set_option maxRecDepth 20000 in
set_option maxHeartbeats 4000000 in
theorem sample9_tr : Tr Tryz.prog 41 #[] [] [] (TX (fun _ : Nat × Nat => True) (fun z => .slice (some ⟨z.1, 0, none⟩) 2 2) (fun z => [ownT 68 (.slice (some ⟨z.1, 0, none⟩) 2 2) (sam9T z.2), sam9B z.2])) := by
 refine Tr.of (l := []) Tryz.func41 rfl (n := 6) rfl Fa.nil (fun w0 hro => ?_)
 refine go [9,10,1,7,8,9,10,2,50,6] ?_
 refine G.op rfl (G.lit1 (vs := [.int .u8 120]) rfl Tryz.underlying39 kr rfl (by decide) (by decide) rfl rfl ?_)
 intro b2
 refine G.op rfl (G.constB (b := b2) (xs := [120]) rfl Tryz.underlying39 Tryz.underlying5 rfl (by decide) selT ?_)
 refine go [2,50,6] ?_
 refine G.op rfl (G.buildSlice (z := .agg #[.string ⟨#[]⟩, .int .i64 0, .int .i64 0, .slice none 0 0, .string ⟨#[]⟩]) (sz := 5) (cs := flatT (sam9T b2)) rfl Tryz.underlying22 kr (by decide) (by decide) rfl kr ?_)
 intro b5
 refine G.ownBlk (b := b5) (k := 2) (sz := 5) selT rfl (by omega) ?_
 refine go [1,7,8,11] ?_
 exact G.doneX1 ((b5, b2)) trT rfl rfl rfl subT
set_option maxRecDepth 20000 in
set_option maxHeartbeats 4000000 in
theorem small9_tr (x : UInt8) : Tr Tryz.prog 43 #[.int .u8 (x.toNat : Int)] [] [] (TX (fun _ : Nat => True) (fun b => .slice (some ⟨b, 0, none⟩) 12 12) (fun b => [blk b 5 ((small9 x).map vByte)])) := by
 refine Tr.of (l := [(0, .int .u8 (x.toNat : Int))]) Tryz.func43 rfl (n := 5) rfl (.cons rfl .nil) (fun w0 hro => ?_)
 refine go [9,10,1,7,8,9,10,0] ?_
 refine G.op rfl (G.lit1 (vs := (small9 x).map vByte) rfl Tryz.underlying39 kr rfl (by decide) (by decide) rfl rfl ?_)
 intro b4
 refine go [1,7,8,11] ?_
 exact G.doneX1 (b4) trT rfl rfl Y6 subT
set_option maxRecDepth 20000 in
set_option maxHeartbeats 4000000 in
theorem fails9 {Pv : Nat → Prop} (v : Value) (b : List UInt8) (e p : Int) (hb : b.length ≤ 1000000000) (h : (rdM b).2 = (e, p)) : Tr Tryz.prog 42 #[v, .int .i64 e, .int .i64 p] [slc rByte Pv v b] [] (T0 (.bool true)) := by
 refine Tr.of (l := [(0, v), (1, .int .i64 e), (2, .int .i64 p)]) Tryz.func42 rfl (n := 19) rfl (.cons rfl (.cons rfl (.cons rfl .nil))) (fun w0 hro => ?_)
 have hv := ro1 hro
 refine go [9,10,1,7,8,9,10,0] ?_
 refine G.op rfl (G.cS rfl rfl rfl rfl Tryz.func19 rfl rfl subT (may1 (.old hv)) (mread_tr _ b hb) apT ?_)
 intro x11 hJ
 obtain ⟨mv, ms⟩ := x11
 try dsimp only at hJ
 try dsimp only
 rw [h]
 refine G.ownFact (v := mv) selT (fun hmv _ => ?_)
 refine go [0,2,7,2,7,60,3] ?_
 intro b7
 refine go [60,8] ?_
 intro b8
 refine go [20,20,7,8,9,10] ?_
 refine G.op rfl (G.val rfl rfl (pv_loadN (cs := [_, _]) Tryz.underlying42 rfl kr rfl Y35) ?_)
 refine go [0,0,2,50,1] ?_
 refine G.op rfl (G.val rfl rfl ((pv_eqlSt (xs := [.int .i64 e, .int .i64 p]) (ys := [.int .i64 e, .int .i64 p]) (r := decide ((e : Int) = e) && (decide ((p : Int) = p) && true)) Tryz.underlying42 kr kr rfl rfl kr).cast (v' := .bool true) (congrArg Value.bool (by simp))) ?_)
 refine go [1,7,8,11] ?_
 exact G.done0G rfl (Rv.tmp rfl Rv.nil) Y6
set_option maxRecDepth 20000 in
set_option maxHeartbeats 4000000 in
theorem awake9_tr : Tr Tryz.prog 9 #[] [] [] (T0 (.bool true)) := by
 refine Tr.of (l := []) Tryz.func9 rfl (n := 48) rfl Fa.nil (fun w0 hro => ?_)
 refine go [9,10,1,7,8,9,10] ?_
 refine G.op rfl (G.cS rfl rfl rfl rfl Tryz.func41 rfl rfl subT may0 (sample9_tr) apT ?_)
 intro x7 hJ
 obtain ⟨g7, b7⟩ := x7
 try dsimp only at hJ
 try dsimp only
 refine G.op rfl (G.cS rfl rfl rfl rfl Tryz.func11 rfl rfl subT (may1 (may_tree9 (c := sam9B b7) selT selT sam9_ok (fun w h => sam9_dat h))) (mmake_tr 1 2 3 _ (sam9T b7) (sam9_small b7)) apT ?_)
 intro x8 hJ
 obtain ⟨⟨mv, ms⟩, kv, ks⟩ := x8
 try dsimp only at hJ
 try dsimp only
 rw [show mkM (⟨1, 2, 0, 3⟩ : Mh) (ens (sam9T b7)) = ((a9, sam9M), [(n9, [120])], 0) from mk9] at hJ ⊢
 obtain ⟨hms, hks⟩ := hJ
 have hms : its ms = sam9M := hms
 have hks : cks ks = [(n9, [120])] := hks
 obtain ⟨u, rfl⟩ := ck9 hks
 have hio := it9_ok hms
 refine G.ownFact (v := mv) selT (fun hmv _ => ?_)
 refine G.ownNews (v := kv) selT (fun ad9 cp9 bk9 hsv hks9 hms9 hads hnils hnews => ?_)
 subst hsv
 refine go [0,2,7,2,7,2,7,60,3] ?_
 intro b1
 refine go [20,1,1,7,8,9,10,2,50,0,0] ?_
 refine G.op rfl (G.cS rfl rfl rfl rfl Tryz.func26 rfl rfl subT (may2 (may_items selT selT (fun x hx => (hio x hx).1)) (may_chunks selT selT (fun x hx => by obtain rfl : x = _ := (by simpa using hx); exact ⟨n9_len, by show 1 ≤ 140737488355328; decide⟩))) (mbuild_tr a9 _ _ ms [((n9, [120]), u)] (fun x hx => (hio x hx).2) (fun x hx => by obtain rfl : x = _ := (by simpa using hx); show 1 ≤ 100000; decide)) apT ?_)
 intro x15 hJ
 obtain ⟨tv, ts⟩ := x15
 try dsimp only at hJ
 try dsimp only
 rw [show buildM a9 (its ms) (cks [((n9, [120]), u)]) = (sam9E, 0) from by rw [hms]; exact bd9] at hJ ⊢
 have hts : ens ts = ens (sam9T 0) := hJ
 refine G.ownFact (v := tv) selT (fun htv _ => ?_)
 refine go [0,2,7,2,7,1,1,7,8,9,10,0] ?_
 refine G.op rfl (G.val rfl rfl ((pv_eql rfl rfl).cast (v' := .bool true) (congrArg Value.bool (by exact decide_eq_true rfl))) ?_)
 refine go [0,3,0,3,5] ?_
 refine G.want rfl rfl rfl (G.val rfl rfl ((pv_eql rfl rfl).cast (v' := .bool true) (congrArg Value.bool (by exact decide_eq_true rfl))) ?_)
 refine go [2,2,0,3,0] ?_
 refine G.want rfl rfl rfl (G.val rfl rfl (pv_ixSl (sz := 17) (k := 0) Tryz.underlying29 kr rfl rfl hads rfl (by show 0 < 1; decide)) ?_)
 refine go [3,3,16] ?_
 refine G.want rfl rfl rfl (G.val rfl rfl (pv_load (v := u) Tryz.underlying39 rfl rfl (fun w hw => by have h := hnews selT w hw 16 u (by rw [List.flatMap_cons, List.flatMap_nil, List.append_nil]; exact chC_dat _); simpa using h)) ?_)
 refine G.want rfl rfl rfl (G.lit1 (vs := [.int .u8 120]) rfl Tryz.underlying39 kr rfl (by decide) (by decide) rfl rfl ?_)
 intro b30
 refine G.want rfl rfl rfl (G.constB (b := b30) (xs := [120]) rfl Tryz.underlying39 Tryz.underlying5 rfl (by decide) selT ?_)
 refine G.want rfl rfl rfl (G.cR rfl rfl rfl rfl Tryz.func32 rfl rfl (may2 (may_datD selT (x := ((n9, [120]), u)) (List.mem_cons_self ..)) (Sel.may selT)) (same_self _ _ [120]) ?_)
 refine go [2,2,0,3,0] ?_
 refine G.want rfl rfl rfl (G.val rfl rfl ((pv_eql rfl rfl).cast (v' := .bool true) (congrArg Value.bool (by exact decide_eq_true rfl))) ?_)
 refine go [2,2,0,3,0] ?_
 refine G.want rfl rfl rfl (G.cS rfl rfl rfl rfl Tryz.func41 rfl rfl subT may0 (sample9_tr) apT ?_)
 intro x40 hJ
 obtain ⟨g40, b40⟩ := x40
 try dsimp only at hJ
 try dsimp only
 refine G.want rfl rfl rfl (G.cR rfl rfl rfl rfl Tryz.func17 rfl rfl (may2 (may_tree selT selT (ok_ens9 hts sam9_ok)) (may_tree9 (c := sam9B b40) selT selT sam9_ok (fun w h => sam9_dat h))) (sameT9 _ _ ts (sam9T b40) hts) ?_)
 refine go [2,2,0] ?_
 refine G.want rfl rfl rfl (G.cS rfl rfl rfl rfl Tryz.func43 rfl rfl subT may0 (small9_tr 97) apT ?_)
 intro x44 hJ
 try dsimp only at hJ
 try dsimp only
 refine G.want rfl rfl rfl (G.val rfl rfl (pv_subH (sz := 1) (k := 11) Tryz.underlying39 kr rfl rfl rfl (by decide)) ?_)
 refine G.want rfl rfl rfl (G.cR rfl rfl rfl rfl Tryz.func42 rfl rfl (may1 (may_pre (f := vByte) (p := fun _ => True) (xs := small9 97) selT rfl (fun _ _ => trivial) (by decide) (by decide) (by decide))) (fails9 _ ((small9 97).take 11) 4 11 (by decide) (by rw [rd9])) ?_)
 refine go [2,2,1,7,8,11] ?_
 exact G.done0G rfl (Rv.tmp rfl Rv.nil) Y6
theorem sameM9 {Ps Pu : Nat → Prop} (a : Mh) (v u : Value) (xs ys : List IT) (h : its xs = its ys) : Tr Tryz.prog 13 #[.agg #[.int .i64 a.c, .int .i64 a.k, .int .i64 a.n, .int .i64 a.t, v], .agg #[.int .i64 a.c, .int .i64 a.k, .int .i64 a.n, .int .i64 a.t, u]] [slc rIT Ps v xs, slc rIT Pu u ys] [] (T0 (.bool true)) := by
 have := sameM_tr (Ps := Ps) (Pu := Pu) a a v u xs ys
 rwa [decide_eq_true (show a = a ∧ its xs = its ys from ⟨rfl, h⟩)] at this
theorem its_all {xs : List IT} {ms : List It} {p : It → Prop} (h : its xs = ms) (hp : ∀ x ∈ ms, p x) : ∀ x ∈ xs, p x.1 := fun x hx => hp x.1 (by rw [← h]; exact List.mem_map.2 ⟨x, hx, rfl⟩)
theorem tot_ge {es : List En} {e : En} (h : e ∈ es) : e.data.length ≤ totM es := by
 induction es with
 | nil => cases h
 | cons x es ih =>
  have e1 : totM (x :: es) = (x.path.length + x.data.length + x.to.length) + totM es := by simp [totM]
  rcases List.mem_cons.1 h with rfl | h
  ·omega
  have := ih h
  omega
theorem data_small {xs : List ET} {k r : Int} (h : ¬ bigM (ens xs) k r) : ∀ x ∈ xs, (x.1.data.length : Int) ≤ r := fun x hx => by
 have h1 := tot_ge (es := ens xs) (List.mem_map.2 ⟨x, hx, rfl⟩)
 unfold bigM at h
 omega
theorem mkM_few {a : Mh} {es : List En} (hn : es.length ≤ 1000) (hd : ∀ e ∈ es, e.data.length ≤ 10000) : (mkM a es).1.2.length ≤ 1000 ∧ (∀ x ∈ (mkM a es).1.2, x.ids.length ≤ 1000000) := by
 unfold mkM
 split
 ·exact ⟨Nat.zero_le _, fun x hx => by cases hx⟩
 split
 ·exact ⟨Nat.zero_le _, fun x hx => by cases hx⟩
 refine ⟨by show (es.map mkI).length ≤ _; rw [List.length_map]; exact hn, fun x hx => ?_⟩
 obtain ⟨e, he, rfl⟩ := List.mem_map.1 hx
 have h1 := chunksC_len e.data
 have h2 := hd e he
 show ((chunksC e.data).map nameM).length ≤ _
 rw [List.length_map]
 omega
theorem mkM_ok16 {a : Mh} {es : List En} (hok : ∀ e ∈ es, EnOk e) (hd : ∀ e ∈ es, e.data.length ≤ 10000) : ∀ x ∈ (mkM a es).1.2, ItOk x ∧ all16 x.ids := by
 unfold mkM
 split
 ·exact fun x hx => by cases hx
 split
 ·exact fun x hx => by cases hx
 intro x hx
 obtain ⟨e, he, rfl⟩ := List.mem_map.1 hx
 exact ⟨mkI_ok (hok e he) (hd e he), mkI_16 e⟩
theorem takeC_le {n : Nat} {acc : List (List UInt8 × List UInt8)} {b : List UInt8} (h : ∀ p ∈ acc, p.1.length = 16 ∧ p.2.length ≤ n) (hb : b.length ≤ n) : ∀ p ∈ takeC acc b, p.1.length = 16 ∧ p.2.length ≤ n := fun p hp => by
 unfold takeC at hp
 split at hp
 ·exact h p hp
 rcases List.mem_append.1 hp with hp | hp
 ·exact h p hp
 obtain rfl : p = _ := by simpa using hp
 exact ⟨nameM_len b, hb⟩
theorem collC_le {n : Nat} {acc : List (List UInt8 × List UInt8)} (h : ∀ p ∈ acc, p.1.length = 16 ∧ p.2.length ≤ n) (l : List (List UInt8)) (hl : ∀ b ∈ l, b.length ≤ n) : ∀ p ∈ collC acc l, p.1.length = 16 ∧ p.2.length ≤ n := by
 induction l generalizing acc with
 | nil => exact h
 | cons b l ih => exact ih (takeC_le h (hl b (List.mem_cons_self ..))) fun c hc => hl c (List.mem_cons_of_mem _ hc)
theorem collC_len (acc : List (List UInt8 × List UInt8)) (l : List (List UInt8)) : (collC acc l).length ≤ acc.length + l.length := by
 induction l generalizing acc with
 | nil => exact Nat.le_refl _
 | cons b l ih =>
  have h1 := ih (takeC acc b)
  have h2 : (takeC acc b).length ≤ acc.length + 1 := by
   unfold takeC
   split
   ·omega
   rw [List.length_append, List.length_singleton]; omega
  show (collC (takeC acc b) l).length ≤ _
  rw [List.length_cons]
  omega
theorem mkM_cks {a : Mh} {es : List En} (hd : ∀ e ∈ es, e.data.length ≤ 10000) : ∀ p ∈ (mkM a es).2.1, p.1.length = 16 ∧ p.2.length ≤ 10000 := by
 unfold mkM
 split
 ·exact fun x hx => by cases hx
 split
 ·exact fun x hx => by cases hx
 exact collC_le (fun p hp => by cases hp) _ fun b hb => by
  obtain ⟨e, he, hb⟩ := List.mem_flatMap.1 hb
  exact Nat.le_trans (chunksC_le hb) (hd e he)
theorem flat_chunks {es : List En} (hd : ∀ e ∈ es, e.data.length ≤ 10000) : (es.flatMap fun e => chunksC e.data).length ≤ es.length * 10001 := by
 induction es with
 | nil => exact Nat.le_refl _
 | cons e es ih =>
  have h1 := chunksC_len e.data
  have h2 := hd e (List.mem_cons_self ..)
  have h3 := ih fun x hx => hd x (List.mem_cons_of_mem _ hx)
  rw [List.flatMap_cons, List.length_append, List.length_cons]
  omega
theorem mkM_cl {a : Mh} {es : List En} (hn : es.length ≤ 40) (hd : ∀ e ∈ es, e.data.length ≤ 10000) : (mkM a es).2.1.length ≤ 1000000 := by
 unfold mkM
 split
 ·exact Nat.zero_le _
 split
 ·exact Nat.zero_le _
 have h1 := collC_len [] (es.flatMap fun e => chunksC e.data)
 have h2 := flat_chunks hd
 show (makeC es).length ≤ _
 unfold makeC
 rw [List.length_nil] at h1
 omega
theorem sameC9 {Ps Pu : Nat → Prop} (v u : Value) (xs ys : List CT) (h : cks xs = cks ys) : Tr Tryz.prog 14 #[v, u] [slc rCT Ps v xs, slc rCT Pu u ys] [] (T0 (.bool true)) := by
 have := sameC_tr (Ps := Ps) (Pu := Pu) v u xs ys
 rwa [decide_eq_true h] at this
theorem cks_all {xs : List CT} {ms : List (List UInt8 × List UInt8)} {p : List UInt8 × List UInt8 → Prop} (h : cks xs = ms) (hp : ∀ x ∈ ms, p x) : ∀ x ∈ xs, p x.1 := fun x hx => hp x.1 (by rw [← h]; exact List.mem_map.2 ⟨x, hx, rfl⟩)
set_option maxRecDepth 20000 in
set_option maxHeartbeats 4000000 in
theorem mmakes {Ps : Nat → Prop} (c k t : Int) (v : Value) (xs : List ET) : Tr Tryz.prog 3 #[.int .i64 c, .int .i64 k, .int .i64 t, v] [slc rEV Ps v xs] [] (T0 (.bool true)) := by
 refine Tr.of (l := [(0, .int .i64 c), (1, .int .i64 k), (2, .int .i64 t), (3, v)]) Tryz.func3 rfl (n := 66) rfl (.cons rfl (.cons rfl (.cons rfl (.cons rfl .nil)))) (fun w0 hro => ?_)
 have hv := ro1 hro
 have hv' := hv
 obtain ⟨av, cv, bv, fv, rfl, hcapv, hmaxv, hnilv, hadv, helv⟩ := Ro.openT hv
 have hel' := ens_length xs
 have hEn : ∀ e ∈ ens xs, EnOk e := fun e he => by obtain ⟨x, hx, rfl⟩ := List.mem_map.1 he; obtain ⟨q, hq, rfl⟩ := List.getElem_of_mem hx; exact Ro.evOk (helv q hq)
 obtain ⟨R, hR⟩ : ∃ R, mkM (⟨c, k, 0, t⟩ : Mh) (ens xs) = R := ⟨_, rfl⟩
 refine go [9,10,1,7,8,9,9,10,0] ?_
 refine G.op rfl (G.cR rfl rfl rfl rfl Tryz.func8 rfl rfl (may1 (.old hv)) (big_tr _ xs 40 6000 (by omega)) ?_)
 refine go [7,8] ?_
 refine G.condP rfl (fun h18 => ?_) (fun h18 => ?_)
 ·refine go [9,10] ?_
  refine G.op rfl (G.cR rfl rfl rfl rfl Tryz.func9 rfl rfl may0 (awake9_tr) ?_)
  refine go [1,7,8,11,12] ?_
  exact G.done0G rfl (Rv.tmp rfl Rv.nil) Y6
 have hnb : ¬ bigM (ens xs) 40 6000 := by assumption
 have hxl : xs.length ≤ 40 := by unfold bigM at hnb; omega
 have hds : ∀ x ∈ xs, x.1.data.length ≤ 10000 := fun x hx => by have := data_small hnb x hx; omega
 have hde : ∀ e ∈ ens xs, e.data.length ≤ 10000 := fun e he => by obtain ⟨x, hx, rfl⟩ := List.mem_map.1 he; exact hds x hx
 have hall := mkM_ok16 (a := (⟨c, k, 0, t⟩ : Mh)) hEn hde
 have hfew := mkM_few (a := (⟨c, k, 0, t⟩ : Mh)) (es := ens xs) (by omega) hde
 have hcal := mkM_cks (a := (⟨c, k, 0, t⟩ : Mh)) hde
 have hcl := mkM_cl (a := (⟨c, k, 0, t⟩ : Mh)) (es := ens xs) (by omega) hde
 rw [hR] at hall hfew hcal hcl
 obtain ⟨hf1, hf2⟩ := hfew
 refine go [13,8,9,10,0] ?_
 refine G.op rfl (G.cS rfl rfl rfl rfl Tryz.func10 rfl rfl subT (may1 (.old hv)) (copyT_tr _ xs (by omega)) apT ?_)
 intro x21 hJ
 obtain ⟨iv, is⟩ := x21
 try dsimp only at hJ
 try dsimp only
 have his : ens is = ens xs := hJ
 have hiok : ∀ x ∈ is, EnOk x.1 := fun x hx => hEn _ (by rw [← his]; exact List.mem_map.2 ⟨x, hx, rfl⟩)
 refine G.ownFact (v := iv) selT (fun hiv _ => ?_)
 refine go [1,7,8,9,10,0,0,0,0] ?_
 refine G.op rfl (G.cS rfl rfl rfl rfl Tryz.func11 rfl rfl subT (may1 (may_tree selT selT hiok)) (mmake_tr c k t _ is (fun x hx => hde _ (by rw [← his]; exact List.mem_map.2 ⟨x, hx, rfl⟩))) apT ?_)
 intro x27 hJ
 obtain ⟨⟨mv, ms⟩, kv, ks⟩ := x27
 try dsimp only at hJ
 try dsimp only
 rw [his, hR] at hJ
 rw [his, hR]
 obtain ⟨hms, hks⟩ := hJ
 have hms : its ms = R.1.2 := hms
 have hks : cks ks = R.2.1 := hks
 refine G.ownFact (v := mv) selT (fun hmv _ => ?_)
 refine G.ownFact (v := kv) selT (fun hkv _ => ?_)
 refine go [0,2,7,2,7,2,7,60,3] ?_
 intro b10
 refine go [20,1,1,7,8,9,10,0,0,0,0] ?_
 refine G.op rfl (G.cS rfl rfl rfl rfl Tryz.func12 rfl rfl subT (may1 (.old hv)) (mmakeR_tr c k t _ xs hds) apT ?_)
 intro x36 hJ
 obtain ⟨⟨wv, ws⟩, qv, qs⟩ := x36
 try dsimp only at hJ
 try dsimp only
 rw [hR] at hJ
 rw [hR]
 obtain ⟨hws, hqs⟩ := hJ
 have hws : its ws = R.1.2 := hws
 have hqs : cks qs = R.2.1 := hqs
 refine G.ownFact (v := wv) selT (fun hwv _ => ?_)
 refine G.ownFact (v := qv) selT (fun hqv _ => ?_)
 refine go [0,2,7,2,7,2,7,60,3] ?_
 intro b13
 refine go [20,1,1,7,8,9,10,0,0] ?_
 refine G.op rfl (G.val rfl rfl ((pv_eql rfl rfl).cast (v' := .bool true) (congrArg Value.bool (by exact decide_eq_true rfl))) ?_)
 refine go [0,3,50,0,3,50,0] ?_
 refine G.want rfl rfl rfl (G.cR rfl rfl rfl rfl Tryz.func13 rfl rfl (may2 (may_items selT selT (its_all hms hall)) (may_items selT selT (its_all hws hall))) (sameM9 R.1.1 _ _ ms ws (hms.trans hws.symm)) ?_)
 refine go [2,2,0,3,0,3,0] ?_
 refine G.want rfl rfl rfl (G.cR rfl rfl rfl rfl Tryz.func14 rfl rfl (may2 (may_chunks selT selT (fun x hx => by have := cks_all hks hcal x hx; exact ⟨this.1, by omega⟩)) (may_chunks selT selT (fun x hx => by have := cks_all hqs hcal x hx; exact ⟨this.1, by omega⟩))) (sameC9 _ _ ks qs (hks.trans hqs.symm)) ?_)
 refine go [2,2,1,7,8,9,10,2,50,0] ?_
 refine G.op rfl (G.cS rfl rfl rfl rfl Tryz.func15 rfl rfl subT may0 (overM_tr R.1.1 _ ms (by rw [← its_length, hms]; omega) (fun x hx => its_all hms hf2 x hx)) apT ?_)
 intro x54 hJ
 try dsimp only at hJ
 try dsimp only
 refine go [7,8,9,10,0] ?_
 refine G.op rfl (G.cS rfl rfl rfl rfl Tryz.func16 rfl rfl subT may0 (overC_tr _ ks (by rw [← cks_length, hks]; omega)) apT ?_)
 intro x56 hJ
 try dsimp only at hJ
 try dsimp only
 refine go [7,8,9,10,0,0,3,0,3,0] ?_
 refine G.want rfl rfl rfl (G.cR rfl rfl rfl rfl Tryz.func17 rfl rfl (may2 (may_tree selT selT hiok) (.old hv)) (sameT9 _ _ is xs his) ?_)
 refine go [2,2,0] ?_
 refine G.want rfl rfl rfl (G.cR rfl rfl rfl rfl Tryz.func9 rfl rfl may0 (awake9_tr) ?_)
 refine go [2,2,1,7,8,11] ?_
 exact G.done0G rfl (Rv.tmp rfl Rv.nil) Y6
end Go.Proofs.YtbfpbibkklfnfaaGreat
set_option maxRecDepth 100000
set_option linter.unusedVariables false
set_option linter.unusedSimpArgs false
namespace Go.Proofs.YtbfpbibkklfnfaaGreat
open Go.ChangeShapes Go.WideShapes Go.ChangeAt Go.RowKit
section
variable {H : Type} {enc : TypeId × Value → H} {W : World}
theorem opn_bytes {r : Reach} {base : Nat} {v : Value} {d : DataW H} {p : List MemPlace} (hok : Value.okWide Tryz.prog W r base 39 v) (h : DataW.Trod enc Tryz.prog W 0 (fun _ => true) true 39 v d p) :
 ∃ l : List UInt8, Ro W (fun _ => False) (slc rByte (· < W.heap.size) v l) ∧ sliceLen d = l.length := by
 suffices hs : ∃ l : List UInt8, IsSl rByte (· < W.heap.size) W v l ∧ sliceLen d = l.length by
  obtain ⟨l, h1, h2⟩ := hs
  exact ⟨l, ro_new h1 fun b hb => hb, h2⟩
 obtain ⟨a1, len, cap, rfl⟩ := okWide_slice Tryz.underlying39 hok
 obtain ⟨fuel, hf⟩ := h
 rcases open_ints Tryz.underlying39 Tryz.underlying5 kr hf with ⟨hcs, hx⟩ | ⟨a, len', cap', zs, hcs, _, hl, hm, hz, hx, hcell, hwz⟩
 ·simp [Value.cells] at hcs
  obtain ⟨rfl, rfl, rfl⟩ := hcs
  simp only [Prod.mk.injEq] at hx
  obtain ⟨rfl, rfl⟩ := hx
  exact ⟨[], ⟨none, 0, 0, 0, rfl, Nat.le_refl _, by omega, fun _ => rfl, fun h => absurd h (by simp), fun i hi => absurd hi (by simp)⟩, rfl⟩
 simp [Value.cells] at hcs
 obtain ⟨rfl, rfl, rfl⟩ := hcs
 simp only [Prod.mk.injEq] at hx
 obtain ⟨rfl, rfl⟩ := hx
 simp only [if_true] at hz
 have hlen : ((zs.take len).map fun n => UInt8.ofNat n.toNat).length = len := by simp; omega
 refine ⟨(zs.take len).map fun n => UInt8.ofNat n.toNat, ⟨some a, cap, a.block, a.off, by rw [hlen], by omega, by unfold maxLen at hm; omega, by simp, fun h0 => ?_, fun i hi => ?_⟩, ?_⟩
 ·rw [hlen] at h0
  have h1 := hcell 0 (by omega)
  have e : a.add 0 = a := by unfold Addr.add; simp
  rw [e] at h1
  exact congrArg some (spot_none h1)
 ·rw [hlen] at hi
  have h0 := hcell 0 (by omega)
  have e : a.add 0 = a := by unfold Addr.add; simp
  rw [e] at h0
  have hs := spot_none h0
  have g := add_none (hcell i (by omega)) hs
  have hb := range_u8 hwz i
  have e2 : zs.getD i 0 = zs[i]'(by omega) := by simp [List.getD, List.getElem?_eq_getElem (show i < zs.length by omega)]
  have e3 : zs[i]?.getD 0 = zs[i]'(by omega) := by simp [List.getElem?_eq_getElem (show i < zs.length by omega)]
  rw [e2] at g
  rw [e3] at hb
  refine ⟨cell_lt h0, ?_, trivial⟩
  show W.cell? ⟨a.block, a.off + i * 1, none⟩ = _
  rw [Nat.mul_one, g]
  simp only [List.getElem_map, List.getElem_take, vByte]
  congr 2
  simp only [UInt8.toNat_ofNat']
  omega
 simp [sliceLen, lits]
end
end Go.Proofs.YtbfpbibkklfnfaaGreat
set_option maxRecDepth 100000
set_option linter.unusedVariables false
set_option linter.unusedSimpArgs false
namespace Go.Proofs.YtbfpbibkklfnfaaGreat
open Go.ChangeShapes Go.WideShapes Go.ChangeAt Go.RowKit Go.Deep
theorem in1 {p : Ck → Prop} {a : Ck} (h : p a) : ∀ x ∈ [a], p x := fun x hx => by obtain rfl : x = a := (by simpa using hx); exact h
theorem inC {p : Ck → Prop} {a : Ck} {l : List Ck} (h : p a) (r : ∀ x ∈ l, p x) : ∀ x ∈ a :: l, p x := fun x hx => by
 rcases List.mem_cons.1 hx with rfl | hx
 ·exact h
 exact r x hx
section
variable {H : Type} {enc : TypeId × Value → H} {W : World}
theorem opn_weak {P : Program} {α β : Type} {t : TypeId} {E : Rdr α} {F : Rdr β} (h : Opn H enc P W t E) (hs : E.sz = F.sz) (hf : ∀ Ps w b o a, E.R Ps w b o a → ∃ a', F.R Ps w b o a') : Opn H enc P W t F := ⟨h.sz.trans hs, fun fuel cs x b o hx hwt hA hb => by
 obtain ⟨a, ha⟩ := h.mem fuel cs x b o hx hwt hA hb
 exact hf _ _ _ _ _ ha⟩
theorem opn_entry : Opn H enc Tryz.prog W 68 rEV := by
 refine opn_weak (opn_struct Tryz.underlying68 (F := rProd rStrB (rProd rInt (rProd rInt (rProd (rSlB rByte) (rProd rStrB rUnit))))) kr
  (.cons (opn_str Tryz.underlying9 kr) rfl (.cons (opn_int Tryz.underlying3 kr) rfl (.cons (opn_int Tryz.underlying3 kr) rfl
   (.cons (opn_rSl Tryz.underlying39 kr (of_decide_eq_true kr) (opn_byte Tryz.underlying5 kr) (by decide)) rfl (.cons (opn_str Tryz.underlying9 kr) rfl .nil)))))) rfl ?_
 rintro Ps w b o ⟨a0, a1, a2, a3, a4, _⟩ ⟨⟨hb, h0, l0⟩, ⟨_, h1, l1⟩, ⟨_, h2, l2⟩, ⟨⟨_, d, h3, hd⟩, l3⟩, ⟨_, h4, l4⟩, _⟩
 refine ⟨(⟨a0, a1, a2, a3, a4⟩, d), hb, fun j v hj => ?_, hd, l1, l2, l0, l3, l4⟩
 have hlt : j < 5 := by
  have := (List.getElem?_eq_some_iff.1 hj).1
  exact this
 rcases (by omega : j = 0 ∨ j = 1 ∨ j = 2 ∨ j = 3 ∨ j = 4) with rfl | rfl | rfl | rfl | rfl
 ·obtain rfl : _ = v := Option.some.inj hj
  exact h0
 ·obtain rfl : _ = v := Option.some.inj hj
  exact h1
 ·obtain rfl : _ = v := Option.some.inj hj
  exact h2
 ·obtain rfl : _ = v := Option.some.inj hj
  exact h3
 obtain rfl : _ = v := Option.some.inj hj
 exact h4
theorem opn_tree {v : Value} {d : DataW H} {p : List MemPlace} {r : Reach} {base : Nat} (hok : Value.okWide Tryz.prog W r base 22 v) (h : DataW.Trod enc Tryz.prog W 0 (fun _ => true) true 22 v d p)
 {ts : List TypeId} {ds : List (DataW H)} {j : Nat} (hsz : (DataW.weightsEach Tryz.prog ts ds).all (· ≤ reachBytes) = true) (hts : ts[j]? = some 22) (hds : ds[j]? = some d) :
 ∃ xs : List ET, Ro W (fun _ => False) (slc rEV (· < W.heap.size) v xs) ∧ xs.length ≤ 140737488355328 :=
 opn_arg Tryz.underlying22 (of_decide_eq_true kr) opn_entry (by decide) hok h hsz hts hds
end
end Go.Proofs.YtbfpbibkklfnfaaGreat
namespace Go.Proofs.YtbfpbibkklfnfaaGreat
open Go.RowKit
set_option linter.unusedVariables false
set_option linter.unusedSimpArgs false
theorem same9 {Pv Pu : Nat → Prop} (v u : Value) (a : List UInt8) : Tr Tryz.prog 32 #[v, u] [slc rByte Pv v a, slc rByte Pu u a] [] (T0 (.bool true)) := by
 have := same_tr (Pv := Pv) (Pu := Pu) v u a a
 rwa [decide_eq_true rfl] at this
theorem sameIDs9 {Pv Pu : Nat → Prop} (v u : Value) (a : List (List UInt8)) : Tr Tryz.prog 37 #[v, u] [slc rID Pv v a, slc rID Pu u a] [] (T0 (.bool true)) := by
 have := sameIDs_tr (Pv := Pv) (Pu := Pu) v u a a
 rwa [decide_eq_true rfl] at this
theorem nid_take (ms : List It) (i : Nat) : nidM (ms.take i) ≤ nidM ms := by
 unfold nidM
 rw [← List.take_append_drop i ms, List.map_append, List.sum_append, List.take_append_drop i ms]
 omega
theorem flat_nid (ms : List It) : (ms.flatMap fun x => x.ids).length = nidM ms := by
 induction ms with
 | nil => rfl
 | cons x ms ih => rw [List.flatMap_cons, List.length_append, ih]; rfl
theorem nid_ge {ms : List It} {x : It} (h : x ∈ ms) : x.ids.length ≤ nidM ms := by
 induction ms with
 | nil => cases h
 | cons y ms ih =>
  have e1 : nidM (y :: ms) = y.ids.length + nidM ms := by simp [nidM]
  rcases List.mem_cons.1 h with rfl | h
  ·omega
  have := ih h
  omega
theorem uniq_len (ms : List It) : (uniqM ms).length ≤ nidM ms := by
 have h1 := idsOf_len [] (ms.flatMap fun x => x.ids)
 rw [flat_nid] at h1
 exact Nat.le_trans h1 (by simp)
theorem uniq_few {ms : List It} (h : nidM ms ≤ 400) (i : Nat) : (uniqM (ms.take i)).length ≤ 10000 := by
 have h1 := uniq_len (ms.take i)
 have h2 := nid_take ms i
 omega
theorem nid_few {xs : List IT} (h : nidM (its xs) ≤ 400) : ∀ x ∈ xs, x.1.ids.length ≤ 400 := fun x hx => Nat.le_trans (nid_ge (List.mem_map.2 ⟨x, hx, rfl⟩)) h
def id9 : List UInt8 := [9, 0, 0, 0, 0, 0, 0, 0, 0, 0, 0, 0, 0, 0, 0, 0]
set_option maxRecDepth 20000 in
set_option maxHeartbeats 4000000 in
theorem mbytesL {Ps : Nat → Prop} (a : Mh) (q : Int) (v : Value) (xs : List IT) : Tr Tryz.prog 7 #[.agg #[.int .i64 a.c, .int .i64 a.k, .int .i64 a.n, .int .i64 a.t, v], .int .i64 q] [slc rIT Ps v xs] [] (T0 (.bool true)) := by
 refine Tr.of (l := [(0, .agg #[.int .i64 a.c, .int .i64 a.k, .int .i64 a.n, .int .i64 a.t, v]), (1, .int .i64 q)]) Tryz.func7 rfl (n := 102) rfl (.cons rfl (.cons rfl .nil)) (fun w0 hro => ?_)
 have hv := ro1 hro
 have hv' := hv
 obtain ⟨av, cv, bv, fv, rfl, hcapv, hmaxv, hnilv, hadv, helv⟩ := Ro.open hv
 have hel' := its_length xs
 have hI := Ro.allI helv
 have hall : ∀ x ∈ its xs, ItOk x ∧ all16 x.ids := fun x hx => by obtain ⟨y, hy, rfl⟩ := List.mem_map.1 hx; exact ⟨(hI y hy).1, (hI y hy).2.1⟩
 refine go [9,10,60,0] ?_
 intro b2
 refine go [1,7,8,9,9,10,2,50,0] ?_
 refine G.op rfl (G.cR rfl rfl rfl rfl Tryz.func22 rfl rfl (may1 (.old hv)) (bigM_tr a _ xs 220 (by omega)) ?_)
 refine go [7,8] ?_
 refine G.condP rfl (fun h19 => ?_) (fun h19 => ?_)
 ·refine go [9,10] ?_
  refine G.op rfl (G.cR rfl rfl rfl rfl Tryz.func9 rfl rfl may0 (awake9_tr) ?_)
  refine go [1,7,8,11,12] ?_
  exact G.done0G rfl (Rv.tmp rfl Rv.nil) Y6
 have hnb : ¬ bigI (its xs) 220 := by assumption
 have hxl : xs.length ≤ 220 := by unfold bigI at hnb; omega
 have hnid : nidM (its xs) ≤ 400 := by unfold bigI at hnb; omega
 have hfe := nid_few hnid
 have hun := uniq_few hnid
 have hu16 : all16 (uniqM (its xs)) := uniqM_16 fun x hx => (hall x hx).2
 have hul := hun xs.length
 rw [← hel', List.take_length] at hul
 obtain ⟨U, hU⟩ : ∃ U, uniqM (its xs) = U := ⟨_, rfl⟩
 rw [hU] at hu16 hul
 refine go [13,8,9,10,2,50,0] ?_
 refine G.op rfl (G.cS rfl rfl rfl rfl Tryz.func24 rfl rfl subT (may1 (.old hv)) (copyM_tr a _ xs (by omega) (fun x hx => by have := hfe x hx; omega)) apT ?_)
 intro x22 hJ
 obtain ⟨iv, is⟩ := x22
 try dsimp only at hJ
 try dsimp only
 have his : its is = its xs := hJ
 have hisl : is.length = xs.length := by rw [← its_length, his, its_length]
 have hfi : ∀ x ∈ is, x.1.ids.length ≤ 400 := nid_few (by rw [his]; exact hnid)
 refine G.ownFact (v := iv) selT (fun hiv _ => ?_)
 refine go [60,3] ?_
 intro b5
 refine go [20,7,8,9,10,2,50,0] ?_
 refine G.op rfl (G.cR rfl rfl rfl rfl Tryz.func31 rfl rfl (may1 (may_items selT selT (its_all his hall))) (mcheck_tr a _ is) ?_)
 rw [his]
 refine go [0,2,7,2,7,1,1,7,8,9,10,2,50,0] ?_
 refine G.op rfl (G.cR rfl rfl rfl rfl Tryz.func33 rfl rfl (may1 (.old hv)) (mcheckR_tr a _ xs) ?_)
 refine go [0,2,7,2,7,1,1,7,8,9,10,2,50,0] ?_
 refine G.op rfl (G.cS rfl rfl rfl rfl Tryz.func30 rfl rfl subT (may1 (may_items selT selT (its_all his hall))) (mbytes_tr a _ is) apT ?_)
 intro x35 hJ
 try dsimp only at hJ
 try dsimp only
 rw [his]
 refine go [0,2,7,2,7,1,1,7,8,9,10,2,50,0] ?_
 refine G.op rfl (G.cS rfl rfl rfl rfl Tryz.func34 rfl rfl subT (may1 (.old hv)) (mbytesR_tr a _ xs) apT ?_)
 intro x40 hJ
 try dsimp only at hJ
 try dsimp only
 refine go [0,2,7,2,7,1,1,7,8,9,10,2,50,0] ?_
 refine G.op rfl (G.cS rfl rfl rfl rfl Tryz.func35 rfl rfl subT (may1 (may_items selT selT (its_all his hall))) (mids_tr a _ is (by omega) (fun i => by rw [his]; exact hun i) (fun x hx => by have := hfi x hx; omega)) apT ?_)
 intro x44 hJ
 try dsimp only at hJ
 try dsimp only
 rw [his, hU]
 refine go [1,7,8,9,10,2,50,0,0] ?_
 refine G.op rfl (G.cS rfl rfl rfl rfl Tryz.func36 rfl rfl subT (may1 (may_items selT selT (its_all his hall))) (numbered_tr a _ is q (by omega) (fun x hx => by have := hfi x hx; omega)) apT ?_)
 intro x47 hJ
 obtain ⟨nv, ns⟩ := x47
 try dsimp only at hJ
 try dsimp only
 have hns : its ns = its xs := hJ.trans his
 have hnsl : ns.length = xs.length := by rw [← its_length, hns, its_length]
 have hfn : ∀ x ∈ ns, x.1.ids.length ≤ 400 := nid_few (by rw [hns]; exact hnid)
 refine G.ownFact (v := nv) selT (fun hnv _ => ?_)
 refine go [60,3] ?_
 intro b15
 refine go [20,7,8,9] ?_
 refine G.drawT (nn := 32) (p := []) (rem := 4294967295) [0, 0, 3, 4, 8, 8, 56, 72, 136, 256, 256, 1792, 2304, 4352, 8192, 8192, 57344, 73728, 196608, 262144, 262144, 1310720, 2883584, 4456448, 12582912, 16777216, 16777216, 16777216, 218103808, 318767104, 553648128, 2147483647] [0, 0, 3, 4, 8, 8, 56, 72, 128, 256, 256, 1792, 2304, 4096, 8192, 8192, 57344, 73728, 131072, 262144, 262144, 1310720, 2883584, 4456448, 8388608, 16777216, 16777216, 16777216, 218103808, 318767104, 553648128, 1073741824] kr ⟨rfl, by kernel_rfl, by kernel_rfl⟩ subT kr (fun hT10 => ?_)
 refine go [22,0,4294967294,0,22,1,4294967292,0] ?_
 refine G.takeT hT10 (i := 2) (rem' := 4294967288) rfl rfl rfl kr (fun _ _ _ h => h) rfl ((pv_eql rfl rfl).cast (v' := .bool true) (congrArg Value.bool (by exact decide_eq_true rfl))) subT ?_
 refine go [22,3,4294967280,0,22,4,4294967264,0,22,5,4294967232,0] ?_
 refine G.takeT hT10 (i := 6) (rem' := 4294967168) rfl rfl rfl kr (fun _ _ _ h => h) rfl ((pv_eql rfl rfl).cast (v' := .bool true) (congrArg Value.bool (by exact decide_eq_true rfl))) subT ?_
 refine go [22,7,4294967040,2,22,8,4294966784,0,22,9,4294966272,0,22,10,4294965248,0] ?_
 refine G.takeT hT10 (i := 11) (rem' := 4294963200) rfl rfl rfl kr (fun _ _ _ h => h) rfl ((pv_eql rfl rfl).cast (v' := .bool true) (congrArg Value.bool (by exact decide_eq_true rfl))) subT ?_
 refine go [22,12,4294959104,2,22,13,4294950912,0,22,14,4294934528,0,22,15,4294901760,0,24,16,4294836224] ?_
 refine G.turnOp rfl rfl (G.cR rfl rfl rfl rfl Tryz.func32 rfl rfl (may2 Y2 Y2) (same9 _ _ (bytesO a (its xs))) ?_)
 refine go [26,22,17,4294705152,2,22,18,4294443008,0,22,19,4293918720,0,24,20,4292870144,25,50,0,26,24,21,4290772992] ?_
 refine G.turnOp rfl rfl (G.cS rfl rfl rfl rfl Tryz.func38 rfl rfl subT (may1 (.old hv)) (midsR_tr a _ xs (by omega) hun (fun x hx => by have := hfe x hx; omega)) apT ?_)
 intro x69 hJ
 try dsimp only at hJ
 try dsimp only
 rw [hU]
 refine go [26,24,22,4286578688] ?_
 refine G.turnOp rfl rfl (G.cR rfl rfl rfl rfl Tryz.func37 rfl rfl (may2 Y2 Y2) (sameIDs9 _ _ U) ?_)
 refine go [26,22,23,4278190080,2,22,24,4261412864,0,22,25,4227858432,50,0,22,26,4160749568,50,0,22,27,4026531840,0,24,28,3758096384] ?_
 refine G.turnOp rfl rfl (G.cR rfl rfl rfl rfl Tryz.func39 rfl rfl may0 (numberedR_tr a _ q rfl) ?_)
 refine go [26,24,29,3221225472] ?_
 refine G.turnOp rfl rfl (G.cR rfl rfl rfl rfl Tryz.func13 rfl rfl (may2 (may_items selT selT (its_all hns hall)) (.old hv)) (sameM9 (⟨a.c, a.k, q, a.t⟩ : Mh) _ _ ns xs hns) ?_)
 refine go [26,22,30,2147483648,2,22,31,0,1,27,8,9,10,0] ?_
 refine G.op rfl (G.cS rfl rfl rfl rfl Tryz.func40 rfl rfl subT may0 (overB_tr _ _) apT ?_)
 intro x80 hJ
 try dsimp only at hJ
 try dsimp only
 refine go [7,8,9,10,2,50,0] ?_
 refine G.op rfl (G.cS rfl rfl rfl rfl Tryz.func15 rfl rfl subT may0 (overM_tr (⟨a.c, a.k, q, a.t⟩ : Mh) _ ns (by omega) (fun x hx => by have := hfn x hx; omega)) apT ?_)
 intro x82 hJ
 try dsimp only at hJ
 try dsimp only
 refine go [7,8,9,9,10,1,7,8,15] ?_
 refine G.ownOpen (v := x44) selT (fun a4 c4 h4 hk4 hm4 => ?_)
 subst h4
 obtain ⟨n4, hn4⟩ : ∃ n, U.length = n := ⟨_, rfl⟩
 obtain ⟨cs4, hcs4⟩ : ∃ cs, flatI U = cs := ⟨_, rfl⟩
 rw [hn4, hcs4]
 rw [hn4] at hk4 hul
 refine G.ownFact (v := .slice a4 n4 c4) selT (fun _ hcl4 => ?_)
 refine G.loopK (X := Nat × (List Value)) (ts := [2, 4, 5, 14, 16]) (fun st => st.1 ≤ n4 ∧ (st.2.length = n4 * 16)) (fun st => [(17, .int .i64 (st.1 : Int))]) (fun st => [own 66 16 (.slice a4 n4 c4) n4 st.2]) (fun st => n4 - st.1) (x0 := (0, cs4)) (.cons rfl (.cons rfl (.cons rfl (.cons rfl (.cons rfl .nil))))) subT (.cons .nil) apT (by first | exact trivial | ((try dsimp only) <;> exact ⟨Nat.zero_le _, hcl4⟩)) (.consE rfl veqT .nil) (fun st hJ => ?_)
 obtain ⟨j, cs⟩ := st
 try dsimp only at hJ
 try dsimp only
 obtain ⟨hkj, hJ⟩ := hJ
 have hcl := hJ
 refine go [9,9,10,0,0,2,5,2,9,7,8] ?_
 refine G.condP rfl (fun h86 => ?_) (fun h86 => ?_)
 ·have hjn : j < n4 := by omega
  refine go [13,8,9,15,10,0,0] ?_
  refine G.op rfl (G.val rfl rfl (pv_build (ps := [(0, .int .u8 9)]) (cells := (id9.map vByte).toArray) (fun _ _ => by simp [Act.eval]) kr) ?_)
  refine G.ownTo (v := .slice a4 n4 c4) selT (by omega) (fun g2 cap2 sp2 hvv2 hkc2 hmx2 hl2 hlen2 => ?_)
  injection hvv2 with e4 e5 e6
  refine G.op rfl (G.val rfl rfl (pv_ixSl (sz := 16) (k := j) Tryz.underlying60 kr rfl rfl (fun _ => e4) (by omega) (by omega)) ?_)
  refine G.op rfl (G.storeN (vs := id9.map vByte) kr rfl rfl kr selT (by rw [List.length_append, show (id9.map vByte).length = 16 from rfl]; omega) ?_)
  subst e4
  subst e6
  refine go [7,16,8,10,0,2,6,1,7] ?_
  rw [putN_app _ _ _ _ (by rw [show (id9.map vByte).length = 16 from rfl]; omega)]
  refine G.ownOf (sz := 16) (k := n4) (cs := putN cs (0 + j * 16) (id9.map vByte)) (sp := sp2) selT (by rw [putN_len]; exact hcl) (by omega) hmx2 (by rw [List.length_append, putN_len]; rw [List.length_append] at hl2; exact hl2) ?_
  exact G.next ((j + 1, putN cs (0 + j * 16) (id9.map vByte))) (by first | exact trivial | ((try dsimp only) <;> exact ⟨by omega, (by rw [putN_len]; exact hcl)⟩)) (by (try dsimp only); omega) (.consE rfl veqT (.cons rfl (.cons rfl (.cons rfl (.cons rfl (.cons rfl .nil)))))) subT
 refine go [18,14,14,19,8,9,10,0,0,3,50,0,3,50,0] ?_
 refine G.want rfl rfl rfl (G.cR rfl rfl rfl rfl Tryz.func13 rfl rfl (may2 (may_items selT selT (its_all his hall)) (.old hv)) (sameM9 a _ _ is xs his) ?_)
 refine go [2,2,0] ?_
 refine G.want rfl rfl rfl (G.cR rfl rfl rfl rfl Tryz.func9 rfl rfl may0 (awake9_tr) ?_)
 refine go [2,2,1,7,8,11] ?_
 exact G.done0G rfl (Rv.tmp rfl Rv.nil) Y6
end Go.Proofs.YtbfpbibkklfnfaaGreat
set_option maxRecDepth 100000
set_option linter.unusedVariables false
set_option linter.unusedSimpArgs false
namespace Go.Proofs.YtbfpbibkklfnfaaGreat
open Go.ChangeShapes Go.WideShapes Go.ChangeAt Go.RowKit Go.Deep
section
variable {H : Type} {enc : TypeId × Value → H} {W : World}
theorem opn_rID : Opn H enc Tryz.prog W 66 rID := opn_arr Tryz.underlying66 kr (opn_byte Tryz.underlying5 kr)
theorem opn_item : Opn H enc Tryz.prog W 80 rIT := by
 refine opn_weak (opn_struct Tryz.underlying80 (F := rProd rStrB (rProd rInt (rProd rInt (rProd rInt (rProd rStrB (rProd (rSlB rID) rUnit)))))) kr
  (.cons (opn_str Tryz.underlying9 kr) rfl (.cons (opn_int Tryz.underlying3 kr) rfl (.cons (opn_int Tryz.underlying3 kr) rfl (.cons (opn_int Tryz.underlying3 kr) rfl (.cons (opn_str Tryz.underlying9 kr) rfl
   (.cons (opn_rSl Tryz.underlying60 kr (of_decide_eq_true kr) opn_rID (by decide)) rfl .nil))))))) rfl ?_
 rintro Ps w b o ⟨a0, a1, a2, a3, a4, a5, _⟩ ⟨⟨hb, h0, l0⟩, ⟨_, h1, l1⟩, ⟨_, h2, l2⟩, ⟨_, h3, l3⟩, ⟨_, h4, l4⟩, ⟨⟨_, d, h5, hd⟩, l5⟩, _⟩
 refine ⟨(⟨a0, a1, a2, a3, a4, a5⟩, d), hb, fun j v hj => ?_, hd, l1, l2, l3, l0, l4, l5⟩
 have hlt : j < 6 := by
  have := (List.getElem?_eq_some_iff.1 hj).1
  exact this
 rcases (by omega : j = 0 ∨ j = 1 ∨ j = 2 ∨ j = 3 ∨ j = 4 ∨ j = 5) with rfl | rfl | rfl | rfl | rfl | rfl
 ·obtain rfl : _ = v := Option.some.inj hj
  exact h0
 ·obtain rfl : _ = v := Option.some.inj hj
  exact h1
 ·obtain rfl : _ = v := Option.some.inj hj
  exact h2
 ·obtain rfl : _ = v := Option.some.inj hj
  exact h3
 ·obtain rfl : _ = v := Option.some.inj hj
  exact h4
 obtain rfl : _ = v := Option.some.inj hj
 exact h5
theorem opn_chunk : Opn H enc Tryz.prog W 71 rCT := by
 refine opn_weak (opn_struct Tryz.underlying71 (F := rProd rID (rProd (rSlB rByte) rUnit)) kr
  (.cons opn_rID rfl (.cons (opn_rSl Tryz.underlying39 kr (of_decide_eq_true kr) (opn_byte Tryz.underlying5 kr) (by decide)) rfl .nil))) rfl ?_
 rintro Ps w b o ⟨a0, a1, _⟩ ⟨⟨e0, h0⟩, ⟨⟨hb, d, h1, hd⟩, l1⟩, _⟩
 refine ⟨((a0, a1), d), hb, fun j v hj => ?_, hd, e0, l1⟩
 have e0 : a0.length = 16 := e0
 have hlt : j < 17 := by
  have := (List.getElem?_eq_some_iff.1 hj).1
  rwa [chC_len] at this
 unfold chC at hj
 simp only [pad16_eq e0] at hj
 by_cases hj16 : j < 16
 ·rw [List.getElem?_append_left (by rw [List.length_map]; omega), List.getElem?_map, List.getElem?_eq_getElem (by omega)] at hj
  obtain rfl : _ = v := Option.some.inj hj
  have h2 := (h0 j (by omega)).2.1
  rwa [show o + j * rByte.sz = o + j from by show o + j * 1 = _; omega] at h2
 obtain rfl : j = 16 := by omega
 rw [List.getElem?_append_right (by rw [List.length_map]; omega), List.length_map, e0] at hj
 obtain rfl : _ = v := Option.some.inj hj
 exact h1
theorem opn_chunks {v : Value} {d : DataW H} {p : List MemPlace} {r : Reach} {base : Nat} (hok : Value.okWide Tryz.prog W r base 29 v) (h : DataW.Trod enc Tryz.prog W 0 (fun _ => true) true 29 v d p)
 {ts : List TypeId} {ds : List (DataW H)} {j : Nat} (hsz : (DataW.weightsEach Tryz.prog ts ds).all (· ≤ reachBytes) = true) (hts : ts[j]? = some 29) (hds : ds[j]? = some d) :
 ∃ xs : List CT, Ro W (fun _ => False) (slc rCT (· < W.heap.size) v xs) ∧ xs.length ≤ 140737488355328 :=
 opn_arg Tryz.underlying29 (of_decide_eq_true kr) opn_chunk (by decide) hok h hsz hts hds
theorem open_man {v : Value} {d : DataW H} {p : List MemPlace} {r : Reach} {base : Nat} (hok : Value.okWide Tryz.prog W r base 28 v) (h : DataW.Trod enc Tryz.prog W 0 (fun _ => true) true 28 v d p)
 {ts : List TypeId} {ds : List (DataW H)} {j : Nat} (hsz : (DataW.weightsEach Tryz.prog ts ds).all (· ≤ reachBytes) = true) (hts : ts[j]? = some 28) (hds : ds[j]? = some d) :
 ∃ (a : Mh) (u : Value) (xs : List IT), v = .agg #[.int .i64 a.c, .int .i64 a.k, .int .i64 a.n, .int .i64 a.t, u] ∧ (I64 a.c ∧ I64 a.k ∧ I64 a.n ∧ I64 a.t) ∧ Ro W (fun _ => False) (slc rIT (· < W.heap.size) u xs) ∧ xs.length ≤ 140737488355328 := by
 obtain ⟨cs, rfl, hcs⟩ := okWide_struct Tryz.underlying28 hok
 rw [show Tryz.prog.cellsOf 28 = 5 by kernel_rfl] at hcs
 obtain ⟨fuel, hf⟩ := h
 obtain ⟨xs, n, rfl, hx, hl, hxl, hxx⟩ := DataW.trod_struct Tryz.underlying28 hf
 have hw : ∀ k ∈ DataW.weights Tryz.prog 28 d, k ≤ reachBytes := fun k hk => of_decide_eq_true (List.all_eq_true.1 hsz k (DataW.weights_mem_each hts hds k hk))
 have hd : d = .agg (xs.map (·.1)) := congrArg Prod.fst hx
 subst hd
 simp only [DataW.weights, Tryz.underlying28] at hw
 obtain ⟨c0, c1, c2, c3, c4, rfl⟩ : ∃ c0 c1 c2 c3 c4, cs = #[c0, c1, c2, c3, c4] := by
  obtain ⟨l⟩ := cs
  match l, hcs with
  | [c0, c1, c2, c3, c4], _ => exact ⟨c0, c1, c2, c3, c4, rfl⟩
 obtain ⟨y0, y1, y2, y3, y4, rfl⟩ : ∃ y0 y1 y2 y3 y4, xs = [y0, y1, y2, y3, y4] := by
  match xs, hxl with
  | [y0, y1, y2, y3, y4], _ => exact ⟨y0, y1, y2, y3, y4, rfl⟩
 have f0 : DataW.trod enc Tryz.prog W 0 (fun _ => true) true n 3 (([c0, c1, c2, c3, c4].drop 0).take (Tryz.prog.cellsOf 3)) = some y0 := hxx 0 _ rfl
 have f1 : DataW.trod enc Tryz.prog W 0 (fun _ => true) true n 3 (([c0, c1, c2, c3, c4].drop 1).take (Tryz.prog.cellsOf 3)) = some y1 := hxx 1 _ rfl
 have f2 : DataW.trod enc Tryz.prog W 0 (fun _ => true) true n 3 (([c0, c1, c2, c3, c4].drop 2).take (Tryz.prog.cellsOf 3)) = some y2 := hxx 2 _ rfl
 have f3 : DataW.trod enc Tryz.prog W 0 (fun _ => true) true n 3 (([c0, c1, c2, c3, c4].drop 3).take (Tryz.prog.cellsOf 3)) = some y3 := hxx 3 _ rfl
 have f4 : DataW.trod enc Tryz.prog W 0 (fun _ => true) true n 26 (([c0, c1, c2, c3, c4].drop 4).take (Tryz.prog.cellsOf 26)) = some y4 := hxx 4 _ rfl
 rw [show Tryz.prog.cellsOf 3 = 1 by kernel_rfl] at f0 f1 f2 f3
 rw [show Tryz.prog.cellsOf 26 = 1 by kernel_rfl] at f4
 obtain ⟨k0, e0, _, w0⟩ := DataW.trod_int Tryz.underlying3 f0
 obtain ⟨k1, e1, _, w1⟩ := DataW.trod_int Tryz.underlying3 f1
 obtain ⟨k2, e2, _, w2⟩ := DataW.trod_int Tryz.underlying3 f2
 obtain ⟨k3, e3, _, w3⟩ := DataW.trod_int Tryz.underlying3 f3
 obtain ⟨u4, ms, e4, h4, l4⟩ := opn_slice (E := rIT) Tryz.underlying26 (of_decide_eq_true kr) opn_item (by decide) n _ _ f4 (fun q hq => hw q (DataW.weights_mem_each (j := 4) rfl rfl q hq))
 have g0 : c0 = .int .i64 k0 := by simpa [Value.cells] using e0
 have g1 : c1 = .int .i64 k1 := by simpa [Value.cells] using e1
 have g2 : c2 = .int .i64 k2 := by simpa [Value.cells] using e2
 have g3 : c3 = .int .i64 k3 := by simpa [Value.cells] using e3
 have g4 : c4 = u4 := by simpa [Value.cells] using e4
 subst g0 g1 g2 g3 g4
 exact ⟨⟨k0, k1, k2, k3⟩, _, ms, rfl, ⟨wf_I64 w0, wf_I64 w1, wf_I64 w2, wf_I64 w3⟩, ro_new h4 fun b hb => hb, l4⟩
end
end Go.Proofs.YtbfpbibkklfnfaaGreat
namespace Go.Proofs.YtbfpbibkklfnfaaGreat
open Go.RowKit
set_option linter.unusedVariables false
set_option linter.unusedSimpArgs false
theorem ndat_ge {ms : List (List UInt8 × List UInt8)} {x : List UInt8 × List UInt8} (h : x ∈ ms) : x.2.length ≤ ndatM ms := by
 induction ms with
 | nil => cases h
 | cons y ms ih =>
  have e1 : ndatM (y :: ms) = y.2.length + ndatM ms := by simp [ndatM]
  rcases List.mem_cons.1 h with rfl | h
  ·omega
  have := ih h
  omega
theorem cks_small {zs : List CT} {k r : Int} (h : ¬ bigC (cks zs) k r) : ∀ x ∈ zs, (x.1.2.length : Int) ≤ r := fun x hx => by
 have h1 := ndat_ge (ms := cks zs) (List.mem_map.2 ⟨x, hx, rfl⟩)
 unfold bigC at h
 omega
theorem buildM_en {a : Mh} {ms : List It} {cs : List (List UInt8 × List UInt8)} (hI : ∀ x ∈ ms, ItOk x ∧ all16 x.ids) (hf : ∀ x ∈ ms, x.ids.length ≤ 400) (hd : ∀ id, (foundM cs id).1.length ≤ 100000) : (∀ e ∈ (buildM a ms cs).1, EnOk e) ∧ (buildM a ms cs).1.length ≤ ms.length := by
 unfold buildM
 split
 ·exact ⟨fun e he => (by cases he), Nat.zero_le _⟩
 split
 ·exact ⟨fun e he => (by cases he), Nat.zero_le _⟩
 refine ⟨fun e he => ?_, by show (ms.map (mkE cs)).length ≤ _; rw [List.length_map]; exact Nat.le_refl _⟩
 obtain ⟨x, hx, rfl⟩ := List.mem_map.1 he
 obtain ⟨⟨h1, h2, h3, h4, h5, h6⟩, -⟩ := hI x hx
 have h7 := datOf_len cs hd x.ids
 have h8 := hf x hx
 exact ⟨h1, h2, h4, by show (datOf cs x.ids).length ≤ _; omega, h5⟩
set_option maxRecDepth 20000 in
set_option maxHeartbeats 4000000 in
theorem mbuildsL {Ps Pz : Nat → Prop} (a : Mh) (v vz : Value) (xs : List IT) (zs : List CT) : Tr Tryz.prog 5 #[.agg #[.int .i64 a.c, .int .i64 a.k, .int .i64 a.n, .int .i64 a.t, v], vz] [slc rIT Ps v xs, slc rCT Pz vz zs] [] (T0 (.bool true)) := by
 refine Tr.of (l := [(0, .agg #[.int .i64 a.c, .int .i64 a.k, .int .i64 a.n, .int .i64 a.t, v]), (1, vz)]) Tryz.func5 rfl (n := 59) rfl (.cons rfl (.cons rfl .nil)) (fun w0 hro => ?_)
 obtain ⟨hx0, hz0⟩ := ro2 hro
 have hv := hx0
 have hv' := hv
 obtain ⟨av, cv, bv, fv, rfl, hcapv, hmaxv, hnilv, hadv, helv⟩ := Ro.open hv
 have hel' := its_length xs
 have hI := Ro.allI helv
 have hall : ∀ x ∈ its xs, ItOk x ∧ all16 x.ids := fun x hx => by obtain ⟨y, hy, rfl⟩ := List.mem_map.1 hx; exact ⟨(hI y hy).1, (hI y hy).2.1⟩
 have hzv := hz0
 obtain ⟨az, cz, bz, fz, rfl, -, -, -, -, helz⟩ := Ro.open hzv
 have hcl' := cks_length zs
 refine go [9,10,60,0] ?_
 intro b2
 refine go [1,7,8,9,9] ?_
 refine G.cutK (X := Unit) (ts := [1, 2, 4]) (p := []) (fun _ => True) (fun _ => [(17, .bool (decide (bigI (its xs) 40 ∨ bigC (cks zs) 60 20000)))]) (fun _ => []) (.cons rfl (.cons rfl (.cons rfl .nil))) subT (.cons .nil) apT ?_ ?_
 ·refine go [10,2,50,0] ?_
  refine G.op rfl (G.cR rfl rfl rfl rfl Tryz.func22 rfl rfl (may1 (.old hv)) (bigM_tr a _ xs 40 (by omega)) ?_)
  refine go [0] ?_
  refine G.partP (t := 14) rfl (fun h14 => ?_) (fun h14 => ?_)
  ·refine go [4,4,2,2,7] ?_
   exact G.meet (()) trT (.consE rfl Y42 (.cons rfl (.cons rfl (.cons rfl .nil)))) subT
  refine go [3,0] ?_
  refine G.want rfl rfl rfl (G.cR rfl rfl rfl rfl Tryz.func23 rfl rfl (may1 (.old hz0)) (bigC_tr _ zs 60 20000 (by omega)) ?_)
  refine go [2,2,7] ?_
  exact G.meet (()) trT (.consE rfl Y42 (.cons rfl (.cons rfl (.cons rfl .nil)))) subT
 intro _ hJ
 try dsimp only at hJ
 try dsimp only
 refine G.condP rfl (fun h17 => ?_) (fun h17 => ?_)
 ·refine go [9,10] ?_
  refine G.op rfl (G.cR rfl rfl rfl rfl Tryz.func9 rfl rfl may0 (awake9_tr) ?_)
  refine go [1,7,8,11,12] ?_
  exact G.done0G rfl (Rv.tmp rfl Rv.nil) Y6
 obtain ⟨hnb, hnc⟩ := not_or.1 h17
 have hxl : xs.length ≤ 40 := by unfold bigI at hnb; omega
 have hzl : zs.length ≤ 60 := by unfold bigC at hnc; omega
 have hnid : nidM (its xs) ≤ 400 := by unfold bigI at hnb; omega
 have hfe := nid_few hnid
 have hds := cks_small hnc
 have hcal : ∀ p ∈ cks zs, p.1.length = 16 ∧ p.2.length ≤ 20000 := fun p hp => by obtain ⟨x, hx, rfl⟩ := List.mem_map.1 hp; obtain ⟨q, hq, rfl⟩ := List.getElem_of_mem hx; exact ⟨Ro.ckID (helz q hq), by have := hds _ (List.getElem_mem hq); omega⟩
 have hfm : ∀ x ∈ its xs, x.ids.length ≤ 400 := fun x hx => by obtain ⟨y, hy, rfl⟩ := List.mem_map.1 hx; exact hfe y hy
 have hbd : ∀ x ∈ zs, x.1.2.length ≤ 100000 := fun x hx => by have := hds x hx; omega
 obtain ⟨hen, hel40⟩ := buildM_en (a := a) hall hfm (fun id => found_len hbd id)
 obtain ⟨R, hR⟩ : ∃ R, buildM a (its xs) (cks zs) = R := ⟨_, rfl⟩
 rw [hR] at hen hel40
 refine go [13,8,9,10,2,50,0] ?_
 refine G.op rfl (G.cS rfl rfl rfl rfl Tryz.func24 rfl rfl subT (may1 (.old hv)) (copyM_tr a _ xs (by omega) (fun x hx => by have := hfe x hx; omega)) apT ?_)
 intro x20 hJ
 obtain ⟨iv, is⟩ := x20
 try dsimp only at hJ
 try dsimp only
 have his : its is = its xs := hJ
 have hisl : is.length = xs.length := by rw [← its_length, his, its_length]
 have hfi : ∀ x ∈ is, x.1.ids.length ≤ 400 := nid_few (by rw [his]; exact hnid)
 refine G.ownFact (v := iv) selT (fun hiv _ => ?_)
 refine go [0] ?_
 refine G.op rfl (G.cS rfl rfl rfl rfl Tryz.func25 rfl rfl subT (may1 (.old hz0)) (copyC_tr _ zs (by omega)) apT ?_)
 intro x22 hJ
 obtain ⟨cv, cs⟩ := x22
 try dsimp only at hJ
 try dsimp only
 have hcs : cks cs = cks zs := hJ
 refine G.ownFact (v := cv) selT (fun hcv _ => ?_)
 refine go [60,3] ?_
 intro b5
 refine go [20,1,7,8,9,10,2,50,0,0] ?_
 refine G.op rfl (G.cS rfl rfl rfl rfl Tryz.func26 rfl rfl subT (may2 (may_items selT selT (its_all his hall)) (may_chunks selT selT (fun x hx => by have := cks_all hcs hcal x hx; exact ⟨this.1, by omega⟩))) (mbuild_tr a _ _ is cs (fun x hx => by have := hfi x hx; omega) (fun x hx => by have := (cks_all hcs hcal x hx).2; omega)) apT ?_)
 intro x26 hJ
 obtain ⟨bv, bs⟩ := x26
 try dsimp only at hJ
 try dsimp only
 rw [his, hcs, hR] at hJ
 rw [his, hcs, hR]
 have hbs : ens bs = R.1 := hJ
 have hbsl : bs.length ≤ 40 := by rw [← ens_length, hbs]; omega
 have hbok : ∀ x ∈ bs, EnOk x.1 := fun x hx => hen _ (by rw [← hbs]; exact List.mem_map.2 ⟨x, hx, rfl⟩)
 refine G.ownFact (v := bv) selT (fun hbv _ => ?_)
 refine go [0,2,7,2,7,1,1,7,8,9,10,2,50,0,0] ?_
 refine G.op rfl (G.cS rfl rfl rfl rfl Tryz.func27 rfl rfl subT (may2 (.old hv) (.old hz0)) (mbuildR_tr a _ _ xs zs (fun x hx => by have := hfe x hx; omega) (fun x hx => by have := hds x hx; omega)) apT ?_)
 intro x32 hJ
 obtain ⟨wv, ws⟩ := x32
 try dsimp only at hJ
 try dsimp only
 rw [hR] at hJ
 rw [hR]
 have hws : ens ws = R.1 := hJ
 have hwok : ∀ x ∈ ws, EnOk x.1 := fun x hx => hen _ (by rw [← hws]; exact List.mem_map.2 ⟨x, hx, rfl⟩)
 refine G.ownFact (v := wv) selT (fun hwv _ => ?_)
 refine go [0,2,7,2,7,1,1,7,8,9,10,0,0] ?_
 refine G.op rfl (G.val rfl rfl ((pv_eql rfl rfl).cast (v' := .bool true) (congrArg Value.bool (by exact decide_eq_true rfl))) ?_)
 refine go [0,3,0,3,0] ?_
 refine G.want rfl rfl rfl (G.cR rfl rfl rfl rfl Tryz.func17 rfl rfl (may2 (may_tree selT selT hbok) (may_tree selT selT hwok)) (sameT9 _ _ bs ws (hbs.trans hws.symm)) ?_)
 refine go [2,2,1,7,8,9,10,0] ?_
 refine G.op rfl (G.cS rfl rfl rfl rfl Tryz.func28 rfl rfl subT may0 (overT_tr _ bs (by omega)) apT ?_)
 intro x44 hJ
 try dsimp only at hJ
 try dsimp only
 refine go [7,8,9,10,0,0,3,50,0,3,50,0] ?_
 refine G.want rfl rfl rfl (G.cR rfl rfl rfl rfl Tryz.func13 rfl rfl (may2 (may_items selT selT (its_all his hall)) (.old hv)) (sameM9 a _ _ is xs his) ?_)
 refine go [2,2,0,3,0,3,0] ?_
 refine G.want rfl rfl rfl (G.cR rfl rfl rfl rfl Tryz.func14 rfl rfl (may2 (may_chunks selT selT (fun x hx => by have := cks_all hcs hcal x hx; exact ⟨this.1, by omega⟩)) (.old hz0)) (sameC9 _ _ cs zs hcs) ?_)
 refine go [2,2,0] ?_
 refine G.want rfl rfl rfl (G.cR rfl rfl rfl rfl Tryz.func9 rfl rfl may0 (awake9_tr) ?_)
 refine go [2,2,1,7,8,11] ?_
 exact G.done0G rfl (Rv.tmp rfl Rv.nil) Y6
end Go.Proofs.YtbfpbibkklfnfaaGreat
