/- Contracts of layer 3's reference: the digest of bytes, their name. Conditions: the slice lies in memory. -/
import Derived.Test.YtcgknadodpdblaaDigJ
set_option linter.unusedVariables false
set_option linter.unusedSimpArgs false
namespace Go.Proofs.Ytcgknadodpdblaa
open Go.RowKit

def put8' (w : World) (D : Nat) (g : Nat → Int) : World :=
  (((((((w.setCell ⟨D, 0, none⟩ (.int .u32 (g 0))).setCell ⟨D, 1, none⟩ (.int .u32 (g 1))).setCell ⟨D, 2, none⟩ (.int .u32 (g 2))).setCell ⟨D, 3, none⟩ (.int .u32 (g 3))).setCell ⟨D, 4, none⟩ (.int .u32 (g 4))).setCell ⟨D, 5, none⟩ (.int .u32 (g 5))).setCell ⟨D, 6, none⟩ (.int .u32 (g 6))).setCell ⟨D, 7, none⟩ (.int .u32 (g 7))
theorem put8'_below {B : Nat} {w w1 : World} {D : Nat} {g : Nat → Int} (h : Below B w w1) (hD : B ≤ D) : Below B w (put8' w1 D g) :=
  (((((((h.setCell (by exact hD) _).setCell (by exact hD) _).setCell (by exact hD) _).setCell (by exact hD) _).setCell (by exact hD) _).setCell (by exact hD) _).setCell (by exact hD) _).setCell (by exact hD) _
theorem put8'_other {w : World} {D g n : Nat} {T : TypeId} {f : Nat → Value} {k : Nat → Int} (h : w.rowIs g T n f) (hD : g ≠ D) : (put8' w D k).rowIs g T n f :=
  (((((((h.setOther (a := ⟨D, 0, none⟩) hD _).setOther (a := ⟨D, 1, none⟩) hD _).setOther (a := ⟨D, 2, none⟩) hD _).setOther (a := ⟨D, 3, none⟩) hD _).setOther (a := ⟨D, 4, none⟩) hD _).setOther (a := ⟨D, 5, none⟩) hD _).setOther (a := ⟨D, 6, none⟩) hD _).setOther (a := ⟨D, 7, none⟩) hD _
theorem put8'_row {w : World} {D : Nat} {T : TypeId} {f : Nat → Value} (h : w.rowIs D T 8 f) (s : List Int) : (put8' w D (gI s)).rowIs D T 8 (fun j => .int .u32 (gI s j)) := by
  unfold put8'
  refine ((((((((h.set 0 _).set 1 _).set 2 _).set 3 _).set 4 _).set 5 _).set 6 _).set 7 _).congr fun i hi => ?_
  have : i = 0 ∨ i = 1 ∨ i = 2 ∨ i = 3 ∨ i = 4 ∨ i = 5 ∨ i = 6 ∨ i = 7 := by omega
  rcases this with rfl | rfl | rfl | rfl | rfl | rfl | rfl | rfl <;> rfl

/-- what lies in memory in the reference's rounds -/
structure RefAt (w wr : World) (N : Nat) (v : Value) (x : List UInt8) (s : List Int) : Prop where
  below : Below N w wr
  r0 : wr.rowIs N 25 32 (fun _ => .int .u8 0)
  s8 : wr.rowIs (N + 1) 40 8 (fun j => .int .u32 (gI s j))
  xs : SlP RByte 1 (N + 2 ≤ ·) wr v x
theorem RefAt.drew {w wr : World} {N : Nat} {v : Value} {x : List UInt8} {s : List Int} (h : RefAt w wr N v x s) : RefAt w wr.drew N v x s :=
  ⟨h.below.drew, h.r0.drew, h.s8.drew, h.xs.chg (S := fun _ => True) fun _ _ _ _ r => r⟩
theorem RefAt.after {w wr w' : World} {N : Nat} {v : Value} {x : List UInt8} {s : List Int} (h : RefAt w wr N v x s) (hb : Below wr.heap.size wr w') : RefAt w w' N v x s :=
  ⟨h.below.trans (hb.mono (by have := h.r0.lt; omega)), h.r0.of_block (hb.block _ h.r0.lt), h.s8.of_block (hb.block _ h.s8.lt), h.xs.bytes (S := fun _ => False) (Chg.of_below hb fun k hk _ => hk) fun _ _ h => h⟩
theorem put8'_chg {S : Nat → Prop} {w w1 : World} {D : Nat} {g : Nat → Int} (h : Chg S w w1) (hD : S D) : Chg S w (put8' w1 D g) :=
  (((((((h.setCell (p := ⟨D, 0, none⟩) hD _).setCell (p := ⟨D, 1, none⟩) hD _).setCell (p := ⟨D, 2, none⟩) hD _).setCell (p := ⟨D, 3, none⟩) hD _).setCell (p := ⟨D, 4, none⟩) hD _).setCell (p := ⟨D, 5, none⟩) hD _).setCell (p := ⟨D, 6, none⟩) hD _).setCell (p := ⟨D, 7, none⟩) hD _
theorem RefAt.put {w wr : World} {N : Nat} {v : Value} {x : List UInt8} {s : List Int} (h : RefAt w wr N v x s) (s' : List Int) : RefAt w (put8' wr (N + 1) (gI s')) N v x s' :=
  ⟨put8'_below h.below (by omega), put8'_other h.r0 (by omega), put8'_row h.s8 s', h.xs.bytes (S := (· = N + 1)) (put8'_chg (Chg.refl _ _) rfl) fun b hb e => by omega⟩
theorem SlP.bound {P : Nat → Prop} {w : World} {v : Value} {xs : List UInt8} (h : SlP RByte 1 P w v xs) : SlByte w.heap.size w v xs := by
  obtain ⟨a, b, off, cap, h1, h2, h3, h4, h5, h6⟩ := h
  exact ⟨a, b, off, cap, h1, h2, h3, h4, fun hp => ⟨(h5 hp).1, cell_lt (h6 0 hp)⟩, h6⟩
theorem row8_kept {w w1 : World} {D : Nat} {T : TypeId} {s : List Int} (h : w.rowIs D T 8 (fun j => .int .u32 (gI s j))) (hb : Below w.drew.heap.size w.drew w1) :
    w1.cell? ⟨D, 0, none⟩ = some (.int .u32 (gI s 0)) ∧ w1.cell? ⟨D, 1, none⟩ = some (.int .u32 (gI s 1)) ∧ w1.cell? ⟨D, 2, none⟩ = some (.int .u32 (gI s 2)) ∧ w1.cell? ⟨D, 3, none⟩ = some (.int .u32 (gI s 3)) ∧
    w1.cell? ⟨D, 4, none⟩ = some (.int .u32 (gI s 4)) ∧ w1.cell? ⟨D, 5, none⟩ = some (.int .u32 (gI s 5)) ∧ w1.cell? ⟨D, 6, none⟩ = some (.int .u32 (gI s 6)) ∧ w1.cell? ⟨D, 7, none⟩ = some (.int .u32 (gI s 7)) ∧
    w1.frozen? ⟨D, 0, none⟩ = false ∧ w1.frozen? ⟨D, 1, none⟩ = false ∧ w1.frozen? ⟨D, 2, none⟩ = false ∧ w1.frozen? ⟨D, 3, none⟩ = false ∧ w1.frozen? ⟨D, 4, none⟩ = false ∧ w1.frozen? ⟨D, 5, none⟩ = false ∧ w1.frozen? ⟨D, 6, none⟩ = false ∧ w1.frozen? ⟨D, 7, none⟩ = false := by
  have hr := h.drew.of_block (hb.block D h.lt)
  exact ⟨hr.cell (by omega), hr.cell (by omega), hr.cell (by omega), hr.cell (by omega), hr.cell (by omega), hr.cell (by omega), hr.cell (by omega), hr.cell (by omega), hr.frozen _, hr.frozen _, hr.frozen _, hr.frozen _, hr.frozen _, hr.frozen _, hr.frozen _, hr.frozen _⟩

/-- what lies in memory while the answer is told -/
structure OutAt (w wr : World) (N P : Nat) (s : List Int) (k : Nat) : Prop where
  below : Below N w wr
  hNP : N + 1 < P
  r0 : wr.rowIs N 25 32 (fun _ => .int .u8 0)
  s8 : wr.rowIs (N + 1) 40 8 (fun j => .int .u32 (gI s j))
  r1 : wr.rowIs P 25 32 (byteF (outTo s k))
theorem OutAt.put {w wr : World} {N P k : Nat} {s : List Int} (h : OutAt w wr N P s k) (hk : k < 32) (h0 : 0 ≤ gI s (k / 4)) : OutAt w (wr.setCell ⟨P, k, none⟩ (.int .u8 (gI s (k / 4) / 2 ^ (24 - 8 * (k % 4)) % 256))) N P s (k + 1) where
  below := h.below.setCell (by have := h.hNP; show N ≤ P; omega) _
  hNP := h.hNP
  r0 := h.r0.setOther (by have := h.hNP; show N ≠ P; omega) _
  s8 := h.s8.setOther (by have := h.hNP; show N + 1 ≠ P; omega) _
  r1 := (h.r1.set k _).congr fun i hi => by
    unfold byteF
    rw [outTo_get _ _ _ hi, outTo_get _ _ _ hi]
    by_cases e : i = k
    · subst e
      rw [if_pos rfl, if_pos (by omega)]
      have := outB_quot s (i / 4) (i % 4) (by omega) h0
      rw [show 4 * (i / 4) + i % 4 = i by omega] at this
      rw [this]
    · rw [if_neg e]
      by_cases h1 : i < k
      · rw [if_pos h1, if_pos (by omega)]
      · rw [if_neg h1, if_neg (by omega)]
set_option maxHeartbeats 2000000 in
set_option maxRecDepth 20000 in
theorem sumR_any (B : Nat) (v : Value) (b : List UInt8) (w : World) (hB : B ≤ w.heap.size) (hv : SlByte B w v b) (hl : b.length ≤ 1000000) :
    Calls Try.prog 13 #[v] w fun e w' => e = .returned (aggB (sumM b)) ∧ Below w.heap.size w w' := by
  have HV := Lib.hid hv; have HL := Lib.hid hl; clear hv hl
  go_enter Try.func13, Try.ntmps13
  go_upto_region 2 with fail
  generalize hW2 : World.alloc (World.alloc w _) _ = W2
  have hb2 : Below w.heap.size w W2 := by subst hW2; exact ((Below.refl _ _).alloc (Nat.le_refl _) _).alloc (by simp) _
  have hr0 : W2.rowIs w.heap.size 25 32 (fun _ => .int .u8 0) := by
    subst hW2; exact (zeros_row w _ _ _ 32 (by kernel_rfl)).alloc _
  have hr8 : W2.rowIs (w.heap.size + 1) 40 8 (fun j => .int .u32 (gI firstM j)) := by
    subst hW2
    have := World.rowIs_alloc (w.alloc (.cells (Array.replicate 32 (Value.int .u8 0)) 25)) #[.int .u32 (gI firstM 0), .int .u32 (gI firstM 1), .int .u32 (gI firstM 2), .int .u32 (gI firstM 3), .int .u32 (gI firstM 4), .int .u32 (gI firstM 5), .int .u32 (gI firstM 6), .int .u32 (gI firstM 7)] 40 (fun j => .int .u32 (gI firstM j)) (fun i hi => row8 firstM i hi)
    rw [World.size_alloc] at this
    exact this
  have hz2 : W2.heap.size = w.heap.size + 2 := by subst hW2; simp
  clear hW2
  have HB2 := Lib.hid hb2; have HR0 := Lib.hid hr0; have HR8 := Lib.hid hr8; have HZ2 := Lib.hid hz2
  clear hb2 hr0 hr8 hz2
  go_wp2_with fail
  refine (fill_any B v b W2 (Nat.le_trans hB HB2.out.size) (SlByte.below HV.out (HB2.out.mono hB) (Nat.le_refl _)) HL.out).mono ?_
  rintro e w3 ⟨x, rfl, hx, hb3⟩
  have hR : RefAt w w3 w.heap.size x (b ++ padM b.length) (stateN firstM (b ++ padM b.length) 0) :=
    ⟨HB2.out.trans (hb3.mono HB2.out.size), HR0.out.of_block (hb3.block _ HR0.out.lt), HR8.out.of_block (hb3.block _ HR8.out.lt), hx.imp fun k hk => by have := HZ2.out; omega⟩
  obtain ⟨M, hM⟩ : ∃ M, (b ++ padM b.length).length = 64 * M := by
    refine ⟨(b.length + 72) / 64, ?_⟩
    rw [List.length_append, padM_length]
    omega
  obtain ⟨L, hLL⟩ : ∃ L, L = b ++ padM b.length := ⟨_, rfl⟩
  rw [← hLL] at hR hM
  have hMb : 64 * M ≤ 1000072 := by
    rw [← hM, hLL, List.length_append, padM_length]; have := HL.out; omega
  obtain ⟨ax, bx, ox, cx, hx1, hx2, hx3, hx4, hx5, hx6⟩ := id hR.xs
  rw [hM] at hx1 hx2
  have hcb : cx ≤ 9223372036854775807 := by unfold maxLen at hx3; omega
  subst hx1
  have HR := Lib.hid hR; have HLL := Lib.hid hLL; have HM := Lib.hid hM
  clear hR hLL hM hx hb3 hx3 hx4 hx5 hx6 HV
  go_wp2_with fail
  go_loopw [5] (fun i wr => ∃ k : Nat, k ≤ M ∧ i = .int .i64 ((64 * k : Nat) : Int) ∧ RefAt w wr w.heap.size (.slice ax (64 * M) cx) L (stateN firstM L k)) (fun i _ => (64 * (M : Int) - intOf i).toNat)
  case atStart => exact ⟨0, Nat.zero_le _, rfl, HR.out⟩
  case round =>
    obtain ⟨k, hk, rfl, hE⟩ := hrel
    obtain ⟨at_, hat⟩ : ∃ at_, at_ = 64 * k := ⟨_, rfl⟩
    obtain ⟨ln, hln⟩ : ∃ ln, ln = 64 * M := ⟨_, rfl⟩
    rw [← hat]
    rw [← hln] at hx2 hE hMb ⊢
    by_cases hlt : k < M
    · have h64 : at_ + 64 ≤ ln := by omega
      have hsub := run_sub (P := Try.prog) Try.underlying22 sizeByte ax ln cx at_ (at_ + 64) .i64 .i64 (by omega) (by omega)
      rw [show ((at_ + 64 : Nat) : Int) = (at_ : Int) + 64 by omega] at hsub
      have hsp := hE.xs.sub (l := at_) (h := at_ + 64) (by omega) (by rw [HM.out]; omega)
      have hblk : (L.take (at_ + 64)).drop at_ = (L.drop (64 * k)).take 64 := by
        rw [List.drop_take, hat]; congr 1; omega
      rw [hblk] at hsp
      have hbl : ((L.drop (64 * k)).take 64).length = 64 := by rw [List.length_take, List.length_drop, HM.out]; omega
      obtain ⟨st, hst⟩ : ∃ st, st = stateN firstM L k := ⟨_, rfl⟩
      have hst1 : stateN firstM L (k + 1) = stepM st ((L.drop (64 * k)).take 64) := by rw [hst]; rfl
      rw [← hst] at hE
      obtain ⟨blk, hbk⟩ : ∃ blk, blk = (L.drop (64 * k)).take 64 := ⟨_, rfl⟩
      rw [← hbk] at hsp hbl hst1
      obtain ⟨v64, hv64⟩ : ∃ v64, v64 = subV 1 ax at_ (at_ + 64) cx := ⟨_, rfl⟩
      rw [← hv64] at hsub hsp
      have hstep := step_any wr.heap.size v64 st blk wr.drew (Nat.le_refl _) hsp.bound hbl
      unfold agg8 at hstep
      have s0 := hE.s8.cell (show 0 < 8 by omega)
      have s1 := hE.s8.cell (show 1 < 8 by omega)
      have s2 := hE.s8.cell (show 2 < 8 by omega)
      have s3 := hE.s8.cell (show 3 < 8 by omega)
      have s4 := hE.s8.cell (show 4 < 8 by omega)
      have s5 := hE.s8.cell (show 5 < 8 by omega)
      have s6 := hE.s8.cell (show 6 < 8 by omega)
      have s7 := hE.s8.cell (show 7 < 8 by omega)
      have HSTEP := Lib.hid hstep; have HE := Lib.hid hE; have HST1 := Lib.hid hst1; have HAT := Lib.hid hat; have HLN := Lib.hid hln
      clear hstep hE hst1 hst hbk hbl hsp hblk hat hln hv64
      have hab : (at_ : Int) < (ln : Int) := by omega
      have hw64 : IntKind.i64.wrap ((at_ : Int) + 64) = (at_ : Int) + 64 := wrap_i64 (by unfold I64; omega)
      go_upto_region 6 with fail
      go_region_with ((go_at_call 28; refine (HSTEP.out).mono ?_; rintro e w6 ⟨rfl, hb6⟩; obtain ⟨t0, t1, t2, t3, t4, t5, t6, t7, f0, f1, f2, f3, f4, f5, f6, f7⟩ := row8_kept HE.out.s8 hb6; have HB6 := Lib.hid hb6; clear hb6))
      clear t0 t1 t2 t3 t4 t5 t6 t7 f0 f1 f2 f3 f4 f5 f6 f7 s0 s1 s2 s3 s4 s5 s6 s7
      have hnew := (HE.out.drew.after HB6.out).put (stepM st blk)
      unfold put8' at hnew
      have HNEW := Lib.hid hnew; clear hnew
      generalize (((((((World.setCell w6 _ _).setCell _ _).setCell _ _).setCell _ _).setCell _ _).setCell _ _).setCell _ _).setCell _ _ = W7 at *
      go_wp2_with fail
      go_roundw
      case rel =>
        refine ⟨k + 1, by omega, int_eq (by have := HAT.out; omega), ?_⟩
        rw [HST1.out]
        exact HNEW.out
      case measure => have := HLN.out; have := HAT.out; simp [intOf]; omega
    · obtain rfl : k = M := by omega
      have hdiv : L.length / 64 = k := by rw [HM.out]; omega
      obtain ⟨st, hst⟩ : ∃ st, st = stateM L := ⟨_, rfl⟩
      have hst1 : stateN firstM L k = st := by rw [hst]; unfold stateM; rw [hdiv]
      rw [hst1] at hE
      obtain rfl : at_ = ln := by omega
      have HE := Lib.hid hE; have HST := Lib.hid hst; have HAT := Lib.hid hat
      clear hE hst hst1 hdiv hat hln
      go_wp2_with fail
      generalize hW9 : wr.alloc _ = W9
      have ho : OutAt w W9 w.heap.size wr.heap.size st 0 := by
        subst hW9
        have hl := HE.out.s8.lt
        refine ⟨HE.out.below.alloc (by have := HE.out.below.size; omega) _, by omega, HE.out.r0.alloc _, HE.out.s8.alloc _, (zeros_row wr _ _ (.int .u8 0) 32 (by kernel_rfl)).congr fun i _ => rfl⟩
      clear hW9
      go_loopw [7] (fun i wq => ∃ j : Nat, j ≤ 32 ∧ i = .int .i64 j ∧ OutAt w wq w.heap.size wr.heap.size st j) (fun i _ => (32 - intOf i).toNat)
      case atStart => exact ⟨0, by omega, rfl, ho⟩
      case round =>
        obtain ⟨j, hj, rfl, hO⟩ := hrel
        by_cases hlt : j < 32
        · have q := hO.s8.cell (show j / 4 < 8 by omega)
          have p := hO.r1.cell hlt
          have pf := hO.r1.frozen j
          have e4 : ((j : Int) / 4).toNat = j / 4 := by omega
          have b4 : 0 ≤ (j : Int) / 4 ∧ (j : Int) / 4 < 8 := by omega
          have sh : (24 - 8 * ((j : Int) % 4)).toNat = 24 - 8 * (j % 4) := by omega
          have shb : 0 ≤ 24 - 8 * ((j : Int) % 4) ∧ 24 - 8 * ((j : Int) % 4) < 32 := by omega
          have HO := Lib.hid hO; clear hO
          go_wp2_with fail
          go_roundw
          case rel => exact ⟨j + 1, by omega, by go_num, HO.out.put hlt (by rw [HST.out]; exact state_nonneg L _)⟩
          case measure => simp [intOf]; omega
        · obtain rfl : j = 32 := by omega
          have g1 := rowIs_heap hO.r1
          have hall : outTo st 32 = outM st := List.take_of_length_le (by simp [outM])
          rw [hall, rowArr_bytes (outM st) 32 (by simp [outM])] at g1
          obtain ⟨old, g0, hold⟩ := row_any hO.r0
          have HBE := Lib.hid hO.below
          obtain ⟨ob, hob⟩ : ∃ ob, ob = ((outM st).flatMap encByte).toArray := ⟨_, rfl⟩
          rw [← hob] at g1
          have hoa := bytesArr (outM st)
          rw [← hob, outM_length] at hoa
          have HOB := Lib.hid hob; have HOA := Lib.hid hoa
          clear hO hall hob hoa
          have h25 : (Try.prog.info? 25).map (·.size) = some 32 := by kernel_rfl
          obtain ⟨P, hP⟩ : ∃ P, P = World.heap wr := ⟨_, rfl⟩
          go_wp2_with (first | (refine wpList_load_row rfl 25 _ rfl _ rfl 25 _ (0, 0) _ g1 Try.underlying25 rfl (by rw [h25, HOA.out.1]) ?_) | (refine wpList_store_row rfl 25 _ _ rfl w.heap.size ob rfl rfl 25 old g0 (by rw [h25, HOA.out.1]) (by rw [HOA.out.1, hold]) HOA.out.2 ?_) | fail)
          (try simp only [Exit.inBlock, Exit.then])
          refine bodyPost_ret (v := .agg ob) ?_ rfl ⟨?_, below_setRow HBE.out (Nat.le_refl _) ob⟩
          · exact results_cell_row rfl _ _ w.heap.size 25 _ (0, 0) _ rfl (setRow_heap _ w.heap.size old ob 25 (0, 0) g0) Try.underlying25 rfl (by rw [h25, HOA.out.1])
          · rw [HOB.out, HST.out, HLL.out]; rfl
end Go.Proofs.Ytcgknadodpdblaa
