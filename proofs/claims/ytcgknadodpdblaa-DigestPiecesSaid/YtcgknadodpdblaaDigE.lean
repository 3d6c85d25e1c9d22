/- Contract of layer 3's reference: the state behind 64 bytes more. Conditions: the slice lies in memory. -/
import Derived.Test.YtcgknadodpdblaaDigD
set_option linter.unusedVariables false
set_option linter.unusedSimpArgs false
namespace Go.Proofs.Ytcgknadodpdblaa
open Go.RowKit

theorem NextAt.startS {w wr : World} {N M : Nat} {T T64 : TypeId} {s W r : List Int} (h : NextAt w wr N M T T64 s W r) : NextAt w wr N M T T64 (sumTo s r 0) W r :=
  ⟨h.below, h.hNM, h.s0.congr fun i hi => by rw [sumTo_get s r 0 i hi]; simp, h.o, h.w64, h.k64, h.r8⟩
theorem NextAt.addS {w wr : World} {N M k : Nat} {T T64 : TypeId} {s W r : List Int} (h : NextAt w wr N M T T64 (sumTo s r k) W r) :
    NextAt w (wr.setCell ⟨N, k, none⟩ (.int .u32 (addM (gI s k) (gI r k)))) N M T T64 (sumTo s r (k + 1)) W r where
  below := h.below.setCell (Nat.le_refl _) _
  hNM := h.hNM
  s0 := (h.s0.set k (.int .u32 (addM (gI s k) (gI r k)))).congr fun i hi => by
    rw [sumTo_get s r (k + 1) i hi, sumTo_get s r k i hi]
    by_cases e : i = k
    · subst e; simp
    · rw [if_neg e]
      by_cases h1 : i < k
      · rw [if_pos h1, if_pos (by omega)]
      · rw [if_neg h1, if_neg (by omega)]
  o := h.o.setOther (by show N + 1 ≠ N; omega) _
  w64 := h.w64.setOther (by show M ≠ N; have := h.hNM; omega) _
  k64 := h.k64.setOther (by show M + 1 ≠ N; have := h.hNM; omega) _
  r8 := h.r8.setOther (by show M + 2 ≠ N; have := h.hNM; omega) _
theorem sumTo_comm (r s : List Int) : sumTo r s 8 = sumTo s r 8 := by
  unfold sumTo
  apply List.map_congr_left
  intro i hi
  have h8 : i < 8 := List.mem_range.1 hi
  rw [if_pos h8, if_pos h8]
  unfold addM w32
  rw [Int.add_comm]
set_option maxHeartbeats 2000000 in
set_option maxRecDepth 20000 in
theorem step_any (B : Nat) (v : Value) (s : List Int) (b : List UInt8) (w : World) (hB : B ≤ w.heap.size) (hv : SlByte B w v b) (hl : b.length = 64) :
    Calls Try.prog 28 #[agg8 s, v] w fun e w' => e = .returned (agg8 (stepM s b)) ∧ Below w.heap.size w w' := by
  have HV := Lib.hid hv; clear hv
  have HL := Lib.hid hl; clear hl
  unfold agg8
  go_enter Try.func28, Try.ntmps28
  go_wp2_with fail
  have hs0 : ((w.alloc (.cells #[.int .u32 (gI s 0), .int .u32 (gI s 1), .int .u32 (gI s 2), .int .u32 (gI s 3), .int .u32 (gI s 4), .int .u32 (gI s 5), .int .u32 (gI s 6), .int .u32 (gI s 7)] 40)).alloc (.cells #[.int .u32 0, .int .u32 0, .int .u32 0, .int .u32 0, .int .u32 0, .int .u32 0, .int .u32 0, .int .u32 0] 40)).rowIs w.heap.size 40 8 (fun j => .int .u32 (gI s j)) :=
    (World.rowIs_alloc w _ _ (fun j => .int .u32 (gI s j)) (fun i hi => row8 s i hi)).alloc _
  have ho := World.rowIs_alloc (w.alloc (.cells #[.int .u32 (gI s 0), .int .u32 (gI s 1), .int .u32 (gI s 2), .int .u32 (gI s 3), .int .u32 (gI s 4), .int .u32 (gI s 5), .int .u32 (gI s 6), .int .u32 (gI s 7)] 40)) #[.int .u32 0, .int .u32 0, .int .u32 0, .int .u32 0, .int .u32 0, .int .u32 0, .int .u32 0, .int .u32 0] 40 (fun _ => .int .u32 0) (fun i hi => zero8 i hi)
  have hB0 : Below w.heap.size w ((w.alloc (.cells #[.int .u32 (gI s 0), .int .u32 (gI s 1), .int .u32 (gI s 2), .int .u32 (gI s 3), .int .u32 (gI s 4), .int .u32 (gI s 5), .int .u32 (gI s 6), .int .u32 (gI s 7)] 40)).alloc (.cells #[.int .u32 0, .int .u32 0, .int .u32 0, .int .u32 0, .int .u32 0, .int .u32 0, .int .u32 0, .int .u32 0] 40)) := ((Below.refl _ _).alloc (Nat.le_refl _) _).alloc (by simp) _
  have hz0 : ((w.alloc (.cells #[.int .u32 (gI s 0), .int .u32 (gI s 1), .int .u32 (gI s 2), .int .u32 (gI s 3), .int .u32 (gI s 4), .int .u32 (gI s 5), .int .u32 (gI s 6), .int .u32 (gI s 7)] 40)).alloc (.cells #[.int .u32 0, .int .u32 0, .int .u32 0, .int .u32 0, .int .u32 0, .int .u32 0, .int .u32 0, .int .u32 0] 40)).heap.size = w.heap.size + 2 := by simp
  rw [World.size_alloc] at ho
  generalize hW : World.alloc (World.alloc w _) _ = W0 at *
  clear hW
  have HZ0 := Lib.hid hz0; clear hz0
  have HS0 := Lib.hid hs0; have HO0 := Lib.hid ho; have HB0 := Lib.hid hB0
  clear hs0 ho hB0
  refine (wordsR_any B v b W0 (Nat.le_trans hB HB0.out.size) (SlByte.below HV.out (HB0.out.mono hB) (Nat.le_refl _)) HL.out).mono ?_
  rintro e w1 ⟨rfl, hb1⟩
  go_wp2_with fail
  refine (kR_any _).mono ?_
  rintro e w2 ⟨rfl, hb2⟩
  have hb2' : Below W0.heap.size W0 w2 := Below.after hb1 hb2 hb1.size
  clear hb1 hb2
  have HB2 := Lib.hid hb2'; clear hb2'
  have hKA : (kM.map (Value.int .u32)).toArray.size = 64 ∧ (kM.map (Value.int .u32)).toArray.all (·.oneCell') = true := ⟨rfl, by kernel_rfl⟩
  have hWA : ((wordsM b 48).map (Value.int .u32)).toArray.size = 64 ∧ ((wordsM b 48).map (Value.int .u32)).toArray.all (·.oneCell') = true := ⟨by simp [wordsM_length], by simp [Value.oneCell']⟩
  obtain ⟨KA, hK⟩ : ∃ KA, KA = (kM.map (Value.int .u32)).toArray := ⟨_, rfl⟩
  obtain ⟨WA, hW⟩ : ∃ WA, WA = ((wordsM b 48).map (Value.int .u32)).toArray := ⟨_, rfl⟩
  rw [← hK] at hKA ⊢
  rw [← hW] at hWA ⊢
  have HK := Lib.hid hK; have HW := Lib.hid hW; have HKA := Lib.hid hKA; have HWA := Lib.hid hWA
  clear hK hW hKA hWA
  go_upto_region 2 with (first | (refine wpList_store_row rfl 70 _ _ rfl w2.heap.size WA rfl rfl 70 _ (heap_alloc2_old _ _ _) (by rw [info64, HWA.out.1]) (by rw [HWA.out.1]; rfl) HWA.out.2 ?_) | (refine wpList_store_row rfl 70 _ _ rfl (w2.heap.size + 1) KA rfl rfl 70 _ ((setRow_other _ _ _ _ (by omega)).trans (heap_alloc2_new _ _ _)) (by rw [info64, HKA.out.1]) (by rw [HKA.out.1]; rfl) HKA.out.2 ?_) | fail)
  generalize hW5 : World.setRow (World.setRow (World.alloc (World.alloc w2 _) _) _ WA) _ KA = W5
  have g5k : W5.heap[w2.heap.size + 1]? = some (.cells KA 70 (0, 0)) := by
    subst hW5; exact setRow_heap _ _ _ _ _ (0, 0) ((setRow_other _ _ _ _ (by omega)).trans (heap_alloc2_new _ _ _))
  have g5w : W5.heap[w2.heap.size]? = some (.cells WA 70 (0, 0)) := by
    subst hW5; exact (setRow_other _ _ _ _ (by omega)).trans (setRow_heap _ _ _ _ _ (0, 0) (heap_alloc2_old _ _ _))
  have hB5 : Below w2.heap.size w2 W5 := by
    subst hW5; exact below_setRow (below_setRow (((Below.refl _ _).alloc (Nat.le_refl _) _).alloc (by simp) _) (Nat.le_refl _) _) (by omega) _
  have hz5 : W5.heap.size = w2.heap.size + 2 := by subst hW5; simp
  clear hW5
  have hlt0 := HS0.out.lt
  have s5 : W5.rowIs w.heap.size 40 8 (fun j => .int .u32 (gI s j)) := HS0.out.of_block ((hB5.block _ (Nat.lt_of_lt_of_le hlt0 HB2.out.size)).trans (HB2.out.block _ hlt0))
  have hlt1 := HO0.out.lt
  have o5 : W5.rowIs (w.heap.size + 1) 40 8 (fun _ => .int .u32 0) := HO0.out.of_block ((hB5.block _ (Nat.lt_of_lt_of_le hlt1 HB2.out.size)).trans (HB2.out.block _ hlt1))
  have gs : W5.heap[w.heap.size]? = some (.cells #[.int .u32 (gI s 0), .int .u32 (gI s 1), .int .u32 (gI s 2), .int .u32 (gI s 3), .int .u32 (gI s 4), .int .u32 (gI s 5), .int .u32 (gI s 6), .int .u32 (gI s 7)] 40 (0, 0)) := row8_heap s5
  have HG := Lib.hid (And.intro g5k (And.intro g5w (And.intro s5 (And.intro o5 hB5))))
  have HZ5 := Lib.hid hz5
  clear g5k g5w s5 o5 hB5 hz5 hlt0 hlt1
  go_upto_region 3 with (first | (refine wpList_load_row rfl 40 _ rfl w.heap.size rfl 40 _ (0, 0) _ gs Try.underlying40 rfl (by kernel_rfl) ?_) | (refine wpList_store_row rfl 40 _ _ rfl W5.heap.size _ rfl rfl 40 _ (heap_alloc_new _ _) (by kernel_rfl) rfl (by kernel_rfl) ?_) | fail)
  generalize hW6 : World.setRow (World.alloc W5 _) _ _ = W6
  have r6 : W6.rowIs W5.heap.size 40 8 (fun j => .int .u32 (gI s j)) := by
    subst hW6; exact ⟨_, setRow_heap _ _ _ _ _ (0, 0) (heap_alloc_new _ _), rfl, fun i hi => row8 s i hi⟩
  have hB6 : Below W5.heap.size W5 W6 := by
    subst hW6; exact below_setRow ((Below.refl _ _).alloc (Nat.le_refl _) _) (Nat.le_refl _) _
  clear hW6
  rw [HZ5.out] at r6 ⊢
  have hst : NextAt w W6 w.heap.size w2.heap.size 40 70 s (wordsM b 48) (roundsM (wordsM b 48) s 0) := by
    obtain ⟨g5k, g5w, s5, o5, hB5⟩ := HG.out
    have h2 := HB2.out.size
    have h0 := HO0.out.lt
    have hz := HZ5.out
    have hk := fun (g : Nat) (h : g < W5.heap.size) => hB6.block g h
    refine ⟨?_, by omega, s5.of_block (hk _ s5.lt), o5.of_block (hk _ o5.lt), ?_, ?_, r6⟩
    · exact ((HB0.out.trans (HB2.out.mono HB0.out.size)).trans (hB5.mono (Nat.le_trans HB0.out.size HB2.out.size))).trans (hB6.mono (by have := HB0.out.size; omega))
    · exact (World.rowIs.of_block (row_of (by rw [← HW.out]; exact g5w) (wordsM_length b 48)) (hk _ (by omega)))
    · exact (World.rowIs.of_block (row_of (by rw [← HK.out]; exact g5k) rfl) (hk _ (by omega)))
  clear r6 hB6 gs
  go_wp2_with fail
  go_loopw [8] (fun i wr => ∃ k : Nat, k ≤ 64 ∧ i = .int .i64 k ∧ NextAt w wr w.heap.size w2.heap.size 40 70 s (wordsM b 48) (roundsM (wordsM b 48) s k)) (fun i _ => 64 - (intOf i).toNat)
  case atStart => exact ⟨0, Nat.zero_le _, rfl, hst⟩
  case round =>
    obtain ⟨k, hk, rfl, hE⟩ := hrel
    by_cases hlt : k < 64
    · have HR := Lib.hid (show roundsM (wordsM b 48) s (k + 1) = roundM (wordsM b 48) (roundsM (wordsM b 48) s k) k from rfl)
      generalize hr : roundsM (wordsM b 48) s k = r at *
      generalize hw : wordsM b 48 = L at *
      clear hr hw
      have bk : 0 ≤ (k : Int) ∧ (k : Int) < 64 := by omega
      have q4 := hE.r8.cell (show 4 < 8 by omega)
      have q5 := hE.r8.cell (show 5 < 8 by omega)
      have q6 := hE.r8.cell (show 6 < 8 by omega)
      have q7 := hE.r8.cell (show 7 < 8 by omega)
      have pk := hE.k64.cell hlt
      have pw := hE.w64.cell hlt
      have HE := Lib.hid hE; clear hE
      go_upto_region 6 with fail
      go_cut [9] (fun t wx => t = .int .u32 (tM r (gI kM k) (gI L k)) ∧ ∃ n, wx = wr.drewN n)
      case first =>
        go_quiet ((first | (go_at_call_of 38 ((6 : Int)); exact Calls.quiet_of (turn_any 6 (by omega) (by omega) _ _)) | (go_at_call_of 38 ((11 : Int)); exact Calls.quiet_of (turn_any 11 (by omega) (by omega) _ _)) | (go_at_call_of 38 ((25 : Int)); exact Calls.quiet_of (turn_any 25 (by omega) (by omega) _ _))))
        go_step
        go_step
        go_meet
        exact ⟨tM_walk r _ _, _, rfl⟩
      case rest =>
        obtain ⟨rfl, n, rfl⟩ := hcut
        clear q4 q5 q6 q7 pk pw
        have hE := HE.out.drewN n; clear HE
        generalize wr.drewN n = wq2 at *
        have q0 := hE.r8.cell (show 0 < 8 by omega)
        have q1 := hE.r8.cell (show 1 < 8 by omega)
        have q2 := hE.r8.cell (show 2 < 8 by omega)
        have HE := Lib.hid hE; clear hE
        go_upto_region 7 with fail
        go_cut [10] (fun t wx => t = .int .u32 (uM r) ∧ ∃ n, wx = wq2.drewN n)
        case first =>
          go_quiet ((first | (go_at_call_of 38 ((2 : Int)); exact Calls.quiet_of (turn_any 2 (by omega) (by omega) _ _)) | (go_at_call_of 38 ((13 : Int)); exact Calls.quiet_of (turn_any 13 (by omega) (by omega) _ _)) | (go_at_call_of 38 ((22 : Int)); exact Calls.quiet_of (turn_any 22 (by omega) (by omega) _ _))))
          go_step
          go_step
          go_meet
          exact ⟨uM_walk r, _, rfl⟩
        case rest =>
          obtain ⟨rfl, n, rfl⟩ := hcut
          clear q0 q1 q2
          have hE := HE.out.drewN n; clear HE
          generalize wq2.drewN n = wq3 at *
          have q0 := hE.r8.cell (show 0 < 8 by omega)
          have q1 := hE.r8.cell (show 1 < 8 by omega)
          have q2 := hE.r8.cell (show 2 < 8 by omega)
          have q3 := hE.r8.cell (show 3 < 8 by omega)
          have q4 := hE.r8.cell (show 4 < 8 by omega)
          have q5 := hE.r8.cell (show 5 < 8 by omega)
          have q6 := hE.r8.cell (show 6 < 8 by omega)
          have g8 := row8_heap hE.r8
          have HE := Lib.hid hE; clear hE
          obtain ⟨uu, hu⟩ : ∃ x, x = uM r := ⟨_, rfl⟩
          obtain ⟨tt, ht⟩ : ∃ x, x = tM r (gI kM k) (gI L k) := ⟨_, rfl⟩
          rw [← hu, ← ht]
          have HU := Lib.hid (And.intro hu ht)
          clear hu ht
          go_wp2_with (first | (refine wpList_store_row rfl 40 _ _ rfl (w2.heap.size + 2) _ rfl rfl 40 _ g8 (by kernel_rfl) rfl (all8 _ _ _ _ _ _ _ _) ?_) | fail)
          go_roundw
          case rel =>
            refine ⟨k + 1, by omega, by go_num, ?_⟩
            rw [HR.out]
            unfold roundM turnM
            rw [← HU.out.1, ← HU.out.2]
            exact HE.out.turn _ _ _ _ _ _ _ _
          case measure => simp [intOf]; omega
    · obtain rfl : k = 64 := by omega
      simp only [show ((64 : Nat) : Int) = 64 from rfl]
      have HE : Hid (NextAt w wr w.heap.size w2.heap.size 40 70 (sumTo s (roundsM (wordsM b 48) s 64) 0) (wordsM b 48) (roundsM (wordsM b 48) s 64)) := Lib.hid (hE.startS)
      clear hE hst
      have HM := Lib.hid (show stepM s b = sumTo s (roundsM (wordsM b 48) s 64) 8 from sumTo_comm _ _)
      generalize wordsM b 48 = L at *
      generalize roundsM L s 64 = r at *
      go_wp2_with fail
      go_loopw [11] (fun i wr => ∃ k : Nat, k ≤ 8 ∧ i = .int .i64 k ∧ NextAt w wr w.heap.size w2.heap.size 40 70 (sumTo s r k) L r) (fun i _ => 8 - (intOf i).toNat)
      case atStart => exact ⟨0, Nat.zero_le _, rfl, HE.out⟩
      case round =>
        obtain ⟨k, hk, rfl, hE⟩ := hrel
        by_cases hlt : k < 8
        · have bk : 0 ≤ (k : Int) ∧ (k : Int) < 8 := by omega
          have q := hE.s0.cell hlt
          rw [sumTo_get s r k k hlt, if_neg (by omega)] at q
          have p := hE.r8.cell hlt
          have HE := Lib.hid hE; clear hE
          go_wp2_with fail
          refine wp_region_still_tail 9 (by kernel_rfl) (by kernel_rfl) ?_
          simp only [List.take_succ_cons, List.take_zero, List.drop_succ_cons, List.drop_zero]
          change wpStill _ _ (World.drew _) _ _ _
          repeat still_step
          refine wpStill_nil ?_
          have f1 := HE.out.drew.s0.frozen k
          have p1 := HE.out.drew.s0.cell hlt
          go_wp2_with fail
          go_roundw
          case rel =>
            exact ⟨k + 1, by omega, by go_num, HE.out.drew.addS⟩
          case measure => simp [intOf]; omega
        · obtain rfl : k = 8 := by omega
          have g1 := row8_heap hE.s0
          obtain ⟨old, g0, hold⟩ := row_any hE.o
          have HN := Lib.hid hE
          clear hE
          go_wp2_with (first | (refine wpList_load_row rfl 40 _ rfl w.heap.size rfl 40 _ (0, 0) _ g1 Try.underlying40 rfl (by kernel_rfl) ?_) | (refine wpList_store_row rfl 40 _ _ rfl (w.heap.size + 1) _ rfl rfl 40 old g0 (by kernel_rfl) hold (all8 _ _ _ _ _ _ _ _) ?_) | fail)
          have hB9 := below_setRow HN.out.below (show w.heap.size ≤ w.heap.size + 1 by omega) #[Value.int .u32 (gI (sumTo s r 8) 0), .int .u32 (gI (sumTo s r 8) 1), .int .u32 (gI (sumTo s r 8) 2), .int .u32 (gI (sumTo s r 8) 3), .int .u32 (gI (sumTo s r 8) 4), .int .u32 (gI (sumTo s r 8) 5), .int .u32 (gI (sumTo s r 8) 6), .int .u32 (gI (sumTo s r 8) 7)]
          have g9 := setRow_heap wr (w.heap.size + 1) old #[Value.int .u32 (gI (sumTo s r 8) 0), .int .u32 (gI (sumTo s r 8) 1), .int .u32 (gI (sumTo s r 8) 2), .int .u32 (gI (sumTo s r 8) 3), .int .u32 (gI (sumTo s r 8) 4), .int .u32 (gI (sumTo s r 8) 5), .int .u32 (gI (sumTo s r 8) 6), .int .u32 (gI (sumTo s r 8) 7)] 40 (0, 0) g0
          (try simp only [Exit.inBlock, Exit.then])
          refine bodyPost_ret (v := agg8 (sumTo s r 8)) ?_ rfl ⟨by rw [HM.out]; rfl, hB9⟩
          exact results_cell_row rfl _ _ (w.heap.size + 1) 40 _ (0, 0) _ rfl g9 Try.underlying40 rfl (by kernel_rfl)
end Go.Proofs.Ytcgknadodpdblaa
