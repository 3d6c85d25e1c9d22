/- Contract of layer 3's reference: the words of 64 bytes. Conditions: the slice lies in memory. -/
import Derived.Test.YtcgknadodpdblaaDigA
import Derived.Deep.RegionHeld3
set_option linter.unusedVariables false
set_option linter.unusedSimpArgs false
namespace Go.Proofs.Ytcgknadodpdblaa
open Go.RowKit

/-- the world as it was, up to draws, but perhaps with one cell set -/
def Two (wq w' : World) (a : Addr) (X : Value) : Prop := ∃ m, w' = wq.drewN m ∨ w' = (wq.setCell a X).drewN m
theorem Two.start (wq : World) (a : Addr) (X : Value) : Two wq wq.drew a X := ⟨1, .inl rfl⟩
theorem Two.drewN {wq w' : World} {a : Addr} {X : Value} (h : Two wq w' a X) (n : Nat) : Two wq (w'.drewN n) a X := by
  obtain ⟨m, rfl | rfl⟩ := h
  · exact ⟨m + n, .inl (World.drewN_drewN _ _ _)⟩
  · exact ⟨m + n, .inr (World.drewN_drewN _ _ _)⟩
theorem setCell_twice (w : World) (b o : Nat) (v : Value) : (w.setCell ⟨b, o, none⟩ v).setCell ⟨b, o, none⟩ v = w.setCell ⟨b, o, none⟩ v := by
  unfold World.setCell
  congr 1
  apply Array.ext
  · simp
  · intro i h1 h2
    simp only [Array.getElem_modify]
    split
    · cases w.heap[i]'(by simpa using h1) <;> simp
    · rfl
theorem Two.fin {wq w' : World} {b o : Nat} {X : Value} (h : Two wq w' ⟨b, o, none⟩ X) : ∃ m, w'.setCell ⟨b, o, none⟩ X = (wq.setCell ⟨b, o, none⟩ X).drewN m := by
  obtain ⟨m, rfl | rfl⟩ := h
  · exact ⟨m, rfl⟩
  · refine ⟨m, ?_⟩
    show ((wq.setCell _ X).setCell _ X).drewN m = _
    rw [setCell_twice]
theorem Two.set {wq w' : World} {b o : Nat} {X : Value} (h : Two wq w' ⟨b, o, none⟩ X) : Two wq (w'.setCell ⟨b, o, none⟩ X) ⟨b, o, none⟩ X := by
  obtain ⟨m, e⟩ := h.fin
  exact ⟨m, .inr e⟩
/-- what a cell holds -/
def cellOr (w : World) (a : Addr) : Value := (w.cell? a).getD undef
theorem cellOr_of {w : World} {a : Addr} {v : Value} (h : w.cell? a = some v) : w.cell? a = some (cellOr w a) := by unfold cellOr; rw [h]; rfl
/-- what is added as the next word -/
def nextV (L : List Int) (k : Nat) : Int := IntKind.u32.wrap (IntKind.u32.wrap (IntKind.u32.wrap (gI L k + bits BinOp.xor IntKind.u32 (bits BinOp.xor IntKind.u32 (rotM (gI L (k + 1)) 7) (rotM (gI L (k + 1)) 18)) (gI L (k + 1) / 8)) + gI L (k + 9)) +
    bits BinOp.xor IntKind.u32 (bits BinOp.xor IntKind.u32 (rotM (gI L (k + 14)) 17) (rotM (gI L (k + 14)) 19)) (gI L (k + 14) / 1024))
theorem two_held {w wq w' : World} {N k : Nat} {T : TypeId} {L : List Int} {X : Int} (h : WordsAt w wq N T L) (ht : Two wq w' ⟨N + 1, 16 + k, none⟩ (.int .u32 X)) (hk : k < 48) :
    w'.cell? ⟨N + 1, k, none⟩ = some (.int .u32 (gI L k)) ∧ w'.cell? ⟨N + 1, k + 9, none⟩ = some (.int .u32 (gI L (k + 9))) ∧ w'.cell? ⟨N + 1, 16 + k, none⟩ = some (cellOr w' ⟨N + 1, 16 + k, none⟩) ∧ w'.frozen? ⟨N + 1, 16 + k, none⟩ = false ∧ Two wq w' ⟨N + 1, 16 + k, none⟩ (.int .u32 X) := by
  have ht' := ht
  obtain ⟨m, rfl | rfl⟩ := ht
  · exact ⟨h.r1.cell (by omega), h.r1.cell (by omega), cellOr_of (h.r1.cell (i := 16 + k) (by omega)), h.r1.frozen _, ht'⟩
  · have hr := h.r1.set (16 + k) (.int .u32 X)
    refine ⟨(hr.cell (i := k) (by omega)).trans ?_, (hr.cell (i := k + 9) (by omega)).trans ?_, cellOr_of (hr.cell (i := 16 + k) (by omega)), hr.frozen _, ht'⟩
    · rw [if_neg (by omega)]
    · rw [if_neg (by omega)]
theorem turn_two (n : Nat) (h1 : 1 ≤ n) (h2 : n ≤ 31) (x : Int) {wq w : World} {a : Addr} {X : Value} (h : Two wq w a X) :
    Calls Try.prog 38 #[.int .u32 x, .int .i64 n] w fun e w' => e = .returned (.int .u32 (rotM x n)) ∧ Two wq w' a X :=
  (turn_any n h1 h2 x w).mono fun e w' ⟨he, m, hm⟩ => ⟨he, by rw [hm]; exact h.drewN m⟩

set_option maxHeartbeats 2000000 in
theorem wordsR_any (B : Nat) (v : Value) (b : List UInt8) (w : World) (hB : B ≤ w.heap.size) (hv : SlByte B w v b) (hl : b.length = 64) :
    Calls Try.prog 36 #[v] w fun e w' => e = .returned (.agg ((wordsM b 48).map (Value.int .u32)).toArray) ∧ Below w.heap.size w w' := by
  obtain ⟨a, bb, off, cap, rfl, hcap, hm, -, ha, hc⟩ := hv
  have HC := Lib.hid (byte_cell hc); clear hc
  obtain ⟨rfl, hbB⟩ := ha (by omega)
  unfold maxLen at hm
  have HBB := Lib.hid hbB; clear hbB
  go_enter Try.func36, Try.ntmps36
  go_wp2_with fail
  have HL := Lib.hid hl
  generalize hW : World.alloc (World.alloc w _) _ = W
  have hst : WordsAt w W w.heap.size 70 [] := by
    subst hW
    refine ⟨((Below.refl _ _).alloc (Nat.le_refl _) _).alloc (by simp) _, (zeros_row w _ _ _ 64 (by kernel_rfl)).alloc _, ?_⟩
    have := zeros_row (w.alloc (.cells (Array.replicate 64 (Value.int .u32 0)) 70)) (Array.replicate 64 (Value.int .u32 0)) 70 _ 64 rfl
    rw [World.size_alloc] at this
    exact this
  clear hW
  go_loopw [4] (fun i wr => ∃ k : Nat, k ≤ 16 ∧ i = .int .i64 k ∧ WordsAt w wr w.heap.size 70 (wordsFirst b k)) (fun i _ => 16 - (intOf i).toNat)
  case atStart => exact ⟨0, Nat.zero_le _, rfl, hst⟩
  case round =>
    obtain ⟨k, hk, rfl, hE⟩ := hrel
    by_cases hlt : k < 16
    · have e0 : (4 * (k : Int)).toNat = 4 * k := by omega
      have e1 : (4 * (k : Int) + 1).toNat = 4 * k + 1 := by omega
      have e2 : (4 * (k : Int) + 2).toNat = 4 * k + 2 := by omega
      have e3 : (4 * (k : Int) + 3).toNat = 4 * k + 3 := by omega
      have a0 : IntKind.i64.wrap (4 * (k : Int)) = 4 * (k : Int) := wrap_i64 (by unfold I64; omega)
      have a1 : IntKind.i64.wrap (4 * (k : Int) + 1) = 4 * (k : Int) + 1 := wrap_i64 (by unfold I64; omega)
      have a2 : IntKind.i64.wrap (4 * (k : Int) + 2) = 4 * (k : Int) + 2 := wrap_i64 (by unfold I64; omega)
      have a3 : IntKind.i64.wrap (4 * (k : Int) + 3) = 4 * (k : Int) + 3 := wrap_i64 (by unfold I64; omega)
      have c0 : 0 ≤ 4 * (k : Int) ∧ 4 * (k : Int) < 64 := by omega
      have c1 : 0 ≤ 4 * (k : Int) + 1 ∧ 4 * (k : Int) + 1 < 64 := by omega
      have c2 : 0 ≤ 4 * (k : Int) + 2 ∧ 4 * (k : Int) + 2 < 64 := by omega
      have c3 : 0 ≤ 4 * (k : Int) + 3 ∧ 4 * (k : Int) + 3 < 64 := by omega
      have hk64 : (k : Int) < 64 := by omega
      have q0 := (hE.below.cell (by exact Nat.lt_of_lt_of_le HBB.out hB)).trans (HC.out (4 * k) (by have := HL.out; omega))
      have q1 := (hE.below.cell (by exact Nat.lt_of_lt_of_le HBB.out hB)).trans (HC.out (4 * k + 1) (by have := HL.out; omega))
      have q2 := (hE.below.cell (by exact Nat.lt_of_lt_of_le HBB.out hB)).trans (HC.out (4 * k + 2) (by have := HL.out; omega))
      have q3 := (hE.below.cell (by exact Nat.lt_of_lt_of_le HBB.out hB)).trans (HC.out (4 * k + 3) (by have := HL.out; omega))
      obtain ⟨x0, hx0⟩ : ∃ x, x = byteM b (4 * k) := ⟨_, rfl⟩
      obtain ⟨x1, hx1⟩ : ∃ x, x = byteM b (4 * k + 1) := ⟨_, rfl⟩
      obtain ⟨x2, hx2⟩ : ∃ x, x = byteM b (4 * k + 2) := ⟨_, rfl⟩
      obtain ⟨x3, hx3⟩ : ∃ x, x = byteM b (4 * k + 3) := ⟨_, rfl⟩
      rw [← hx0] at q0; rw [← hx1] at q1; rw [← hx2] at q2; rw [← hx3] at q3
      have g0 := byteM_bounds b (4 * k); have g1 := byteM_bounds b (4 * k + 1); have g2 := byteM_bounds b (4 * k + 2); have g3 := byteM_bounds b (4 * k + 3)
      rw [← hx0] at g0; rw [← hx1] at g1; rw [← hx2] at g2; rw [← hx3] at g3
      have HX := Lib.hid (And.intro hx0 (And.intro hx1 (And.intro hx2 hx3)))
      clear hx0 hx1 hx2 hx3
      have HE := Lib.hid hE; clear hE
      go_wp2_with fail
      refine wp_region_still_tail 35 (by kernel_rfl) (by kernel_rfl) ?_
      simp only [List.take_succ_cons, List.take_zero, List.drop_succ_cons, List.drop_zero]
      change wpStill _ _ (World.drew _) _ _ _
      repeat still_step
      refine wpStill_nil ?_
      have f1 := HE.out.drew.r1.frozen k
      have p1 := HE.out.drew.r1.cell (show k < 64 by omega)
      go_wp2_with fail
      go_roundw
      case rel =>
        refine ⟨k + 1, by omega, by go_num, ?_⟩
        have hv : bits BinOp.or IntKind.u32 (bits BinOp.or IntKind.u32 (bits BinOp.or IntKind.u32 (x0 * 16777216) (x1 * 65536)) (x2 * 256)) x3 = wordM b k := by
          have h0 := HX.out.1; have h1 := HX.out.2.1; have h2 := HX.out.2.2.1; have h3 := HX.out.2.2.2
          unfold wordM orM w32
          rw [← h0, ← h1, ← h2, ← h3]
          have i0 : x0 * 2 ^ 24 % 4294967296 = x0 * 16777216 := by omega
          have i1 : x1 * 2 ^ 16 % 4294967296 = x1 * 65536 := by omega
          have i2 : x2 * 2 ^ 8 % 4294967296 = x2 * 256 := by omega
          rw [i0, i1, i2]
        rw [hv, wordsFirst_succ]
        exact (HE.out.put' (wordsFirst_length b k)).drew
      case measure => simp [intOf]; omega
    · obtain rfl : k = 16 := by omega
      simp only [show ((16 : Nat) : Int) = 16 from rfl]
      have hE : WordsAt w wr w.heap.size 70 (wordsM b 0) := hE
      go_wp2_with fail
      go_loopw [5] (fun i wr => ∃ k : Nat, k ≤ 48 ∧ i = .int .i64 (16 + (k : Int)) ∧ WordsAt w wr w.heap.size 70 (wordsM b k)) (fun i _ => 64 - (intOf i).toNat)
      case atStart => exact ⟨0, by omega, rfl, hE⟩
      case round =>
        obtain ⟨k, hk, rfl, hE⟩ := hrel
        by_cases hlt : k < 48
        · have HE := Lib.hid hE; clear hE
          have hlen := wordsM_length b k
          have HNX := Lib.hid (show wordsM b (k + 1) = wordsM b k ++ [nextW (wordsM b k)] from rfl)
          generalize hL : wordsM b k = L at *
          clear hL
          have b15 : 0 ≤ (16 + (k : Int) - 15) ∧ (16 + (k : Int) - 15) < 64 := by omega
          have e15 : (16 + (k : Int) - 15).toNat = k + 1 := by omega
          have e2 : (16 + (k : Int) - 2).toNat = k + 14 := by omega
          have p15 := HE.out.r1.cell (show k + 1 < 64 by omega)
          have p2 := HE.out.r1.cell (show k + 14 < 64 by omega)
          go_wp2_with fail
          go_quiet (fail)
          clear p15 p2 b15 e15 e2
          have hE2 := HE.out.drewN nq
          generalize wr.drewN nq = wq at hE2 ⊢
          have b16 : 0 ≤ (16 + (k : Int) - 16) ∧ (16 + (k : Int) - 16) < 64 := by omega
          have b7 : 0 ≤ (16 + (k : Int) - 7) ∧ (16 + (k : Int) - 7) < 64 := by omega
          have bi : 0 ≤ (16 + (k : Int)) ∧ (16 + (k : Int)) < 64 := by omega
          have w16 : IntKind.i64.wrap (16 + (k : Int) - 16) = 16 + (k : Int) - 16 := wrap_i64 (by unfold I64; omega)
          have w7 : IntKind.i64.wrap (16 + (k : Int) - 7) = 16 + (k : Int) - 7 := wrap_i64 (by unfold I64; omega)
          have g16 : (16 : Int) ≤ 16 + (k : Int) := by omega
          have g7 : (7 : Int) ≤ 16 + (k : Int) ∧ (16 + (k : Int) - 7) < 64 := by omega
          have e16 : (16 + (k : Int) - 16).toNat = k := by omega
          have e7 : (16 + (k : Int) - 7).toNat = k + 9 := by omega
          have ei : (16 + (k : Int)).toNat = 16 + k := by omega
          have hT : Two wq wq.drew ⟨w.heap.size + 1, 16 + k, none⟩ (.int .u32 (nextV L k)) := Two.start _ _ _
          have p16 := hE2.drew.r1.cell (show k < 64 by omega)
          have p7 := hE2.drew.r1.cell (show k + 9 < 64 by omega)
          have HQ := Lib.hid hE2
          go_wp2_with fail
          go_region_held3 (fun w' => w'.cell? ⟨w.heap.size + 1, k, none⟩ = some (.int .u32 (gI L k)) ∧ w'.cell? ⟨w.heap.size + 1, k + 9, none⟩ = some (.int .u32 (gI L (k + 9))) ∧ w'.cell? ⟨w.heap.size + 1, 16 + k, none⟩ = some (cellOr w' ⟨w.heap.size + 1, 16 + k, none⟩) ∧ w'.frozen? ⟨w.heap.size + 1, 16 + k, none⟩ = false ∧ Two wq w' ⟨w.heap.size + 1, 16 + k, none⟩ (.int .u32 (nextV L k))) (first | exact two_held HQ.out (by assumption) (by omega) | exact two_held HQ.out (Two.set (by assumption)) (by omega)) (first | (go_at_call_of 38 ((7 : Int)); refine (turn_two 7 (by omega) (by omega) _ (by assumption)).mono ?_; rintro e w' ⟨rfl, hT'⟩) | (go_at_call_of 38 ((18 : Int)); refine (turn_two 18 (by omega) (by omega) _ (by assumption)).mono ?_; rintro e w' ⟨rfl, hT'⟩) | (go_at_call_of 38 ((17 : Int)); refine (turn_two 17 (by omega) (by omega) _ (by assumption)).mono ?_; rintro e w' ⟨rfl, hT'⟩) | (go_at_call_of 38 ((19 : Int)); refine (turn_two 19 (by omega) (by omega) _ (by assumption)).mono ?_; rintro e w' ⟨rfl, hT'⟩))
          obtain ⟨m, hm⟩ := Two.fin hT'
          unfold nextV at hm
          rw [hm]
          clear hm
          go_wp2_with fail
          go_roundw
          case rel =>
            refine ⟨k + 1, by omega, by go_num, ?_⟩
            rw [HNX.out]
            have hv : nextW L = nextV L k := by
              unfold nextW sigA sigB xorM addM w32 nextV
              rw [hlen, show 16 + k - 16 = k by omega, show 16 + k - 15 = k + 1 by omega, show 16 + k - 7 = k + 9 by omega, show 16 + k - 2 = k + 14 by omega]
              have e8 : (2 : Int) ^ 3 = 8 := by decide
              have e10 : (2 : Int) ^ 10 = 1024 := by decide
              rw [e8, e10, IntKind.wrap_u32, IntKind.wrap_u32, IntKind.wrap_u32]
            rw [hv]
            exact (HQ.out.put' hlen).drewN m
          case measure => simp [intOf]; omega
        · obtain rfl : k = 48 := by omega
          have hl64 : (wordsM b 48).length = 64 := wordsM_length b 48
          have g1 := row_list hE.r1 hl64
          obtain ⟨old, g0, hold⟩ := row_any hE.r0
          have hi64 : (Try.prog.info? 70).map (·.size) = some 64 := by kernel_rfl
          have HN := Lib.hid hE
          clear hE
          go_wp2_with (first | (refine wpList_load_row rfl 70 _ rfl (w.heap.size + 1) rfl 70 _ (0, 0) _ g1 Try.underlying70 rfl (by rw [hi64]; simp [hl64]) ?_) | (refine wpList_store_row rfl 70 _ _ rfl w.heap.size _ rfl rfl 70 old g0 (by rw [hi64]; simp [hl64]) (by simp [hl64, hold]) (by simp [Value.oneCell']) ?_))
          have hB9 : Below w.heap.size w (wr.setRow w.heap.size ((wordsM b 48).map (Value.int .u32)).toArray) := below_setRow HN.out.below (Nat.le_refl _) _
          have g9 := setRow_heap wr w.heap.size old ((wordsM b 48).map (Value.int .u32)).toArray 70 (0, 0) g0
          (try simp only [Exit.inBlock, Exit.then])
          refine bodyPost_ret (v := .agg ((wordsM b 48).map (Value.int .u32)).toArray) ?_ rfl ⟨rfl, hB9⟩
          exact results_cell_row rfl _ _ w.heap.size 70 _ (0, 0) _ rfl g9 Try.underlying70 rfl (by rw [hi64]; simp [hl64])
end Go.Proofs.Ytcgknadodpdblaa
