/- Contracts of layer 3: a word turned. Conditions: none. -/
import Derived.Test.YtcgknadodpdblaaProg
import Derived.Test.YtcgknadodpdblaaDigM
import Derived.Deep.OwnRows
import Derived.Laws.Rows
import Derived.Laws.Tables
import Derived.Laws.CopyOwn
import Derived.StillTailTactics
set_option linter.unusedVariables false
set_option linter.unusedSimpArgs false
namespace Go.Proofs.Ytcgknadodpdblaa
open Go.RowKit

theorem and31 (n : Nat) (h1 : 1 ≤ n) (h2 : n ≤ 31) : bits BinOp.and IntKind.u64 (IntKind.u64.wrap (-(n : Int))) 31 = 32 - (n : Int) := by
  have : ∀ m : Fin 32, 1 ≤ m.val → bits BinOp.and IntKind.u64 (IntKind.u64.wrap (-(m.val : Int))) 31 = 32 - (m.val : Int) := by decide +kernel
  exact this ⟨n, by omega⟩ h1
theorem or_comm (x y : Int) : bits .or .u32 x y = bits .or .u32 y x := by
  unfold bits
  simp only [BitVec.or_comm]
theorem rot_left (n : Nat) (h1 : 1 ≤ n) (h2 : n ≤ 31) (x : Int) (w : World) :
    Calls Try.prog 44 #[.int .u32 x, .int .i64 (-(n : Int))] w fun e w' => e = .returned (.int .u32 (rotM x n)) ∧ w' = w := by
  have ha := and31 n h1 h2
  have e1 : ((32 : Int) - n).toNat = 32 - n := by omega
  have e2 : ((n : Int)).toNat = n := by omega
  go_enter Try.func44, Try.ntmps44
  go_wp2_with fail
  go_ret
  refine ⟨ret_int ?_, rfl⟩
  have e3 : 32 - (32 - n) = n := by omega
  unfold rotM orM w32
  rw [e3]
theorem turn_any (n : Nat) (h1 : 1 ≤ n) (h2 : n ≤ 31) (x : Int) (w : World) :
    Calls Try.prog 38 #[.int .u32 x, .int .i64 n] w fun e w' => e = .returned (.int .u32 (rotM x n)) ∧ ∃ m, w' = w.drewN m := by
  go_enter Try.func38, Try.ntmps38
  go_wp2_with fail
  go_quiet (fail)
  go_wp2
  go_ret
  refine ⟨ret_int ?_, _, rfl⟩
  unfold rotM orM w32
  rw [or_comm]
theorem down_any (n : Nat) (h1 : 1 ≤ n) (h2 : n ≤ 31) (x : Int) (w : World) :
    Calls Try.prog 41 #[.int .u32 x, .int .i64 n] w fun e w' => e = .returned (.int .u32 (rotM x n)) ∧ w' = w := by
  go_enter Try.func41, Try.ntmps41
  go_wp2_with fail
  refine (rot_left n h1 h2 x _).mono ?_
  rintro e w' ⟨rfl, rfl⟩
  go_wp2
  go_ret
  exact ⟨rfl, rfl⟩

theorem byteM_bounds (b : List UInt8) (i : Nat) : 0 ≤ byteM b i ∧ byteM b i < 256 := by
  unfold byteM
  have := (b.getD i 0).toNat_lt
  omega
theorem byte_cell {w : World} {bb off : Nat} {b : List UInt8} (H : ∀ i (h : i < b.length), RByte w bb (off + i * 1) b[i]) (i : Nat) (hi : i < b.length) : w.cell? ⟨bb, off + i, none⟩ = some (.int .u8 (byteM b i)) := by
  have := H i hi
  unfold RByte at this
  rw [Nat.mul_one] at this
  rw [this]
  unfold byteM
  simp [List.getD, hi]

/-- behind the two arrays: the first is the answer's, the second holds words -/
structure WordsAt (w wr : World) (N : Nat) (T : TypeId) (l : List Int) : Prop where
  below : Below N w wr
  r0 : wr.rowIs N T 64 (fun _ => .int .u32 0)
  r1 : wr.rowIs (N + 1) T 64 (fun j => .int .u32 (gI l j))
theorem WordsAt.drew {w wr : World} {N : Nat} {T : TypeId} {l : List Int} (h : WordsAt w wr N T l) : WordsAt w wr.drew N T l := ⟨h.below.drew, h.r0.drew, h.r1.drew⟩
theorem WordsAt.drewN {w wr : World} {N : Nat} {T : TypeId} {l : List Int} (h : WordsAt w wr N T l) (n : Nat) : WordsAt w (wr.drewN n) N T l := ⟨Below.drewN h.below n, h.r0, h.r1⟩
theorem WordsAt.put {w wr : World} {N : Nat} {T : TypeId} {l : List Int} {x : Int} (h : WordsAt w wr N T l) : WordsAt w (wr.setCell ⟨N + 1, l.length, none⟩ (.int .u32 x)) N T (l ++ [x]) where
  below := h.below.setCell (by show N ≤ N + 1; omega) _
  r0 := h.r0.setOther (by show N ≠ N + 1; omega) _
  r1 := (h.r1.set l.length (.int .u32 x)).congr fun i _ => by
    unfold gI
    by_cases e : i = l.length
    · subst e; simp
    · rw [if_neg e]
      rcases Nat.lt_or_ge i l.length with h1 | h1
      · simp [List.getD, List.getElem?_append_left h1]
      · simp [List.getD, List.getElem?_eq_none h1, List.getElem?_eq_none (show (l ++ [x]).length ≤ i by simp; omega)]
theorem WordsAt.put' {w wr : World} {N k : Nat} {T : TypeId} {l : List Int} {x : Int} (h : WordsAt w wr N T l) (hk : l.length = k) : WordsAt w (wr.setCell ⟨N + 1, k, none⟩ (.int .u32 x)) N T (l ++ [x]) := hk ▸ h.put
theorem row_list {w : World} {g n : Nat} {T : TypeId} {l : List Int} (h : w.rowIs g T n (fun j => .int .u32 (gI l j))) (hl : l.length = n) : w.heap[g]? = some (.cells (l.map (Value.int .u32)).toArray T (0, 0)) := by
  obtain ⟨c, hc, hn, hh⟩ := h
  have : c = (l.map (Value.int .u32)).toArray := by
    apply Array.ext_getElem?
    intro i
    rcases Nat.lt_or_ge i n with h1 | h1
    · rw [hh i h1]; simp [gI, List.getD, show i < l.length by omega]
    · rw [Array.getElem?_eq_none (by omega), Array.getElem?_eq_none (by simp; omega)]
  rw [hc, this]
theorem zeros_row (w : World) (c : Array Value) (T : TypeId) (z : Value) (n : Nat) (hc : c = Array.replicate n z) : (w.alloc (.cells c T)).rowIs w.heap.size T n (fun _ => z) := by
  subst hc
  have := World.rowIs_alloc w (Array.replicate n z) T (fun _ => z) (fun i hi => by simp at hi; simp [hi])
  simpa using this
theorem row_any {w : World} {g n : Nat} {T : TypeId} {f : Nat → Value} (h : w.rowIs g T n f) : ∃ old, w.heap[g]? = some (.cells old T (0, 0)) ∧ old.size = n := by
  obtain ⟨c, hc, hn, hh⟩ := h
  exact ⟨c, hc, hn⟩
theorem wordsFirst_succ (b : List UInt8) (k : Nat) : wordsFirst b (k + 1) = wordsFirst b k ++ [wordM b k] := by
  unfold wordsFirst; rw [List.range_succ, List.map_append]; rfl
theorem wordsFirst_length (b : List UInt8) (k : Nat) : (wordsFirst b k).length = k := by simp [wordsFirst]
theorem wordsM_length (b : List UInt8) (k : Nat) : (wordsM b k).length = 16 + k := by
  induction k with
  | zero => simp [wordsM, wordsFirst_length]
  | succ n ih => simp [wordsM, ih]; omega

set_option maxHeartbeats 2000000 in
theorem spread_any (B : Nat) (v : Value) (b : List UInt8) (w : World) (hB : B ≤ w.heap.size) (hv : SlByte B w v b) (hl : b.length = 64) :
    Calls Try.prog 39 #[v] w fun e w' => e = .returned (.agg ((wordsM b 48).map (Value.int .u32)).toArray) ∧ Below w.heap.size w w' := by
  obtain ⟨a, bb, off, cap, rfl, hcap, hm, -, ha, hc⟩ := hv
  have HC := Lib.hid (byte_cell hc); clear hc
  obtain ⟨rfl, hbB⟩ := ha (by omega)
  unfold maxLen at hm
  have HBB := Lib.hid hbB; clear hbB
  go_enter Try.func39, Try.ntmps39
  go_wp2_with fail
  have HL := Lib.hid hl
  generalize hW : World.alloc (World.alloc w _) _ = W
  have hst : WordsAt w W w.heap.size 70 [] := by
    subst hW
    refine ⟨((Below.refl _ _).alloc (Nat.le_refl _) _).alloc (by simp) _, (zeros_row w _ _ _ 64 (by kernel_rfl)).alloc _, ?_⟩
    have := zeros_row (w.alloc (.cells (Array.replicate 64 (Value.int .u32 0)) 70)) (Array.replicate 64 (Value.int .u32 0)) 70 _ 64 rfl
    rw [World.size_alloc] at this
    exact this
  clear hW
  go_loopw [10] (fun i wr => ∃ k : Nat, k ≤ 16 ∧ i = .int .i64 k ∧ WordsAt w wr w.heap.size 70 (wordsFirst b k)) (fun i _ => 16 - (intOf i).toNat)
  case atStart => exact ⟨0, Nat.zero_le _, rfl, hst⟩
  case round =>
    obtain ⟨k, hk, rfl, hE⟩ := hrel
    by_cases hlt : k < 16
    · have e0 : (4 * (k : Int)).toNat = 4 * k := by omega
      have e1 : (4 * (k : Int) + 1).toNat = 4 * k + 1 := by omega
      have e2 : (4 * (k : Int) + 2).toNat = 4 * k + 2 := by omega
      have e3 : (4 * (k : Int) + 3).toNat = 4 * k + 3 := by omega
      have a0 : IntKind.i64.wrap (4 * (k : Int)) = 4 * (k : Int) := wrap_i64 (by unfold I64; omega)
      have a1 : IntKind.i64.wrap (4 * (k : Int) + 1) = 4 * (k : Int) + 1 := wrap_i64 (by unfold I64; omega)
      have a2 : IntKind.i64.wrap (4 * (k : Int) + 2) = 4 * (k : Int) + 2 := wrap_i64 (by unfold I64; omega)
      have a3 : IntKind.i64.wrap (4 * (k : Int) + 3) = 4 * (k : Int) + 3 := wrap_i64 (by unfold I64; omega)
      have c0 : 0 ≤ 4 * (k : Int) ∧ 4 * (k : Int) < 64 := by omega
      have c1 : 0 ≤ 4 * (k : Int) + 1 ∧ 4 * (k : Int) + 1 < 64 := by omega
      have c2 : 0 ≤ 4 * (k : Int) + 2 ∧ 4 * (k : Int) + 2 < 64 := by omega
      have c3 : 0 ≤ 4 * (k : Int) + 3 ∧ 4 * (k : Int) + 3 < 64 := by omega
      have hk64 : (k : Int) < 64 := by omega
      have q0 := (hE.below.cell (by exact Nat.lt_of_lt_of_le HBB.out hB)).trans (HC.out (4 * k) (by have := HL.out; omega))
      have q1 := (hE.below.cell (by exact Nat.lt_of_lt_of_le HBB.out hB)).trans (HC.out (4 * k + 1) (by have := HL.out; omega))
      have q2 := (hE.below.cell (by exact Nat.lt_of_lt_of_le HBB.out hB)).trans (HC.out (4 * k + 2) (by have := HL.out; omega))
      have q3 := (hE.below.cell (by exact Nat.lt_of_lt_of_le HBB.out hB)).trans (HC.out (4 * k + 3) (by have := HL.out; omega))
      obtain ⟨x0, hx0⟩ : ∃ x, x = byteM b (4 * k) := ⟨_, rfl⟩
      obtain ⟨x1, hx1⟩ : ∃ x, x = byteM b (4 * k + 1) := ⟨_, rfl⟩
      obtain ⟨x2, hx2⟩ : ∃ x, x = byteM b (4 * k + 2) := ⟨_, rfl⟩
      obtain ⟨x3, hx3⟩ : ∃ x, x = byteM b (4 * k + 3) := ⟨_, rfl⟩
      rw [← hx0] at q0; rw [← hx1] at q1; rw [← hx2] at q2; rw [← hx3] at q3
      have g0 := byteM_bounds b (4 * k); have g1 := byteM_bounds b (4 * k + 1); have g2 := byteM_bounds b (4 * k + 2); have g3 := byteM_bounds b (4 * k + 3)
      rw [← hx0] at g0; rw [← hx1] at g1; rw [← hx2] at g2; rw [← hx3] at g3
      have HX := Lib.hid (And.intro hx0 (And.intro hx1 (And.intro hx2 hx3)))
      clear hx0 hx1 hx2 hx3
      have HE := Lib.hid hE; clear hE
      go_wp2_with fail
      refine wp_region_still_tail 35 (by kernel_rfl) (by kernel_rfl) ?_
      simp only [List.take_succ_cons, List.take_zero, List.drop_succ_cons, List.drop_zero]
      change wpStill _ _ (World.drew _) _ _ _
      repeat still_step
      refine wpStill_nil ?_
      have f1 := HE.out.drew.r1.frozen k
      have p1 := HE.out.drew.r1.cell (show k < 64 by omega)
      go_wp2_with fail
      go_roundw
      case rel =>
        refine ⟨k + 1, by omega, by go_num, ?_⟩
        have hv : bits BinOp.or IntKind.u32 (bits BinOp.or IntKind.u32 (bits BinOp.or IntKind.u32 (x0 * 16777216) (x1 * 65536)) (x2 * 256)) x3 = wordM b k := by
          have h0 := HX.out.1; have h1 := HX.out.2.1; have h2 := HX.out.2.2.1; have h3 := HX.out.2.2.2
          unfold wordM orM w32
          rw [← h0, ← h1, ← h2, ← h3]
          have i0 : x0 * 2 ^ 24 % 4294967296 = x0 * 16777216 := by omega
          have i1 : x1 * 2 ^ 16 % 4294967296 = x1 * 65536 := by omega
          have i2 : x2 * 2 ^ 8 % 4294967296 = x2 * 256 := by omega
          rw [i0, i1, i2]
        rw [hv, wordsFirst_succ]
        exact (HE.out.put' (wordsFirst_length b k)).drew
      case measure => simp [intOf]; omega
    · obtain rfl : k = 16 := by omega
      simp only [show ((16 : Nat) : Int) = 16 from rfl]
      have hE : WordsAt w wr w.heap.size 70 (wordsM b 0) := hE
      go_wp2_with fail
      go_loopw [5] (fun i wr => ∃ k : Nat, k ≤ 48 ∧ i = .int .i64 (16 + (k : Int)) ∧ WordsAt w wr w.heap.size 70 (wordsM b k)) (fun i _ => 64 - (intOf i).toNat)
      case atStart => exact ⟨0, by omega, rfl, hE⟩
      case round =>
        obtain ⟨k, hk, rfl, hE⟩ := hrel
        by_cases hlt : k < 48
        · have HE := Lib.hid hE; clear hE
          have hlen := wordsM_length b k
          have HNX := Lib.hid (show wordsM b (k + 1) = wordsM b k ++ [nextW (wordsM b k)] from rfl)
          generalize hL : wordsM b k = L at *
          clear hL
          have b15 : 0 ≤ (16 + (k : Int) - 15) ∧ (16 + (k : Int) - 15) < 64 := by omega
          have e15 : (16 + (k : Int) - 15).toNat = k + 1 := by omega
          have e2 : (16 + (k : Int) - 2).toNat = k + 14 := by omega
          have p15 := HE.out.r1.cell (show k + 1 < 64 by omega)
          have p2 := HE.out.r1.cell (show k + 14 < 64 by omega)
          go_wp2_with fail
          go_quiet (fail)
          go_wp2_with fail
          refine (down_any 7 (by omega) (by omega) _ _).mono ?_
          rintro e w' ⟨rfl, rfl⟩
          go_wp2_with fail
          refine (down_any 18 (by omega) (by omega) _ _).mono ?_
          rintro e w' ⟨rfl, rfl⟩
          go_wp2_with fail
          refine (down_any 17 (by omega) (by omega) _ _).mono ?_
          rintro e w' ⟨rfl, rfl⟩
          go_wp2_with fail
          refine (down_any 19 (by omega) (by omega) _ _).mono ?_
          rintro e w' ⟨rfl, rfl⟩
          go_wp2_with fail
          clear p15 p2 b15 e15 e2
          have hE2 := HE.out.drewN nq
          generalize wr.drewN nq = wq at hE2 ⊢
          have b16 : 0 ≤ (16 + (k : Int) - 16) ∧ (16 + (k : Int) - 16) < 64 := by omega
          have b7 : 0 ≤ (16 + (k : Int) - 7) ∧ (16 + (k : Int) - 7) < 64 := by omega
          have bi : 0 ≤ (16 + (k : Int)) ∧ (16 + (k : Int)) < 64 := by omega
          have w16 : IntKind.i64.wrap (16 + (k : Int) - 16) = 16 + (k : Int) - 16 := wrap_i64 (by unfold I64; omega)
          have w7 : IntKind.i64.wrap (16 + (k : Int) - 7) = 16 + (k : Int) - 7 := wrap_i64 (by unfold I64; omega)
          have g16 : (16 : Int) ≤ 16 + (k : Int) := by omega
          have g7 : (7 : Int) ≤ 16 + (k : Int) ∧ (16 + (k : Int) - 7) < 64 := by omega
          have e16 : (16 + (k : Int) - 16).toNat = k := by omega
          have e7 : (16 + (k : Int) - 7).toNat = k + 9 := by omega
          have ei : (16 + (k : Int)).toNat = 16 + k := by omega
          have p16 := hE2.r1.cell (show k < 64 by omega)
          have p7 := hE2.r1.cell (show k + 9 < 64 by omega)
          refine wp_region_still_tail 15 (by kernel_rfl) (by kernel_rfl) ?_
          simp only [List.take_succ_cons, List.take_zero, List.drop_succ_cons, List.drop_zero]
          change wpStill _ _ (World.drew _) _ _ _
          repeat still_step
          refine wpStill_nil ?_
          have fi := hE2.drew.r1.frozen (16 + k)
          have pi := hE2.drew.r1.cell (show 16 + k < 64 by omega)
          go_wp2_with fail
          go_roundw
          case rel =>
            refine ⟨k + 1, by omega, by go_num, ?_⟩
            rw [HNX.out]
            have hv : nextW L = (gI L k + bits BinOp.xor IntKind.u32 (bits BinOp.xor IntKind.u32 (rotM (gI L (k + 1)) 7) (rotM (gI L (k + 1)) 18)) (gI L (k + 1) / 8) + gI L (k + 9) +
                bits BinOp.xor IntKind.u32 (bits BinOp.xor IntKind.u32 (rotM (gI L (k + 14)) 17) (rotM (gI L (k + 14)) 19)) (gI L (k + 14) / 1024)) % 4294967296 := by
              unfold nextW sigA sigB xorM addM w32
              rw [hlen, show 16 + k - 16 = k by omega, show 16 + k - 15 = k + 1 by omega, show 16 + k - 7 = k + 9 by omega, show 16 + k - 2 = k + 14 by omega]
              have e8 : (2 : Int) ^ 3 = 8 := by decide
              have e10 : (2 : Int) ^ 10 = 1024 := by decide
              rw [e8, e10]
              omega
            rw [hv]
            exact (hE2.drew.put' hlen)
          case measure => simp [intOf]; omega
        · obtain rfl : k = 48 := by omega
          have hl64 : (wordsM b 48).length = 64 := wordsM_length b 48
          have g1 := row_list hE.r1 hl64
          obtain ⟨old, g0, hold⟩ := row_any hE.r0
          have hi64 : (Try.prog.info? 70).map (·.size) = some 64 := by kernel_rfl
          have HN := Lib.hid hE
          clear hE
          go_wp2_with (first | (refine wpList_load_row rfl 70 _ rfl (w.heap.size + 1) rfl 70 _ (0, 0) _ g1 Try.underlying70 rfl (by rw [hi64]; simp [hl64]) ?_) | (refine wpList_store_row rfl 70 _ _ rfl w.heap.size _ rfl rfl 70 old g0 (by rw [hi64]; simp [hl64]) (by simp [hl64, hold]) (by simp [Value.oneCell']) ?_))
          have hB9 : Below w.heap.size w (wr.setRow w.heap.size ((wordsM b 48).map (Value.int .u32)).toArray) := below_setRow HN.out.below (Nat.le_refl _) _
          have g9 := setRow_heap wr w.heap.size old ((wordsM b 48).map (Value.int .u32)).toArray 70 (0, 0) g0
          (try simp only [Exit.inBlock, Exit.then])
          refine bodyPost_ret (v := .agg ((wordsM b 48).map (Value.int .u32)).toArray) ?_ rfl ⟨rfl, hB9⟩
          exact results_cell_row rfl _ _ w.heap.size 70 _ (0, 0) _ rfl g9 Try.underlying70 rfl (by rw [hi64]; simp [hl64])
end Go.Proofs.Ytcgknadodpdblaa
