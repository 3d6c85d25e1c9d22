/- Contracts of layer 1's writer, and of the reference's. Conditions: the writer is made, its bytes are not more than a thousand million. -/
import Derived.Test.YtakcffhknnailaaKB
set_option linter.unusedVariables false
set_option linter.unusedSimpArgs false
namespace Go.Proofs.Ytakcffhknnailaa
open Go.RowKit

def sizeM (x : Int) : Nat := if x < 0 ∨ 2147483647 < x then 0 else if x < 128 then 1 else if x < 16384 then 2 else if x < 2097152 then 3 else if x < 268435456 then 4 else 5
def qM (x : Int) (k : Nat) : Int := x / (128 : Int) ^ k
theorem qM_one (x : Int) : x / 2 ^ 7 = qM x 1 := rfl
theorem qM_step (x : Int) (k : Nat) : qM x k / 128 = qM x (k + 1) := by
  show x / (128 : Int) ^ k / 128 = x / (128 : Int) ^ (k + 1)
  rw [Int.pow_succ, ← Int.ediv_ediv_of_nonneg (Int.le_of_lt (Int.pow_pos (by omega)))]
theorem size_end (x : Int) (k : Nat) (h0 : 0 ≤ x) (h1 : x ≤ 2147483647) (k1 : 1 ≤ k) (k5 : k ≤ 5) (hk : k = 1 ∨ 0 < qM x (k - 1)) (he : ¬ 0 < qM x k) : sizeM x = k := by
  have : k = 1 ∨ k = 2 ∨ k = 3 ∨ k = 4 ∨ k = 5 := by omega
  unfold sizeM
  rcases this with rfl | rfl | rfl | rfl | rfl <;> simp [qM] at hk he <;> split <;> (try omega) <;> split <;> (try omega) <;> split <;> (try omega) <;> split <;> (try omega) <;> split <;> omega
theorem size_more (x : Int) (k : Nat) (h1 : x ≤ 2147483647) (k5 : k ≤ 5) (he : 0 < qM x k) : k + 1 ≤ 5 := by
  rcases Nat.lt_or_ge k 5 with h | h
  · omega
  · obtain rfl : k = 5 := by omega
    simp [qM] at he
    omega
theorem sizeM_le (x : Int) : sizeM x ≤ 5 := by unfold sizeM; (repeat' split) <;> omega
theorem sizeM_pos {x : Int} (h : sizeM x ≠ 0) : 0 ≤ x ∧ x ≤ 2147483647 := by
  unfold sizeM at h
  split at h
  · exact absurd rfl h
  · omega
theorem sizeM_zero {x : Int} (h : sizeM x = 0) : x < 0 ∨ 2147483647 < x := by
  unfold sizeM at h
  split at h
  · assumption
  · (repeat' split at h) <;> omega
theorem sizeM_ok {x : Int} (h0 : 0 ≤ x) (h1 : x ≤ 2147483647) : 1 ≤ sizeM x := by
  have := fun h => sizeM_zero (x := x) h
  omega
theorem sizeM_bad {x : Int} (h : x < 0 ∨ 2147483647 < x) : sizeM x = 0 := if_pos h
theorem qM_nonneg {x : Int} (h : 0 ≤ x) (k : Nat) : 0 ≤ qM x k := Int.ediv_nonneg h (Int.le_of_lt (Int.pow_pos (by omega)))
theorem qM_le {x : Int} (h : 0 ≤ x) (k : Nat) : qM x k ≤ x := Int.ediv_le_self _ h
theorem qM_small (x : Int) (k : Nat) (he : 128 ≤ x / 128 ^ (k - 1)) (h1 : 1 ≤ k) : 0 < qM x k := by
  have := qM_step x (k - 1)
  rw [show k - 1 + 1 = k by omega] at this
  unfold qM at this ⊢
  omega
set_option maxRecDepth 20000 in

theorem size_tr (x : Int) : Tr Try.prog 61 #[.int .i64 x] [] [] (T0 (.int .i64 (sizeM x))) := by
  refine Tr.of (l := [(0, .int .i64 x)]) Try.func61 rfl (n := 19) rfl (.cons rfl .nil) (fun w0 hro => ?_)
  refine G.seq ?_
  refine G.region ?_
  refine G.op rfl (G.val rfl rfl (pv_assign rfl) ?_)
  refine G.nil ?_
  refine G.nThen ?_
  refine G.seq ?_
  refine G.seq ?_
  refine G.region ?_
  refine G.op rfl (G.val rfl rfl (pv_move rfl) ?_)
  refine G.op rfl (G.val rfl rfl (pv_lss rfl rfl) ?_)
  refine G.op rfl (G.val rfl rfl (pv_move rfl) ?_)
  refine G.partP (t := 6) rfl (fun h6 => ?_) (fun h6 => ?_)
  · refine G.pass rfl rfl rfl rfl rfl rfl ?_
    refine G.pass rfl rfl rfl rfl rfl rfl ?_
    refine G.op rfl (G.val rfl rfl (pv_pick rfl rfl) ?_)
    refine G.nil ?_
    refine G.nThen ?_
    refine G.condT rfl (rfl) ?_
    refine G.seq ?_
    refine G.region ?_
    refine G.op rfl (G.val rfl rfl (pv_assign rfl) ?_)
    refine G.nil ?_
    refine G.nThen ?_
    refine G.ret ?_
    refine G.rThen ?_
    first
    | exact G.done1 rfl rfl .nil ⟨congrArg (fun k : Nat => Value.int .i64 k) (size_end x k (by omega) (by omega) (by omega) (by omega) hJ.2.2 (by assumption)).symm, rfl⟩
    | exact G.done1 rfl rfl .nil ⟨by simp [sizeM, *], rfl⟩
  · refine G.want rfl rfl rfl (G.val rfl rfl (pv_move rfl) ?_)
    refine G.want rfl rfl rfl (G.val rfl rfl (pv_gtr rfl rfl) ?_)
    refine G.op rfl (G.val rfl rfl (pv_pick rfl rfl) ?_)
    refine G.nil ?_
    refine G.nThen ?_
    refine G.condP rfl (fun h9 => ?_) (fun h9 => ?_)
    · refine G.seq ?_
      refine G.region ?_
      refine G.op rfl (G.val rfl rfl (pv_assign rfl) ?_)
      refine G.nil ?_
      refine G.nThen ?_
      refine G.ret ?_
      refine G.rThen ?_
      first
      | exact G.done1 rfl rfl .nil ⟨congrArg (fun k : Nat => Value.int .i64 k) (size_end x k (by omega) (by omega) (by omega) (by omega) hJ.2.2 (by assumption)).symm, rfl⟩
      | exact G.done1 rfl rfl .nil ⟨by simp [sizeM, *], rfl⟩
    · refine G.skip ?_
      refine G.nThen ?_
      refine G.seq ?_
      refine G.region ?_
      refine G.op rfl (G.val rfl rfl (pv_assign rfl) ?_)
      refine G.nil ?_
      refine G.nThen ?_
      refine G.seq ?_
      refine G.seq ?_
      refine G.region ?_
      refine G.op rfl (G.val rfl rfl (pv_move rfl) ?_)
      refine G.op rfl (G.val rfl rfl ((pv_shr (s := 7) rfl rfl (by decide)).int (qM_one x)) ?_)
      refine G.op rfl (G.val rfl rfl (pv_assign rfl) ?_)
      refine G.nil ?_
      refine G.nThen ?_
      refine G.block ?_
      refine G.loop (X := Nat) (fun k => 1 ≤ k ∧ k ≤ 5 ∧ (k = 1 ∨ 0 < qM x (k - 1))) (fun k => [(3, .int .i64 k), (0, .int .i64 (qM x k))]) (fun k => []) (fun k => 6 - k) (x0 := 1) (by omega) (.consE rfl (by first | rfl | exact int_eq (by omega) | exact congrArg _ (by omega)) (.consE rfl (by first | rfl | exact int_eq (by omega) | exact congrArg _ (by omega)) .nil)) Sub.nil (fun k hJ => ?_)
      show G _ _ _ [(3, .int .i64 k), (0, .int .i64 (qM x k))] [] _
      refine G.seq ?_
      refine G.seq ?_
      refine G.region ?_
      refine G.op rfl (G.val rfl rfl (pv_move rfl) ?_)
      refine G.op rfl (G.val rfl rfl (pv_gtr rfl rfl) ?_)
      refine G.nil ?_
      refine G.nThen ?_
      refine G.condP rfl (fun h13 => ?_) (fun h13 => ?_)
      · refine G.skip ?_
        refine G.nThen ?_
        refine G.seq ?_
        refine G.block ?_
        refine G.region ?_
        refine G.op rfl (G.val rfl rfl (pv_move rfl) ?_)
        refine G.op rfl (G.val rfl rfl (pv_add64 rfl rfl (by omega)) ?_)
        refine G.op rfl (G.val rfl rfl (pv_assign rfl) ?_)
        refine G.nil ?_
        refine G.nBlock ?_
        refine G.nThen ?_
        refine G.region ?_
        refine G.op rfl (G.val rfl rfl (pv_move rfl) ?_)
        refine G.op rfl (G.val rfl rfl ((pv_shr (s := 7) rfl rfl (by decide)).int (qM_step x k)) ?_)
        refine G.op rfl (G.val rfl rfl (pv_assign rfl) ?_)
        refine G.nil ?_
        exact G.next (k + 1) (by exact ⟨by omega, size_more x k (by omega) (by omega) (by assumption), .inr (by assumption)⟩) (by have := hJ; omega) (.consE rfl (by first | rfl | exact int_eq (by omega) | exact congrArg _ (by omega)) (.consE rfl (by first | rfl | exact int_eq (by omega) | exact congrArg _ (by omega)) .nil)) Sub.nil
      · refine G.exit ?_
        refine G.eThen ?_
        refine G.eThen ?_
        refine G.eBlock ?_
        refine G.nThen ?_
        refine G.seq ?_
        refine G.region ?_
        refine G.op rfl (G.val rfl rfl (pv_move rfl) ?_)
        refine G.op rfl (G.val rfl rfl (pv_assign rfl) ?_)
        refine G.nil ?_
        refine G.nThen ?_
        refine G.ret ?_
        first
        | exact G.done1 rfl rfl .nil ⟨congrArg (fun k : Nat => Value.int .i64 k) (size_end x k (by omega) (by omega) (by omega) (by omega) hJ.2.2 (by assumption)).symm, rfl⟩
        | exact G.done1 rfl rfl .nil ⟨by simp [sizeM, *], rfl⟩
set_option maxRecDepth 20000 in

theorem sizeR_tr (x : Int) : Tr Try.prog 62 #[.int .i64 x] [] [] (T0 (.int .i64 (sizeM x))) := by
  refine Tr.of (l := [(0, .int .i64 x)]) Try.func62 rfl (n := 17) rfl (.cons rfl .nil) (fun w0 hro => ?_)
  refine G.seq ?_
  refine G.region ?_
  refine G.op rfl (G.val rfl rfl (pv_assign rfl) ?_)
  refine G.nil ?_
  refine G.nThen ?_
  refine G.seq ?_
  refine G.seq ?_
  refine G.region ?_
  refine G.op rfl (G.val rfl rfl (pv_move rfl) ?_)
  refine G.op rfl (G.val rfl rfl (pv_lss rfl rfl) ?_)
  refine G.op rfl (G.val rfl rfl (pv_move rfl) ?_)
  refine G.partP (t := 6) rfl (fun h6 => ?_) (fun h6 => ?_)
  · refine G.pass rfl rfl rfl rfl rfl rfl ?_
    refine G.pass rfl rfl rfl rfl rfl rfl ?_
    refine G.op rfl (G.val rfl rfl (pv_pick rfl rfl) ?_)
    refine G.nil ?_
    refine G.nThen ?_
    refine G.condT rfl (rfl) ?_
    refine G.seq ?_
    refine G.region ?_
    refine G.op rfl (G.val rfl rfl (pv_assign rfl) ?_)
    refine G.nil ?_
    refine G.nThen ?_
    refine G.ret ?_
    refine G.rThen ?_
    first
    | exact G.done1 rfl rfl .nil ⟨congrArg (fun k : Nat => Value.int .i64 k) (size_end x k (by omega) (by omega) (by omega) (by omega) hJ.2.2 (by rw [← (show k - 1 + 1 = k by omega), ← qM_step]; omega)).symm, rfl⟩
    | exact G.done1 rfl rfl .nil ⟨by simp [sizeM, *], rfl⟩
  · refine G.want rfl rfl rfl (G.val rfl rfl (pv_move rfl) ?_)
    refine G.want rfl rfl rfl (G.val rfl rfl (pv_gtr rfl rfl) ?_)
    refine G.op rfl (G.val rfl rfl (pv_pick rfl rfl) ?_)
    refine G.nil ?_
    refine G.nThen ?_
    refine G.condP rfl (fun h9 => ?_) (fun h9 => ?_)
    · refine G.seq ?_
      refine G.region ?_
      refine G.op rfl (G.val rfl rfl (pv_assign rfl) ?_)
      refine G.nil ?_
      refine G.nThen ?_
      refine G.ret ?_
      refine G.rThen ?_
      first
      | exact G.done1 rfl rfl .nil ⟨congrArg (fun k : Nat => Value.int .i64 k) (size_end x k (by omega) (by omega) (by omega) (by omega) hJ.2.2 (by rw [← (show k - 1 + 1 = k by omega), ← qM_step]; omega)).symm, rfl⟩
      | exact G.done1 rfl rfl .nil ⟨by simp [sizeM, *], rfl⟩
    · refine G.skip ?_
      refine G.nThen ?_
      refine G.seq ?_
      refine G.region ?_
      refine G.op rfl (G.val rfl rfl (pv_assign rfl) ?_)
      refine G.nil ?_
      refine G.nThen ?_
      refine G.seq ?_
      refine G.block ?_
      refine G.loop (X := Nat) (fun k => 1 ≤ k ∧ k ≤ 5 ∧ (k = 1 ∨ 0 < qM x (k - 1))) (fun k => [(3, .int .i64 k), (0, .int .i64 (qM x (k - 1)))]) (fun k => []) (fun k => 6 - k) (x0 := 1) (by omega) (.cons rfl (.consE rfl (congrArg (Value.int .i64) (by simp [qM])) .nil)) Sub.nil (fun k hJ => ?_)
      show G _ _ _ [(3, .int .i64 k), (0, .int .i64 (qM x (k - 1)))] [] _
      refine G.seq ?_
      refine G.seq ?_
      refine G.region ?_
      refine G.op rfl (G.val rfl rfl (pv_move rfl) ?_)
      refine G.op rfl (G.val rfl rfl (pv_geq rfl rfl) ?_)
      refine G.nil ?_
      refine G.nThen ?_
      refine G.condP rfl (fun h11 => ?_) (fun h11 => ?_)
      · refine G.skip ?_
        refine G.nThen ?_
        refine G.block ?_
        refine G.seq ?_
        refine G.region ?_
        refine G.op rfl (G.val rfl rfl (pv_move rfl) ?_)
        have q0 := qM_nonneg (x := x) (by omega) (k - 1)
        have q1 := qM_le (x := x) (by omega) (k - 1)
        refine G.op rfl (G.val rfl rfl ((pv_quo64 rfl rfl (by omega) (by omega)).int ((qM_step x (k - 1)).trans (by rw [show k - 1 + 1 = k + 1 - 1 by omega]))) ?_)
        refine G.op rfl (G.val rfl rfl (pv_assign rfl) ?_)
        refine G.nil ?_
        refine G.nThen ?_
        refine G.region ?_
        refine G.op rfl (G.val rfl rfl (pv_move rfl) ?_)
        refine G.op rfl (G.val rfl rfl (pv_add64 rfl rfl (by omega)) ?_)
        refine G.op rfl (G.val rfl rfl (pv_assign rfl) ?_)
        refine G.nil ?_
        refine G.nBlock ?_
        exact G.next (k + 1) (by exact ⟨by omega, size_more x k (by omega) (by omega) (qM_small x k (by assumption) (by omega)), .inr (qM_small x k (by assumption) (by omega))⟩) (by have := hJ; omega) (.consE rfl (by first | rfl | exact int_eq (by omega) | exact congrArg _ (by omega)) (.consE rfl (by first | rfl | exact int_eq (by omega) | exact congrArg _ (by omega)) .nil)) Sub.nil
      · refine G.exit ?_
        refine G.eThen ?_
        refine G.eThen ?_
        refine G.eBlock ?_
        refine G.nThen ?_
        refine G.seq ?_
        refine G.region ?_
        refine G.op rfl (G.val rfl rfl (pv_move rfl) ?_)
        refine G.op rfl (G.val rfl rfl (pv_assign rfl) ?_)
        refine G.nil ?_
        refine G.nThen ?_
        refine G.ret ?_
        first
        | exact G.done1 rfl rfl .nil ⟨congrArg (fun k : Nat => Value.int .i64 k) (size_end x k (by omega) (by omega) (by omega) (by omega) hJ.2.2 (by rw [← (show k - 1 + 1 = k by omega), ← qM_step]; omega)).symm, rfl⟩
        | exact G.done1 rfl rfl .nil ⟨by simp [sizeM, *], rfl⟩
/-- a number's byte that has so many behind it -/
def byteAt (x : Int) (i : Nat) : UInt8 := UInt8.ofNat ((qM x i % 128).toNat + if i = 0 then 0 else 128)
def putTo (x : Int) (c : Nat) : List UInt8 := (List.range c).map fun t => byteAt x (sizeM x - 1 - t)
def putM (x : Int) : List UInt8 := putTo x (sizeM x)
theorem putTo_succ (x : Int) (c : Nat) : putTo x (c + 1) = putTo x c ++ [byteAt x (sizeM x - 1 - c)] := by simp [putTo, List.range_succ]
theorem putTo_length (x : Int) (c : Nat) : (putTo x c).length = c := by simp [putTo]
theorem putM_length (x : Int) : (putM x).length = sizeM x := putTo_length x _
theorem byteAt_val (x : Int) (i : Nat) : ((byteAt x i).toNat : Int) = qM x i % 128 + if i = 0 then 0 else 128 := by
  unfold byteAt
  rw [UInt8.toNat_ofNat']
  have h0 := Int.emod_nonneg (qM x i) (show (128 : Int) ≠ 0 by omega)
  have h1 := Int.emod_lt_of_pos (qM x i) (show (0 : Int) < 128 by omega)
  split <;> omega
theorem shr_qM (x : Int) (i : Nat) : x / 2 ^ (7 * i) = qM x i := by
  unfold qM
  rw [Int.pow_mul]
  rfl
set_option maxRecDepth 20000 in

theorem put_tr (x : Int) : Tr Try.prog 63 #[.int .i64 x] [] [] (TX (fun _ : Value => True) (fun v => v) (fun v => [own 5 1 v (sizeM x) ((putM x).map vByte)])) := by
  refine Tr.of (l := [(0, .int .i64 x)]) Try.func63 rfl (n := 28) rfl (.cons rfl .nil) (fun w0 hro => ?_)
  refine G.seq ?_
  refine G.region ?_
  refine G.op rfl (G.val rfl rfl (pv_assign rfl) ?_)
  refine G.nil ?_
  refine G.nThen ?_
  refine G.seq ?_
  refine G.region ?_
  refine G.op rfl (G.val rfl rfl (pv_assign rfl) ?_)
  refine G.nil ?_
  refine G.nThen ?_
  refine G.seq ?_
  refine G.seq ?_
  refine G.region ?_
  refine G.op rfl (G.val rfl rfl (pv_move rfl) ?_)
  refine G.op rfl (G.call0 rfl rfl rfl rfl Try.func62 rfl rfl (sizeR_tr x) may0 ?_)
  have hs5 := sizeM_le x
  refine G.op rfl (G.val rfl rfl (pv_sub64 rfl rfl (by omega)) ?_)
  refine G.op rfl (G.val rfl rfl (pv_assign rfl) ?_)
  refine G.nil ?_
  refine G.nThen ?_
  refine G.block ?_
  refine G.ownNil 5 1 ?_
  refine G.loop (X := Nat × Value) (fun (c, v) => c ≤ sizeM x) (fun (c, v) => [(3, v), (4, .int .i64 ((sizeM x : Int) - 1 - c)), (0, .int .i64 x)]) (fun (c, v) => [own 5 1 v c ((putTo x c).map vByte)]) (fun (c, v) => sizeM x - c) (x0 := (0, .slice none 0 0)) (Nat.zero_le _) (.consE rfl (by first | rfl | exact int_eq (by omega) | exact congrArg _ (by omega)) (.consE rfl (by first | rfl | exact int_eq (by omega) | exact congrArg _ (by omega)) (.consE rfl (by first | rfl | exact int_eq (by omega) | exact congrArg _ (by omega)) .nil))) (.cons (by repeat (first | with_reducible exact Sel.here | exact Sel.here | apply Sel.there)) .nil) (fun ⟨c, v⟩ hJ => ?_)
  show G _ _ _ [(3, v), (4, .int .i64 ((sizeM x : Int) - 1 - c)), (0, .int .i64 x)] [own 5 1 v c ((putTo x c).map vByte)] _
  have hc : c ≤ sizeM x := hJ
  refine G.seq ?_
  refine G.seq ?_
  refine G.region ?_
  refine G.op rfl (G.val rfl rfl (pv_move rfl) ?_)
  refine G.op rfl (G.val rfl rfl (pv_geq rfl rfl) ?_)
  refine G.nil ?_
  refine G.nThen ?_
  refine G.condP rfl (fun h10 => ?_) (fun h10 => ?_)
  · have hx := sizeM_pos (x := x) (by omega)
    have hq0 := qM_nonneg hx.1 (sizeM x - 1 - c)
    have hq1 := qM_le hx.1 (sizeM x - 1 - c)
    obtain ⟨i, hi⟩ : ∃ i, i = sizeM x - 1 - c := ⟨_, rfl⟩
    rw [← hi] at hq0 hq1
    have hil : i ≤ 4 := by omega
    refine G.skip ?_
    refine G.nThen ?_
    refine G.seq ?_
    refine G.block ?_
    refine G.seq ?_
    refine G.region ?_
    refine G.op rfl (G.val rfl rfl (pv_move rfl) ?_)
    refine G.op rfl (G.val rfl rfl (pv_move rfl) ?_)
    refine G.op rfl (G.val rfl rfl ((pv_mul64 rfl rfl (by omega)).int (show _ = ((7 * i : Nat) : Int) by omega)) ?_)
    refine G.op rfl (G.val rfl rfl ((pv_shr rfl rfl (show 7 * i ≤ 64 by omega)).int (shr_qM x i)) ?_)
    refine G.op rfl (G.val rfl rfl (pv_rem64 rfl rfl (by omega) (by omega)) ?_)
    refine G.op rfl (G.val rfl rfl (pv_assign rfl) ?_)
    refine G.nil ?_
    refine G.nThen ?_
    refine G.seq ?_
    have hb := byteAt_val x i
    refine G.cut (X := Unit) (fun _ => True) (fun _ => [(5, .int .i64 ((byteAt x i).toNat : Int)), (3, v), (4, .int .i64 ((sizeM x : Int) - 1 - c)), (0, .int .i64 x)]) (fun _ => [own 5 1 v c ((putTo x c).map vByte)]) ?_ ?_
    · refine G.seq ?_
      refine G.region ?_
      refine G.op rfl (G.val rfl rfl (pv_move rfl) ?_)
      refine G.op rfl (G.val rfl rfl (pv_gtr rfl rfl) ?_)
      refine G.nil ?_
      refine G.nThen ?_
      refine G.condP rfl (fun h19 => ?_) (fun h19 => ?_)
      · refine G.region ?_
        refine G.op rfl (G.val rfl rfl (pv_move rfl) ?_)
        refine G.op rfl (G.val rfl rfl (pv_add64 rfl rfl (by omega)) ?_)
        refine G.op rfl (G.val rfl rfl (pv_assign rfl) ?_)
        refine G.nil ?_
        exact G.meet (()) (by exact trivial) (.consE rfl (congrArg (Value.int .i64) (by rw [hb]; split <;> omega)) (.cons rfl (.cons rfl (.cons rfl .nil)))) (.cons (by repeat (first | with_reducible exact Sel.here | exact Sel.here | apply Sel.there)) .nil)
      · refine G.skip ?_
        exact G.meet (()) (by exact trivial) (.consE rfl (congrArg (Value.int .i64) (by rw [hb]; split <;> omega)) (.cons rfl (.cons rfl (.cons rfl .nil)))) (.cons (by repeat (first | with_reducible exact Sel.here | exact Sel.here | apply Sel.there)) .nil)
    · rintro _ _
      show G _ _ _ [(5, .int .i64 ((byteAt x i).toNat : Int)), (3, v), (4, .int .i64 ((sizeM x : Int) - 1 - c)), (0, .int .i64 x)] [own 5 1 v c ((putTo x c).map vByte)] _
      refine G.region ?_
      refine G.op rfl (G.val rfl rfl (pv_move rfl) ?_)
      refine G.op rfl (G.val rfl rfl (pv_move rfl) ?_)
      have hbl := (byteAt x i).toNat_lt
      refine G.op rfl (G.val rfl rfl ((pv_conv (by rw [Try.underlying3]; rfl) Try.underlying5 rfl).int (wrap_u8 (by omega))) ?_)
      refine G.op rfl (G.lit1 (vs := [_]) rfl Try.underlying24 (by kernel_rfl) rfl (by decide) (by decide) rfl rfl ?_)
      intro b25
      refine G.op rfl (G.append (news := [vByte (byteAt x i)]) (b := b25) (off := 0) rfl Try.underlying24 Try.infoByte' rfl rfl rfl (.there .here) (fun _ => rfl) (fun h => by cases h) rfl (blk_news (k := 1) .here rfl) (vByte_one [byteAt x i]) (by omega) (by omega) ?_)
      intro v'
      rw [hi]
      refine G.op rfl (G.val rfl rfl (pv_assign rfl) ?_)
      refine G.nil ?_
      refine G.nBlock ?_
      refine G.nThen ?_
      refine G.region ?_
      refine G.op rfl (G.val rfl rfl (pv_move rfl) ?_)
      refine G.op rfl (G.val rfl rfl (pv_sub64 rfl rfl (by omega)) ?_)
      refine G.op rfl (G.val rfl rfl (pv_assign rfl) ?_)
      refine G.nil ?_
      exact G.next ((c + 1, v')) (by show c + 1 ≤ sizeM x; omega) (by dsimp only; omega) (.consE rfl (by first | rfl | exact int_eq (by omega) | exact congrArg _ (by omega)) (.consE rfl (by first | rfl | exact int_eq (by omega) | exact congrArg _ (by omega)) (.consE rfl (by first | rfl | exact int_eq (by omega) | exact congrArg _ (by omega)) .nil))) (by show Sub _ [own 5 1 v' (c + 1) ((putTo x (c + 1)).map vByte)] _; rw [putTo_succ, List.map_append]; exact .cons .here .nil)
  · obtain rfl : c = sizeM x := by omega
    refine G.exit ?_
    refine G.eThen ?_
    refine G.eThen ?_
    refine G.eBlock ?_
    refine G.nThen ?_
    refine G.seq ?_
    refine G.region ?_
    refine G.op rfl (G.val rfl rfl (pv_move rfl) ?_)
    refine G.op rfl (G.val rfl rfl (pv_assign rfl) ?_)
    refine G.nil ?_
    refine G.nThen ?_
    refine G.ret ?_
    exact G.done1 (m' := [own 5 1 v (sizeM x) ((putM x).map vByte)]) rfl rfl (.cons .here .nil) ⟨v, trivial, rfl, rfl⟩
def byteHi (x : Int) (i : Nat) : UInt8 := UInt8.ofNat ((qM x i % 128).toNat + 128)
def allM (x : Int) (j : Nat) : List Value := (List.range 5).map fun p => if 4 - p < j then vByte (byteHi x (4 - p)) else .int .u8 0
theorem allM_length (x : Int) (j : Nat) : (allM x j).length = 5 := by simp [allM]
theorem allM_set (x : Int) (j : Nat) (hj : j < 5) : (allM x j).set (4 - j) (vByte (byteHi x j)) = allM x (j + 1) := by
  have : j = 0 ∨ j = 1 ∨ j = 2 ∨ j = 3 ∨ j = 4 := by omega
  rcases this with rfl | rfl | rfl | rfl | rfl <;> rfl
theorem allM_end (x : Int) (k : Nat) (hk : sizeM x = k) (h1 : 1 ≤ k) (h5 : k ≤ 5) : ((allM x k).set 4 (vByte (byteAt x 0))).drop (5 - k) = (putM x).map vByte := by
  unfold putM putTo
  rw [hk]
  have : k = 1 ∨ k = 2 ∨ k = 3 ∨ k = 4 ∨ k = 5 := by omega
  rcases this with rfl | rfl | rfl | rfl | rfl <;> rfl
theorem allM_last (x : Int) (k : Nat) (h1 : 1 ≤ k) (h5 : k ≤ 5) : (allM x k)[4]? = some (vByte (byteHi x 0)) := by
  have : k = 1 ∨ k = 2 ∨ k = 3 ∨ k = 4 ∨ k = 5 := by omega
  rcases this with rfl | rfl | rfl | rfl | rfl <;> rfl
theorem byteHi_val (x : Int) (i : Nat) : ((byteHi x i).toNat : Int) = qM x i % 128 + 128 := by
  unfold byteHi
  rw [UInt8.toNat_ofNat']
  have h0 := Int.emod_nonneg (qM x i) (show (128 : Int) ≠ 0 by omega)
  have h1 := Int.emod_lt_of_pos (qM x i) (show (0 : Int) < 128 by omega)
  omega
theorem or128 (x : Int) (h0 : 0 ≤ x) (h1 : x < 128) : bits .or .u8 x 128 = x + 128 := by
  have : ∀ a : Fin 128, bits .or .u8 (a.val : Int) 128 = (a.val : Int) + 128 := by decide +kernel
  have h := this ⟨x.toNat, by omega⟩
  simp only at h
  rwa [show ((x.toNat : Nat) : Int) = x by omega] at h
theorem and127b (x : Int) (h0 : 0 ≤ x) (h1 : x < 256) : bits .and .u8 x 127 = x % 128 := by
  have : ∀ a : Fin 256, bits .and .u8 (a.val : Int) 127 = (a.val : Int) % 128 := by decide +kernel
  have h := this ⟨x.toNat, by omega⟩
  simp only at h
  rwa [show ((x.toNat : Nat) : Int) = x by omega] at h
set_option maxRecDepth 20000 in

theorem wint_tr (D : Nat) (bad : Bool) (v : Value) (bs : List UInt8) (x : Int) (k : Nat) (hk : sizeM x = k) (h1 : 1 ≤ k) (hb : bs.length ≤ 1000000000) : Tr Try.prog 34 #[.pointer (some ⟨D, 0, none⟩), .int .i64 x] [] [blk D 90 [.bool true, .bool bad, v], own 5 1 v bs.length (bs.map vByte)]
    (TX (fun _ : Value => True) (fun _ => .tuple #[]) (fun v => [blk D 90 [.bool true, .bool bad, v], own 5 1 v (bs.length + k) ((bs ++ putM x).map vByte)])) := by
  have hx := sizeM_pos (x := x) (by omega)
  have h5 := sizeM_le x
  rw [hk] at h5
  refine Tr.of (l := [(0, .pointer (some ⟨D, 0, none⟩)), (1, .int .i64 x)]) Try.func34 rfl (n := 61) rfl (.cons rfl (.cons rfl .nil)) (fun w0 hro => ?_)
  refine G.seq ?_
  refine G.seq ?_
  refine G.region ?_
  refine G.op rfl (G.val rfl rfl (pv_move rfl) ?_)
  refine G.op rfl (G.val rfl rfl (pv_eqlP0 Try.underlying58 rfl rfl) ?_)
  refine G.op rfl (G.val rfl rfl (pv_move rfl) ?_)
  refine G.want rfl rfl rfl (G.val rfl rfl (pv_move rfl) ?_)
  refine G.want rfl rfl rfl (G.val rfl rfl (pv_nilCheck rfl) ?_)
  refine G.want rfl rfl rfl (G.val rfl rfl (pv_fieldAddr (sz := 0) Try.underlying90 rfl (by kernel_rfl) rfl) ?_)
  refine G.want rfl rfl rfl (G.val rfl rfl (pv_load Try.underlying4 rfl rfl (blk_cell (v := .bool true) .here rfl)) ?_)
  refine G.want rfl rfl rfl (G.val rfl rfl (pv_not rfl) ?_)
  refine G.op rfl (G.val rfl rfl (pv_pick rfl rfl) ?_)
  refine G.nil ?_
  refine G.nThen ?_
  refine G.condF rfl (rfl) ?_
  refine G.skip ?_
  refine G.nThen ?_
  refine G.seq ?_
  refine G.region ?_
  refine G.op rfl (G.val rfl rfl (pv_move rfl) ?_)
  refine G.op rfl (G.call0 rfl rfl rfl rfl Try.func61 rfl rfl (by have := size_tr x; rw [hk] at this; exact this) may0 ?_)
  refine G.op rfl (G.val rfl rfl (pv_assign rfl) ?_)
  refine G.nil ?_
  refine G.nThen ?_
  refine G.seq ?_
  refine G.cut (X := Unit) (fun _ => True) (fun _ => [(0, .pointer (some ⟨D, 0, none⟩)), (1, .int .i64 x), (4, .int .i64 k)]) (fun _ => [blk D 90 [.bool true, .bool bad, v], own 5 1 v bs.length (bs.map vByte)]) ?_ ?_
  · refine G.region ?_
    refine G.op rfl (G.val rfl rfl (pv_move rfl) ?_)
    refine G.op rfl (G.val rfl rfl (pv_move rfl) ?_)
    refine G.op rfl (G.val rfl rfl (pv_nilCheck rfl) ?_)
    refine G.op rfl (G.val rfl rfl (pv_fieldAddr (sz := 0) Try.underlying90 rfl (by kernel_rfl) rfl) ?_)
    refine G.op rfl (G.val rfl rfl (pv_load Try.underlying4 rfl rfl (blk_cell (v := .bool bad) .here rfl)) ?_)
    refine G.op rfl (G.val rfl rfl (pv_move rfl) ?_)
    refine G.part (t := 23) rfl (fun h23 => ?_) (fun h23 => ?_)
    · obtain rfl : bad = true := (by assumption)
      refine G.pass rfl rfl rfl rfl rfl rfl ?_
      refine G.pass rfl rfl rfl rfl rfl rfl ?_
      refine G.op rfl (G.val rfl rfl (pv_pick rfl rfl) ?_)
      refine G.op rfl (G.val rfl rfl (pv_nilCheck rfl) ?_)
      refine G.op rfl (G.val rfl rfl (pv_fieldAddr (sz := 0) Try.underlying90 rfl (by kernel_rfl) rfl) ?_)
      refine G.op rfl (G.store (by kernel_rfl) rfl rfl rfl (by repeat (first | with_reducible exact Sel.here | exact Sel.here | apply Sel.there)) (by first | (simp; done) | exact Nat.le_of_ble_eq_true rfl) ?_)
      refine G.nil ?_
      exact G.meet (()) (by exact trivial) (.consE rfl (by first | rfl | exact int_eq (by omega) | exact congrArg _ (by omega)) (.consE rfl (by first | rfl | exact int_eq (by omega) | exact congrArg _ (by omega)) (.consE rfl (by first | rfl | exact int_eq (by omega) | exact congrArg _ (by omega)) .nil))) (.cons (by repeat (first | with_reducible exact Sel.here | exact Sel.here | apply Sel.there)) (.cons (by repeat (first | with_reducible exact Sel.here | exact Sel.here | apply Sel.there)) .nil))
    · obtain rfl : bad = false := (by assumption)
      refine G.want rfl rfl rfl (G.val rfl rfl (pv_move rfl) ?_)
      refine G.want rfl rfl rfl (G.val rfl rfl ((pv_eql rfl rfl).cast (by rw [decide_eq_false (by omega)])) ?_)
      refine G.op rfl (G.val rfl rfl (pv_pick rfl rfl) ?_)
      refine G.op rfl (G.val rfl rfl (pv_nilCheck rfl) ?_)
      refine G.op rfl (G.val rfl rfl (pv_fieldAddr (sz := 0) Try.underlying90 rfl (by kernel_rfl) rfl) ?_)
      refine G.op rfl (G.store (by kernel_rfl) rfl rfl rfl (by repeat (first | with_reducible exact Sel.here | exact Sel.here | apply Sel.there)) (by first | (simp; done) | exact Nat.le_of_ble_eq_true rfl) ?_)
      refine G.nil ?_
      exact G.meet (()) (by exact trivial) (.consE rfl (by first | rfl | exact int_eq (by omega) | exact congrArg _ (by omega)) (.consE rfl (by first | rfl | exact int_eq (by omega) | exact congrArg _ (by omega)) (.consE rfl (by first | rfl | exact int_eq (by omega) | exact congrArg _ (by omega)) .nil))) (.cons (by repeat (first | with_reducible exact Sel.here | exact Sel.here | apply Sel.there)) (.cons (by repeat (first | with_reducible exact Sel.here | exact Sel.here | apply Sel.there)) .nil))
  · rintro _ _
    show G _ _ _ [(0, .pointer (some ⟨D, 0, none⟩)), (1, .int .i64 x), (4, .int .i64 k)] [blk D 90 [.bool true, .bool bad, v], own 5 1 v bs.length (bs.map vByte)] _
    refine G.seq ?_
    refine G.region ?_
    refine G.op rfl (G.alloc (z := .agg (Array.replicate 5 (.int .u8 0))) (cs := allM x 0) rfl (by kernel_rfl) rfl ?_)
    intro b5
    refine G.nil ?_
    refine G.nThen ?_
    refine G.seq ?_
    refine G.seq ?_
    refine G.region ?_
    refine G.op rfl (G.val rfl rfl (pv_move rfl) ?_)
    refine G.op rfl (G.val rfl rfl (pv_move rfl) ?_)
    refine G.nil ?_
    refine G.nThen ?_
    refine G.block ?_
    refine G.loop (X := Nat) (fun k' => k' ≤ k) (fun k' => [(30, .int .i64 k'), (29, .int .i64 k), (0, .pointer (some ⟨D, 0, none⟩)), (1, .int .i64 x), (4, .int .i64 k), (5, .pointer (some ⟨b5, 0, none⟩))]) (fun k' => [blk b5 92 (allM x k'), blk D 90 [.bool true, .bool bad, v], own 5 1 v bs.length (bs.map vByte)]) (fun k' => k - k') (x0 := 0) (Nat.zero_le _) (.consE rfl (by first | rfl | exact int_eq (by omega) | exact congrArg _ (by omega)) (.consE rfl (by first | rfl | exact int_eq (by omega) | exact congrArg _ (by omega)) (.consE rfl (by first | rfl | exact int_eq (by omega) | exact congrArg _ (by omega)) (.consE rfl (by first | rfl | exact int_eq (by omega) | exact congrArg _ (by omega)) (.consE rfl (by first | rfl | exact int_eq (by omega) | exact congrArg _ (by omega)) (.consE rfl (by first | rfl | exact int_eq (by omega) | exact congrArg _ (by omega)) .nil)))))) (.cons (by repeat (first | with_reducible exact Sel.here | exact Sel.here | apply Sel.there)) (.cons (by repeat (first | with_reducible exact Sel.here | exact Sel.here | apply Sel.there)) (.cons (by repeat (first | with_reducible exact Sel.here | exact Sel.here | apply Sel.there)) .nil))) (fun k' hJ => ?_)
    show G _ _ _ [(30, .int .i64 k'), (29, .int .i64 k), (0, .pointer (some ⟨D, 0, none⟩)), (1, .int .i64 x), (4, .int .i64 k), (5, .pointer (some ⟨b5, 0, none⟩))] [blk b5 92 (allM x k'), blk D 90 [.bool true, .bool bad, v], own 5 1 v bs.length (bs.map vByte)] _
    refine G.seq ?_
    refine G.region ?_
    refine G.op rfl (G.val rfl rfl (pv_lss rfl rfl) ?_)
    refine G.nil ?_
    refine G.nThen ?_
    refine G.seq ?_
    refine G.condP rfl (fun h31 => ?_) (fun h31 => ?_)
    · have hq0 := qM_nonneg hx.1 k'
      have hq1 := qM_le hx.1 k'
      have hbh := byteHi_val x k'
      refine G.skip ?_
      refine G.nThen ?_
      refine G.seq ?_
      refine G.block ?_
      refine G.seq ?_
      refine G.region ?_
      refine G.op rfl (G.val rfl rfl (pv_move rfl) ?_)
      refine G.op rfl (G.val rfl rfl (pv_assign rfl) ?_)
      refine G.nil ?_
      refine G.nThen ?_
      refine G.region ?_
      refine G.op rfl (G.val rfl rfl (pv_move rfl) ?_)
      refine G.op rfl (G.val rfl rfl (pv_sub64 rfl rfl (by omega)) ?_)
      refine G.op rfl (G.val rfl rfl (pv_move rfl) ?_)
      refine G.op rfl (G.val rfl rfl (pv_move rfl) ?_)
      refine G.op rfl (G.val rfl rfl ((pv_mul64 rfl rfl (by omega)).int (show _ = ((7 * k' : Nat) : Int) by omega)) ?_)
      refine G.op rfl (G.val rfl rfl ((pv_shr rfl rfl (show 7 * k' ≤ 64 by omega)).int (shr_qM x k')) ?_)
      refine G.op rfl (G.val rfl rfl ((pv_and rfl rfl).int (and_mask 7 (by omega) _ hq0 (by omega))) ?_)
      refine G.op rfl (G.val rfl rfl ((pv_conv (by rw [Try.underlying3]; rfl) Try.underlying5 rfl).int (wrap_u8 (show 0 ≤ qM x k' % 128 ∧ qM x k' % 128 ≤ 255 by omega))) ?_)
      refine G.op rfl (G.val rfl rfl ((pv_or rfl rfl).int ((or128 _ (by omega) (by omega)).trans hbh.symm)) ?_)
      refine G.op rfl (G.val rfl rfl (pv_ixA (k := 4 - k') (sz := 1) Try.underlying92 Try.sizeByte rfl rfl (by omega) (by omega)) ?_)
      refine G.op rfl (G.store (o := 4 - k') Try.sizeByte (by simp [ev, Fr.get]) rfl rfl .here (by rw [allM_length]; omega) ?_)
      refine G.nil ?_
      refine G.nBlock ?_
      refine G.nThen ?_
      refine G.region ?_
      refine G.op rfl (G.val rfl rfl (pv_add64 rfl rfl (by omega)) ?_)
      refine G.op rfl (G.val rfl rfl (pv_move rfl) ?_)
      refine G.nil ?_
      exact G.next (k' + 1) (by omega) (by omega) (.consE rfl (by first | rfl | exact int_eq (by omega) | exact congrArg _ (by omega)) (.consE rfl (by first | rfl | exact int_eq (by omega) | exact congrArg _ (by omega)) (.consE rfl (by first | rfl | exact int_eq (by omega) | exact congrArg _ (by omega)) (.consE rfl (by first | rfl | exact int_eq (by omega) | exact congrArg _ (by omega)) (.consE rfl (by first | rfl | exact int_eq (by omega) | exact congrArg _ (by omega)) (.consE rfl (by first | rfl | exact int_eq (by omega) | exact congrArg _ (by omega)) .nil)))))) (by rw [← allM_set x k' (by omega)]; exact .cons .here (.cons .here (.cons .here .nil)))
    · obtain rfl : k = k' := by omega
      refine G.exit ?_
      refine G.eThen ?_
      refine G.eThen ?_
      refine G.eBlock ?_
      refine G.nThen ?_
      refine G.seq ?_
      refine G.seq ?_
      refine G.region ?_
      refine G.op rfl (G.val rfl rfl (pv_move rfl) ?_)
      refine G.op rfl (G.val rfl rfl (pv_gtr rfl rfl) ?_)
      refine G.nil ?_
      refine G.nThen ?_
      refine G.condT rfl (decide_eq_true (by omega)) ?_
      refine G.region ?_
      refine G.op rfl (G.val rfl rfl (pv_ixA (k := 4) (sz := 1) Try.underlying92 Try.sizeByte rfl rfl rfl (by omega)) ?_)
      refine G.op rfl (G.val rfl rfl (pv_load Try.underlying5 rfl rfl (blk_cell (o := 0 + 4 * 1) .here (allM_last x k h1 h5))) ?_)
      have hbh := byteHi_val x 0
      have hba := byteAt_val x 0
      refine G.op rfl (G.val rfl rfl ((pv_and rfl rfl).int ((and127b _ (by omega) (by omega)).trans (show _ = ((byteAt x 0).toNat : Int) by rw [hbh, hba]; simp))) ?_)
      refine G.op rfl (G.val rfl rfl (pv_ixA (k := 4) (sz := 1) Try.underlying92 Try.sizeByte rfl rfl rfl (by omega)) ?_)
      refine G.op rfl (G.store (o := 4) Try.sizeByte rfl rfl rfl .here (by rw [allM_length]; omega) ?_)
      refine G.nil ?_
      refine G.nThen ?_
      refine G.drawn (by kernel_rfl) (k := 12) rfl [] ?_
      refine G.take (i := 0) rfl rfl rfl (by kernel_rfl) (by kernel_rfl) (by kernel_rfl) (fun _ _ _ h => h) rfl (pv_move rfl) Sub.nil ?_
      refine G.take (i := 1) rfl rfl rfl (by kernel_rfl) (by kernel_rfl) (by kernel_rfl) (fun _ _ _ h => h) rfl (pv_move rfl) Sub.nil ?_
      refine G.take (i := 2) rfl rfl rfl (by kernel_rfl) (by kernel_rfl) (by kernel_rfl) (fun _ _ _ h => h) rfl (pv_nilCheck rfl) Sub.nil ?_
      refine G.take (i := 3) rfl rfl rfl (by kernel_rfl) (by kernel_rfl) (by kernel_rfl) (fun _ _ _ h => h) rfl (pv_fieldAddr (sz := 0) Try.underlying90 rfl (by kernel_rfl) rfl) Sub.nil ?_
      refine G.take (i := 5) rfl rfl rfl (by kernel_rfl) (by kernel_rfl) (by kernel_rfl) (fun _ _ _ h => h) rfl (pv_move rfl) Sub.nil ?_
      refine G.take (i := 6) rfl rfl rfl (by kernel_rfl) (by kernel_rfl) (by kernel_rfl) (fun _ _ _ h => h) rfl (pv_sub64 rfl rfl (by omega)) Sub.nil ?_
      refine G.take (i := 7) rfl rfl rfl (by kernel_rfl) (by kernel_rfl) (by kernel_rfl) (fun _ _ _ h => h) rfl (pv_subArO (k := 5 - k) (k' := k) (sz := 1) Try.underlying92 Try.sizeByte rfl rfl (by omega) (by omega)) Sub.nil ?_
      refine G.one (i := 4) (by kernel_rfl) ?_
      refine G.turnOp rfl rfl (G.val rfl rfl (pv_load Try.underlying24 rfl rfl (blk_cell (v := v) (.there .here) rfl)) ?_)
      refine G.back Sub.nil ?_
      refine G.one (i := 8) (by kernel_rfl) ?_
      refine G.turnOp rfl rfl (G.append (k := bs.length) (j := k) (cs := bs.map vByte) (news := (putM x).map vByte) (b := b5) (off := subOff 5 (5 - k) 0 1) rfl Try.underlying24 Try.infoByte' rfl rfl rfl (.there (.there .here)) (fun _ => rfl) (fun h => by cases h) (by rw [List.length_map, putM_length, hk, Nat.mul_one]) (blk_news (k := k) .here (by rw [subOff_lt (by omega), Nat.zero_add, Nat.mul_one]; show (((allM x k).set 4 (vByte (byteAt x 0))).drop (5 - k)).take k = _; rw [allM_end x k hk h1 h5, List.take_of_length_le (by rw [List.length_map, putM_length, hk]; exact Nat.le_refl _)])) (vByte_one _) (by omega) (by omega) ?_)
      intro v'
      refine G.ownFact .here (fun hv1 _ => ?_)
      refine G.back Sub.nil ?_
      refine G.take (i := 9) rfl rfl rfl (by kernel_rfl) (by kernel_rfl) (by kernel_rfl) (fun _ _ _ h => h) rfl (pv_nilCheck rfl) Sub.nil ?_
      refine G.take (i := 10) rfl rfl rfl (by kernel_rfl) (by kernel_rfl) (by kernel_rfl) (fun _ _ _ h => h) rfl (pv_fieldAddr (sz := 0) Try.underlying90 rfl (by kernel_rfl) rfl) Sub.nil ?_
      refine G.one (i := 11) (by kernel_rfl) ?_
      refine G.turnOp rfl rfl (G.store (o := 2) (by kernel_rfl) rfl rfl hv1 (.there (.there .here)) (by simp) ?_)
      refine G.back Sub.nil ?_
      refine G.over (by kernel_rfl) ?_
      exact G.doneE (m' := [blk D 90 [.bool true, .bool bad, v'], own 5 1 v' (bs.length + k) ((bs ++ putM x).map vByte)]) rfl (.cons .here (.cons (by rw [List.map_append]; exact .here) .nil)) ⟨v', trivial, rfl, rfl⟩
end Go.Proofs.Ytakcffhknnailaa
