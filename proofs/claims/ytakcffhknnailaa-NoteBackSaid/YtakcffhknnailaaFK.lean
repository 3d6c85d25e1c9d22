/- Plain laws of layer 1's numbers, read: whole, and cut short. Conditions: none. -/
import Derived.Test.YtakcffhknnailaaFL
import Derived.Test.YtakcffhknnailaaFV
set_option linter.unusedVariables false
set_option linter.unusedSimpArgs false
namespace Go.Proofs.Ytakcffhknnailaa
open Go.RowKit

/-- which place below n a number picks -/
def pickN (x : Int) (n : Nat) : Nat := (x % (n : Int)).toNat
theorem pickN_lt (x : Int) {n : Nat} (h : 0 < n) : pickN x n < n := by
  unfold pickN
  have h1 := Int.emod_nonneg x (show (n : Int) ≠ 0 by omega)
  have h2 := Int.emod_lt_of_pos x (show (0 : Int) < n by omega)
  omega
theorem tmod_em {x : Int} {n : Nat} (h : 0 < n) : x.tmod n = x % n ∨ (x.tmod n = x % n - n ∧ x % n ≠ 0) := by
  rw [Int.tmod_eq_emod]
  by_cases c : 0 ≤ x ∨ (n : Int) ∣ x
  · left; rw [if_pos c]; simp
  · right; rw [if_neg c, Int.natAbs_natCast]; exact ⟨rfl, fun h3 => c (.inr (Int.dvd_of_emod_eq_zero h3))⟩
theorem pick_neg {x : Int} {n : Nat} (h : 0 < n) (h0 : x.tmod n < 0) : x.tmod n + n = (pickN x n : Int) := by
  unfold pickN
  have h1 := Int.emod_nonneg x (show (n : Int) ≠ 0 by omega)
  rw [Int.toNat_of_nonneg h1]
  rcases tmod_em (x := x) h with e | ⟨e, e2⟩ <;> omega
theorem pick_pos {x : Int} {n : Nat} (h : 0 < n) (h0 : ¬ x.tmod n < 0) : x.tmod n = (pickN x n : Int) := by
  unfold pickN
  have h1 := Int.emod_nonneg x (show (n : Int) ≠ 0 by omega)
  have h2 := Int.emod_lt_of_pos x (show (0 : Int) < n by omega)
  rw [Int.toNat_of_nonneg h1]
  rcases tmod_em (x := x) h with e | ⟨e, e2⟩ <;> omega
theorem tmod_abs {x : Int} {n : Nat} (h : 0 < n) : -(n : Int) < x.tmod n ∧ x.tmod n < n := by
  have h1 := Int.emod_nonneg x (show (n : Int) ≠ 0 by omega)
  have h2 := Int.emod_lt_of_pos x (show (0 : Int) < n by omega)
  rcases tmod_em (x := x) h with e | ⟨e, e2⟩ <;> omega
/-- what was read of a number, so many bytes of it -/
def preN (x : Int) (i : Nat) : Nat := (qM x (sizeM x - i)).toNat
theorem preN_zero {x : Int} (h : sizeM x ≠ 0) : preN x 0 = 0 := by
  unfold preN
  rw [Nat.sub_zero, qM_end.resolve_right h]
  rfl
theorem preN_step {x : Int} {i : Nat} (h : sizeM x ≠ 0) (hi : i < sizeM x) : preN x i * 128 + (byteAt x (sizeM x - 1 - i)).toNat % 128 = preN x (i + 1) := by
  have h0 := sizeM_pos h
  have hb := byteAt_val x (sizeM x - 1 - i)
  have h1 := qM_step x (sizeM x - 1 - i)
  rw [show sizeM x - 1 - i + 1 = sizeM x - i by omega] at h1
  have h2 := qM_nonneg h0.1 (sizeM x - i)
  have h3 := qM_nonneg h0.1 (sizeM x - 1 - i)
  unfold preN
  rw [show sizeM x - (i + 1) = sizeM x - 1 - i by omega]
  split at hb <;> omega
theorem preN_end {x : Int} (h : sizeM x ≠ 0) : (preN x (sizeM x) : Int) = x := by
  have h0 := sizeM_pos h
  unfold preN
  rw [Nat.sub_self]
  unfold qM
  rw [Int.pow_zero, Int.ediv_one, Int.toNat_of_nonneg h0.1]
theorem byteAt_hi {x : Int} {i : Nat} (h : i ≠ 0) : 128 ≤ (byteAt x i).toNat := by
  have := byteAt_val x i
  rw [if_neg h] at this
  have h0 := Int.emod_nonneg (qM x i) (show (128 : Int) ≠ 0 by omega)
  omega
theorem byteAt_lo {x : Int} : ¬ 128 ≤ (byteAt x 0).toNat := by
  have := byteAt_val x 0
  rw [if_pos rfl] at this
  omega
theorem top_ne {x : Int} (h : sizeM x ≠ 0) : byteAt x (sizeM x - 1) ≠ 128 := by
  intro he
  have hv := byteAt_val x (sizeM x - 1)
  rw [he] at hv
  have h0 := sizeM_pos h
  have : (128 : UInt8).toNat = 128 := rfl
  rw [this] at hv
  revert hv h
  unfold sizeM
  (repeat' split) <;> intro h hv <;> simp [qM] at * <;> omega
section
variable {x : Int} {b : List UInt8} {L : Nat}
theorem go_cut (h : sizeM x ≠ 0) (hb : ∀ i, i < L → b[i]? = some (byteAt x (sizeM x - 1 - i))) (hL : L < sizeM x) (hl : b.length = L) : ∀ j i, i + j = L → getGo b 0 (5 - i) i (preN x i) = .bad 4 L
  | 0, i, hi => by
    have := sizeM_le x
    rw [getGo_none (by omega) (by omega), hl]
  | j + 1, i, hi => by
    have h5 := sizeM_le x
    have hbi := hb i (by omega)
    have hlt : 0 + i < b.length := by omega
    have e : b[0 + i] = byteAt x (sizeM x - 1 - i) := by
      have h3 : b[0 + i]? = some (byteAt x (sizeM x - 1 - i)) := by rw [Nat.zero_add]; exact hbi
      exact Option.some.inj ((List.getElem?_eq_getElem hlt).symm.trans h3)
    rw [getGo_hi (by omega) hlt (by rw [e]; exact byteAt_hi (by omega)), e, preN_step h (by omega)]
    exact go_cut h hb hL hl j (i + 1) (by omega)
theorem go_all (h : sizeM x ≠ 0) (hb : ∀ i, i < sizeM x → b[i]? = some (byteAt x (sizeM x - 1 - i))) : ∀ j i, i + 1 + j = sizeM x → getGo b 0 (5 - i) i (preN x i) = .ok (preN x (sizeM x)) (sizeM x)
  | j, i, hi => by
    have h5 := sizeM_le x
    have h0 := sizeM_pos h
    have hbi := hb i (by omega)
    have hlt : 0 + i < b.length := by rw [Nat.zero_add]; exact (List.getElem?_eq_some_iff.1 hbi).1
    have e : b[0 + i] = byteAt x (sizeM x - 1 - i) := by
      have h3 : b[0 + i]? = some (byteAt x (sizeM x - 1 - i)) := by rw [Nat.zero_add]; exact hbi
      exact Option.some.inj ((List.getElem?_eq_getElem hlt).symm.trans h3)
    cases j with
    | zero =>
      have hi0 : sizeM x - 1 - i = 0 := by omega
      have he := preN_end h
      have hs := preN_step h (show i < sizeM x by omega)
      rw [show i + 1 = sizeM x by omega] at hs
      rw [getGo_ok (by omega) hlt (by rw [e, hi0]; exact byteAt_lo) (by rw [e, hs]; omega), e, hs]
      congr 1
      omega
    | succ j =>
      rw [getGo_hi (by omega) hlt (by rw [e]; exact byteAt_hi (by omega)), e, preN_step h (by omega)]
      exact go_all h hb j (i + 1) (by omega)
theorem getM_top (h : sizeM x ≠ 0) (h0 : b[0]? = some (byteAt x (sizeM x - 1)) ∨ b = []) : getM b 0 = getGo b 0 (5 - 0) 0 (preN x 0) := by
  rw [preN_zero h]
  unfold getM
  rw [if_neg]
  rcases h0 with h0 | rfl
  · rw [h0]
    intro he
    exact top_ne h (Option.some.inj he)
  · intro he
    cases he
end
/-- a number that is cut short -/
theorem getM_cut {x : Int} (h : sizeM x ≠ 0) {k : Nat} (hk : k < sizeM x) : getM ((putM x).take k) 0 = .bad 4 k := by
  have hl := putM_length x
  have hb : ∀ i, i < k → ((putM x).take k)[i]? = some (byteAt x (sizeM x - 1 - i)) := fun i hi => by
    rw [List.getElem?_take, if_pos hi, putM_get (by omega)]
  rw [getM_top h]
  · exact go_cut h hb hk (by rw [List.length_take]; omega) k 0 (by omega)
  · cases k with
    | zero => exact .inr rfl
    | succ k => exact .inl (hb 0 (by omega))
theorem getM_all {x : Int} (h : sizeM x ≠ 0) (r : List UInt8) : getM (putM x ++ r) 0 = .ok (preN x (sizeM x)) (sizeM x) := by
  have hl := putM_length x
  have hb : ∀ i, i < sizeM x → (putM x ++ r)[i]? = some (byteAt x (sizeM x - 1 - i)) := fun i hi => by
    rw [List.getElem?_append_left (by omega), putM_get (by omega)]
  rw [getM_top h (.inl (hb 0 (by omega)))]
  exact go_all h hb (sizeM x - 1) 0 (by omega)
theorem bnd_cut {x : Int} (h : sizeM x ≠ 0) {k : Nat} (hk : k < (putM x).length) (low high above : Int) : bndM ((putM x).take k) 0 low high above = .bad 4 k := bnd_bad (getM_cut h (by rwa [putM_length] at hk))
theorem bytes_cut {b : List UInt8} {k : Nat} {high : Int} (hb : (b.length : Int) ≤ high) (hm : high ≤ 2147483647) (hk : k < (bytesM b).length) : bytR ((bytesM b).take k) 0 high = .bad 4 k := by
  have hs : sizeM (b.length : Int) ≠ 0 := by have := sizeM_ok (x := (b.length : Int)) (by omega) (by omega); omega
  have hl := putM_length (b.length : Int)
  unfold bytesM at hk ⊢
  rw [List.length_append] at hk
  rcases Nat.lt_or_ge k (sizeM (b.length : Int)) with h | h
  · rw [List.take_append_of_le_length (by omega)]
    exact bytR_bad (bnd_cut hs (by omega) _ _ _)
  · have e : (putM (b.length : Int) ++ b).take k = putM (b.length : Int) ++ b.take (k - sizeM (b.length : Int)) := by
      rw [List.take_append, List.take_of_length_le (by omega), hl]
    rw [e]
    have hg := getM_all hs (b.take (k - sizeM (b.length : Int)))
    have he := preN_end hs
    have hlen : (putM (b.length : Int) ++ b.take (k - sizeM (b.length : Int))).length = k := by rw [List.length_append, List.length_take]; omega
    have := bytR_cut (b := putM (b.length : Int) ++ b.take (k - sizeM (b.length : Int))) (a := 0) (n := preN (b.length : Int) (sizeM (b.length : Int))) (nx := sizeM (b.length : Int)) (high := high) (bnd_ok hg (by omega) (by omega)) (by rw [hlen]; omega)
    rw [this, hlen]
theorem int_bad {b : List UInt8} {a : Nat} {low high : Int} {e q : Nat} (hr : bndM b a low high 5 = .bad e q) (D : Nat) (v : Value) (p : Int) (ha : a ≤ b.length) (hb : b.length ≤ 1000000000) : Tr Try.prog 48 #[.pointer (some ⟨D, 0, none⟩), .int .i64 low, .int .i64 high] [] [blk D 96 [.bool true, v, .int .i64 (a : Int), .int .i64 0, .int .i64 p], own 5 1 v b.length (b.map vByte)]
    (TX (fun _ : Unit => True) (fun _ => .int .i64 0) (fun _ => [blk D 96 [.bool true, v, .int .i64 (a : Int), .int .i64 (e : Int), .int .i64 (q : Int)], own 5 1 v b.length (b.map vByte)])) := by
  have := int_tr D a v b p low high ha hb
  rw [hr] at this
  exact this
theorem int_ok {b : List UInt8} {a : Nat} {low high : Int} {n nx : Nat} (hr : bndM b a low high 5 = .ok n nx) (D : Nat) (v : Value) (p : Int) (ha : a ≤ b.length) (hb : b.length ≤ 1000000000) : Tr Try.prog 48 #[.pointer (some ⟨D, 0, none⟩), .int .i64 low, .int .i64 high] [] [blk D 96 [.bool true, v, .int .i64 (a : Int), .int .i64 0, .int .i64 p], own 5 1 v b.length (b.map vByte)]
    (TX (fun _ : Unit => True) (fun _ => .int .i64 (n : Int)) (fun _ => [blk D 96 [.bool true, v, .int .i64 (nx : Int), .int .i64 0, .int .i64 p], own 5 1 v b.length (b.map vByte)])) := by
  have := int_tr D a v b p low high ha hb
  rw [hr] at this
  exact this
theorem bytes_bad {b : List UInt8} {a : Nat} {high : Int} {e q : Nat} (hr : bytR b a high = .bad e q) (D : Nat) (v : Value) (p : Int) (ha : a ≤ b.length) (hb : b.length ≤ 1000000000) : Tr Try.prog 53 #[.pointer (some ⟨D, 0, none⟩), .int .i64 high] [] [blk D 96 [.bool true, v, .int .i64 (a : Int), .int .i64 0, .int .i64 p], own 5 1 v b.length (b.map vByte)]
    (TX (fun _ : Value => True) (fun x => x) (fun x => [blk D 96 [.bool true, v, .int .i64 (a : Int), .int .i64 (e : Int), .int .i64 (q : Int)], own 5 1 v b.length (b.map vByte), own 5 1 x ([] : List UInt8).length (([] : List UInt8).map vByte)])) := by
  have := bytes_tr D a v b p high ha hb
  rw [hr] at this
  exact this
theorem id_bad {b : List UInt8} {a : Nat} (hr : b.length < a + 16) (D : Nat) (v : Value) (p : Int) (ha : a ≤ b.length) (hb : b.length ≤ 1000000000) : Tr Try.prog 51 #[.pointer (some ⟨D, 0, none⟩)] [] [blk D 96 [.bool true, v, .int .i64 (a : Int), .int .i64 0, .int .i64 p], own 5 1 v b.length (b.map vByte)]
    (TX (fun _ : Unit => True) (fun _ => vID (List.replicate 16 0)) (fun _ => [blk D 96 [.bool true, v, .int .i64 (a : Int), .int .i64 4, .int .i64 (b.length : Int)], own 5 1 v b.length (b.map vByte)])) := by
  have := id_tr D a v b p ha hb
  unfold idR outI at this
  rw [if_pos hr, if_pos hr] at this
  exact this
set_option maxRecDepth 20000 in

theorem pick_tr (x : Int) (n : Nat) (h0 : 0 < n) (hn : n ≤ 9000000000000000000) : Tr Try.prog 26 #[.int .i64 x, .int .i64 (n : Int)] [] [] (T0 (.int .i64 (pickN x n : Int))) := by
  refine Tr.of (l := [(0, .int .i64 x), (1, .int .i64 (n : Int))]) Try.func26 rfl (n := 16) rfl (.cons rfl (.cons rfl .nil)) (fun w0 hro => ?_)
  refine G.seq ?_
  refine G.region ?_
  refine G.op rfl (G.val rfl rfl (pv_assign rfl) ?_)
  refine G.nil ?_
  refine G.nThen ?_
  refine G.seq ?_
  refine G.seq ?_
  refine G.region ?_
  refine G.op rfl (G.val rfl rfl (pv_move rfl) ?_)
  refine G.op rfl (G.val rfl rfl (pv_lss rfl rfl) ?_)
  refine G.nil ?_
  refine G.nThen ?_
  refine G.condF rfl (decide_eq_false (by omega)) ?_
  refine G.skip ?_
  refine G.nThen ?_
  refine G.seq ?_
  refine G.region ?_
  refine G.op rfl (G.val rfl rfl (pv_move rfl) ?_)
  refine G.op rfl (G.val rfl rfl (pv_move rfl) ?_)
  refine G.op rfl (G.val rfl rfl (pv_remk rfl rfl (by omega)) ?_)
  refine G.op rfl (G.val rfl rfl (pv_assign rfl) ?_)
  refine G.nil ?_
  refine G.nThen ?_
  refine G.seq ?_
  refine G.seq ?_
  refine G.region ?_
  refine G.op rfl (G.val rfl rfl (pv_move rfl) ?_)
  have hab := tmod_abs (x := x) h0
  refine G.op rfl (G.val rfl rfl (pv_lss rfl rfl) ?_)
  refine G.nil ?_
  refine G.nThen ?_
  refine G.condP rfl (fun h11 => ?_) (fun h11 => ?_)
  · refine G.region ?_
    refine G.op rfl (G.val rfl rfl (pv_move rfl) ?_)
    refine G.op rfl (G.val rfl rfl (pv_move rfl) ?_)
    refine G.op rfl (G.val rfl rfl ((pv_add64 rfl rfl (by omega)).int (pick_neg h0 h11)) ?_)
    refine G.op rfl (G.val rfl rfl (pv_assign rfl) ?_)
    refine G.nil ?_
    refine G.nThen ?_
    refine G.seq ?_
    refine G.region ?_
    refine G.op rfl (G.val rfl rfl (pv_move rfl) ?_)
    refine G.op rfl (G.val rfl rfl (pv_assign rfl) ?_)
    refine G.nil ?_
    refine G.nThen ?_
    refine G.ret ?_
    first | exact G.done1 rfl rfl .nil ⟨rfl, rfl⟩ | exact G.done1 rfl rfl .nil ⟨congrArg (Value.int .i64) (pick_pos h0 h11), rfl⟩
  · refine G.skip ?_
    refine G.nThen ?_
    refine G.seq ?_
    refine G.region ?_
    refine G.op rfl (G.val rfl rfl (pv_move rfl) ?_)
    refine G.op rfl (G.val rfl rfl (pv_assign rfl) ?_)
    refine G.nil ?_
    refine G.nThen ?_
    refine G.ret ?_
    first | exact G.done1 rfl rfl .nil ⟨rfl, rfl⟩ | exact G.done1 rfl rfl .nil ⟨congrArg (Value.int .i64) (pick_pos h0 h11), rfl⟩
end Go.Proofs.Ytakcffhknnailaa
