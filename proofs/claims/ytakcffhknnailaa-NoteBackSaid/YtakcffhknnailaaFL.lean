/- Plain laws of layer 1's numbers: their order as bytes; what is cut short. Conditions: none. -/
import Derived.Test.YtakcffhknnailaaFU
set_option linter.unusedVariables false
set_option linter.unusedSimpArgs false
namespace Go.Proofs.Ytakcffhknnailaa
open Go.RowKit

theorem putM_nil {x : Int} (h : sizeM x = 0) : putM x = [] := by unfold putM; rw [h]; rfl
theorem putTo_eq {x y : Int} {k : Nat} (hx : sizeM x = k) (hy : sizeM y = k) : ∀ c, c ≤ k → qM x (k - c) = qM y (k - c) → putTo x c = putTo y c
  | 0, _, _ => rfl
  | c + 1, hc, h => by
    have h1 := qM_step x (k - (c + 1))
    have h2 := qM_step y (k - (c + 1))
    rw [show k - (c + 1) + 1 = k - c by omega] at h1 h2
    rw [putTo_succ, putTo_succ, putTo_eq hx hy c (by omega) (by rw [← h1, ← h2, h]), hx, hy, show k - 1 - c = k - (c + 1) by omega]
    unfold byteAt
    rw [h]
theorem less_irrefl : ∀ a : List UInt8, Op.bytesLess a a = false
  | [] => rfl
  | a :: x => by unfold Op.bytesLess; simp [less_irrefl x, UInt8.lt_irrefl]
theorem less_snoc_of_less : ∀ {a b : List UInt8} (p q : UInt8), a.length = b.length → Op.bytesLess a b = true → Op.bytesLess (a ++ [p]) (b ++ [q]) = true
  | [], [], p, q, _, h => by cases h
  | a :: x, b :: y, p, q, hl, h => by
    unfold Op.bytesLess at h
    show Op.bytesLess (a :: (x ++ [p])) (b :: (y ++ [q])) = true
    unfold Op.bytesLess
    simp only [Bool.or_eq_true, Bool.and_eq_true] at h ⊢
    rcases h with h | ⟨h1, h2⟩
    · exact .inl h
    · exact .inr ⟨h1, less_snoc_of_less p q (by simpa using hl) h2⟩
  | [], b :: y, p, q, hl, _ => by simp at hl
  | a :: x, [], p, q, hl, _ => by simp at hl
theorem less_snoc_of_eq : ∀ (a : List UInt8) {p q : UInt8}, p < q → Op.bytesLess (a ++ [p]) (a ++ [q]) = true
  | [], p, q, h => by simp [Op.bytesLess, h]
  | a :: x, p, q, h => by
    show Op.bytesLess (a :: (x ++ [p])) (a :: (x ++ [q])) = true
    unfold Op.bytesLess
    simp [less_snoc_of_eq x h]
theorem byteAt_lt {x y : Int} {i : Nat} (h : qM x i % 128 < qM y i % 128) : byteAt x i < byteAt y i := by
  have h1 := byteAt_val x i
  have h2 := byteAt_val y i
  rw [UInt8.lt_iff_toNat_lt]
  split at h1 <;> split at h2 <;> omega
theorem putTo_less {x y : Int} {k : Nat} (hx : sizeM x = k) (hy : sizeM y = k) : ∀ c, c ≤ k → qM x (k - c) < qM y (k - c) → qM x k ≤ qM y k → Op.bytesLess (putTo x c) (putTo y c) = true ∨ (qM x k < qM y k)
  | 0, _, h, _ => .inr h
  | c + 1, hc, h, h0 => by
    have h1 := qM_step x (k - (c + 1))
    have h2 := qM_step y (k - (c + 1))
    rw [show k - (c + 1) + 1 = k - c by omega] at h1 h2
    rw [putTo_succ, putTo_succ, hx, hy, show k - 1 - c = k - (c + 1) by omega]
    rcases Int.lt_or_eq_of_le (show qM x (k - c) ≤ qM y (k - c) by omega) with hl | he
    · rcases putTo_less hx hy c (by omega) hl h0 with h3 | h3
      · exact .inl (less_snoc_of_less _ _ (by rw [putTo_length, putTo_length]) h3)
      · exact .inr h3
    · rw [putTo_eq hx hy c (by omega) he]
      exact .inl (less_snoc_of_eq _ (byteAt_lt (by omega)))
theorem qM_end {x : Int} : qM x (sizeM x) = 0 ∨ sizeM x = 0 := by
  unfold sizeM
  (repeat' split) <;> first | exact .inr rfl | (refine .inl ?_; unfold qM; omega)
theorem sizeM_mono {x y : Int} (hx : sizeM x ≠ 0) (hy : sizeM y ≠ 0) (h : x < y) : sizeM x ≤ sizeM y := by
  have := sizeM_pos hx
  have := sizeM_pos hy
  unfold sizeM
  (repeat' split) <;> omega
theorem putM_less {x y : Int} (hx : sizeM x ≠ 0) (hs : sizeM x = sizeM y) (h : x < y) : Op.bytesLess (putM x) (putM y) = true := by
  have e1 : qM x (sizeM y) = 0 := by rw [← hs]; exact qM_end.resolve_right hx
  have e2 : qM y (sizeM y) = 0 := qM_end.resolve_right (by omega)
  have hq : qM x (sizeM y - sizeM y) < qM y (sizeM y - sizeM y) := by rw [Nat.sub_self]; unfold qM; omega
  have := putTo_less (x := x) (y := y) hs rfl (sizeM y) (Nat.le_refl _) hq (by omega)
  unfold putM
  rw [hs]
  exact this.resolve_right (by omega)
theorem putM_get {x : Int} {i : Nat} (h : i < sizeM x) : (putM x)[i]? = some (byteAt x (sizeM x - 1 - i)) := by
  unfold putM putTo
  rw [List.getElem?_map, List.getElem?_range h]
  rfl
/-- none begins another -/
theorem putM_prefix {x y : Int} (hx : sizeM x ≠ 0) (hy : sizeM y ≠ 0) (h : x < y) : putM x ≠ (putM y).take (putM x).length := by
  have hm := sizeM_mono hx hy h
  intro he
  rcases Nat.lt_or_eq_of_le hm with hl | hl
  · have h1 : (putM x)[sizeM x - 1]? = ((putM y).take (putM x).length)[sizeM x - 1]? := by rw [← he]
    rw [List.getElem?_take, if_pos (by rw [putM_length]; omega), putM_get (by omega), putM_get (by omega)] at h1
    injection h1 with h1
    have b1 := byteAt_val x (sizeM x - 1 - (sizeM x - 1))
    have b2 := byteAt_val y (sizeM y - 1 - (sizeM x - 1))
    rw [if_pos (by omega)] at b1
    rw [if_neg (by omega)] at b2
    rw [h1] at b1
    omega
  · rw [putM_length, hl, ← putM_length y, List.take_length] at he
    have := putM_less hx hl h
    rw [he, less_irrefl] at this
    cases this
theorem putM_empty {x : Int} : (putM x).length = 0 ↔ x < 0 ∨ 2147483647 < x := by
  rw [putM_length]
  exact ⟨sizeM_zero, sizeM_bad⟩
end Go.Proofs.Ytakcffhknnailaa
