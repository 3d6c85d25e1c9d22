/- Merged of WD9, WF9, WE9. Conditions: none. -/
import Derived.Test.YtbfpbibkklfnfaaGreatHf
namespace Go.Proofs.YtbfpbibkklfnfaaGreat
open Go.RowKit
set_option linter.unusedVariables false
set_option linter.unusedSimpArgs false
def shiftR (d : Nat) : Rn → Rn
 | .ok n nx => .ok n (d + nx)
 | .bad e q => .bad e (d + q)
theorem getGo_app (p b : List UInt8) (a : Nat) : ∀ f k n, getGo (p ++ b) (p.length + a) f k n = match getGo b a f k n with
 | .ok m nx => .ok m (p.length + nx)
 | .bad e q => .bad e (p.length + q) := by
 intro f
 induction f with
 | zero => intro k n; rfl
 | succ f ih =>
  intro k n
  unfold getGo
  rw [show p.length + a + k = p.length + (a + k) by omega, List.getElem?_append_right (by omega), Nat.add_sub_cancel_left]
  cases b[a + k]? with
  | none => simp
  | some c =>
   simp only
   by_cases h1 : 128 ≤ c.toNat
   ·rw [if_pos h1, if_pos h1]; exact ih _ _
   rw [if_neg h1, if_neg h1]
   by_cases h2 : 2147483647 < n * 128 + c.toNat % 128
   ·rw [if_pos h2, if_pos h2]
   rw [if_neg h2, if_neg h2]
   simp only
   congr 1
theorem getM_app (p b : List UInt8) (a : Nat) : getM (p ++ b) (p.length + a) = shiftR p.length (getM b a) := by
 unfold getM
 rw [List.getElem?_append_right (by omega), Nat.add_sub_cancel_left]
 by_cases h : b[a]? = some 128
 ·rw [if_pos h, if_pos h]; rfl
 rw [if_neg h, if_neg h, getGo_app]
 cases getGo b a 5 0 0 <;> rfl
section
variable {p r : List UInt8} {q : Nat}
theorem take_fit {e : List UInt8} (h : (p ++ e).length ≤ q) : ((p ++ e) ++ r).take q = p ++ (e ++ r.take (q - (p ++ e).length)) := by
 rw [List.take_append, List.take_of_length_le h, List.append_assoc]
theorem num_fit {x low high above : Int} (hx : 0 ≤ x ∧ x ≤ 2147483647) (hl : low ≤ x) (hh : x ≤ high) (h : (p ++ putM x).length ≤ q) : numS (((p ++ putM x) ++ r).take q) low high above ⟨p.length, 0, 0⟩ = (x.toNat, ⟨(p ++ putM x).length, 0, 0⟩) := by
 have hs : sizeM x ≠ 0 := by have := sizeM_ok hx.1 hx.2; omega
 have hg := getM_app p (putM x ++ r.take (q - (p ++ putM x).length)) 0
 rw [getM_all hs, Nat.add_zero] at hg
 have he := preN_end hs
 have hb : bndM (p ++ (putM x ++ r.take (q - (p ++ putM x).length))) p.length low high above = .ok (preN x (sizeM x)) (p.length + sizeM x) := bnd_ok hg (by omega) (by omega)
 unfold numS
 rw [if_pos rfl, take_fit h, hb]
 have e1 : preN x (sizeM x) = x.toNat := by omega
 have e2 : (p ++ putM x).length = p.length + sizeM x := by rw [List.length_append, putM_length]
 rw [e1, e2]
 rfl
theorem subB_mid (a c d : List UInt8) : subB (a ++ (c ++ d)) a.length c.length = c := by
 unfold subB
 rw [← List.append_assoc, List.take_append_of_le_length (by rw [List.length_append]; exact Nat.le_refl _), List.take_of_length_le (by rw [List.length_append]; exact Nat.le_refl _), List.drop_left]
theorem byt_fit {bs : List UInt8} {high : Int} (hb : (bs.length : Int) ≤ high) (hm : high ≤ 2147483647) (h : (p ++ bytesM bs).length ≤ q) : bytS (((p ++ bytesM bs) ++ r).take q) high ⟨p.length, 0, 0⟩ = (bs, ⟨(p ++ bytesM bs).length, 0, 0⟩) := by
 have hs : sizeM (bs.length : Int) ≠ 0 := by have := sizeM_ok (x := (bs.length : Int)) (by omega) (by omega); omega
 have e0 : p ++ (bytesM bs ++ r.take (q - (p ++ bytesM bs).length)) = p ++ (putM (bs.length : Int) ++ (bs ++ r.take (q - (p ++ bytesM bs).length))) := by unfold bytesM; rw [List.append_assoc]
 have hg := getM_app p (putM (bs.length : Int) ++ (bs ++ r.take (q - (p ++ bytesM bs).length))) 0
 rw [getM_all hs, Nat.add_zero] at hg
 have he := preN_end hs
 have e1 : preN (bs.length : Int) (sizeM (bs.length : Int)) = bs.length := by omega
 rw [e1] at hg
 have hbn := bnd_ok (low := 0) (high := high) (above := 3) hg (by omega) (by omega)
 have hr := bytR_ok hbn (by simp only [List.length_append, putM_length]; omega)
 unfold bytS
 rw [if_pos rfl, take_fit h, e0, hr]
 have e2 : (p ++ bytesM bs).length = p.length + sizeM (bs.length : Int) + bs.length := by unfold bytesM; rw [List.length_append, List.length_append, putM_length]; omega
 have e3 : (p ++ putM (bs.length : Int)).length = p.length + sizeM (bs.length : Int) := by rw [List.length_append, putM_length]
 have hsub := subB_mid (p ++ putM (bs.length : Int)) bs (r.take (q - (p ++ bytesM bs).length))
 rw [e3, List.append_assoc] at hsub
 show (subB _ (p.length + sizeM (bs.length : Int)) bs.length, (⟨p.length + sizeM (bs.length : Int) + bs.length, 0, 0⟩ : Rs)) = _
 rw [hsub, e2]
theorem id_fit {id : List UInt8} (hid : id.length = 16) (h : (p ++ id).length ≤ q) : idS (((p ++ id) ++ r).take q) ⟨p.length, 0, 0⟩ = (id, ⟨(p ++ id).length, 0, 0⟩) := by
 unfold idS idR outI
 rw [if_pos rfl, take_fit h]
 have hl : ¬ (p ++ (id ++ r.take (q - (p ++ id).length))).length < p.length + 16 := by simp only [List.length_append]; omega
 simp only [if_neg hl]
 have hsub := subB_mid p id (r.take (q - (p ++ id).length))
 rw [hid] at hsub
 rw [hsub, List.length_append, hid]
 rfl
end
theorem numS_stop {b : List UInt8} {low high above : Int} {s : Rs} (h : s.e ≠ 0) : numS b low high above s = (0, s) := if_neg h
theorem bytS_stop {b : List UInt8} {high : Int} {s : Rs} (h : s.e ≠ 0) : bytS b high s = ([], s) := if_neg h
theorem take_app_get {b w : List UInt8} {a c : Nat} (ha : a ≤ b.length) (hc : c = a + w.length) (h : ∀ t, t < w.length → b[a + t]? = w[t]?) (hcl : c ≤ b.length) : b.take c = b.take a ++ w := by
 subst hc
 apply List.ext_getElem?
 intro i
 rcases Nat.lt_or_ge i a with h1 | h1
 ·rw [List.getElem?_append_left (by rw [List.length_take]; omega), List.getElem?_take_of_lt (by omega), List.getElem?_take_of_lt h1]
 rw [List.getElem?_append_right (by rw [List.length_take]; omega), List.length_take, Nat.min_eq_left ha]
 rcases Nat.lt_or_ge i (a + w.length) with h2 | h2
 ·rw [List.getElem?_take_of_lt h2]
  have := h (i - a) (by omega)
  rwa [Nat.add_sub_cancel' h1] at this
 rw [List.getElem?_eq_none (by rw [List.length_take]; omega), List.getElem?_eq_none (by omega)]
theorem take_subB (b : List UInt8) (a n : Nat) : b.take (a + n) = b.take a ++ subB b a n := by
 have := List.take_append_drop a (b.take (a + n))
 rw [List.take_take, Nat.min_eq_left (by omega)] at this
 exact this.symm
def hiB (n i : Nat) : UInt8 := UInt8.ofNat (n / 128 ^ i % 128 + 128)
theorem byteAt_hiB {m : Nat} {i : Nat} (hi : 0 < i) : byteAt (m : Int) i = hiB (m / 128) (i - 1) := by
 obtain ⟨j, rfl⟩ : ∃ j, i = j + 1 := ⟨i - 1, by omega⟩
 unfold byteAt hiB
 have e : (qM (m : Int) (j + 1) % 128).toNat = m / 128 / 128 ^ j % 128 := by
  unfold qM
  rw [Nat.div_div_eq_div_mul, show 128 * 128 ^ j = 128 ^ (j + 1) by rw [Nat.pow_succ, Nat.mul_comm]]
  have : ((m : Int) / (128 : Int) ^ (j + 1) % 128) = ((m / 128 ^ (j + 1) % 128 : Nat) : Int) := by
   rw [Int.natCast_emod, Int.natCast_ediv, Int.natCast_pow]; rfl
  rw [this, Int.toNat_natCast]
 rw [e, if_neg (by omega), Nat.add_sub_cancel]
theorem byteAt_lo0 {m : Nat} : byteAt (m : Int) 0 = UInt8.ofNat (m % 128) := by
 unfold byteAt
 have e : (qM (m : Int) 0 % 128).toNat = m % 128 := by
  unfold qM
  rw [Int.pow_zero, Int.ediv_one]
  omega
 rw [e, if_pos rfl, Nat.add_zero]
theorem hiB_step {n d i : Nat} (hd : d < 128) : hiB (n * 128 + d) (i + 1) = hiB n i := by
 unfold hiB
 have : (n * 128 + d) / 128 ^ (i + 1) = n / 128 ^ i := by
  rw [Nat.pow_succ, Nat.mul_comm (128 ^ i) 128, ← Nat.div_div_eq_div_mul, show (n * 128 + d) / 128 = n by omega]
 rw [this]
theorem sizeM_of {m k : Nat} (h1 : m < 128 ^ (k + 1)) (h2 : k = 0 ∨ 128 ^ k ≤ m) (hm : m ≤ 2147483647) (hk : k ≤ 4) : sizeM (m : Int) = k + 1 := by
 have : k = 0 ∨ k = 1 ∨ k = 2 ∨ k = 3 ∨ k = 4 := by omega
 unfold sizeM
 rcases this with rfl | rfl | rfl | rfl | rfl <;> simp only [Nat.reducePow, Nat.reduceAdd] at h1 h2 <;> (repeat' split) <;> omega
theorem u8_hi {c : UInt8} (h : 128 ≤ c.toNat) (n : Nat) : hiB (n * 128 + c.toNat % 128) 0 = c := by
 unfold hiB
 rw [Nat.pow_zero, Nat.div_one]
 apply UInt8.toNat_inj.1
 have := c.toNat_lt
 rw [UInt8.toNat_ofNat']
 omega
theorem getGo_dec {b : List UInt8} {a : Nat} : ∀ f k n m nx, f + k = 5 → n < 128 ^ k → (k = 0 → b[a]? ≠ some 128) → (k ≠ 0 → 128 ^ (k - 1) ≤ n) → (∀ t, t < k → b[a + t]? = some (hiB n (k - 1 - t))) → a + k ≤ b.length →
 getGo b a f k n = .ok m nx → m ≤ 2147483647 ∧ nx = a + sizeM (m : Int) ∧ sizeM (m : Int) ≠ 0 ∧ nx ≤ b.length ∧ ∀ t, t < sizeM (m : Int) → b[a + t]? = some (byteAt (m : Int) (sizeM (m : Int) - 1 - t)) := by
 intro f
 induction f with
 | zero => intro k n m nx _ _ _ _ _ _ h; cases h
 | succ f ih =>
  intro k n m nx hf hn h128 hlow hpre hle h
  unfold getGo at h
  cases hc : b[a + k]? with
  | none => rw [hc] at h; cases h
  | some c =>
   rw [hc] at h
   simp only at h
   have hlt := (List.getElem?_eq_some_iff.1 hc).1
   have hcl := c.toNat_lt
   have hd : c.toNat % 128 < 128 := by omega
   have hn' : n * 128 + c.toNat % 128 < 128 ^ (k + 1) := by rw [Nat.pow_succ]; omega
   have hlow' : 128 ≤ c.toNat → 128 ^ k ≤ n * 128 + c.toNat % 128 := fun hh => by
    by_cases hk : k = 0
    ·subst hk
     have : c ≠ 128 := fun e => h128 rfl (by rw [← e]; simpa using hc)
     have : c.toNat ≠ 128 := fun e => this (UInt8.toNat_inj.1 e)
     rw [Nat.pow_zero]
     omega
    have := hlow hk
    obtain ⟨j, rfl⟩ : ∃ j, k = j + 1 := ⟨k - 1, by omega⟩
    rw [Nat.add_sub_cancel] at this
    rw [Nat.pow_succ]
    omega
   by_cases h1 : 128 ≤ c.toNat
   ·rw [if_pos h1] at h
    refine ih (k + 1) _ m nx (by omega) hn' (fun h => by omega) (fun _ => by rw [Nat.add_sub_cancel]; exact hlow' h1) (fun t ht => ?_) (by omega) h
    rw [Nat.add_sub_cancel]
    rcases Nat.lt_or_ge t k with h2 | h2
    ·rw [hpre t h2, show k - t = (k - 1 - t) + 1 by omega, hiB_step hd]
    obtain rfl : t = k := by omega
    rw [hc, Nat.sub_self, u8_hi h1]
   rw [if_neg h1] at h
   by_cases h2 : 2147483647 < n * 128 + c.toNat % 128
   ·rw [if_pos h2] at h; cases h
   rw [if_neg h2] at h
   injection h with e1 e2
   have hk4 : k ≤ 4 := by omega
   have hsz : sizeM (m : Int) = k + 1 := by
    rw [← e1]
    refine sizeM_of hn' ?_ (by omega) hk4
    by_cases hk : k = 0
    ·exact .inl hk
    right
    have := hlow hk
    obtain ⟨j, rfl⟩ : ∃ j, k = j + 1 := ⟨k - 1, by omega⟩
    rw [Nat.add_sub_cancel] at this
    rw [Nat.pow_succ]
    omega
   rw [hsz]
   refine ⟨by omega, by omega, by omega, by omega, fun t ht => ?_⟩
   rcases Nat.lt_or_ge t k with h3 | h3
   ·rw [hpre t h3, Nat.add_sub_cancel, byteAt_hiB (by omega), ← e1, show (n * 128 + c.toNat % 128) / 128 = n by omega, show k - t - 1 = k - 1 - t by omega]
   obtain rfl : t = k := by omega
   rw [hc, Nat.add_sub_cancel, Nat.sub_self, byteAt_lo0, ← e1]
   congr 1
   apply UInt8.toNat_inj.1
   rw [UInt8.toNat_ofNat']
   omega
theorem getM_dec {b : List UInt8} {a m nx : Nat} (ha : a ≤ b.length) (h : getM b a = .ok m nx) : m ≤ 2147483647 ∧ nx ≤ b.length ∧ b.take nx = b.take a ++ putM (m : Int) := by
 unfold getM at h
 split at h
 ·cases h
 rename_i h128
 have := getGo_dec 5 0 0 m nx rfl (by decide) (fun _ => h128) (fun h => absurd rfl h) (fun t ht => by omega) ha h
 obtain ⟨h1, h2, h3, h4, h5⟩ := this
 refine ⟨h1, h4, take_app_get ha (by rw [putM_length]; exact h2) (fun t ht => ?_) h4⟩
 rw [putM_length] at ht
 rw [h5 t ht, putM_get ht]
theorem num_dec {b : List UInt8} {low high above : Int} {s : Rs} (hs : okS b s) (hab : 1 ≤ above) (h : (numS b low high above s).2.e = 0) :
 s.e = 0 ∧ low ≤ ((numS b low high above s).1 : Int) ∧ ((numS b low high above s).1 : Int) ≤ high ∧ (numS b low high above s).1 ≤ 2147483647 ∧ b.take (numS b low high above s).2.a = b.take s.a ++ putM ((numS b low high above s).1 : Int) := by
 by_cases h0 : s.e = 0
 ·have e1 : numS b low high above s = (numN (bndM b s.a low high above), ⟨nextN s.a (bndM b s.a low high above), errN (bndM b s.a low high above), posN s.p (bndM b s.a low high above)⟩) := if_pos h0
  rw [e1] at h ⊢
  cases hb : bndM b s.a low high above with
  | ok n nx =>
   obtain ⟨g1, g2, g3⟩ := bnd_get hb
   obtain ⟨d1, d2, d3⟩ := getM_dec hs.1 g1
   exact ⟨h0, g3, g2, d1, d3⟩
  | bad e q =>
   rw [hb] at h
   have h : e = 0 := h
   subst h
   exact absurd hb (bnd_bad0 hab)
 rw [numS_stop h0] at h
 exact absurd h h0
theorem id_dec {b : List UInt8} {s : Rs} (hs : okS b s) (h : (idS b s).2.e = 0) : s.e = 0 ∧ b.take (idS b s).2.a = b.take s.a ++ (idS b s).1 := by
 by_cases h0 : s.e = 0
 ·have e1 : idS b s = (outI b s.a, ⟨endB s.a (idR b s.a), errN (idR b s.a), posN s.p (idR b s.a)⟩) := if_pos h0
  rw [e1] at h ⊢
  by_cases hl : b.length < s.a + 16
  ·unfold idR at h
   rw [if_pos hl] at h
   cases h
  refine ⟨h0, ?_⟩
  unfold idR outI
  rw [if_neg hl, if_neg hl]
  exact take_subB b s.a 16
 rw [show idS b s = (List.replicate 16 0, s) from if_neg h0] at h
 exact absurd h h0
theorem byt_dec {b : List UInt8} {high : Int} {s : Rs} (hs : okS b s) (h : (bytS b high s).2.e = 0) : s.e = 0 ∧ ((bytS b high s).1.length : Int) ≤ high ∧ b.take (bytS b high s).2.a = b.take s.a ++ bytesM (bytS b high s).1 := by
 by_cases h0 : s.e = 0
 ·have e1 : bytS b high s = (outB b (bytR b s.a high), ⟨endB s.a (bytR b s.a high), errN (bytR b s.a high), posN s.p (bytR b s.a high)⟩) := if_pos h0
  rw [e1] at h ⊢
  cases hb : bndM b s.a 0 high 3 with
  | bad e q =>
   rw [bytR_bad hb] at h
   have h : e = 0 := h
   subst h
   exact absurd hb (bnd_bad0 (by decide))
  | ok n nx =>
   obtain ⟨g1, g2, g3⟩ := bnd_get hb
   obtain ⟨d1, d2, d3⟩ := getM_dec hs.1 g1
   by_cases hl : b.length < nx + n
   ·rw [bytR_cut hb hl] at h
    cases h
   rw [bytR_ok hb (by omega)]
   have hsl : (subB b nx n).length = n := subB_length (by omega)
   refine ⟨h0, by show ((subB b nx n).length : Int) ≤ high; omega, ?_⟩
   show b.take (nx + n) = b.take s.a ++ bytesM (subB b nx n)
   unfold bytesM
   rw [hsl, ← List.append_assoc, ← d3]
   exact take_subB b nx n
 rw [bytS_stop h0] at h
 exact absurd h h0
def posB (b : List UInt8) (s : Rs) : Prop := 0 ≤ s.p ∧ s.p ≤ b.length
theorem getGo_pos {b : List UInt8} {a : Nat} (ha : a ≤ b.length) : ∀ f k n e q, getGo b a f k n = .bad e q → q ≤ b.length := by
 intro f
 induction f with
 | zero => intro k n e q h; injection h with h1 h2; omega
 | succ f ih =>
  intro k n e q h
  unfold getGo at h
  split at h
  ·injection h with h1 h2; omega
  split at h
  ·exact ih _ _ _ _ h
  split at h
  ·injection h with h1 h2; omega
  cases h
theorem getM_pos {b : List UInt8} {a e q : Nat} (ha : a ≤ b.length) (h : getM b a = .bad e q) : q ≤ b.length := by
 unfold getM at h
 split at h
 ·injection h with h1 h2; omega
 exact getGo_pos ha _ _ _ _ _ h
theorem bnd_pos {b : List UInt8} {a e q : Nat} {low high above : Int} (ha : a ≤ b.length) (h : bndM b a low high above = .bad e q) : q ≤ b.length := by
 unfold bndM at h
 split at h
 ·rename_i e' q' hg
  injection h with h1 h2
  have := getM_pos ha hg
  omega
 split at h
 ·injection h with h1 h2; omega
 split at h
 ·injection h with h1 h2; omega
 cases h
theorem num_pos {b : List UInt8} {low high above : Int} {s : Rs} (hs : okS b s) (h : posB b s) : posB b (numS b low high above s).2 := by
 unfold numS
 split
 ·cases hb : bndM b s.a low high above with
  | ok n nx => exact h
  | bad e q => have := bnd_pos hs.1 hb; exact ⟨by show (0 : Int) ≤ q; omega, by show (q : Int) ≤ _; omega⟩
 exact h
theorem id_pos {b : List UInt8} {s : Rs} (h : posB b s) : posB b (idS b s).2 := by
 unfold idS
 split
 ·unfold idR
  split
  ·exact ⟨by show (0 : Int) ≤ (b.length : Nat); omega, Int.le_refl _⟩
  exact h
 exact h
theorem byt_pos {b : List UInt8} {high : Int} {s : Rs} (hs : okS b s) (h : posB b s) : posB b (bytS b high s).2 := by
 unfold bytS
 split
 ·cases hb : bytR b s.a high with
  | ok n nx => exact h
  | bad e q =>
   have : q ≤ b.length := by
    unfold bytR at hb
    split at hb
    ·rename_i e' q' hg
     injection hb with h1 h2
     have := bnd_pos hs.1 hg
     omega
    split at hb
    ·injection hb with h1 h2; omega
    cases hb
   exact ⟨by show (0 : Int) ≤ q; omega, by show (q : Int) ≤ _; omega⟩
 exact h
section
variable {p r : List UInt8}
theorem num_all {x low high above : Int} (hx : 0 ≤ x ∧ x ≤ 2147483647) (hl : low ≤ x) (hh : x ≤ high) : numS ((p ++ putM x) ++ r) low high above ⟨p.length, 0, 0⟩ = (x.toNat, ⟨(p ++ putM x).length, 0, 0⟩) := by
 have h := num_fit (p := p) (r := r) (q := ((p ++ putM x) ++ r).length) (above := above) hx hl hh Y53
 rwa [List.take_length] at h
theorem byt_all {bs : List UInt8} {high : Int} (hb : (bs.length : Int) ≤ high) (hm : high ≤ 2147483647) : bytS ((p ++ bytesM bs) ++ r) high ⟨p.length, 0, 0⟩ = (bs, ⟨(p ++ bytesM bs).length, 0, 0⟩) := by
 have h := byt_fit (p := p) (r := r) (q := ((p ++ bytesM bs) ++ r).length) hb hm Y53
 rwa [List.take_length] at h
theorem id_all {id : List UInt8} (hid : id.length = 16) : idS ((p ++ id) ++ r) ⟨p.length, 0, 0⟩ = (id, ⟨(p ++ id).length, 0, 0⟩) := by
 have h := id_fit (p := p) (r := r) (q := ((p ++ id) ++ r).length) hid Y53
 rwa [List.take_length] at h
theorem idsB_split {ids : List (List UInt8)} {j : Nat} (hj : j < ids.length) : ∃ t, idsB ids ids.length = idsB ids j ++ (ids[j] ++ t) := by
 refine ⟨(ids.drop (j + 1)).flatten, ?_⟩
 unfold idsB
 rw [List.take_length, ← List.flatten_cons, List.getElem_cons_drop, ← List.flatten_append, List.take_append_drop]
theorem itsB_split {ms : List It} {j : Nat} (hj : j < ms.length) : ∃ t, itsB ms ms.length = itsB ms j ++ (itB ms[j] ++ t) := by
 refine ⟨(ms.drop (j + 1)).flatMap itB, ?_⟩
 unfold itsB
 rw [List.take_length, ← List.flatMap_cons, List.getElem_cons_drop, ← List.flatMap_append, List.take_append_drop]
theorem idsN_all {ids : List (List UInt8)} (h16 : all16 ids) : ∀ j, j ≤ ids.length → idsN ((p ++ idsB ids ids.length) ++ r) ⟨p.length, 0, 0⟩ j = (ids.take j, ⟨(p ++ idsB ids j).length, 0, 0⟩)
 | 0, _ => by rw [idsB_zero]; rfl
 | j + 1, hj => by
  have hlt : j < ids.length := hj
  have ih := idsN_all h16 j (by omega)
  obtain ⟨t, ht⟩ := idsB_split hlt
  have e1 : (p ++ idsB ids ids.length) ++ r = ((p ++ idsB ids j) ++ ids[j]) ++ (t ++ r) := by rw [ht]; simp only [List.append_assoc]
  rw [idsN_go (by rw [ih]), ih]
  simp only
  rw [e1, id_all (h16 _ (List.getElem_mem hlt)), idsB_app p hlt, List.take_succ_eq_append_getElem hlt]
theorem itS_all {x : It} (hw : ItW x) (hk : 1 ≤ x.kind) (hk3 : x.kind ≤ 3) (hm : x.mode ≤ 511) (hs : x.size ≤ 1048576) (hn : x.ids.length ≤ 16384) (h16 : all16 x.ids) : itS ((p ++ itB x) ++ r) ⟨p.length, 0, 0⟩ = (x, ⟨(p ++ itB x).length, 0, 0⟩) := by
 obtain ⟨w1, w2, w3, w4, w5, w6⟩ := hw
 have e0 : (p ++ itB x) ++ r = ((((((p ++ bytesM x.path) ++ putM x.kind) ++ putM x.mode) ++ putM x.size) ++ bytesM x.to) ++ putM (x.ids.length : Int)) ++ (idsB x.ids x.ids.length ++ r) := by
  unfold itB hdT
  simp only [List.append_assoc]
 have g1 := byt_all (p := p) (r := ((((putM x.kind ++ putM x.mode) ++ putM x.size) ++ bytesM x.to) ++ putM (x.ids.length : Int)) ++ (idsB x.ids x.ids.length ++ r)) (bs := x.path) (high := 200) (by omega) (by decide)
 have g2 := num_all (p := p ++ bytesM x.path) (r := (((putM x.mode ++ putM x.size) ++ bytesM x.to) ++ putM (x.ids.length : Int)) ++ (idsB x.ids x.ids.length ++ r)) (x := x.kind) (low := 1) (high := 3) (above := 5) (by omega) hk hk3
 have g3 := num_all (p := (p ++ bytesM x.path) ++ putM x.kind) (r := ((putM x.size ++ bytesM x.to) ++ putM (x.ids.length : Int)) ++ (idsB x.ids x.ids.length ++ r)) (x := x.mode) (low := 0) (high := 511) (above := 5) (by omega) (by omega) hm
 have g4 := num_all (p := ((p ++ bytesM x.path) ++ putM x.kind) ++ putM x.mode) (r := (bytesM x.to ++ putM (x.ids.length : Int)) ++ (idsB x.ids x.ids.length ++ r)) (x := x.size) (low := 0) (high := 1048576) (above := 5) (by omega) (by omega) hs
 have g5 := byt_all (p := (((p ++ bytesM x.path) ++ putM x.kind) ++ putM x.mode) ++ putM x.size) (r := putM (x.ids.length : Int) ++ (idsB x.ids x.ids.length ++ r)) (bs := x.to) (high := 200) (by omega) (by decide)
 have g6 := num_all (p := ((((p ++ bytesM x.path) ++ putM x.kind) ++ putM x.mode) ++ putM x.size) ++ bytesM x.to) (r := idsB x.ids x.ids.length ++ r) (x := (x.ids.length : Int)) (low := 0) (high := 16384) (above := 3) (by omega) (by omega) (by omega)
 have g7 := idsN_all (p := (((((p ++ bytesM x.path) ++ putM x.kind) ++ putM x.mode) ++ putM x.size) ++ bytesM x.to) ++ putM (x.ids.length : Int)) (r := r) h16 x.ids.length (Nat.le_refl _)
 rw [e0]
 simp only [List.append_assoc] at g1 g2 g3 g4 g5 g6 g7 ⊢
 rw [itS_eq g1 g2 g3 g4 g5 g6]
 simp only [Int.toNat_natCast]
 rw [g7, List.take_length]
 have e1 : itB x = bytesM x.path ++ (putM x.kind ++ (putM x.mode ++ (putM x.size ++ (bytesM x.to ++ (putM (x.ids.length : Int) ++ idsB x.ids x.ids.length))))) := by
  unfold itB hdT
  simp only [List.append_assoc]
 rw [← e1, Int.toNat_of_nonneg (by omega), Int.toNat_of_nonneg (by omega), Int.toNat_of_nonneg (by omega)]
end
theorem itsN_fit {p r : List UInt8} {ms : List It} (hall : ∀ x ∈ ms, oneI x = 0 ∧ all16 x.ids) : ∀ j, j ≤ ms.length → itsN ((p ++ itsB ms ms.length) ++ r) ⟨p.length, 0, 0⟩ j = (ms.take j, ⟨(p ++ itsB ms j).length, 0, 0⟩)
 | 0, _ => by rw [itsB_zero]; rfl
 | j + 1, hj => by
  have hlt : j < ms.length := hj
  have ih := itsN_fit (p := p) (r := r) hall j (by omega)
  obtain ⟨t, ht⟩ := itsB_split hlt
  have e1 : (p ++ itsB ms ms.length) ++ r = ((p ++ itsB ms j) ++ itB ms[j]) ++ (t ++ r) := by rw [ht]; simp only [List.append_assoc]
  obtain ⟨h0, h16⟩ := hall _ (List.getElem_mem hlt)
  obtain ⟨z1, z2, z3⟩ := oneI_zero h0
  have hw := oneI_w h0
  unfold numI at z2
  unfold rngI at z3
  have hi := itS_all (p := p ++ itsB ms j) (r := t ++ r) hw (by omega) (by omega) (by omega) (by omega) (by omega) h16
  rw [itsN_go (by rw [ih]), ih]
  simp only
  rw [e1, hi, itsB_app p hlt, List.take_succ_eq_append_getElem hlt]
theorem endS_all (b : List UInt8) : endS b ⟨b.length, 0, 0⟩ = (0, 0) := by
 unfold endS
 rw [if_neg (by intro h; have := h.2; simp at this)]
theorem read_man {a : Mh} {ms : List It} (h : (checkI a ms).1 = 0) (h16 : ∀ x ∈ ms, all16 x.ids) (hl : (manB a ms).length ≤ 262144) : rdM (manB a ms) = ((a, ms), (0, 0)) := by
 obtain ⟨h0, h200, hz, -⟩ := checkI_zero h
 unfold headBad at h0
 have hall : ∀ x ∈ ms, oneI x = 0 ∧ all16 x.ids := fun x hx => by
  obtain ⟨i, hi, rfl⟩ := List.getElem_of_mem hx
  exact ⟨(errI_zero hi (hz i hi)).1, h16 _ hx⟩
 have e0 : manB a ms = (((((([] ++ putM a.c) ++ putM a.k) ++ putM a.n) ++ putM a.t) ++ putM (ms.length : Int)) ++ itsB ms ms.length) ++ [] := by
  unfold manB
  rw [← hdM_app, List.append_nil]
 have g1 := num_all (p := []) (r := (((putM a.k ++ putM a.n) ++ putM a.t) ++ putM (ms.length : Int)) ++ itsB ms ms.length) (x := a.c) (low := 1) (high := 2147483647) (above := 5) (by omega) (by omega) (by omega)
 have g2 := num_all (p := [] ++ putM a.c) (r := ((putM a.n ++ putM a.t) ++ putM (ms.length : Int)) ++ itsB ms ms.length) (x := a.k) (low := 1) (high := 2147483647) (above := 5) (by omega) (by omega) (by omega)
 have g3 := num_all (p := ([] ++ putM a.c) ++ putM a.k) (r := (putM a.t ++ putM (ms.length : Int)) ++ itsB ms ms.length) (x := a.n) (low := 0) (high := 2147483647) (above := 5) (by omega) (by omega) (by omega)
 have g4 := num_all (p := (([] ++ putM a.c) ++ putM a.k) ++ putM a.n) (r := putM (ms.length : Int) ++ itsB ms ms.length) (x := a.t) (low := 0) (high := 2147483647) (above := 5) (by omega) (by omega) (by omega)
 have g5 := num_all (p := ((([] ++ putM a.c) ++ putM a.k) ++ putM a.n) ++ putM a.t) (r := itsB ms ms.length) (x := (ms.length : Int)) (low := 0) (high := 200) (above := 3) (by omega) (by omega) (by omega)
 have g6 := itsN_fit (p := (((([] ++ putM a.c) ++ putM a.k) ++ putM a.n) ++ putM a.t) ++ putM (ms.length : Int)) (r := []) hall ms.length (Nat.le_refl _)
 have e1 : manB a ms = putM a.c ++ (putM a.k ++ (putM a.n ++ (putM a.t ++ (putM (ms.length : Int) ++ itsB ms ms.length)))) := by
  rw [e0]
  simp only [List.append_assoc, List.append_nil, List.nil_append]
 simp only [List.append_assoc, List.append_nil, List.nil_append, List.length_nil] at g1 g2 g3 g4 g5 g6
 rw [← e1] at g1 g2 g3 g4 g5 g6
 rw [List.take_length] at g6
 have hx : its (ms.map fun x => (x, Value.bool true)) = ms := by
  unfold its
  rw [List.map_map]
  exact (List.map_congr_left fun x _ => rfl).trans (List.map_id ms)
 have hr := rdM_eq (xs := ms.map fun x => (x, Value.bool true)) (z := (ms, ⟨(manB a ms).length, 0, 0⟩)) (by omega) g1 g2 g3 g4 g5 (by rw [Int.toNat_natCast]; exact g6) hx
 rw [hr, hx]
 simp only [endS_all]
 have e2 : (⟨(a.c.toNat : Int), (a.k.toNat : Int), (a.n.toNat : Int), (a.t.toNat : Int)⟩ : Mh) = a := by
  rw [Int.toNat_of_nonneg (by omega), Int.toNat_of_nonneg (by omega), Int.toNat_of_nonneg (by omega), Int.toNat_of_nonneg (by omega)]
 rw [e2]
 exact finR_ok rfl h
theorem idsN_dec {b : List UInt8} {s : Rs} (hs : okS b s) : ∀ j, (idsN b s j).2.e = 0 → (idsN b s j).1.length = j ∧ b.take (idsN b s j).2.a = b.take s.a ++ (idsN b s j).1.flatten ∧ s.e = 0
 | 0, h => ⟨rfl, by simp [idsN], h⟩
 | j + 1, h => by
  by_cases h1 : (idsN b s j).2.e = 0
  ·obtain ⟨i1, i2, i3⟩ := idsN_dec hs j h1
   rw [idsN_go h1] at h ⊢
   obtain ⟨_, d2⟩ := id_dec (idsN_ok hs j) h
   refine ⟨by simp [i1], ?_, i3⟩
   show b.take (idS b (idsN b s j).2).2.a = _
   rw [d2, i2, List.flatten_append, List.append_assoc]
   simp
  rw [idsN_stop h1 (j + 1) (by omega)] at h
  exact absurd h h1
theorem itS_dec {b : List UInt8} {s : Rs} (hs : okS b s) (h : (itS b s).2.e = 0) : s.e = 0 ∧ b.take (itS b s).2.a = b.take s.a ++ itB (itS b s).1 := by
 obtain ⟨y1, h1⟩ : ∃ y, bytS b 200 s = y := ⟨_, rfl⟩
 obtain ⟨r2, h2⟩ : ∃ y, numS b 1 3 5 y1.2 = y := ⟨_, rfl⟩
 obtain ⟨r3, h3⟩ : ∃ y, numS b 0 511 5 r2.2 = y := ⟨_, rfl⟩
 obtain ⟨r4, h4⟩ : ∃ y, numS b 0 1048576 5 r3.2 = y := ⟨_, rfl⟩
 obtain ⟨y5, h5⟩ : ∃ y, bytS b 200 r4.2 = y := ⟨_, rfl⟩
 obtain ⟨r6, h6⟩ : ∃ y, numS b 0 16384 3 y5.2 = y := ⟨_, rfl⟩
 have s1 : okS b y1.2 := h1 ▸ bytS_ok hs
 have s2 : okS b r2.2 := h2 ▸ numS_ok s1 (by decide)
 have s3 : okS b r3.2 := h3 ▸ numS_ok s2 (by decide)
 have s4 : okS b r4.2 := h4 ▸ numS_ok s3 (by decide)
 have s5 : okS b y5.2 := h5 ▸ bytS_ok s4
 have s6 : okS b r6.2 := h6 ▸ numS_ok s5 (by decide)
 rw [itS_eq h1 h2 h3 h4 h5 h6] at h ⊢
 obtain ⟨d1, d2, d3⟩ := idsN_dec s6 _ h
 have e6 := num_dec (low := 0) (high := 16384) (above := 3) s5 (by decide) (by rw [h6]; exact d3)
 rw [h6] at e6
 have e5 := byt_dec (high := 200) s4 (by rw [h5]; exact e6.1)
 rw [h5] at e5
 have e4 := num_dec (low := 0) (high := 1048576) (above := 5) s3 (by decide) (by rw [h4]; exact e5.1)
 rw [h4] at e4
 have e3 := num_dec (low := 0) (high := 511) (above := 5) s2 (by decide) (by rw [h3]; exact e4.1)
 rw [h3] at e3
 have e2 := num_dec (low := 1) (high := 3) (above := 5) s1 (by decide) (by rw [h2]; exact e3.1)
 rw [h2] at e2
 have e1 := byt_dec (high := 200) hs (by rw [h1]; exact e2.1)
 rw [h1] at e1
 refine ⟨e1.1, ?_⟩
 simp only
 rw [d2, e6.2.2.2.2, e5.2.2, e4.2.2.2.2, e3.2.2.2.2, e2.2.2.2.2, e1.2.2]
 have e7 : itB ⟨y1.1, r2.1, r3.1, r4.1, y5.1, (idsN b r6.2 r6.1).1⟩ = bytesM y1.1 ++ (putM r2.1 ++ (putM r3.1 ++ (putM r4.1 ++ (bytesM y5.1 ++ (putM (r6.1 : Int) ++ (idsN b r6.2 r6.1).1.flatten))))) := by
  unfold itB hdT idsB
  simp only [List.append_assoc, List.take_length]
  rw [d1]
 rw [e7]
 simp only [List.append_assoc]
theorem itsN_dec {b : List UInt8} {s : Rs} (hs : okS b s) : ∀ j, (itsN b s j).2.e = 0 → (itsN b s j).1.length = j ∧ b.take (itsN b s j).2.a = b.take s.a ++ (itsN b s j).1.flatMap itB ∧ s.e = 0
 | 0, h => ⟨rfl, by simp [itsN], h⟩
 | j + 1, h => by
  by_cases h1 : (itsN b s j).2.e = 0
  ·obtain ⟨i1, i2, i3⟩ := itsN_dec hs j h1
   have d := itS_dec (itsN_ok hs j)
   have e := itsN_go h1
   generalize itS b (itsN b s j).2 = t at d e
   generalize itsN b s (j + 1) = y at e h ⊢
   subst e
   have d := d h
   refine ⟨by simp [i1], ?_, i3⟩
   show b.take t.2.a = _
   rw [d.2, i2, List.flatMap_append, List.append_assoc]
   simp
  rw [itsN_stop h1 (j + 1) (by omega)] at h
  exact absurd h h1
theorem read_man_back {b : List UInt8} (h : (rdM b).2.1 = 0) : (checkI (rdM b).1.1 (rdM b).1.2) = (0, 0) ∧ manB (rdM b).1.1 (rdM b).1.2 = b ∧ b.length ≤ 262144 := by
 by_cases hl : 262144 < b.length
 ·rw [rdM_long hl] at h
  cases h
 obtain ⟨r1, h1⟩ : ∃ y, numS b 1 2147483647 5 rs0 = y := ⟨_, rfl⟩
 obtain ⟨r2, h2⟩ : ∃ y, numS b 1 2147483647 5 r1.2 = y := ⟨_, rfl⟩
 obtain ⟨r3, h3⟩ : ∃ y, numS b 0 2147483647 5 r2.2 = y := ⟨_, rfl⟩
 obtain ⟨r4, h4⟩ : ∃ y, numS b 0 2147483647 5 r3.2 = y := ⟨_, rfl⟩
 obtain ⟨r5, h5⟩ : ∃ y, numS b 0 200 3 r4.2 = y := ⟨_, rfl⟩
 obtain ⟨z, hz⟩ : ∃ y, itsN b r5.2 r5.1 = y := ⟨_, rfl⟩
 have s1 : okS b r1.2 := h1 ▸ numS_ok (rs0_ok b) (by decide)
 have s2 : okS b r2.2 := h2 ▸ numS_ok s1 (by decide)
 have s3 : okS b r3.2 := h3 ▸ numS_ok s2 (by decide)
 have s4 : okS b r4.2 := h4 ▸ numS_ok s3 (by decide)
 have s5 : okS b r5.2 := h5 ▸ numS_ok s4 (by decide)
 have hx : its (z.1.map fun x => (x, Value.bool true)) = z.1 := by
  unfold its
  rw [List.map_map]
  exact (List.map_congr_left fun x _ => rfl).trans (List.map_id z.1)
 have hr := rdM_eq hl h1 h2 h3 h4 h5 hz hx
 rw [hx] at hr
 rw [hr] at h ⊢
 by_cases he : (endS b z.2).1 = 0
 ·by_cases hc : (checkI ⟨r1.1, r2.1, r3.1, r4.1⟩ z.1).1 = 0
  ·rw [finR_ok he hc]
   refine ⟨(checkI_zero hc).2.2.2, ?_, by omega⟩
   have hze : z.2.e = 0 ∧ b.length ≤ z.2.a := by
    unfold endS at he
    split at he
    ·cases he
    rename_i hn
    have he : z.2.e = 0 := he
    exact ⟨he, by omega⟩
   obtain ⟨d1, d2, d3⟩ := itsN_dec s5 r5.1 (by rw [hz]; exact hze.1)
   rw [hz] at d1 d2
   have e5 := num_dec (low := 0) (high := 200) (above := 3) s4 (by decide) (by rw [h5]; exact d3)
   rw [h5] at e5
   have e4 := num_dec (low := 0) (high := 2147483647) (above := 5) s3 (by decide) (by rw [h4]; exact e5.1)
   rw [h4] at e4
   have e3 := num_dec (low := 0) (high := 2147483647) (above := 5) s2 (by decide) (by rw [h3]; exact e4.1)
   rw [h3] at e3
   have e2 := num_dec (low := 1) (high := 2147483647) (above := 5) s1 (by decide) (by rw [h2]; exact e3.1)
   rw [h2] at e2
   have e1 := num_dec (low := 1) (high := 2147483647) (above := 5) (rs0_ok b) (by decide) (by rw [h1]; exact e2.1)
   rw [h1] at e1
   rw [List.take_of_length_le hze.2, e5.2.2.2.2, e4.2.2.2.2, e3.2.2.2.2, e2.2.2.2.2, e1.2.2.2.2] at d2
   show manB ⟨r1.1, r2.1, r3.1, r4.1⟩ z.1 = b
   unfold manB
   rw [← hdM_app, d2, d1]
   have e6 : itsB z.1 r5.1 = z.1.flatMap itB := by
    unfold itsB
    rw [← d1, List.take_length]
   rw [e6]
   simp [rs0]
  rw [finR_bad he hc] at h
  exact absurd h hc
 rw [finR_end he] at h
 have h : ((endS b z.2).1 : Int) = 0 := h
 omega
theorem idsN_pos {b : List UInt8} {s : Rs} (h : posB b s) : ∀ j, posB b (idsN b s j).2
 | 0 => h
 | j + 1 => by
  show posB b (stepI b (idsN b s j)).2
  unfold stepI
  split
  ·exact id_pos (idsN_pos h j)
  exact idsN_pos h j
theorem itS_pos {b : List UInt8} {s : Rs} (hs : okS b s) (h : posB b s) : posB b (itS b s).2 := by
 rw [itS_eq rfl rfl rfl rfl rfl rfl]
 have s1 := bytS_ok (high := 200) hs
 have s2 := numS_ok (low := 1) (high := 3) (above := 5) s1 (by decide)
 have s3 := numS_ok (low := 0) (high := 511) (above := 5) s2 (by decide)
 have s4 := numS_ok (low := 0) (high := 1048576) (above := 5) s3 (by decide)
 have s5 := bytS_ok (high := 200) s4
 exact idsN_pos (num_pos s5 (byt_pos s4 (num_pos s3 (num_pos s2 (num_pos s1 (byt_pos hs h)))))) _
theorem itsN_pos {b : List UInt8} {s : Rs} (hs : okS b s) (h : posB b s) : ∀ j, posB b (itsN b s j).2
 | 0 => h
 | j + 1 => by
  by_cases h1 : (itsN b s j).2.e = 0
  ·have e := itsN_go h1
   obtain ⟨t, ht⟩ : ∃ t, itS b (itsN b s j).2 = t := ⟨_, rfl⟩
   have d := itS_pos (itsN_ok hs j) (itsN_pos hs h j)
   rw [ht] at e d
   rw [e]
   exact d
  rw [itsN_stop h1 (j + 1) (by omega)]
  exact itsN_pos hs h j
theorem endS_pos {b : List UInt8} {s : Rs} (hs : okS b s) (h : posB b s) : 0 ≤ (endS b s).2 ∧ (endS b s).2 ≤ b.length := by
 unfold endS
 split
 ·have := hs.1
  exact ⟨by show (0 : Int) ≤ (s.a : Int); omega, by show (s.a : Int) ≤ _; omega⟩
 exact h
theorem read_man_bad {b : List UInt8} (hb : b.length ≤ 262144) (h : (rdM b).2.1 ≠ 0) : (rdM b).1 = (mh0, []) ∧ 0 ≤ (rdM b).2.2 ∧ (rdM b).2.2 ≤ b.length := by
 obtain ⟨r1, h1⟩ : ∃ y, numS b 1 2147483647 5 rs0 = y := ⟨_, rfl⟩
 obtain ⟨r2, h2⟩ : ∃ y, numS b 1 2147483647 5 r1.2 = y := ⟨_, rfl⟩
 obtain ⟨r3, h3⟩ : ∃ y, numS b 0 2147483647 5 r2.2 = y := ⟨_, rfl⟩
 obtain ⟨r4, h4⟩ : ∃ y, numS b 0 2147483647 5 r3.2 = y := ⟨_, rfl⟩
 obtain ⟨r5, h5⟩ : ∃ y, numS b 0 200 3 r4.2 = y := ⟨_, rfl⟩
 obtain ⟨z, hz⟩ : ∃ y, itsN b r5.2 r5.1 = y := ⟨_, rfl⟩
 have s1 : okS b r1.2 := h1 ▸ numS_ok (rs0_ok b) (by decide)
 have s2 : okS b r2.2 := h2 ▸ numS_ok s1 (by decide)
 have s3 : okS b r3.2 := h3 ▸ numS_ok s2 (by decide)
 have s4 : okS b r4.2 := h4 ▸ numS_ok s3 (by decide)
 have s5 : okS b r5.2 := h5 ▸ numS_ok s4 (by decide)
 have q0 : posB b rs0 := ⟨by decide, by show (0 : Int) ≤ _; omega⟩
 have q1 : posB b r1.2 := h1 ▸ num_pos (rs0_ok b) q0
 have q2 : posB b r2.2 := h2 ▸ num_pos s1 q1
 have q3 : posB b r3.2 := h3 ▸ num_pos s2 q2
 have q4 : posB b r4.2 := h4 ▸ num_pos s3 q3
 have q5 : posB b r5.2 := h5 ▸ num_pos s4 q4
 have qz : posB b z.2 := hz ▸ itsN_pos s5 q5 _
 have sz : okS b z.2 := hz ▸ itsN_ok s5 _
 have hx : its (z.1.map fun x => (x, Value.bool true)) = z.1 := by
  unfold its
  rw [List.map_map]
  exact (List.map_congr_left fun x _ => rfl).trans (List.map_id z.1)
 have hr := rdM_eq (by omega) h1 h2 h3 h4 h5 hz hx
 rw [hx] at hr
 rw [hr] at h ⊢
 by_cases he : (endS b z.2).1 = 0
 ·by_cases hc : (checkI ⟨r1.1, r2.1, r3.1, r4.1⟩ z.1).1 = 0
  ·rw [finR_ok he hc] at h
   exact absurd rfl h
  rw [finR_bad he hc]
  exact ⟨rfl, by show (0 : Int) ≤ (b.length : Int); omega, Int.le_refl _⟩
 rw [finR_end he]
 exact ⟨rfl, endS_pos sz qz⟩
section
variable {P : Program} {n : Nat} {w0 : World} {S : Nat → Prop} {l : Fr} {m : List Ck} {K : Act → World → Prop}
theorem G.datINews {e : TypeId} {xs : List IT} {x : IT} {r : List Ck} (hs : Sel m (datI e xs) r) (hx : x ∈ xs) (h : ∀ ad cap bb, x.2 = .slice ad x.1.ids.length cap → (0 < x.1.ids.length → ad = some ⟨bb, 0, none⟩) → (∀ {m' r' : List Ck}, Sel m' (datI e xs) r' → ∀ w, Hp w0 S w m' → News w bb 0 (flatI x.1.ids)) → G n w0 S l m K) : G n w0 S l m K := fun a w ha hw => by
 have key : ∀ {m' r' : List Ck}, Sel m' (datI e xs) r' → ∀ w, Hp w0 S w m' → w.ownsRow 0 e 16 x.2 x.1.ids.length (flatI x.1.ids) := fun hs' w' hw' => (hw'.holds _ hs'.mem : (datI e xs).φ w').1 _ (List.mem_map.2 ⟨x, hx, rfl⟩)
 have ho := key hs w hw
 obtain ⟨ad, cap, b, hv, had, hnil, hnw⟩ := own_news ho
 refine h ad cap b hv had (fun {m' r'} hs' w' hw' => ?_) a w ha hw
 have ho2 := key hs' w' hw'
 obtain ⟨ad2, cap2, b2, hv2, had2, _, hnw2⟩ := own_news ho2
 rw [hv] at hv2
 injection hv2 with e3 e4 e5
 intro i y hy
 have hj : 0 < x.1.ids.length := by
  rcases Nat.eq_zero_or_pos x.1.ids.length with h0 | h0
  ·have : flatI x.1.ids = [] := List.eq_nil_of_length_eq_zero (by have := ho.1; rw [h0] at this; simpa using this)
   rw [this] at hy
   simp at hy
  exact h0
 have := (had hj).symm.trans (e3.trans (had2 hj))
 injection this with this
 injection this with e6
 subst e6
 exact hnw2 i y hy
end
theorem ro_nil9 {α : Type} {E : Rdr α} {w0 : World} {S : Nat → Prop} : Ro w0 S (slc E (fun _ => False) (.slice none 0 0) []) := ⟨nil_sl9 _ _ _, fun b hb => hb.elim⟩
section
variable {P : Program} {n : Nat} {w0 : World} {S : Nat → Prop} {l : Fr} {m : List Ck} {K : Act → World → Prop}
theorem may_chunks9 {e : TypeId} {c : Ck} {v : Value} {xs : List CT} {r r' : List Ck} (h : Sel m (own e 17 v xs.length (xs.flatMap chC)) r) (h' : Sel m c r') (hok : ∀ x ∈ xs, x.1.1.length = 16 ∧ x.1.2.length ≤ 140737488355328) (hd : ∀ w, c.φ w → ∀ x ∈ xs, IsSl rByte c.S w x.2 x.1.2) : May w0 S m (slc rCT (fun b => v.ownBlock = some b ∨ c.S b) v xs) :=
 .mix (fun w hw => rows_sl chC_len rfl (hw.holds _ h.mem) (fun b hb => .inl hb) fun b o x hx hP hr => ⟨hP, hr, (hd w (hw.holds _ h'.mem) x hx).mono fun k hk => .inr hk, (hok x hx).1, (hok x hx).2⟩) fun b hb => .inr (by
  rcases hb with hb | hb
  ·exact ⟨_, h.mem, hb⟩
  exact ⟨_, h'.mem, hb⟩)
end
def iA9 : It := ⟨[97], 1, 0, 0, [], []⟩
def iB9 : It := ⟨[97, 47, 98], 2, 0, 1, [], [n9]⟩
theorem it9 {ms : List IT} (h : its ms = sam9M) : ∃ u0 u1, ms = [(iA9, u0), (iB9, u1)] := by
 have hl : ms.length = 2 := by have := congrArg List.length h; simpa [its, sam9M] using this
 obtain ⟨x, y, rfl⟩ : ∃ x y, ms = [x, y] := by
  match ms, hl with
  | [x, y], _ => exact ⟨x, y, rfl⟩
 have h2 : [x.1, y.1] = [iA9, iB9] := h
 injection h2 with e1 e2
 injection e2 with e2 _
 exact ⟨x.2, y.2, by rw [← e1, ← e2]⟩
theorem iA9_ok : ItOk iA9 ∧ all16 iA9.ids := ⟨⟨⟨by decide, by decide⟩, ⟨by decide, by decide⟩, ⟨by decide, by decide⟩, by decide, by decide, by decide⟩, fun y hy => by cases hy⟩
theorem by9 : bytesE a9 [iA9] = 0 ∧ bytesO a9 [iA9] = small9 97 := ⟨by kernel_rfl, by kernel_rfl⟩
theorem bd9n : buildM a9 sam9M [] = ([], 6) := by kernel_rfl
theorem bd9y : buildM a9 sam9M [(n9, [121])] = ([], 11) := by decide +kernel
theorem rd9b : rdM [0, 2, 0, 3, 0] = ((mh0, []), (5, 0)) := by kernel_rfl
theorem rd9c : rdM (small9 47) = ((mh0, []), (4, 12)) := by kernel_rfl
theorem id_at {x : CT} (h : x.1.1.length = 16) {j : Nat} {v : Value} (hj : (x.1.1.map vByte)[j]? = some v) : ([x].flatMap chC)[j]? = some v := by
 rw [List.flatMap_cons, List.flatMap_nil, List.append_nil]
 have := (List.getElem?_eq_some_iff.1 hj).1
 rw [List.length_map] at this
 rw [← hj, ← chC_id h, List.drop_zero, List.getElem?_take_of_lt (by omega)]
theorem flat9 : flatI [n9] = n9.map vByte := by simp [flatI]
set_option maxRecDepth 20000 in
set_option maxHeartbeats 4000000 in
theorem known9_tr : Tr Tryz.prog 29 #[] [] [] (T0 (.bool true)) := by
 refine Tr.of (l := []) Tryz.func29 rfl (n := 150) rfl Fa.nil (fun w0 hro => ?_)
 refine go [9,10,1,7,8,9,10] ?_
 refine G.op rfl (G.cS rfl rfl rfl rfl Tryz.func41 rfl rfl subT may0 (sample9_tr) apT ?_)
 intro x12 hJ
 obtain ⟨g7, b7⟩ := x12
 try dsimp only at hJ
 try dsimp only
 refine G.op rfl (G.cS rfl rfl rfl rfl Tryz.func11 rfl rfl subT (may1 (may_tree9 (c := sam9B b7) selT selT sam9_ok (fun w h => sam9_dat h))) (mmake_tr 1 2 3 _ (sam9T b7) (sam9_small b7)) apT ?_)
 intro x13 hJ
 obtain ⟨⟨mv, ms⟩, kv, ks⟩ := x13
 try dsimp only at hJ
 try dsimp only
 rw [show mkM (⟨1, 2, 0, 3⟩ : Mh) (ens (sam9T b7)) = ((a9, sam9M), [(n9, [120])], 0) from mk9] at hJ ⊢
 obtain ⟨hms, hks⟩ := hJ
 have hms : its ms = sam9M := hms
 have hks : cks ks = [(n9, [120])] := hks
 obtain ⟨u, rfl⟩ := ck9 hks
 have hio := it9_ok hms
 obtain ⟨u0, u1, rfl⟩ := it9 hms
 refine G.ownFact (v := mv) selT (fun hmv _ => ?_)
 refine G.ownNews (v := mv) selT (fun adm cpm bkm hmv' hkm hmm hadm hnilm hnewm => ?_)
 subst hmv'
 refine G.ownNews (v := kv) selT (fun ad9 cp9 bk9 hsv hks9 hms9 hads hnils hnews => ?_)
 subst hsv
 refine G.datINews (x := (iA9, u0)) selT (by simp) (fun ad0 cp0 bk0 hv0 _ _ => ?_)
 have hv0 : u0 = .slice ad0 0 cp0 := hv0
 subst hv0
 refine G.datINews (x := (iB9, u1)) selT (by simp) (fun ad1 cp1 bk1 hv1 had1 hnew1 => ?_)
 have hv1 : u1 = .slice ad1 1 cp1 := hv1
 subst hv1
 refine go [0,2,7,2,7,2,7,60,3] ?_
 intro b1
 refine go [20,1,1,7,8,9,9,10,0] ?_
 refine G.op rfl (G.val rfl rfl ((pv_neq rfl rfl).cast (v' := .bool false) (congrArg Value.bool (by exact decide_eq_false (by decide)))) ?_)
 refine go [0,3,0,3,5] ?_
 refine G.want rfl rfl rfl (G.val rfl rfl ((pv_neq rfl rfl).cast (v' := .bool false) (congrArg Value.bool (by exact decide_eq_false (by show ¬ (((1 : Nat) : Int) ≠ 1); decide)))) ?_)
 refine go [2,2,0,3,3,4,3,4,3,5] ?_
 refine G.want rfl rfl rfl (G.val rfl rfl ((pv_neq rfl rfl).cast (v' := .bool false) (congrArg Value.bool (by exact decide_eq_false (by show ¬ (((2 : Nat) : Int) ≠ 2); decide)))) ?_)
 refine go [2,2,7,8,60,1,13,8,9,10,2,50,8] ?_
 refine G.op rfl (G.buildSlice (z := .agg #[.string ⟨#[]⟩, .int .i64 0, .int .i64 0, .int .i64 0, .string ⟨#[]⟩, .slice none 0 0]) (sz := 6) (cs := itC (iA9, .slice none 0 0)) rfl Tryz.underlying26 kr (by decide) (by decide) rfl kr ?_)
 intro b32
 refine G.ownBlk (b := b32) (k := 1) (sz := 6) selT rfl (by omega) ?_
 refine G.ownNil 66 16 ?_
 refine go [60,6] ?_
 refine G.datISnoc (ys := []) (x := (iA9, .slice none 0 0)) selT selT ?_
 refine go [2,50,4] ?_
 refine G.op rfl (G.cS rfl rfl rfl rfl Tryz.func30 rfl rfl subT (may1 (may_items selT selT (fun x hx => by obtain rfl : x = _ := (by simpa using hx); exact iA9_ok))) (mbytes_tr a9 _ [(iA9, .slice none 0 0)]) apT ?_)
 intro x34 hJ
 try dsimp only at hJ
 try dsimp only
 rw [show bytesE a9 (its [(iA9, Value.slice none 0 0)]) = 0 from by9.1, show bytesO a9 (its [(iA9, Value.slice none 0 0)]) = small9 97 from by9.2]
 refine go [0,2,7,2,7,1,1,7,8,9,10,2,50,0] ?_
 refine G.op rfl (G.cS rfl rfl rfl rfl Tryz.func26 rfl rfl subT (may2 (may_items selT selT (fun x hx => (hio x hx).1)) (.old ro_nil9)) (mbuild_tr a9 _ (.slice none 0 0) _ [] (fun x hx => (hio x hx).2) (fun x hx => by cases hx)) apT ?_)
 intro x39 hJ
 obtain ⟨tv, ts⟩ := x39
 try dsimp only at hJ
 try dsimp only
 rw [show buildM a9 (its [(iA9, Value.slice ad0 0 cp0), (iB9, Value.slice ad1 1 cp1)]) (cks []) = ([], 6) from bd9n] at hJ ⊢
 refine G.ownFact (v := tv) selT (fun htv _ => ?_)
 refine go [0,2,7,2,7,1,1,7,8,9] ?_
 refine G.drawT (nn := 15) (p := []) (rem := 32767) [0, 0, 2, 4, 8, 0, 32, 80, 128, 257, 512, 1024, 1024, 4095, 16383] [0, 0, 2, 4, 8, 0, 32, 80, 128, 257, 512, 1024, 1024, 2048, 4096] kr ⟨rfl, by kernel_rfl, by kernel_rfl⟩ subT kr (fun hT6 => ?_)
 refine go [22,1,32765,0] ?_
 refine G.takeT hT6 (i := 2) (rem' := 32761) rfl rfl rfl kr (fun _ _ _ h => h) rfl (pv_ixSl (sz := 17) (k := 0) Tryz.underlying29 kr rfl rfl hads rfl (by show 0 < 1; decide)) subT ?_
 refine go [22,3,32753,3,0,22,0,32752,50,0] ?_
 refine G.takeT hT6 (i := 4) (rem' := 32736) rfl rfl rfl kr (fun _ _ _ h => h) rfl (pv_loadN (cs := n9.map vByte) Tryz.underlying66 rfl (by rw [List.length_map, n9_len]; kernel_rfl) rfl (fun w hw j v hj => by have h := hnews selT w hw j v (id_at (x := ((n9, [120]), u)) n9_len hj); simpa using h)) subT ?_
 refine go [24,5,32704] ?_
 refine G.turnOp rfl rfl (G.lit1 (vs := [.int .u8 121]) rfl Tryz.underlying39 kr rfl (by decide) (by decide) rfl rfl ?_)
 intro b48
 refine go [26,24,6,32640] ?_
 refine G.turnOp rfl rfl (G.constB (b := b48) (xs := [121]) rfl Tryz.underlying39 Tryz.underlying5 rfl (by decide) selT ?_)
 refine go [26] ?_
 refine G.takeT hT6 (i := 7) (rem' := 32512) rfl rfl rfl kr (fun _ _ _ h => h) rfl (pv_build (cells := (chC ((n9, [121]), .slice (some ⟨b48, 0, none⟩) 1 1)).toArray) (fun a ha => ha.pevs rfl) (builtCk n9_len rfl)) subT ?_
 refine go [24,8,32256] ?_
 refine G.turnOp rfl rfl (G.buildSlice (sz := 17) (cs := chC ((n9, [121]), .slice (some ⟨b48, 0, none⟩) 1 1)) rfl Tryz.underlying29 Tryz.infoCkfill (by decide) (by decide) rfl (fillCk _ (chC_len _)) ?_)
 intro b51
 refine G.ownBlk (b := b51) (k := 1) (sz := 17) selT (chC_len _) (by omega) ?_
 rw [show own 71 17 (.slice (some ⟨b51, 0, none⟩) 1 1) 1 (chC ((n9, [121]), .slice (some ⟨b48, 0, none⟩) 1 1)) = own 71 17 (.slice (some ⟨b51, 0, none⟩) 1 1) [(((n9, [121]), .slice (some ⟨b48, 0, none⟩) 1 1) : CT)].length ([(((n9, [121]), .slice (some ⟨b48, 0, none⟩) 1 1) : CT)].flatMap chC) from (by rw [List.flatMap_cons, List.flatMap_nil, List.append_nil]; rfl)]
 refine go [26,24,9,31744] ?_
 refine G.turnOp rfl rfl (G.cS rfl rfl rfl rfl Tryz.func26 rfl rfl subT (may2 (may_items selT selT (fun x hx => (hio x hx).1)) (may_chunks9 (c := slc rByte (· = b48) (.slice (some ⟨b48, 0, none⟩) 1 1) [121]) selT selT (fun x hx => by obtain rfl : x = _ := (by simpa using hx); exact ⟨n9_len, by show 1 ≤ 140737488355328; decide⟩) (fun w h x hx => by obtain rfl : x = _ := (by simpa using hx); exact h))) (mbuild_tr a9 _ _ [(iA9, .slice ad0 0 cp0), (iB9, .slice ad1 1 cp1)] [((n9, [121]), .slice (some ⟨b48, 0, none⟩) 1 1)] (fun x hx => (hio x hx).2) (fun x hx => by obtain rfl : x = _ := (by simpa using hx); show 1 ≤ 100000; decide)) apT ?_)
 intro x52 hJ
 obtain ⟨sv, ss⟩ := x52
 try dsimp only at hJ
 try dsimp only
 rw [show buildM a9 (its [(iA9, Value.slice ad0 0 cp0), (iB9, Value.slice ad1 1 cp1)]) (cks [((n9, [121]), Value.slice (some ⟨b48, 0, none⟩) 1 1)]) = ([], 11) from bd9y] at hJ ⊢
 refine G.ownFact (v := sv) selT (fun hsv _ => ?_)
 refine go [26,22,10,30720,0,22,11,28672,7,22,12,24576,7,22,13,16384,1,22,14,0,1,27,8,9] ?_
 refine G.drawT (nn := 67) (p := []) (rem := 147573952589676412927) [0, 1, 2, 4, 8, 24, 40, 72, 136, 256, 768, 1280, 2304, 4352, 8192, 24576, 40960, 73728, 139264, 262144, 786432, 1310720, 2359296, 4456448, 8650752, 17039360, 33816576, 67108864, 201326592, 335544320, 603979776, 1140850688, 2214592512, 4362076160, 8657043456, 17246978048, 34359738368, 103079215104, 171798691840, 309237645312, 584115552256, 1133871366144, 2233382993920, 4432406249472, 8796093022208, 26388279066624, 43980465111040, 79164837199872, 149533581377536, 290271069732864, 571746046443520, 1134695999864832, 2260595906707456, 4503599627370496, 13510798882111488, 22517998136852480, 40532396646334464, 76561193665298432, 148618787703226368, 292733975779082240, 4503599627370496, 1157425104234217472, 2310346608841064448, 4616189618054758400, 9804336388785569792, 18451247673336922112, 73786976294838206463] [0, 1, 2, 4, 8, 24, 40, 72, 128, 256, 768, 1280, 2304, 4096, 8192, 24576, 40960, 73728, 131072, 262144, 786432, 1310720, 2359296, 4456448, 8650752, 17039360, 33554432, 67108864, 201326592, 335544320, 603979776, 1140850688, 2214592512, 4362076160, 8657043456, 17179869184, 34359738368, 103079215104, 171798691840, 309237645312, 584115552256, 1133871366144, 2233382993920, 4398046511104, 8796093022208, 26388279066624, 43980465111040, 79164837199872, 149533581377536, 290271069732864, 571746046443520, 1134695999864832, 2251799813685248, 4503599627370496, 13510798882111488, 22517998136852480, 40532396646334464, 76561193665298432, 148618787703226368, 292733975779082240, 4503599627370496, 1157425104234217472, 2310346608841064448, 4616189618054758400, 9804336388785569792, 18451247673336922112, 36893488147419103232] kr ⟨rfl, by kernel_rfl, by kernel_rfl⟩ subT kr (fun hT7 => ?_)
 refine go [22,0,147573952589676412926,3,0,24,1,147573952589676412924,25,4,26] ?_
 refine G.takeT hT7 (i := 2) (rem' := 147573952589676412920) rfl rfl rfl kr (fun _ _ _ h => h) rfl ((pv_eql rfl rfl).cast (v' := .bool true) (congrArg Value.bool (by exact decide_eq_true rfl))) subT ?_
 refine go [22,3,147573952589676412912,0,22,4,147573952589676412896,3,1,24,5,147573952589676412864,25,4,26] ?_
 refine G.takeT hT7 (i := 6) (rem' := 147573952589676412800) rfl rfl rfl kr (fun _ _ _ h => h) rfl ((pv_eql rfl rfl).cast (v' := .bool true) (congrArg Value.bool (by exact decide_eq_true rfl))) subT ?_
 refine go [22,7,147573952589676412672,2,22,8,147573952589676412416,0,22,9,147573952589676411904,3,2,24,10,147573952589676410880,25,4,26] ?_
 refine G.takeT hT7 (i := 11) (rem' := 147573952589676408832) rfl rfl rfl kr (fun _ _ _ h => h) rfl ((pv_eql rfl rfl).cast (v' := .bool true) (congrArg Value.bool (by exact decide_eq_true rfl))) subT ?_
 refine go [22,12,147573952589676404736,2,22,13,147573952589676396544,0,22,14,147573952589676380160,3,3,24,15,147573952589676347392,25,4,26] ?_
 refine G.takeT hT7 (i := 16) (rem' := 147573952589676281856) rfl rfl rfl kr (fun _ _ _ h => h) rfl ((pv_eql rfl rfl).cast (v' := .bool true) (congrArg Value.bool (by exact decide_eq_true rfl))) subT ?_
 refine go [22,17,147573952589676150784,2,22,18,147573952589675888640,0,22,19,147573952589675364352,3,4,24,20,147573952589674315776,25,4,26] ?_
 refine G.takeT hT7 (i := 21) (rem' := 147573952589672218624) rfl rfl rfl kr (fun _ _ _ h => h) rfl (pv_ixSl (sz := 6) (k := 0) Tryz.underlying26 kr rfl rfl hadm rfl (by show 0 < 2; decide)) subT ?_
 refine go [22,22,147573952589668024320,3,0,24,23,147573952589659635712] ?_
 refine G.turnOp rfl rfl (G.val rfl rfl (pv_load (v := .string (sB [97])) Tryz.underlying9 rfl rfl (fun w hw => by have h := hnewm selT w hw 0 (.string (sB [97])) rfl; simpa using h)) ?_)
 refine go [26] ?_
 refine G.takeT hT7 (i := 24) (rem' := 147573952589642858496) rfl rfl rfl kr (fun _ _ _ h => h) rfl ((pv_eqlS (b := [97]) rfl rfl).cast (v' := .bool true) (congrArg Value.bool (by exact decide_eq_true rfl))) subT ?_
 refine go [22,25,147573952589609304064,2,22,26,147573952589542195200,0,22,27,147573952589407977472,3,4,24,28,147573952589139542016,25,4,26] ?_
 refine G.takeT hT7 (i := 29) (rem' := 147573952588602671104) rfl rfl rfl kr (fun _ _ _ h => h) rfl (pv_ixSl (sz := 6) (k := 0) Tryz.underlying26 kr rfl rfl hadm rfl (by show 0 < 2; decide)) subT ?_
 refine go [22,30,147573952587528929280,3,5,24,31,147573952585381445632] ?_
 refine G.turnOp rfl rfl (G.val rfl rfl (pv_load (v := .slice ad0 0 cp0) Tryz.underlying60 rfl rfl (fun w hw => by have h := hnewm selT w hw 5 (.slice ad0 0 cp0) rfl; simpa using h)) ?_)
 refine go [26,22,32,147573952581086478336,5] ?_
 refine G.takeT hT7 (i := 33) (rem' := 147573952572496543744) rfl rfl rfl kr (fun _ _ _ h => h) rfl ((pv_eql rfl rfl).cast (v' := .bool true) (congrArg Value.bool (by exact decide_eq_true rfl))) subT ?_
 refine go [22,34,147573952555316674560,2,22,35,147573952520956936192,0,22,36,147573952452237459456,3,4,24,37,147573952314798505984,25,4,26] ?_
 refine G.takeT hT7 (i := 38) (rem' := 147573952039920599040) rfl rfl rfl kr (fun _ _ _ h => h) rfl (pv_ixSl (sz := 6) (k := 1) Tryz.underlying26 kr rfl rfl hadm rfl (by show 1 < 2; decide)) subT ?_
 refine go [22,39,147573951490164785152,3,3,24,40,147573950390653157376] ?_
 refine G.turnOp rfl rfl (G.val rfl rfl (pv_load (v := .int .i64 1) Tryz.underlying3 rfl rfl (fun w hw => by have h := hnewm selT w hw 9 (.int .i64 1) rfl; simpa using h)) ?_)
 refine go [26] ?_
 refine G.takeT hT7 (i := 41) (rem' := 147573948191629901824) rfl rfl rfl kr (fun _ _ _ h => h) rfl ((pv_eql rfl rfl).cast (v' := .bool true) (congrArg Value.bool (by exact decide_eq_true rfl))) subT ?_
 refine go [22,42,147573943793583390720,2,22,43,147573934997490368512,0,22,44,147573917405304324096,3,4,24,45,147573882220932235264,25,4,26] ?_
 refine G.takeT hT7 (i := 46) (rem' := 147573811852188057600) rfl rfl rfl kr (fun _ _ _ h => h) rfl (pv_ixSl (sz := 6) (k := 1) Tryz.underlying26 kr rfl rfl hadm rfl (by show 1 < 2; decide)) subT ?_
 refine go [22,47,147573671114699702272,3,5,24,48,147573389639722991616] ?_
 refine G.turnOp rfl rfl (G.val rfl rfl (pv_load (v := .slice ad1 1 cp1) Tryz.underlying60 rfl rfl (fun w hw => by have h := hnewm selT w hw 11 (.slice ad1 1 cp1) rfl; simpa using h)) ?_)
 refine go [26,22,49,147572826689769570304,5] ?_
 refine G.takeT hT7 (i := 50) (rem' := 147571700789862727680) rfl rfl rfl kr (fun _ _ _ h => h) rfl ((pv_eql rfl rfl).cast (v' := .bool true) (congrArg Value.bool (by exact decide_eq_true rfl))) subT ?_
 refine go [22,51,147569448990049042432,2,22,52,147564945390421671936,0,22,53,147555938191166930944,3,4,22,54,147537923792657448960,4] ?_
 refine G.takeT hT7 (i := 55) (rem' := 147501894995638484992) rfl rfl rfl kr (fun _ _ _ h => h) rfl (pv_ixSl (sz := 6) (k := 1) Tryz.underlying26 kr rfl rfl hadm rfl (by show 1 < 2; decide)) subT ?_
 refine go [22,56,147429837401600557056,3,5] ?_
 refine G.takeT hT7 (i := 57) (rem' := 147285722213524701184) rfl rfl rfl kr (fun _ _ _ h => h) rfl (pv_load (v := .slice ad1 1 cp1) Tryz.underlying60 rfl rfl (fun w hw => by have h := hnewm selT w hw 11 (.slice ad1 1 cp1) rfl; simpa using h)) subT ?_
 refine G.takeT hT7 (i := 58) (rem' := 146997491837372989440) rfl rfl rfl kr (fun _ _ _ h => h) rfl (pv_ixSl (sz := 16) (k := 0) Tryz.underlying60 kr rfl rfl had1 rfl (by decide)) subT ?_
 refine G.takeT hT7 (i := 59) (rem' := 146421031085069565952) rfl rfl rfl kr (fun _ _ _ h => h) rfl (pv_loadN (cs := n9.map vByte) Tryz.underlying66 rfl (by rw [List.length_map, n9_len]; kernel_rfl) rfl (fun w hw j v hj => by have h := hnew1 selT w hw j v (by show (flatI [n9])[j]? = _; rw [flat9]; exact hj); simpa using h)) subT ?_
 refine go [22,60,145268109580462718976,0] ?_
 refine G.takeT hT7 (i := 61) (rem' := 142962266571249025024) rfl rfl rfl kr (fun _ _ _ h => h) rfl (pv_ixSl (sz := 17) (k := 0) Tryz.underlying29 kr rfl rfl hads rfl (by show 0 < 1; decide)) subT ?_
 refine go [22,62,138350580552821637120,3,0,24,63,129127208515966861312] ?_
 refine G.turnOp rfl rfl (G.val rfl rfl (pv_loadN (cs := n9.map vByte) Tryz.underlying66 rfl (by rw [List.length_map, n9_len]; kernel_rfl) rfl (fun w hw j v hj => by have h := hnews selT w hw j v (id_at (x := ((n9, [120]), u)) n9_len hj); simpa using h)) ?_)
 refine go [26] ?_
 refine G.takeT hT7 (i := 64) (rem' := 110680464442257309696) rfl rfl rfl kr (fun _ _ _ h => h) rfl ((pv_eqlAr8 (a := n9) (b := n9) Tryz.underlying66 rfl kr Tryz.underlying5 kr rfl rfl n9_len n9_len).cast (v' := .bool true) (congrArg Value.bool (by exact decide_eq_true rfl))) subT ?_
 refine go [22,65,73786976294838206464,2,22,66,0,1,27,8,9,10] ?_
 refine G.op rfl (G.cR rfl rfl rfl rfl Tryz.func9 rfl rfl may0 (awake9_tr) ?_)
 refine go [0,3,0,2,2,0,3,0] ?_
 refine G.want rfl rfl rfl (G.val rfl rfl ((pv_eql rfl rfl).cast (v' := .bool true) (congrArg Value.bool (by exact decide_eq_true rfl))) ?_)
 refine go [2,2,0,3,0] ?_
 refine G.want rfl rfl rfl (G.cS rfl rfl rfl rfl Tryz.func43 rfl rfl subT may0 (small9_tr 97) apT ?_)
 intro x131 hJ
 try dsimp only at hJ
 try dsimp only
 refine G.want rfl rfl rfl (G.cR rfl rfl rfl rfl Tryz.func32 rfl rfl (may2 (may_ownB selT) (may_all (f := vByte) (p := fun _ => True) (xs := (small9 97)) (b := x131) selT (fun _ _ => trivial) rfl (by decide) (by decide))) (same_self _ _ (small9 97)) ?_)
 refine go [2,2,0] ?_
 refine G.want rfl rfl rfl (G.lit1 (vs := [.int .u8 0, .int .u8 2, .int .u8 0, .int .u8 3, .int .u8 0]) rfl Tryz.underlying39 kr rfl (by decide) (by decide) rfl rfl ?_)
 intro b135
 rw [show blk b135 5 [.int .u8 0, .int .u8 2, .int .u8 0, .int .u8 3, .int .u8 0] = blk b135 5 (([0, 2, 0, 3, 0] : List UInt8).map vByte) from rfl]
 refine G.want rfl rfl rfl (G.cR rfl rfl rfl rfl Tryz.func42 rfl rfl (may1 (may_all (f := vByte) (p := fun _ => True) (xs := ([0, 2, 0, 3, 0] : List UInt8)) (b := b135) selT (fun _ _ => trivial) rfl (by decide) (by decide))) (fails9 _ [0, 2, 0, 3, 0] 5 0 (by decide) (by rw [rd9b])) ?_)
 refine go [2,2,0] ?_
 refine G.want rfl rfl rfl (G.cS rfl rfl rfl rfl Tryz.func43 rfl rfl subT may0 (small9_tr 47) apT ?_)
 intro x139 hJ
 try dsimp only at hJ
 try dsimp only
 refine G.want rfl rfl rfl (G.cR rfl rfl rfl rfl Tryz.func42 rfl rfl (may1 (may_all (f := vByte) (p := fun _ => True) (xs := (small9 47)) (b := x139) selT (fun _ _ => trivial) rfl (by decide) (by decide))) (fails9 _ (small9 47) 4 12 (by decide) (by rw [rd9c])) ?_)
 refine go [2,2,0,3,0] ?_
 refine G.want rfl rfl rfl (G.val rfl rfl ((pv_eql rfl rfl).cast (v' := .bool true) (congrArg Value.bool (by exact decide_eq_true rfl))) ?_)
 refine go [2,2,0,3,0] ?_
 refine G.want rfl rfl rfl (G.val rfl rfl ((pv_eql rfl rfl).cast (v' := .bool true) (congrArg Value.bool (by exact decide_eq_true rfl))) ?_)
 refine go [2,2,1,7,8,11] ?_
 exact G.done0G rfl (Rv.tmp rfl Rv.nil) Y6
theorem bytesO_zero {a : Mh} {ms : List It} (h : bytesE a ms = 0) : (checkI a ms).1 = 0 ∧ bytesO a ms = manB a ms ∧ (manB a ms).length ≤ 262144 := by
 unfold bytesE at h
 split at h
 ·rename_i h1
  split at h
  ·cases h
  rename_i h2
  exact ⟨h1, (bytesE_ok h1 h2).2, by omega⟩
 rename_i h1
 exact absurd h h1
theorem bytesE_back {b : List UInt8} (h : (rdM b).2.1 = 0) : bytesE (rdM b).1.1 (rdM b).1.2 = 0 ∧ bytesO (rdM b).1.1 (rdM b).1.2 = b := by
 obtain ⟨h1, h2, h3⟩ := read_man_back h
 have h4 := bytesE_ok (a := (rdM b).1.1) (ms := (rdM b).1.2) (by rw [h1]) (by rw [h2]; omega)
 exact ⟨h4.1, by rw [h4.2, h2]⟩
theorem sameM9' {Ps Pu : Nat → Prop} (a b : Mh) (hab : a = b) (v u : Value) (xs ys : List IT) (h : its xs = its ys) : Tr Tryz.prog 13 #[.agg #[.int .i64 a.c, .int .i64 a.k, .int .i64 a.n, .int .i64 a.t, v], .agg #[.int .i64 b.c, .int .i64 b.k, .int .i64 b.n, .int .i64 b.t, u]] [slc rIT Ps v xs, slc rIT Pu u ys] [] (T0 (.bool true)) := by
 subst hab
 exact sameM9 a v u xs ys h
set_option maxRecDepth 20000 in
set_option maxHeartbeats 4000000 in
theorem mbackL {Ps Pu : Nat → Prop} (a : Mh) (v u : Value) (xs : List IT) (b : List UInt8) : Tr Tryz.prog 6 #[.agg #[.int .i64 a.c, .int .i64 a.k, .int .i64 a.n, .int .i64 a.t, v], u] [slc rIT Ps v xs, slc rByte Pu u b] [] (T0 (.bool true)) := by
 refine Tr.of (l := [(0, .agg #[.int .i64 a.c, .int .i64 a.k, .int .i64 a.n, .int .i64 a.t, v]), (1, u)]) Tryz.func6 rfl (n := 105) rfl (.cons rfl (.cons rfl .nil)) (fun w0 hro => ?_)
 obtain ⟨hx0, hu0⟩ := ro2 hro
 have hv := hx0
 have hv' := hv
 obtain ⟨av, cv, bv, fv, rfl, hcapv, hmaxv, hnilv, hadv, helv⟩ := Ro.open hv
 have hel' := its_length xs
 have hI := Ro.allI helv
 have hall : ∀ x ∈ its xs, ItOk x ∧ all16 x.ids := fun x hx => by obtain ⟨y, hy, rfl⟩ := List.mem_map.1 hx; exact ⟨(hI y hy).1, (hI y hy).2.1⟩
 have hu := hu0
 obtain ⟨au, cu, qu, ou, rfl, -⟩ := Ro.open hu0
 obtain ⟨R, hR⟩ : ∃ R, rdM b = R := ⟨_, rfl⟩
 refine go [9,10,60,0] ?_
 intro b2
 refine go [1,7,8,9,10] ?_
 refine G.op rfl (G.cR rfl rfl rfl rfl Tryz.func29 rfl rfl may0 (known9_tr) ?_)
 refine go [1,7,8,9,9] ?_
 refine G.cutK (X := Unit) (ts := [1, 2, 4, 5]) (p := []) (fun _ => True) (fun _ => [(23, .bool (decide (bigI (its xs) 220 ∨ 3000 < (b.length : Int))))]) (fun _ => []) (.cons rfl (.cons rfl (.cons rfl (.cons rfl .nil)))) subT (.cons .nil) apT ?_ ?_
 ·refine go [10,2,50,0] ?_
  refine G.op rfl (G.cR rfl rfl rfl rfl Tryz.func22 rfl rfl (may1 (.old hv)) (bigM_tr a _ xs 220 (by omega)) ?_)
  refine go [0] ?_
  refine G.partP (t := 19) rfl (fun h19 => ?_) (fun h19 => ?_)
  ·refine go [4,4,4,2,2,7] ?_
   exact G.meet (()) trT (.consE rfl Y42 (.cons rfl (.cons rfl (.cons rfl (.cons rfl .nil))))) subT
  refine go [3,0,3,5,3,10,2,2,7] ?_
  exact G.meet (()) trT (.consE rfl Y42 (.cons rfl (.cons rfl (.cons rfl (.cons rfl .nil))))) subT
 intro _ hJ
 try dsimp only at hJ
 try dsimp only
 refine G.condP rfl (fun h23 => ?_) (fun h23 => ?_)
 ·refine go [9,10,0,1,7,8,11,12] ?_
  exact G.done0G rfl (Rv.tmp rfl Rv.nil) Y6
 obtain ⟨hnb, hbl⟩ := not_or.1 h23
 have hbl : b.length ≤ 3000 := by omega
 have hbk := read_man_bad (b := b) (by omega)
 have hok : (rdM b).2.1 = 0 → (checkI (rdM b).1.1 (rdM b).1.2) = (0, 0) ∧ bytesE (rdM b).1.1 (rdM b).1.2 = 0 ∧ bytesO (rdM b).1.1 (rdM b).1.2 = b := fun h => ⟨(read_man_back h).1, bytesE_back h⟩
 have hralL := rdM_all (b := b) (by omega)
 rw [hR] at hbk hok hralL
 refine go [13,8,9,10,2,50,0] ?_
 refine G.op rfl (G.cS rfl rfl rfl rfl Tryz.func30 rfl rfl subT (may1 (.old hv)) (mbytes_tr a _ xs) apT ?_)
 intro x27 hJ
 try dsimp only at hJ
 try dsimp only
 obtain ⟨E, hE⟩ : ∃ E, bytesE a (its xs) = E := ⟨_, rfl⟩
 rw [hE]
 refine go [0,2,7,2,7,1,1,7,8,9] ?_
 refine G.cutK (X := Unit) (ts := [1, 5]) (p := [ownB 5 _ _]) (fun _ => True) (fun _ => []) (fun _ => []) (.cons rfl (.cons rfl .nil)) subT Ap.nil apT ?_ ?_
 ·refine go [9,10,0,2,13,7,8] ?_
  refine G.condP rfl (fun h31 => ?_) (fun h31 => ?_)
  ·obtain ⟨hck, hbo, hml⟩ := bytesO_zero (hE.trans h31)
   rw [hbo]
   refine G.ownBFact (v := x27) selT (fun hx27 => ?_)
   have hrd := read_man hck (fun x hx => (hall x hx).2) hml
   refine go [9,10,0] ?_
   refine G.op rfl (G.cS rfl rfl rfl rfl Tryz.func19 rfl rfl subT (may1 (may_ownB selT)) (mread_tr _ (manB a (its xs)) (by omega)) apT ?_)
   intro x34 hJ
   obtain ⟨mv, ms⟩ := x34
   try dsimp only at hJ
   try dsimp only
   rw [hrd] at hJ ⊢
   have hms : its ms = its xs := hJ
   refine G.ownFact (v := mv) selT (fun hmv _ => ?_)
   refine go [0,2,7,2,7,60,3] ?_
   intro b8
   refine go [60,8] ?_
   intro b9
   refine go [20,20,7,8,9,10,2,3,0,2,4] ?_
   refine G.op rfl (G.val rfl rfl ((pv_neq rfl rfl).cast (v' := .bool false) (congrArg Value.bool (by exact decide_eq_false (fun h => h rfl)))) ?_)
   refine go [0,3,50,0,3,50,0] ?_
   refine G.want rfl rfl rfl (G.cR rfl rfl rfl rfl Tryz.func13 rfl rfl (may2 (may_items selT selT (its_all hms hall)) (.old hv)) (sameM9 a _ _ ms xs hms) ?_)
   refine G.want rfl rfl rfl (G.val rfl rfl ((pv_not rfl).cast (v' := .bool false) rfl) ?_)
   refine go [2,2,0,3,0] ?_
   refine G.ownBSl (v := x27) selT (fun ad9 cap9 hv9 => ?_)
   subst hv9
   refine go [3,5] ?_
   refine G.want rfl rfl rfl (G.val rfl rfl ((pv_gtr rfl rfl).cast (v' := .bool false) (congrArg Value.bool (by exact decide_eq_false (by omega)))) ?_)
   refine go [2,2,7,8,60,1,13] ?_
   exact G.meet (()) trT (.cons rfl (.cons rfl .nil)) subT
  refine G.skip ?_
  exact G.meet (()) trT (.cons rfl (.cons rfl .nil)) subT
 intro _ hJ
 try dsimp only at hJ
 try dsimp only
 refine go [9,10,0] ?_
 refine G.op rfl (G.cS rfl rfl rfl rfl Tryz.func19 rfl rfl subT (may1 (.old hu)) (mread_tr _ b (by omega)) apT ?_)
 intro x53 hJ
 obtain ⟨wv, ws⟩ := x53
 try dsimp only at hJ
 try dsimp only
 rw [hR] at hJ ⊢
 have hws : its ws = R.1.2 := hJ
 refine G.ownFact (v := wv) selT (fun hwv _ => ?_)
 refine go [0,2,7,2,7,60,3] ?_
 intro b10
 refine go [60,8] ?_
 intro b11
 refine go [20,20,7,8,9,9,10,2,3,0,2,4,2,14,7,8] ?_
 refine G.condP rfl (fun h58 => ?_) (fun h58 => ?_)
 ·obtain ⟨hb1, hb2, hb3⟩ := hbk (by assumption)
  have hws0 : its ws = [] := by rw [hws, hb1]
  have hwsn : ws = [] := by have := congrArg List.length hws0; rw [its_length] at this; exact List.eq_nil_of_length_eq_zero this
  have hma : R.1.1 = mh0 := by rw [hb1]
  refine go [9,10,0,0,3,50,0,3,50,4] ?_
  refine G.want rfl rfl rfl (G.cR rfl rfl rfl rfl Tryz.func13 rfl rfl (may2 (may_items selT selT (its_all hws hralL)) (.old ro_nil9)) (sameM9' R.1.1 mh0 hma _ _ ws [] (by rw [hws0]; rfl)) ?_)
  refine go [2,2,0,3,3,1,3,4] ?_
  refine G.want rfl rfl rfl (G.val rfl rfl ((pv_geq rfl rfl).cast (v' := .bool true) (congrArg Value.bool (by exact decide_eq_true hb2))) ?_)
  refine go [2,2,0,3,3,1,3,4,3,0,3,5] ?_
  refine G.want rfl rfl rfl (G.val rfl rfl ((pv_leq rfl rfl).cast (v' := .bool true) (congrArg Value.bool (by exact decide_eq_true hb3))) ?_)
  refine go [2,2,1,7,8,11,12] ?_
  exact G.done0G rfl (Rv.tmp rfl Rv.nil) Y6
 obtain ⟨hc1, hc2, hc3⟩ := hok (Decidable.of_not_not (by assumption))
 refine go [13,8,9,10,2,50,0] ?_
 refine G.op rfl (G.cR rfl rfl rfl rfl Tryz.func31 rfl rfl (may1 (may_items selT selT (its_all hws hralL))) (mcheck_tr R.1.1 _ ws) ?_)
 rw [hws, hc1]
 refine go [0,2,7,2,7,1,1,7,8,9,10,2,50,0] ?_
 refine G.op rfl (G.cS rfl rfl rfl rfl Tryz.func30 rfl rfl subT (may1 (may_items selT selT (its_all hws hralL))) (mbytes_tr R.1.1 _ ws) apT ?_)
 intro x84 hJ
 try dsimp only at hJ
 try dsimp only
 rw [hws, hc2, hc3]
 refine go [0,2,7,2,7,1,1,7,8,9,10,0,0,3,0] ?_
 refine G.want rfl rfl rfl (G.val rfl rfl ((pv_eql rfl rfl).cast (v' := .bool true) (congrArg Value.bool (by exact decide_eq_true rfl))) ?_)
 refine go [2,2,0,3,0] ?_
 refine G.want rfl rfl rfl (G.val rfl rfl ((pv_eql rfl rfl).cast (v' := .bool true) (congrArg Value.bool (by exact decide_eq_true rfl))) ?_)
 refine go [2,2,0,3,0] ?_
 refine G.want rfl rfl rfl (G.val rfl rfl ((pv_eql rfl rfl).cast (v' := .bool true) (congrArg Value.bool (by exact decide_eq_true rfl))) ?_)
 refine go [2,2,0,3,0,3,0] ?_
 refine G.want rfl rfl rfl (G.cR rfl rfl rfl rfl Tryz.func32 rfl rfl (may2 Y2 Y2) (same9 _ _ b) ?_)
 refine go [2,2,1,7,8,11] ?_
 exact G.done0G rfl (Rv.tmp rfl Rv.nil) Y6
end Go.Proofs.YtbfpbibkklfnfaaGreat
