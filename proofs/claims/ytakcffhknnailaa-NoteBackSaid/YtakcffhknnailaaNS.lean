/- Plain laws of notes: what is read is what it was written as. Conditions: none. -/
import Derived.Test.YtakcffhknnailaaNP
set_option linter.unusedVariables false
set_option linter.unusedSimpArgs false
namespace Go.Proofs.Ytakcffhknnailaa
open Go.RowKit

theorem take_app_get {b w : List UInt8} {a c : Nat} (ha : a ≤ b.length) (hc : c = a + w.length) (h : ∀ t, t < w.length → b[a + t]? = w[t]?) (hcl : c ≤ b.length) : b.take c = b.take a ++ w := by
  subst hc
  apply List.ext_getElem?
  intro i
  rcases Nat.lt_or_ge i a with h1 | h1
  · rw [List.getElem?_append_left (by rw [List.length_take]; omega), List.getElem?_take_of_lt (by omega), List.getElem?_take_of_lt h1]
  · rw [List.getElem?_append_right (by rw [List.length_take]; omega), List.length_take, Nat.min_eq_left ha]
    rcases Nat.lt_or_ge i (a + w.length) with h2 | h2
    · rw [List.getElem?_take_of_lt h2]
      have := h (i - a) (by omega)
      rwa [Nat.add_sub_cancel' h1] at this
    · rw [List.getElem?_eq_none (by rw [List.length_take]; omega), List.getElem?_eq_none (by omega)]
theorem take_subB (b : List UInt8) (a n : Nat) : b.take (a + n) = b.take a ++ subB b a n := by
  have := List.take_append_drop a (b.take (a + n))
  rw [List.take_take, Nat.min_eq_left (by omega)] at this
  exact this.symm
/-- a digit that has more behind it -/
def hiB (n i : Nat) : UInt8 := UInt8.ofNat (n / 128 ^ i % 128 + 128)
theorem byteAt_hiB {m : Nat} {i : Nat} (hi : 0 < i) : byteAt (m : Int) i = hiB (m / 128) (i - 1) := by
  obtain ⟨j, rfl⟩ : ∃ j, i = j + 1 := ⟨i - 1, by omega⟩
  unfold byteAt hiB
  have e : (qM (m : Int) (j + 1) % 128).toNat = m / 128 / 128 ^ j % 128 := by
    unfold qM
    rw [Nat.div_div_eq_div_mul, show 128 * 128 ^ j = 128 ^ (j + 1) by rw [Nat.pow_succ, Nat.mul_comm]]
    have : ((m : Int) / (128 : Int) ^ (j + 1) % 128) = ((m / 128 ^ (j + 1) % 128 : Nat) : Int) := by
      rw [Int.natCast_emod, Int.natCast_ediv, Int.natCast_pow]; rfl
    rw [this, Int.toNat_natCast]
  rw [e, if_neg (by omega), Nat.add_sub_cancel]
theorem byteAt_lo0 {m : Nat} : byteAt (m : Int) 0 = UInt8.ofNat (m % 128) := by
  unfold byteAt
  have e : (qM (m : Int) 0 % 128).toNat = m % 128 := by
    unfold qM
    rw [Int.pow_zero, Int.ediv_one]
    omega
  rw [e, if_pos rfl, Nat.add_zero]
theorem hiB_step {n d i : Nat} (hd : d < 128) : hiB (n * 128 + d) (i + 1) = hiB n i := by
  unfold hiB
  have : (n * 128 + d) / 128 ^ (i + 1) = n / 128 ^ i := by
    rw [Nat.pow_succ, Nat.mul_comm (128 ^ i) 128, ← Nat.div_div_eq_div_mul, show (n * 128 + d) / 128 = n by omega]
  rw [this]
theorem sizeM_of {m k : Nat} (h1 : m < 128 ^ (k + 1)) (h2 : k = 0 ∨ 128 ^ k ≤ m) (hm : m ≤ 2147483647) (hk : k ≤ 4) : sizeM (m : Int) = k + 1 := by
  have : k = 0 ∨ k = 1 ∨ k = 2 ∨ k = 3 ∨ k = 4 := by omega
  unfold sizeM
  rcases this with rfl | rfl | rfl | rfl | rfl <;> simp only [Nat.reducePow, Nat.reduceAdd] at h1 h2 <;> (repeat' split) <;> omega
theorem u8_hi {c : UInt8} (h : 128 ≤ c.toNat) (n : Nat) : hiB (n * 128 + c.toNat % 128) 0 = c := by
  unfold hiB
  rw [Nat.pow_zero, Nat.div_one]
  apply UInt8.toNat_inj.1
  have := c.toNat_lt
  rw [UInt8.toNat_ofNat']
  omega
theorem getGo_dec {b : List UInt8} {a : Nat} : ∀ f k n m nx, f + k = 5 → n < 128 ^ k → (k = 0 → b[a]? ≠ some 128) → (k ≠ 0 → 128 ^ (k - 1) ≤ n) → (∀ t, t < k → b[a + t]? = some (hiB n (k - 1 - t))) → a + k ≤ b.length →
    getGo b a f k n = .ok m nx → m ≤ 2147483647 ∧ nx = a + sizeM (m : Int) ∧ sizeM (m : Int) ≠ 0 ∧ nx ≤ b.length ∧ ∀ t, t < sizeM (m : Int) → b[a + t]? = some (byteAt (m : Int) (sizeM (m : Int) - 1 - t)) := by
  intro f
  induction f with
  | zero => intro k n m nx _ _ _ _ _ _ h; cases h
  | succ f ih =>
    intro k n m nx hf hn h128 hlow hpre hle h
    unfold getGo at h
    cases hc : b[a + k]? with
    | none => rw [hc] at h; cases h
    | some c =>
      rw [hc] at h
      simp only at h
      have hlt := (List.getElem?_eq_some_iff.1 hc).1
      have hcl := c.toNat_lt
      have hd : c.toNat % 128 < 128 := by omega
      have hn' : n * 128 + c.toNat % 128 < 128 ^ (k + 1) := by rw [Nat.pow_succ]; omega
      have hlow' : 128 ≤ c.toNat → 128 ^ k ≤ n * 128 + c.toNat % 128 := fun hh => by
        by_cases hk : k = 0
        · subst hk
          have : c ≠ 128 := fun e => h128 rfl (by rw [← e]; simpa using hc)
          have : c.toNat ≠ 128 := fun e => this (UInt8.toNat_inj.1 e)
          rw [Nat.pow_zero]
          omega
        · have := hlow hk
          obtain ⟨j, rfl⟩ : ∃ j, k = j + 1 := ⟨k - 1, by omega⟩
          rw [Nat.add_sub_cancel] at this
          rw [Nat.pow_succ]
          omega
      by_cases h1 : 128 ≤ c.toNat
      · rw [if_pos h1] at h
        refine ih (k + 1) _ m nx (by omega) hn' (fun h => by omega) (fun _ => by rw [Nat.add_sub_cancel]; exact hlow' h1) (fun t ht => ?_) (by omega) h
        rw [Nat.add_sub_cancel]
        rcases Nat.lt_or_ge t k with h2 | h2
        · rw [hpre t h2, show k - t = (k - 1 - t) + 1 by omega, hiB_step hd]
        · obtain rfl : t = k := by omega
          rw [hc, Nat.sub_self, u8_hi h1]
      · rw [if_neg h1] at h
        by_cases h2 : 2147483647 < n * 128 + c.toNat % 128
        · rw [if_pos h2] at h; cases h
        · rw [if_neg h2] at h
          injection h with e1 e2
          have hk4 : k ≤ 4 := by omega
          have hsz : sizeM (m : Int) = k + 1 := by
            rw [← e1]
            refine sizeM_of hn' ?_ (by omega) hk4
            by_cases hk : k = 0
            · exact .inl hk
            · right
              have := hlow hk
              obtain ⟨j, rfl⟩ : ∃ j, k = j + 1 := ⟨k - 1, by omega⟩
              rw [Nat.add_sub_cancel] at this
              rw [Nat.pow_succ]
              omega
          rw [hsz]
          refine ⟨by omega, by omega, by omega, by omega, fun t ht => ?_⟩
          rcases Nat.lt_or_ge t k with h3 | h3
          · rw [hpre t h3, Nat.add_sub_cancel, byteAt_hiB (by omega), ← e1, show (n * 128 + c.toNat % 128) / 128 = n by omega, show k - t - 1 = k - 1 - t by omega]
          · obtain rfl : t = k := by omega
            rw [hc, Nat.add_sub_cancel, Nat.sub_self, byteAt_lo0, ← e1]
            congr 1
            apply UInt8.toNat_inj.1
            rw [UInt8.toNat_ofNat']
            omega
theorem getM_dec {b : List UInt8} {a m nx : Nat} (ha : a ≤ b.length) (h : getM b a = .ok m nx) : m ≤ 2147483647 ∧ nx ≤ b.length ∧ b.take nx = b.take a ++ putM (m : Int) := by
  unfold getM at h
  split at h
  · cases h
  · rename_i h128
    have := getGo_dec 5 0 0 m nx rfl (by decide) (fun _ => h128) (fun h => absurd rfl h) (fun t ht => by omega) ha h
    obtain ⟨h1, h2, h3, h4, h5⟩ := this
    refine ⟨h1, h4, take_app_get ha (by rw [putM_length]; exact h2) (fun t ht => ?_) h4⟩
    rw [putM_length] at ht
    rw [h5 t ht, putM_get ht]
theorem num_dec {b : List UInt8} {low high above : Int} {s : Rs} (hs : okS b s) (hab : 1 ≤ above) (h : (numS b low high above s).2.e = 0) :
    s.e = 0 ∧ low ≤ ((numS b low high above s).1 : Int) ∧ ((numS b low high above s).1 : Int) ≤ high ∧ (numS b low high above s).1 ≤ 2147483647 ∧ b.take (numS b low high above s).2.a = b.take s.a ++ putM ((numS b low high above s).1 : Int) := by
  by_cases h0 : s.e = 0
  · have e1 : numS b low high above s = (numN (bndM b s.a low high above), ⟨nextN s.a (bndM b s.a low high above), errN (bndM b s.a low high above), posN s.p (bndM b s.a low high above)⟩) := if_pos h0
    rw [e1] at h ⊢
    cases hb : bndM b s.a low high above with
    | ok n nx =>
      obtain ⟨g1, g2, g3⟩ := bnd_get hb
      obtain ⟨d1, d2, d3⟩ := getM_dec hs.1 g1
      exact ⟨h0, g3, g2, d1, d3⟩
    | bad e q =>
      rw [hb] at h
      have h : e = 0 := h
      subst h
      exact absurd hb (bnd_bad0 hab)
  · rw [numS_stop h0] at h
    exact absurd h h0
theorem nums_dec {b : List UInt8} {s : Rs} (hs : okS b s) : ∀ j, (numsS b s j).2.e = 0 → b.take (numsS b s j).2.a = b.take s.a ++ (numsS b s j).1.flatMap putM ∧ s.e = 0
  | 0, h => ⟨by simp [numsS], h⟩
  | j + 1, h => by
    have h : (numS b 0 2147483647 5 (numsS b s j).2).2.e = 0 := h
    obtain ⟨d1, d2, d3, d4, d5⟩ := num_dec (numsS_ok hs j) (by decide) h
    obtain ⟨i1, i2⟩ := nums_dec hs j d1
    refine ⟨?_, i2⟩
    show b.take (numS b 0 2147483647 5 (numsS b s j).2).2.a = b.take s.a ++ ((numsS b s j).1 ++ [((numS b 0 2147483647 5 (numsS b s j).2).1 : Int)]).flatMap putM
    rw [d5, i1, List.flatMap_append, List.append_assoc]
    simp
theorem id_dec {b : List UInt8} {s : Rs} (hs : okS b s) (h : (idS b s).2.e = 0) : s.e = 0 ∧ b.take (idS b s).2.a = b.take s.a ++ (idS b s).1 := by
  by_cases h0 : s.e = 0
  · have e1 : idS b s = (outI b s.a, ⟨endB s.a (idR b s.a), errN (idR b s.a), posN s.p (idR b s.a)⟩) := if_pos h0
    rw [e1] at h ⊢
    by_cases hl : b.length < s.a + 16
    · unfold idR at h
      rw [if_pos hl] at h
      cases h
    · refine ⟨h0, ?_⟩
      unfold idR outI
      rw [if_neg hl, if_neg hl]
      exact take_subB b s.a 16
  · rw [show idS b s = (List.replicate 16 0, s) from if_neg h0] at h
    exact absurd h h0
theorem ids_dec {b : List UInt8} {s : Rs} (hs : okS b s) : ∀ j, (idsS b s j).2.e = 0 → b.take (idsS b s j).2.a = b.take s.a ++ (idsS b s j).1.flatten ∧ s.e = 0
  | 0, h => ⟨by simp [idsS], h⟩
  | j + 1, h => by
    have h : (idS b (idsS b s j).2).2.e = 0 := h
    obtain ⟨d1, d5⟩ := id_dec (idsS_ok hs j) h
    obtain ⟨i1, i2⟩ := ids_dec hs j d1
    refine ⟨?_, i2⟩
    show b.take (idS b (idsS b s j).2).2.a = b.take s.a ++ ((idsS b s j).1 ++ [(idS b (idsS b s j).2).1]).flatten
    rw [d5, i1, List.flatten_append, List.append_assoc]
    simp
theorem byt_dec {b : List UInt8} {high : Int} {s : Rs} (hs : okS b s) (h : (bytS b high s).2.e = 0) : s.e = 0 ∧ ((bytS b high s).1.length : Int) ≤ high ∧ b.take (bytS b high s).2.a = b.take s.a ++ bytesM (bytS b high s).1 := by
  by_cases h0 : s.e = 0
  · have e1 : bytS b high s = (outB b (bytR b s.a high), ⟨endB s.a (bytR b s.a high), errN (bytR b s.a high), posN s.p (bytR b s.a high)⟩) := if_pos h0
    rw [e1] at h ⊢
    cases hb : bndM b s.a 0 high 3 with
    | bad e q =>
      rw [bytR_bad hb] at h
      have h : e = 0 := h
      subst h
      exact absurd hb (bnd_bad0 (by decide))
    | ok n nx =>
      obtain ⟨g1, g2, g3⟩ := bnd_get hb
      obtain ⟨d1, d2, d3⟩ := getM_dec hs.1 g1
      by_cases hl : b.length < nx + n
      · rw [bytR_cut hb hl] at h
        cases h
      · rw [bytR_ok hb (by omega)]
        have hsl : (subB b nx n).length = n := subB_length (by omega)
        refine ⟨h0, by show ((subB b nx n).length : Int) ≤ high; omega, ?_⟩
        show b.take (nx + n) = b.take s.a ++ bytesM (subB b nx n)
        unfold bytesM
        rw [hsl, ← List.append_assoc, ← d3]
        exact take_subB b nx n
  · rw [bytS_stop h0] at h
    exact absurd h h0
theorem cnt_dec {b : List UInt8} {least most : Int} {s : Rs} (hs : okS b s) (h : (cntS b least most s).2.e = 0) : s.e = 0 ∧ least ≤ ((cntS b least most s).1 : Int) ∧ ((cntS b least most s).1 : Int) ≤ most ∧ b.take (cntS b least most s).2.a = b.take s.a ++ putM ((cntS b least most s).1 : Int) := by
  by_cases hf : (numS b 0 most 3 s).2.e = 0 ∧ ((numS b 0 most 3 s).1 : Int) < least
  · rw [cntS_few hf] at h
    cases h
  · rw [cntS_go hf] at h ⊢
    obtain ⟨d1, d2, d3, d4, d5⟩ := num_dec hs (by decide) h
    exact ⟨d1, by omega, d3, d5⟩
theorem numsS_rangeB (b : List UInt8) (s : Rs) : ∀ j, ∀ x ∈ (numsS b s j).1, 0 ≤ x ∧ x ≤ 2147483647
  | 0, x, hx => by cases hx
  | j + 1, x, hx => by
    have hx : x ∈ (numsS b s j).1 ++ [((numS b 0 2147483647 5 (numsS b s j).2).1 : Int)] := hx
    rcases List.mem_append.1 hx with h | h
    · exact numsS_rangeB b s j x h
    · obtain rfl : x = _ := by simpa using h
      have := numS_small (b := b) (low := 0) (high := 2147483647) (above := 5) (s := (numsS b s j).2)
      omega
theorem readM_rangeB (b : List UInt8) : ∀ x ∈ (readM b).1.ns, 0 ≤ x ∧ x ≤ 2147483647 := by
  unfold readM tnM tiM tbM finM
  split
  · intro x hx; exact absurd hx (by simp [nt0])
  · exact numsS_rangeB b _ _
/-- what was read of bytes: their note -/
theorem read_back {b : List UInt8} (h : (readM b).2.1 = 0) : checkM (readM b).1.k (readM b).1.ns (readM b).1.ids.length (readM b).1.bs.length = 0 ∧ noteB (readM b).1.k (readM b).1.ns (readM b).1.ids (readM b).1.bs = b := by
  have hrange := readM_rangeB b
  have hr : readM b = tnM b (shD (numS b 1 24 5 rs0).1) (numS b 1 24 5 rs0).1 (numS b 1 24 5 rs0).2 := rfl
  have k0 := rs0_ok b
  have k1 := numS_ok (low := 1) (high := 24) (above := 5) k0 (by decide)
  obtain ⟨r1, hr1⟩ : ∃ c, numS b 1 24 5 rs0 = c := ⟨_, rfl⟩
  have hd1 := num_dec (low := 1) (high := 24) (above := 5) k0 (by decide)
  rw [hr1] at hr k1 hd1
  obtain ⟨sh, hsh⟩ : ∃ c, shD (r1.1 : Int) = c := ⟨_, rfl⟩
  rw [hsh] at hr
  unfold tnM tiM tbM at hr
  have k2 := cntS_ok (least := sh.n) (most := sh.ns) k1
  have hd2 := cnt_dec (least := sh.n) (most := sh.ns) k1
  obtain ⟨c1, hc1⟩ : ∃ c, cntS b sh.n sh.ns r1.2 = c := ⟨_, rfl⟩
  rw [hc1] at hr k2 hd2
  have k3 := numsS_ok k2 c1.1
  have hd3 := nums_dec k2 c1.1
  have hl3 := numsS_len b c1.2 c1.1
  obtain ⟨n1, hn1⟩ : ∃ c, numsS b c1.2 c1.1 = c := ⟨_, rfl⟩
  rw [hn1] at hr k3 hd3 hl3
  have k4 := cntS_ok (least := sh.i) (most := sh.is) k3
  have hd4 := cnt_dec (least := sh.i) (most := sh.is) k3
  obtain ⟨c2, hc2⟩ : ∃ c, cntS b sh.i sh.is n1.2 = c := ⟨_, rfl⟩
  rw [hc2] at hr k4 hd4
  have k5 := idsS_ok k4 c2.1
  have hd5 := ids_dec k4 c2.1
  have hl5 := idsS_len b c2.2 c2.1
  obtain ⟨n2, hn2⟩ : ∃ c, idsS b c2.2 c2.1 = c := ⟨_, rfl⟩
  rw [hn2] at hr k5 hd5 hl5
  have k6 := bytS_ok (high := sh.bs) k5
  have hd6 := byt_dec (high := sh.bs) k5
  obtain ⟨y, hy⟩ : ∃ c, bytS b sh.bs n2.2 = c := ⟨_, rfl⟩
  rw [hy] at hr k6 hd6
  have hfin : (endS b (least7 sh y n2.2)).1 = 0 := by
    rw [hr] at h
    unfold finM at h
    split at h
    · rename_i h2; exact h
    · rename_i h2; exact h
  have hr2 : readM b = (⟨r1.1, n1.1, n2.1, y.1⟩, endS b (least7 sh y n2.2)) := hr.trans (if_neg fun h => h hfin)
  have h7 : (least7 sh y n2.2).e = 0 ∧ ¬ (least7 sh y n2.2).a < b.length := by
    unfold endS at hfin
    split at hfin
    · cases hfin
    · rename_i hn
      exact ⟨hfin, fun h => hn ⟨hfin, h⟩⟩
  have hnl : ¬ (y.2.e = 0 ∧ (y.1.length : Int) < sh.b) := fun hh => by
    have := h7.1
    rw [show least7 sh y n2.2 = ⟨y.2.a, 5, n2.2.a⟩ from if_pos hh] at this
    cases this
  rw [show least7 sh y n2.2 = y.2 from if_neg hnl] at h7
  obtain ⟨e5, b6, t6⟩ := hd6 h7.1
  obtain ⟨t5, e4⟩ := hd5 e5
  obtain ⟨e3, l4, m4, t4⟩ := hd4 e4
  obtain ⟨t3, e2⟩ := hd3 e3
  obtain ⟨e1, l2, m2, t2⟩ := hd2 e2
  obtain ⟨_, l1, m1, _, t1⟩ := hd1 e1
  obtain ⟨s, hs⟩ := shM_near l1 m1
  have hss : s = sh := by rw [← hsh]; unfold shD; rw [hs]; rfl
  subst hss
  rw [hr2] at hrange ⊢
  simp only at hrange ⊢
  refine ⟨?_, ?_⟩
  · unfold checkM
    rw [hs]
    simp only
    unfold checkS
    rw [if_neg (by rw [hl3, hl5]; omega), if_pos]
    exact List.all_eq_true.2 fun x hx => decide_eq_true (hrange x hx)
  · have hy6 : b.take y.2.a = b := List.take_of_length_le (by omega)
    rw [t6, t5, t4, t3, t2, t1] at hy6
    have z : b.take rs0.a = [] := rfl
    rw [z] at hy6
    unfold noteB hdI hdN fN fI
    rw [List.take_length, List.take_length, hl3, hl5]
    exact hy6
/-- where a fault lies -/
def posB (b : List UInt8) (s : Rs) : Prop := 0 ≤ s.p ∧ s.p ≤ b.length
theorem getGo_pos {b : List UInt8} {a : Nat} (ha : a ≤ b.length) : ∀ f k n e q, getGo b a f k n = .bad e q → q ≤ b.length := by
  intro f
  induction f with
  | zero => intro k n e q h; injection h with h1 h2; omega
  | succ f ih =>
    intro k n e q h
    unfold getGo at h
    split at h
    · injection h with h1 h2; omega
    · split at h
      · exact ih _ _ _ _ h
      · split at h
        · injection h with h1 h2; omega
        · cases h
theorem getM_pos {b : List UInt8} {a e q : Nat} (ha : a ≤ b.length) (h : getM b a = .bad e q) : q ≤ b.length := by
  unfold getM at h
  split at h
  · injection h with h1 h2; omega
  · exact getGo_pos ha _ _ _ _ _ h
theorem bnd_pos {b : List UInt8} {a e q : Nat} {low high above : Int} (ha : a ≤ b.length) (h : bndM b a low high above = .bad e q) : q ≤ b.length := by
  unfold bndM at h
  split at h
  · rename_i e' q' hg
    injection h with h1 h2
    have := getM_pos ha hg
    omega
  · split at h
    · injection h with h1 h2; omega
    · split at h
      · injection h with h1 h2; omega
      · cases h
theorem num_pos {b : List UInt8} {low high above : Int} {s : Rs} (hs : okS b s) (h : posB b s) : posB b (numS b low high above s).2 := by
  unfold numS
  split
  · cases hb : bndM b s.a low high above with
    | ok n nx => exact h
    | bad e q => have := bnd_pos hs.1 hb; exact ⟨by show (0 : Int) ≤ q; omega, by show (q : Int) ≤ _; omega⟩
  · exact h
theorem cnt_pos {b : List UInt8} {least most : Int} {s : Rs} (hs : okS b s) (h : posB b s) : posB b (cntS b least most s).2 := by
  unfold cntS
  split
  · have := hs.1; exact ⟨by show (0 : Int) ≤ s.a; omega, by show (s.a : Int) ≤ _; omega⟩
  · exact num_pos hs h
theorem nums_pos {b : List UInt8} {s : Rs} (hs : okS b s) (h : posB b s) : ∀ j, posB b (numsS b s j).2
  | 0 => h
  | j + 1 => num_pos (numsS_ok hs j) (nums_pos hs h j)
theorem id_pos {b : List UInt8} {s : Rs} (h : posB b s) : posB b (idS b s).2 := by
  unfold idS
  split
  · unfold idR
    split
    · exact ⟨by show (0 : Int) ≤ (b.length : Nat); omega, Int.le_refl _⟩
    · exact h
  · exact h
theorem ids_pos {b : List UInt8} {s : Rs} (h : posB b s) : ∀ j, posB b (idsS b s j).2
  | 0 => h
  | j + 1 => id_pos (ids_pos h j)
theorem byt_pos {b : List UInt8} {high : Int} {s : Rs} (hs : okS b s) (h : posB b s) : posB b (bytS b high s).2 := by
  unfold bytS
  split
  · cases hb : bytR b s.a high with
    | ok n nx => exact h
    | bad e q =>
      have : q ≤ b.length := by
        unfold bytR at hb
        split at hb
        · rename_i e' q' hg
          injection hb with h1 h2
          have := bnd_pos hs.1 hg
          omega
        · split at hb
          · injection hb with h1 h2; omega
          · cases hb
      exact ⟨by show (0 : Int) ≤ q; omega, by show (q : Int) ≤ _; omega⟩
  · exact h
theorem fin_pos {b : List UInt8} {k : Int} {ns : List Int} {ids : List (List UInt8)} {bs : List UInt8} {s : Rs} (hs : okS b s) (h : posB b s) : 0 ≤ (finM b k ns ids bs s).2.2 ∧ (finM b k ns ids bs s).2.2 ≤ b.length := by
  have e : (finM b k ns ids bs s).2 = endS b s := by unfold finM; split <;> rfl
  rw [e]
  unfold endS
  split
  · have := hs.1; exact ⟨by show (0 : Int) ≤ s.a; omega, by show (s.a : Int) ≤ _; omega⟩
  · exact h
theorem least7_pos {b : List UInt8} {sh : Sh} {y : List UInt8 × Rs} {s : Rs} (hs : okS b s) (hy : okS b y.2) (h : posB b y.2) : posB b (least7 sh y s) ∧ okS b (least7 sh y s) := by
  unfold least7
  split
  · have := hs.1; exact ⟨⟨by show (0 : Int) ≤ s.a; omega, by show (s.a : Int) ≤ _; omega⟩, hy.1, fun h => by cases h⟩
  · exact ⟨h, hy⟩
theorem read_pos (b : List UInt8) : 0 ≤ (readM b).2.2 ∧ (readM b).2.2 ≤ b.length := by
  have k0 := rs0_ok b
  have p0 : posB b rs0 := ⟨Int.le_refl _, by show (0 : Int) ≤ (b.length : Nat); omega⟩
  have k1 := numS_ok (low := 1) (high := 24) (above := 5) k0 (by decide)
  have p1 := num_pos (low := 1) (high := 24) (above := 5) k0 p0
  unfold readM
  generalize numS b 1 24 5 rs0 = r1 at k1 p1 ⊢
  unfold tnM tiM tbM
  generalize shD (r1.1 : Int) = sh
  have k2 := cntS_ok (least := sh.n) (most := sh.ns) k1
  have p2 := cnt_pos (least := sh.n) (most := sh.ns) k1 p1
  generalize cntS b sh.n sh.ns r1.2 = c1 at k2 p2 ⊢
  have k3 := numsS_ok k2 c1.1
  have p3 := nums_pos k2 p2 c1.1
  generalize numsS b c1.2 c1.1 = n1 at k3 p3 ⊢
  have k4 := cntS_ok (least := sh.i) (most := sh.is) k3
  have p4 := cnt_pos (least := sh.i) (most := sh.is) k3 p3
  generalize cntS b sh.i sh.is n1.2 = c2 at k4 p4 ⊢
  have k5 := idsS_ok k4 c2.1
  have p5 := ids_pos p4 c2.1
  generalize idsS b c2.2 c2.1 = n2 at k5 p5 ⊢
  have k6 := bytS_ok (high := sh.bs) k5
  have p6 := byt_pos (high := sh.bs) k5 p5
  generalize bytS b sh.bs n2.2 = y at k6 p6 ⊢
  have := least7_pos (sh := sh) k5 k6 p6
  exact fin_pos this.2 this.1
/-- a note that is none has no parts -/
theorem read_nt0 {b : List UInt8} (h : (readM b).2.1 ≠ 0) : (readM b).1 = nt0 := by
  have key : ∀ k ns ids bs s, (finM b k ns ids bs s).2.1 ≠ 0 → (finM b k ns ids bs s).1 = nt0 := by
    intro k ns ids bs s h
    unfold finM at h ⊢
    split
    · rfl
    · rename_i h2
      rw [if_neg h2] at h
      exact absurd h h2
  unfold readM tnM tiM tbM at h ⊢
  exact key _ _ _ _ _ h
end Go.Proofs.Ytakcffhknnailaa
