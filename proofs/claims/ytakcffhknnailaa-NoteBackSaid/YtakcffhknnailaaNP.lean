/- Plain laws of notes: what is written, cut anywhere, or with more behind it, is read so. Conditions: none. -/
import Derived.Test.YtakcffhknnailaaNI
set_option linter.unusedVariables false
set_option linter.unusedSimpArgs false
namespace Go.Proofs.Ytakcffhknnailaa
open Go.RowKit

def shiftR (d : Nat) : Rn → Rn
  | .ok n nx => .ok n (d + nx)
  | .bad e q => .bad e (d + q)
theorem getGo_app (p b : List UInt8) (a : Nat) : ∀ f k n, getGo (p ++ b) (p.length + a) f k n = match getGo b a f k n with
    | .ok m nx => .ok m (p.length + nx)
    | .bad e q => .bad e (p.length + q) := by
  intro f
  induction f with
  | zero => intro k n; rfl
  | succ f ih =>
    intro k n
    unfold getGo
    rw [show p.length + a + k = p.length + (a + k) by omega, List.getElem?_append_right (by omega), Nat.add_sub_cancel_left]
    cases b[a + k]? with
    | none => simp
    | some c =>
      simp only
      by_cases h1 : 128 ≤ c.toNat
      · rw [if_pos h1, if_pos h1]; exact ih _ _
      · rw [if_neg h1, if_neg h1]
        by_cases h2 : 2147483647 < n * 128 + c.toNat % 128
        · rw [if_pos h2, if_pos h2]
        · rw [if_neg h2, if_neg h2]
          simp only
          congr 1
theorem getM_app (p b : List UInt8) (a : Nat) : getM (p ++ b) (p.length + a) = shiftR p.length (getM b a) := by
  unfold getM
  rw [List.getElem?_append_right (by omega), Nat.add_sub_cancel_left]
  by_cases h : b[a]? = some 128
  · rw [if_pos h, if_pos h]; rfl
  · rw [if_neg h, if_neg h, getGo_app]
    cases getGo b a 5 0 0 <;> rfl
section
variable {p r : List UInt8} {q : Nat}
theorem take_fit {e : List UInt8} (h : (p ++ e).length ≤ q) : ((p ++ e) ++ r).take q = p ++ (e ++ r.take (q - (p ++ e).length)) := by
  rw [List.take_append, List.take_of_length_le h, List.append_assoc]
theorem take_cut {e : List UInt8} (h : p.length ≤ q) (h2 : ¬ (p ++ e).length ≤ q) : ((p ++ e) ++ r).take q = p ++ e.take (q - p.length) := by
  rw [List.take_append_of_le_length (by omega), List.take_append, List.take_of_length_le h]
theorem num_fit {x low high above : Int} (hx : 0 ≤ x ∧ x ≤ 2147483647) (hl : low ≤ x) (hh : x ≤ high) (h : (p ++ putM x).length ≤ q) : numS (((p ++ putM x) ++ r).take q) low high above ⟨p.length, 0, 0⟩ = (x.toNat, ⟨(p ++ putM x).length, 0, 0⟩) := by
  have hs : sizeM x ≠ 0 := by have := sizeM_ok hx.1 hx.2; omega
  have hg := getM_app p (putM x ++ r.take (q - (p ++ putM x).length)) 0
  rw [getM_all hs, Nat.add_zero] at hg
  have he := preN_end hs
  have hb : bndM (p ++ (putM x ++ r.take (q - (p ++ putM x).length))) p.length low high above = .ok (preN x (sizeM x)) (p.length + sizeM x) := bnd_ok hg (by omega) (by omega)
  unfold numS
  rw [if_pos rfl, take_fit h, hb]
  have e1 : preN x (sizeM x) = x.toNat := by omega
  have e2 : (p ++ putM x).length = p.length + sizeM x := by rw [List.length_append, putM_length]
  rw [e1, e2]
  rfl
theorem num_cut {x low high above : Int} (hx : 0 ≤ x ∧ x ≤ 2147483647) (h0 : p.length ≤ q) (h : ¬ (p ++ putM x).length ≤ q) : numS (((p ++ putM x) ++ r).take q) low high above ⟨p.length, 0, 0⟩ = (0, ⟨p.length, 4, q⟩) := by
  have hs : sizeM x ≠ 0 := by have := sizeM_ok hx.1 hx.2; omega
  have e2 : (p ++ putM x).length = p.length + sizeM x := by rw [List.length_append, putM_length]
  have hg := getM_app p ((putM x).take (q - p.length)) 0
  rw [getM_cut hs (by omega), Nat.add_zero] at hg
  have hb : bndM (p ++ (putM x).take (q - p.length)) p.length low high above = .bad 4 (p.length + (q - p.length)) := bnd_bad hg
  unfold numS
  rw [if_pos rfl, take_cut h0 h, hb, Nat.add_sub_cancel' h0]
  rfl
theorem subB_mid (a c d : List UInt8) : subB (a ++ (c ++ d)) a.length c.length = c := by
  unfold subB
  rw [← List.append_assoc, List.take_append_of_le_length (by rw [List.length_append]; exact Nat.le_refl _), List.take_of_length_le (by rw [List.length_append]; exact Nat.le_refl _), List.drop_left]
theorem byt_fit {bs : List UInt8} {high : Int} (hb : (bs.length : Int) ≤ high) (hm : high ≤ 2147483647) (h : (p ++ bytesM bs).length ≤ q) : bytS (((p ++ bytesM bs) ++ r).take q) high ⟨p.length, 0, 0⟩ = (bs, ⟨(p ++ bytesM bs).length, 0, 0⟩) := by
  have hs : sizeM (bs.length : Int) ≠ 0 := by have := sizeM_ok (x := (bs.length : Int)) (by omega) (by omega); omega
  have e0 : p ++ (bytesM bs ++ r.take (q - (p ++ bytesM bs).length)) = p ++ (putM (bs.length : Int) ++ (bs ++ r.take (q - (p ++ bytesM bs).length))) := by unfold bytesM; rw [List.append_assoc]
  have hg := getM_app p (putM (bs.length : Int) ++ (bs ++ r.take (q - (p ++ bytesM bs).length))) 0
  rw [getM_all hs, Nat.add_zero] at hg
  have he := preN_end hs
  have e1 : preN (bs.length : Int) (sizeM (bs.length : Int)) = bs.length := by omega
  rw [e1] at hg
  have hbn := bnd_ok (low := 0) (high := high) (above := 3) hg (by omega) (by omega)
  have hr := bytR_ok hbn (by simp only [List.length_append, putM_length]; omega)
  unfold bytS
  rw [if_pos rfl, take_fit h, e0, hr]
  have e2 : (p ++ bytesM bs).length = p.length + sizeM (bs.length : Int) + bs.length := by unfold bytesM; rw [List.length_append, List.length_append, putM_length]; omega
  have e3 : (p ++ putM (bs.length : Int)).length = p.length + sizeM (bs.length : Int) := by rw [List.length_append, putM_length]
  have hsub := subB_mid (p ++ putM (bs.length : Int)) bs (r.take (q - (p ++ bytesM bs).length))
  rw [e3, List.append_assoc] at hsub
  show (subB _ (p.length + sizeM (bs.length : Int)) bs.length, (⟨p.length + sizeM (bs.length : Int) + bs.length, 0, 0⟩ : Rs)) = _
  rw [hsub, e2]
theorem byt_cut {bs : List UInt8} {high : Int} (hb : (bs.length : Int) ≤ high) (hm : high ≤ 2147483647) (h0 : p.length ≤ q) (h : ¬ (p ++ bytesM bs).length ≤ q) : bytS (((p ++ bytesM bs) ++ r).take q) high ⟨p.length, 0, 0⟩ = ([], ⟨p.length, 4, q⟩) := by
  have hs : sizeM (bs.length : Int) ≠ 0 := by have := sizeM_ok (x := (bs.length : Int)) (by omega) (by omega); omega
  have lb : (bytesM bs).length = sizeM (bs.length : Int) + bs.length := by unfold bytesM; rw [List.length_append, putM_length]
  rw [List.length_append] at h
  unfold bytS
  rw [if_pos rfl, take_cut h0 (by rw [List.length_append]; exact h)]
  have hlen : (p ++ (bytesM bs).take (q - p.length)).length = q := by rw [List.length_append, List.length_take]; omega
  have key : bytR (p ++ (bytesM bs).take (q - p.length)) p.length high = .bad 4 q := by
    rcases Nat.lt_or_ge (q - p.length) (sizeM (bs.length : Int)) with hk | hk
    · have e : (bytesM bs).take (q - p.length) = (putM (bs.length : Int)).take (q - p.length) := by
        unfold bytesM; rw [List.take_append_of_le_length (by rw [putM_length]; omega)]
      rw [e]
      have hg := getM_app p ((putM (bs.length : Int)).take (q - p.length)) 0
      rw [getM_cut hs hk, Nat.add_zero] at hg
      have := bytR_bad (b := p ++ (putM (bs.length : Int)).take (q - p.length)) (a := p.length) (high := high) (bnd_bad hg)
      rw [this, Nat.add_sub_cancel' h0]
    · have e : (bytesM bs).take (q - p.length) = putM (bs.length : Int) ++ bs.take (q - p.length - sizeM (bs.length : Int)) := by
        unfold bytesM; rw [List.take_append, List.take_of_length_le (by rw [putM_length]; omega), putM_length]
      have hg := getM_app p (putM (bs.length : Int) ++ bs.take (q - p.length - sizeM (bs.length : Int))) 0
      rw [getM_all hs, Nat.add_zero] at hg
      have he := preN_end hs
      have hbn := bnd_ok (low := 0) (high := high) (above := 3) hg (by omega) (by omega)
      rw [e] at hlen ⊢
      have := bytR_cut hbn (by rw [hlen]; omega)
      rw [this, hlen]
  rw [key]
  rfl
theorem id_fit {id : List UInt8} (hid : id.length = 16) (h : (p ++ id).length ≤ q) : idS (((p ++ id) ++ r).take q) ⟨p.length, 0, 0⟩ = (id, ⟨(p ++ id).length, 0, 0⟩) := by
  unfold idS idR outI
  rw [if_pos rfl, take_fit h]
  have hl : ¬ (p ++ (id ++ r.take (q - (p ++ id).length))).length < p.length + 16 := by simp only [List.length_append]; omega
  simp only [if_neg hl]
  have hsub := subB_mid p id (r.take (q - (p ++ id).length))
  rw [hid] at hsub
  rw [hsub, List.length_append, hid]
  rfl
theorem id_cut {id : List UInt8} (hid : id.length = 16) (h0 : p.length ≤ q) (h : ¬ (p ++ id).length ≤ q) : idS (((p ++ id) ++ r).take q) ⟨p.length, 0, 0⟩ = (List.replicate 16 0, ⟨p.length, 4, q⟩) := by
  rw [List.length_append, hid] at h
  unfold idS idR outI
  rw [if_pos rfl, take_cut h0 (by rw [List.length_append, hid]; exact h)]
  have hlen : (p ++ id.take (q - p.length)).length = q := by rw [List.length_append, List.length_take]; omega
  have hl : (p ++ id.take (q - p.length)).length < p.length + 16 := by omega
  simp only [if_pos hl]
  rw [hlen]
  rfl
end
theorem fN_split {ns : List Int} {j : Nat} (hj : j < ns.length) : ∃ t, fN ns ns.length = fN ns j ++ (putM ns[j] ++ t) := by
  refine ⟨(ns.drop (j + 1)).flatMap putM, ?_⟩
  unfold fN
  rw [List.take_length, ← List.flatMap_cons, List.getElem_cons_drop, ← List.flatMap_append, List.take_append_drop]
theorem fI_split {ids : List (List UInt8)} {j : Nat} (hj : j < ids.length) : ∃ t, fI ids ids.length = fI ids j ++ (ids[j] ++ t) := by
  refine ⟨(ids.drop (j + 1)).flatten, ?_⟩
  unfold fI
  rw [List.take_length, ← List.flatten_cons, List.getElem_cons_drop, ← List.flatten_append, List.take_append_drop]
theorem nums_take {p r : List UInt8} {q : Nat} {ns : List Int} (hall : ∀ x ∈ ns, 0 ≤ x ∧ x ≤ 2147483647) (h0 : p.length ≤ q) : ∀ j, j ≤ ns.length →
    ((p ++ fN ns j).length ≤ q ∧ numsS (((p ++ fN ns ns.length) ++ r).take q) ⟨p.length, 0, 0⟩ j = (ns.take j, ⟨(p ++ fN ns j).length, 0, 0⟩)) ∨ (¬ (p ++ fN ns ns.length).length ≤ q ∧ (numsS (((p ++ fN ns ns.length) ++ r).take q) ⟨p.length, 0, 0⟩ j).2.e = 4)
  | 0, _ => .inl ⟨by simpa [fN] using h0, by simp [numsS, fN]⟩
  | j + 1, hj => by
    have hlt : j < ns.length := hj
    have hx := hall ns[j] (List.getElem_mem hlt)
    rcases nums_take (r := r) hall h0 j (by omega) with ⟨h1, h2⟩ | ⟨h1, h2⟩
    · obtain ⟨t, ht⟩ := fN_split hlt
      have e1 : (p ++ fN ns ns.length) ++ r = ((p ++ fN ns j) ++ putM ns[j]) ++ (t ++ r) := by rw [ht]; simp only [List.append_assoc]
      have e2 : (p ++ fN ns j) ++ putM ns[j] = p ++ fN ns (j + 1) := fN_app p hlt
      by_cases hf : ((p ++ fN ns j) ++ putM ns[j]).length ≤ q
      · left
        refine ⟨by rw [← e2]; exact hf, ?_⟩
        show ((numsS _ _ j).1 ++ [((numS _ 0 2147483647 5 (numsS _ _ j).2).1 : Int)], (numS _ 0 2147483647 5 (numsS _ _ j).2).2) = _
        rw [h2]
        simp only
        rw [e1, num_fit hx hx.1 hx.2 hf, List.take_succ_eq_append_getElem hlt, ← e2]
        simp only
        rw [Int.toNat_of_nonneg hx.1]
      · right
        have hle : ((p ++ fN ns j) ++ putM ns[j]).length ≤ (p ++ fN ns ns.length).length := by rw [ht]; simp only [List.length_append]; omega
        refine ⟨by omega, ?_⟩
        show ((numS _ 0 2147483647 5 (numsS _ _ j).2).2).e = 4
        rw [h2]
        simp only
        rw [e1, num_cut hx h1 hf]
    · right
      refine ⟨h1, ?_⟩
      show ((numS _ 0 2147483647 5 (numsS _ _ j).2).2).e = 4
      rw [numS_stop (by rw [h2]; decide)]
      exact h2
theorem ids_take {p r : List UInt8} {q : Nat} {ids : List (List UInt8)} (hall : all16 ids) (h0 : p.length ≤ q) : ∀ j, j ≤ ids.length →
    ((p ++ fI ids j).length ≤ q ∧ idsS (((p ++ fI ids ids.length) ++ r).take q) ⟨p.length, 0, 0⟩ j = (ids.take j, ⟨(p ++ fI ids j).length, 0, 0⟩)) ∨ (¬ (p ++ fI ids ids.length).length ≤ q ∧ (idsS (((p ++ fI ids ids.length) ++ r).take q) ⟨p.length, 0, 0⟩ j).2.e = 4)
  | 0, _ => .inl ⟨by simpa [fI] using h0, by simp [idsS, fI]⟩
  | j + 1, hj => by
    have hlt : j < ids.length := hj
    have hx := hall ids[j] (List.getElem_mem hlt)
    rcases ids_take (r := r) hall h0 j (by omega) with ⟨h1, h2⟩ | ⟨h1, h2⟩
    · obtain ⟨t, ht⟩ := fI_split hlt
      have e1 : (p ++ fI ids ids.length) ++ r = ((p ++ fI ids j) ++ ids[j]) ++ (t ++ r) := by rw [ht]; simp only [List.append_assoc]
      have e2 : (p ++ fI ids j) ++ ids[j] = p ++ fI ids (j + 1) := fI_app p hlt
      by_cases hf : ((p ++ fI ids j) ++ ids[j]).length ≤ q
      · left
        refine ⟨by rw [← e2]; exact hf, ?_⟩
        show ((idsS _ _ j).1 ++ [(idS _ (idsS _ _ j).2).1], (idS _ (idsS _ _ j).2).2) = _
        rw [h2]
        simp only
        rw [e1, id_fit hx hf, List.take_succ_eq_append_getElem hlt, ← e2]
      · right
        have hle : ((p ++ fI ids j) ++ ids[j]).length ≤ (p ++ fI ids ids.length).length := by rw [ht]; simp only [List.length_append]; omega
        refine ⟨by omega, ?_⟩
        show ((idS _ (idsS _ _ j).2).2).e = 4
        rw [h2]
        simp only
        rw [e1, id_cut hx h1 hf]
    · right
      refine ⟨h1, ?_⟩
      show ((idS _ (idsS _ _ j).2).2).e = 4
      rw [show idS (((p ++ fI ids ids.length) ++ r).take q) (idsS (((p ++ fI ids ids.length) ++ r).take q) ⟨p.length, 0, 0⟩ j).2 = (List.replicate 16 0, (idsS (((p ++ fI ids ids.length) ++ r).take q) ⟨p.length, 0, 0⟩ j).2) from if_neg (by rw [h2]; decide)]
      exact h2
theorem cnt_fit {p r : List UInt8} {q n : Nat} {least most : Int} (hl : least ≤ n) (hm : (n : Int) ≤ most) (hn : n ≤ 2147483647) (h : (p ++ putM (n : Int)).length ≤ q) : cntS (((p ++ putM (n : Int)) ++ r).take q) least most ⟨p.length, 0, 0⟩ = (n, ⟨(p ++ putM (n : Int)).length, 0, 0⟩) := by
  have := num_fit (p := p) (r := r) (q := q) (x := (n : Int)) (low := 0) (high := most) (above := 3) ⟨by omega, by omega⟩ (by omega) hm h
  rw [Int.toNat_natCast] at this
  rw [cntS_go (by rw [this]; exact fun h2 => by have := h2.2; simp at this; omega)]
  exact this
theorem cnt_cut {p r : List UInt8} {q n : Nat} {least most : Int} (hl : 0 ≤ least) (hn : n ≤ 2147483647) (h0 : p.length ≤ q) (h : ¬ (p ++ putM (n : Int)).length ≤ q) : cntS (((p ++ putM (n : Int)) ++ r).take q) least most ⟨p.length, 0, 0⟩ = (0, ⟨p.length, 4, q⟩) := by
  have := num_cut (p := p) (r := r) (q := q) (x := (n : Int)) (low := 0) (high := most) (above := 3) ⟨by omega, by omega⟩ h0 h
  rw [cntS_go (by rw [this]; exact fun h2 => by have := h2.1; simp at this)]
  exact this
theorem checkM_in {k : Int} {ns : List Int} {il bl : Nat} {sh : Sh} (hs : shM k = some sh) (h : checkM k ns il bl = 0) : sh.n ≤ (ns.length : Int) ∧ (ns.length : Int) ≤ sh.ns ∧ sh.i ≤ (il : Int) ∧ (il : Int) ≤ sh.is ∧ sh.b ≤ (bl : Int) ∧ (bl : Int) ≤ sh.bs := by
  unfold checkM at h
  rw [hs] at h
  simp only at h
  unfold checkS at h
  split at h
  · cases h
  · rename_i hn
    refine ⟨?_, ?_, ?_, ?_, ?_, ?_⟩ <;> omega
set_option maxHeartbeats 1000000 in
theorem read_take {k : Int} {ns : List Int} {ids : List (List UInt8)} {bs more : List UInt8} {q : Nat} (h : checkM k ns ids.length bs.length = 0) (h16 : all16 ids) :
    (q < (noteB k ns ids bs).length ∧ ∃ z, readM ((noteB k ns ids bs ++ more).take q) = (nt0, (4, z))) ∨ ((noteB k ns ids bs).length ≤ q ∧ readM ((noteB k ns ids bs ++ more).take q) = finM ((noteB k ns ids bs ++ more).take q) k ns ids bs ⟨(noteB k ns ids bs).length, 0, 0⟩) := by
  obtain ⟨hk1, hk2, hall, hn, hi, hbs⟩ := checkM_ok h
  obtain ⟨sh, hs⟩ := shM_near hk1 hk2
  obtain ⟨c1, c2, c3, c4, c5, c6⟩ := checkM_in hs h
  have hok := shOk (shM_in hs).2.2
  have hB : noteB k ns ids bs ++ more = hdI k ns ids ++ fI ids ids.length ++ bytesM bs ++ more := rfl
  have l1 : (hdN k ns).length ≤ (hdN k ns ++ fN ns ns.length).length := by rw [List.length_append]; omega
  have l2 : (hdN k ns ++ fN ns ns.length).length ≤ (hdI k ns ids).length := by unfold hdI; rw [List.length_append (bs := putM _)]; omega
  have l3 : (hdI k ns ids).length ≤ (hdI k ns ids ++ fI ids ids.length).length := by rw [List.length_append]; omega
  have l4 : (hdI k ns ids ++ fI ids ids.length).length ≤ (noteB k ns ids bs).length := by unfold noteB; rw [List.length_append (bs := bytesM _)]; omega
  have l0 : (([] : List UInt8) ++ putM k).length ≤ (hdN k ns).length := by unfold hdN; rw [List.length_append (bs := putM (ns.length : Int))]; omega
  have r1 : noteB k ns ids bs ++ more = (([] : List UInt8) ++ putM k) ++ (putM (ns.length : Int) ++ (fN ns ns.length ++ (putM (ids.length : Int) ++ (fI ids ids.length ++ (bytesM bs ++ more))))) := by simp only [noteB, hdI, hdN, List.append_assoc]
  have r2 : noteB k ns ids bs ++ more = ((([] : List UInt8) ++ putM k) ++ putM (ns.length : Int)) ++ (fN ns ns.length ++ (putM (ids.length : Int) ++ (fI ids ids.length ++ (bytesM bs ++ more)))) := by simp only [noteB, hdI, hdN, List.append_assoc]
  have r3 : noteB k ns ids bs ++ more = (hdN k ns ++ fN ns ns.length) ++ (putM (ids.length : Int) ++ (fI ids ids.length ++ (bytesM bs ++ more))) := by simp only [noteB, hdI, hdN, List.append_assoc]
  have r4 : noteB k ns ids bs ++ more = ((hdN k ns ++ fN ns ns.length) ++ putM (ids.length : Int)) ++ (fI ids ids.length ++ (bytesM bs ++ more)) := by simp only [noteB, hdI, hdN, List.append_assoc]
  have r5 : noteB k ns ids bs ++ more = (hdI k ns ids ++ fI ids ids.length) ++ (bytesM bs ++ more) := by simp only [noteB, hdI, hdN, List.append_assoc]
  have r6 : noteB k ns ids bs ++ more = ((hdI k ns ids ++ fI ids ids.length) ++ bytesM bs) ++ more := by simp only [noteB, hdI, hdN, List.append_assoc]
  have eL : ((hdI k ns ids ++ fI ids ids.length) ++ bytesM bs).length = (noteB k ns ids bs).length := rfl
  generalize hb : (noteB k ns ids bs ++ more).take q = b
  have hread : readM b = tnM b (shD (numS b 1 24 5 rs0).1) (numS b 1 24 5 rs0).1 (numS b 1 24 5 rs0).2 := rfl
  -- the kind
  by_cases f1 : (([] : List UInt8) ++ putM k).length ≤ q
  case neg =>
    have := num_cut (p := []) (r := putM (ns.length : Int) ++ (fN ns ns.length ++ (putM (ids.length : Int) ++ (fI ids ids.length ++ (bytesM bs ++ more))))) (low := 1) (high := 24) (above := 5) ⟨by omega, by omega⟩ (Nat.zero_le q) f1
    rw [← r1, hb] at this
    have this : numS b 1 24 5 rs0 = (0, ⟨0, 4, q⟩) := this
    rw [this] at hread
    exact .inl ⟨by omega, q, hread.trans (tnM_stop (show (4 : Nat) ≠ 0 by decide))⟩
  have n1 := num_fit (p := []) (r := putM (ns.length : Int) ++ (fN ns ns.length ++ (putM (ids.length : Int) ++ (fI ids ids.length ++ (bytesM bs ++ more))))) (low := 1) (high := 24) (above := 5) ⟨by omega, by omega⟩ hk1 hk2 f1
  rw [← r1, hb] at n1
  have n1 : numS b 1 24 5 rs0 = (k.toNat, ⟨(([] : List UInt8) ++ putM k).length, 0, 0⟩) := n1
  rw [n1] at hread
  simp only [Int.toNat_of_nonneg (show 0 ≤ k by omega)] at hread
  rw [show shD k = sh by unfold shD; rw [hs]; rfl] at hread
  -- how many numbers
  by_cases f2 : ((([] : List UInt8) ++ putM k) ++ putM (ns.length : Int)).length ≤ q
  case neg =>
    have := cnt_cut (p := ([] : List UInt8) ++ putM k) (r := fN ns ns.length ++ (putM (ids.length : Int) ++ (fI ids ids.length ++ (bytesM bs ++ more)))) (least := sh.n) (most := sh.ns) hok.1 (by omega) f1 f2
    rw [← r2, hb] at this
    unfold tnM at hread
    rw [this] at hread
    have e : ((([] : List UInt8) ++ putM k) ++ putM (ns.length : Int)).length = (hdN k ns).length := rfl
    exact .inl ⟨by omega, q, hread.trans (tiM_stop (show (4 : Nat) ≠ 0 by decide))⟩
  have n2 := cnt_fit (p := ([] : List UInt8) ++ putM k) (r := fN ns ns.length ++ (putM (ids.length : Int) ++ (fI ids ids.length ++ (bytesM bs ++ more)))) (least := sh.n) (most := sh.ns) c1 c2 (by omega) f2
  rw [← r2, hb] at n2
  unfold tnM at hread
  rw [n2] at hread
  rw [show ((([] : List UInt8) ++ putM k) ++ putM (ns.length : Int)) = hdN k ns from rfl] at hread f2
  simp only at hread
  -- the numbers
  have n3 := nums_take (p := hdN k ns) (r := putM (ids.length : Int) ++ (fI ids ids.length ++ (bytesM bs ++ more))) hall f2 ns.length (Nat.le_refl _)
  rw [← r3, hb] at n3
  rcases n3 with ⟨f3, n3⟩ | ⟨f3, n3⟩
  case inr => exact .inl ⟨by omega, _, hread.trans ((tiM_stop (by rw [n3]; decide)).trans (by rw [n3]))⟩
  rw [n3, List.take_length] at hread
  simp only at hread
  -- how many IDs
  by_cases f4 : ((hdN k ns ++ fN ns ns.length) ++ putM (ids.length : Int)).length ≤ q
  case neg =>
    have := cnt_cut (p := hdN k ns ++ fN ns ns.length) (r := fI ids ids.length ++ (bytesM bs ++ more)) (least := sh.i) (most := sh.is) hok.2.2.2.1 (by omega) f3 f4
    rw [← r4, hb] at this
    unfold tiM at hread
    rw [this] at hread
    have e : ((hdN k ns ++ fN ns ns.length) ++ putM (ids.length : Int)).length = (hdI k ns ids).length := rfl
    exact .inl ⟨by omega, q, hread.trans (tbM_stop (show (4 : Nat) ≠ 0 by decide))⟩
  have n4 := cnt_fit (p := hdN k ns ++ fN ns ns.length) (r := fI ids ids.length ++ (bytesM bs ++ more)) (least := sh.i) (most := sh.is) c3 c4 (by omega) f4
  rw [← r4, hb] at n4
  unfold tiM at hread
  rw [n4] at hread
  rw [show ((hdN k ns ++ fN ns ns.length) ++ putM (ids.length : Int)) = hdI k ns ids from rfl] at hread f4
  simp only at hread
  -- the IDs
  have n5 := ids_take (p := hdI k ns ids) (r := bytesM bs ++ more) h16 f4 ids.length (Nat.le_refl _)
  rw [← r5, hb] at n5
  rcases n5 with ⟨f5, n5⟩ | ⟨f5, n5⟩
  case inr => exact .inl ⟨by omega, _, hread.trans ((tbM_stop (by rw [n5]; decide)).trans (by rw [n5]))⟩
  rw [n5, List.take_length] at hread
  simp only at hread
  -- the bytes
  by_cases f6 : ((hdI k ns ids ++ fI ids ids.length) ++ bytesM bs).length ≤ q
  case neg =>
    have := byt_cut (p := hdI k ns ids ++ fI ids ids.length) (r := more) (high := sh.bs) c6 (by omega) f5 f6
    rw [← r6, hb] at this
    unfold tbM at hread
    rw [this, show least7 sh (([] : List UInt8), (⟨(hdI k ns ids ++ fI ids ids.length).length, 4, q⟩ : Rs)) ⟨(hdI k ns ids ++ fI ids ids.length).length, 0, 0⟩ = ⟨(hdI k ns ids ++ fI ids ids.length).length, 4, q⟩ from if_neg fun h => by have := h.1; simp at this] at hread
    exact .inl ⟨by omega, q, hread.trans (finM_stop (show (4 : Nat) ≠ 0 by decide))⟩
  have n6 := byt_fit (p := hdI k ns ids ++ fI ids ids.length) (r := more) (high := sh.bs) c6 (by omega) f6
  rw [← r6, hb] at n6
  unfold tbM at hread
  rw [n6, show least7 sh (bs, (⟨((hdI k ns ids ++ fI ids ids.length) ++ bytesM bs).length, 0, 0⟩ : Rs)) ⟨(hdI k ns ids ++ fI ids ids.length).length, 0, 0⟩ = ⟨((hdI k ns ids ++ fI ids ids.length) ++ bytesM bs).length, 0, 0⟩ from if_neg fun h => by have := h.2; simp only at this; omega] at hread
  exact .inr ⟨by omega, hread⟩
/-- cut short -/
theorem read_cut {k : Int} {ns : List Int} {ids : List (List UInt8)} {bs : List UInt8} {q : Nat} (h : checkM k ns ids.length bs.length = 0) (h16 : all16 ids) (hq : q < (noteB k ns ids bs).length) : ∃ z, readM ((noteB k ns ids bs).take q) = (nt0, (4, z)) := by
  have := read_take (more := []) (q := q) h h16
  rw [List.append_nil] at this
  rcases this with ⟨_, h1⟩ | ⟨h1, _⟩
  · exact h1
  · omega
/-- whole -/
theorem read_whole {k : Int} {ns : List Int} {ids : List (List UInt8)} {bs : List UInt8} (h : checkM k ns ids.length bs.length = 0) (h16 : all16 ids) : readM (noteB k ns ids bs) = (⟨k, ns, ids, bs⟩, (0, 0)) := by
  have := read_take (more := []) (q := (noteB k ns ids bs).length) h h16
  rw [List.append_nil, List.take_length] at this
  rcases this with ⟨h1, _⟩ | ⟨_, h1⟩
  · omega
  · rw [h1]
    have e : endS (noteB k ns ids bs) ⟨(noteB k ns ids bs).length, 0, 0⟩ = (0, 0) := if_neg fun h => Nat.lt_irrefl _ h.2
    unfold finM
    rw [e]
    exact if_neg fun h => h rfl
/-- with more behind it -/
theorem read_more {k : Int} {ns : List Int} {ids : List (List UInt8)} {bs more : List UInt8} (h : checkM k ns ids.length bs.length = 0) (h16 : all16 ids) (hm : 0 < more.length) : readM (noteB k ns ids bs ++ more) = (nt0, (4, ((noteB k ns ids bs).length : Int))) := by
  have := read_take (more := more) (q := (noteB k ns ids bs ++ more).length) h h16
  rw [List.take_length] at this
  rcases this with ⟨h1, _⟩ | ⟨_, h1⟩
  · rw [List.length_append] at h1; omega
  · rw [h1]
    have e : endS (noteB k ns ids bs ++ more) ⟨(noteB k ns ids bs).length, 0, 0⟩ = (4, ((noteB k ns ids bs).length : Int)) := if_pos ⟨rfl, by show (noteB k ns ids bs).length < _; rw [List.length_append]; omega⟩
    unfold finM
    rw [e]
    exact if_pos (show (4 : Nat) ≠ 0 by decide)
end Go.Proofs.Ytakcffhknnailaa
