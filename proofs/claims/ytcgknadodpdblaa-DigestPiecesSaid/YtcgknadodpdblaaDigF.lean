/- Contract of layer 3: Write of a running digest. Conditions: the slice lies in memory, apart from the digest. -/
import Derived.Test.YtcgknadodpdblaaDigE
import Derived.Test.YtcgknadodpdblaaDigP
import Derived.Test.YtcgknadodpdblaaChg
import Derived.Deep.Light
import Derived.Deep.RegionWith
set_option linter.unusedVariables false
set_option linter.unusedSimpArgs false
namespace Go.Proofs.Ytcgknadodpdblaa
open Go.RowKit

/-- the cells of a running digest -/
def digF (s : List Int) (wait : List UInt8) (n : Nat) (j : Nat) : Value :=
  if j = 0 then .bool true else if j < 9 then .int .u32 (gI s (j - 1)) else if j < 73 then .int .u8 (byteM wait (j - 9)) else .int .i64 n
/-- block D is a running digest of the bytes m -/
def DigOf (w : World) (D : Nat) (m : List UInt8) : Prop := ∃ wait, Waits wait m ∧ w.rowIs D 44 74 (digF (stateM m) wait m.length)

theorem sizeByte (w : World) : (sizeOf 5).run Try.prog w = .ok 1 w := by kernel_rfl

theorem digF_wait {s : List Int} {wait : List UInt8} {n : Nat} (hl : wait.length = 64) (i : Nat) (hi : i < 64) : digF s wait n (9 + i) = .int .u8 (byteM wait i) := by
  unfold digF
  rw [if_neg (by omega), if_neg (by omega), if_pos (by omega)]
  congr 2
  omega
theorem digF_state {s : List Int} {wait : List UInt8} {n : Nat} (i : Nat) (hi : i < 8) : digF s wait n (1 + i) = .int .u32 (gI s i) := by
  unfold digF
  rw [if_neg (by omega), if_pos (by omega)]
  congr 2
  omega
theorem bytes_src {w : World} {bb off : Nat} {r : List UInt8} (h : ∀ i (hi : i < r.length), RByte w bb (off + i * 1) r[i]) : ∀ j v, (r.flatMap encByte)[j]? = some v → w.cell? ((⟨bb, off, none⟩ : Addr).add j) = some v := by
  intro j v hj
  have hlen : (r.flatMap encByte).length = r.length := by rw [flatMap_length encByte 1 (fun _ => rfl)]; omega
  have hjl : j < r.length := by
    rcases Nat.lt_or_ge j r.length with h | h
    · exact h
    · rw [List.getElem?_eq_none (by omega)] at hj; cases hj
  have e := flatMap_get encByte 1 (fun _ => rfl) r j 0 hjl (by omega)
  rw [Nat.mul_one, Nat.add_zero, hj] at e
  have h1 := h j hjl
  unfold RByte at h1
  rw [Nat.mul_one] at h1
  have e4 : (⟨bb, off, none⟩ : Addr).add j = ⟨bb, off + j, none⟩ := by
    unfold Addr.add
    split
    · subst_vars; rfl
    · rfl
  rw [e4, h1]
  simp [encByte] at e
  rw [e]
theorem slice_wait (D q : Nat) (hq : q < 64) (w : World) : (Instr.sliceAt 42 (.pointer (some ⟨D, 9, none⟩)) (some (.int .i64 (q : Int))) none none).run Try.prog w = .ok (.slice (some ⟨D, 9 + q, none⟩) (64 - q) (64 - q)) w := by
  have h1 : (0 : Int) ≤ q := by omega
  have h2 : (q : Int) ≤ 64 := by omega
  have h3 : ¬ 64 = q := by omega
  have h4 : q ≤ 64 := by omega
  have hz := sizeByte
  simp [go_sem, h1, h2, h3, h4, Addr.add]
theorem slice_wait0 (D : Nat) (w : World) : (Instr.sliceAt 42 (.pointer (some ⟨D, 9, none⟩)) none none none).run Try.prog w = .ok (.slice (some ⟨D, 9, none⟩) 64 64) w := by
  have hz := sizeByte
  simp [go_sem]
/-- the bytes that wait, as a slice -/
theorem dig_wait {w : World} {D n : Nat} {s : List Int} {wt : List UInt8} (h : w.rowIs D 44 74 (digF s wt n)) (hl : wt.length = 64) : SlByte (D + 1) w.drew (.slice (some ⟨D, 9, none⟩) 64 64) wt := by
  refine ⟨_, D, 9, 64, by rw [hl], by omega, by unfold maxLen; omega, (fun h => by cases h), (fun _ => ⟨rfl, by omega⟩), fun i hi => ?_⟩
  have := h.cell (show 9 + i < 74 by omega)
  rw [digF_wait hl i (by omega)] at this
  unfold RByte
  rw [Nat.mul_one]
  show w.cell? _ = _
  rw [this]
  unfold byteM
  simp [List.getD, hi]
theorem dig_kept {w w1 : World} {D n : Nat} {s : List Int} {wt : List UInt8} (h : w.rowIs D 44 74 (digF s wt n)) (hb : Below w.drew.heap.size w.drew w1) :
    w1.cell? ⟨D, 1, none⟩ = some (.int .u32 (gI s 0)) ∧ w1.cell? ⟨D, 2, none⟩ = some (.int .u32 (gI s 1)) ∧ w1.cell? ⟨D, 3, none⟩ = some (.int .u32 (gI s 2)) ∧ w1.cell? ⟨D, 4, none⟩ = some (.int .u32 (gI s 3)) ∧
    w1.cell? ⟨D, 5, none⟩ = some (.int .u32 (gI s 4)) ∧ w1.cell? ⟨D, 6, none⟩ = some (.int .u32 (gI s 5)) ∧ w1.cell? ⟨D, 7, none⟩ = some (.int .u32 (gI s 6)) ∧ w1.cell? ⟨D, 8, none⟩ = some (.int .u32 (gI s 7)) ∧
    w1.frozen? ⟨D, 1, none⟩ = false ∧ w1.frozen? ⟨D, 2, none⟩ = false ∧ w1.frozen? ⟨D, 3, none⟩ = false ∧ w1.frozen? ⟨D, 4, none⟩ = false ∧ w1.frozen? ⟨D, 5, none⟩ = false ∧ w1.frozen? ⟨D, 6, none⟩ = false ∧ w1.frozen? ⟨D, 7, none⟩ = false ∧ w1.frozen? ⟨D, 8, none⟩ = false := by
  have hr : w1.rowIs D 44 74 (digF s wt n) := h.drew.of_block (hb.block D h.lt)
  have hc := fun (i : Nat) (hi : i < 8) => (hr.cell (show 1 + i < 74 by omega)).trans (by rw [digF_state (s := s) (wait := wt) (n := n) i hi])
  exact ⟨hc 0 (by omega), hc 1 (by omega), hc 2 (by omega), hc 3 (by omega), hc 4 (by omega), hc 5 (by omega), hc 6 (by omega), hc 7 (by omega), hr.frozen _, hr.frozen _, hr.frozen _, hr.frozen _, hr.frozen _, hr.frozen _, hr.frozen _, hr.frozen _⟩
/-- eight words laid over a digest's -/
def put8 (w : World) (D : Nat) (g : Nat → Int) : World :=
  (((((((w.setCell ⟨D, 1, none⟩ (.int .u32 (g 0))).setCell ⟨D, 2, none⟩ (.int .u32 (g 1))).setCell ⟨D, 3, none⟩ (.int .u32 (g 2))).setCell ⟨D, 4, none⟩ (.int .u32 (g 3))).setCell ⟨D, 5, none⟩ (.int .u32 (g 4))).setCell ⟨D, 6, none⟩ (.int .u32 (g 5))).setCell ⟨D, 7, none⟩ (.int .u32 (g 6))).setCell ⟨D, 8, none⟩ (.int .u32 (g 7))
theorem put8_chg {S : Nat → Prop} {w w1 : World} {D : Nat} {g : Nat → Int} (h : Chg S w w1) (hD : S D := by rfl) : Chg S w (put8 w1 D g) :=
  (((((((h.setCell (p := ⟨D, 1, none⟩) hD _).setCell (p := ⟨D, 2, none⟩) hD _).setCell (p := ⟨D, 3, none⟩) hD _).setCell (p := ⟨D, 4, none⟩) hD _).setCell (p := ⟨D, 5, none⟩) hD _).setCell (p := ⟨D, 6, none⟩) hD _).setCell (p := ⟨D, 7, none⟩) hD _).setCell (p := ⟨D, 8, none⟩) hD _
theorem put8_row {w : World} {D n : Nat} {s : List Int} {wt : List UInt8} (h : w.rowIs D 44 74 (digF s wt n)) (g : Nat → Int) :
    (put8 w D g).rowIs D 44 74 (digF ((List.range 8).map g) wt n) := by
  unfold put8
  refine ((((((((h.set 1 _).set 2 _).set 3 _).set 4 _).set 5 _).set 6 _).set 7 _).set 8 _).congr fun i hi => ?_
  have e : ∀ j, j < 8 → digF ((List.range 8).map g) wt n (1 + j) = .int .u32 (g j) := by
    intro j hj
    rw [digF_state j hj]
    congr 1
    unfold gI
    simp [List.getD, hj]
  rcases Nat.lt_or_ge i 9 with h9 | h9
  · have : i = 0 ∨ i = 1 ∨ i = 2 ∨ i = 3 ∨ i = 4 ∨ i = 5 ∨ i = 6 ∨ i = 7 ∨ i = 8 := by omega
    rcases this with rfl | rfl | rfl | rfl | rfl | rfl | rfl | rfl | rfl
    · rfl
    · exact (e 0 (by omega)).symm
    · exact (e 1 (by omega)).symm
    · exact (e 2 (by omega)).symm
    · exact (e 3 (by omega)).symm
    · exact (e 4 (by omega)).symm
    · exact (e 5 (by omega)).symm
    · exact (e 6 (by omega)).symm
    · exact (e 7 (by omega)).symm
  · have n1 : ¬ i = 1 := by omega
    have n2 : ¬ i = 2 := by omega
    have n3 : ¬ i = 3 := by omega
    have n4 : ¬ i = 4 := by omega
    have n5 : ¬ i = 5 := by omega
    have n6 : ¬ i = 6 := by omega
    have n7 : ¬ i = 7 := by omega
    have n8 : ¬ i = 8 := by omega
    simp only [n1, n2, n3, n4, n5, n6, n7, n8, if_false]
    unfold digF
    have m0 : ¬ i = 0 := by omega
    have m9 : ¬ i < 9 := by omega
    simp only [m0, m9, if_false]
theorem digF_congr {s s' : List Int} {wt : List UInt8} {n : Nat} (i : Nat) (h : ∀ j, j < 8 → gI s j = gI s' j) : digF s wt n i = digF s' wt n i := by
  unfold digF
  by_cases h0 : i = 0
  · rw [if_pos h0, if_pos h0]
  · rw [if_neg h0, if_neg h0]
    by_cases h9 : i < 9
    · rw [if_pos h9, if_pos h9, h (i - 1) (by omega)]
    · rw [if_neg h9, if_neg h9]
theorem stepM_get (s : List Int) (b : List UInt8) (j : Nat) (hj : j < 8) : gI ((List.range 8).map (gI (stepM s b))) j = gI (stepM s b) j := by
  rw [gI]
  simp [List.getD, hj]
theorem dig_copy {w : World} {D : Nat} {s : List Int} {wait r : List UInt8} {n q : Nat} (h : w.rowIs D 44 74 (digF s wait n)) (hl : wait.length = 64) (hq : q + r.length ≤ 64) :
    (w.setRow D ((rowArr 74 (digF s wait n)).toList.take (9 + q) ++ (r.flatMap encByte ++ (rowArr 74 (digF s wait n)).toList.drop (9 + q + (r.flatMap encByte).length))).toArray).rowIs D 44 74 (digF s (laid wait q r) n) := by
  have hlen : (r.flatMap encByte).length = r.length := by rw [flatMap_length encByte 1 (fun _ => rfl)]; omega
  have hr : (rowArr 74 (digF s wait n)).toList.length = 74 := by simp [rowArr]
  refine rowIs_setRow h _ _ (by simp [hlen, hr]; omega) fun i hi => ?_
  rw [List.getElem?_toArray, splice_get _ _ _ _ (by rw [hlen, hr]; omega), hlen]
  by_cases h1 : 9 + q ≤ i ∧ i < 9 + q + r.length
  · rw [if_pos h1]
    have e := flatMap_get encByte 1 (fun _ => rfl) r (i - (9 + q)) 0 (by omega) (by omega)
    rw [Nat.mul_one, Nat.add_zero] at e
    rw [e]
    unfold digF
    rw [if_neg (by omega), if_neg (by omega), if_pos (by omega)]
    have e2 : byteM (laid wait q r) (i - 9) = ((r[i - (9 + q)]'(by omega)).toNat : Int) := by
      unfold byteM
      rw [List.getD_eq_getElem?_getD, laid_get _ _ _ (by omega), if_pos (by omega), show i - 9 - q = i - (9 + q) by omega, List.getElem?_eq_getElem (show i - (9 + q) < r.length by omega)]
      rfl
    rw [e2]
    rfl
  · rw [if_neg h1]
    have e : (rowArr 74 (digF s wait n)).toList[i]? = some (digF s wait n i) := by simp [rowArr, hi]
    rw [e]
    unfold digF
    by_cases h2 : i = 0
    · rw [if_pos h2, if_pos h2]
    · rw [if_neg h2, if_neg h2]
      by_cases h3 : i < 9
      · rw [if_pos h3, if_pos h3]
      · rw [if_neg h3, if_neg h3]
        by_cases h4 : i < 73
        · rw [if_pos h4, if_pos h4]
          congr 2
          unfold byteM
          rw [List.getD_eq_getElem?_getD, List.getD_eq_getElem?_getD, laid_get _ _ _ (by omega), if_neg (by omega)]
        · rw [if_neg h4, if_neg h4]
theorem dig_count {w : World} {D : Nat} {s : List Int} {wait : List UInt8} {n n' : Nat} (h : w.rowIs D 44 74 (digF s wait n)) :
    (w.setCell ⟨D, 73, none⟩ (.int .i64 n')).rowIs D 44 74 (digF s wait n') :=
  (h.set 73 (.int .i64 n')).congr fun i hi => by
    unfold digF
    by_cases h2 : i = 0
    · rw [if_neg (by omega), if_pos h2, if_pos h2]
    · rw [if_neg h2, if_neg h2]
      by_cases h3 : i < 9
      · rw [if_neg (by omega), if_pos h3, if_pos h3]
      · rw [if_neg h3, if_neg h3]
        by_cases h4 : i < 73
        · rw [if_neg (by omega), if_pos h4, if_pos h4]
        · rw [if_pos (by omega), if_neg h4]

set_option maxHeartbeats 2000000 in
set_option maxRecDepth 20000 in
theorem write_any (D : Nat) (v : Value) (m xs : List UInt8) (w : World) (hd : DigOf w D m) (hv : SlP RByte 1 (· ≠ D) w v xs) (hs : m.length + xs.length ≤ 1000000000) :
    Calls Try.prog 18 #[.pointer (some ⟨D, 0, none⟩), v] w fun e w' => e = .returned (.tuple #[]) ∧ DigOf w' D (m ++ xs) ∧ Chg (· = D) w w' := by
  have c0 : w.cell? ⟨D, 0, none⟩ = some (.bool true) := by
    obtain ⟨wait, _, hr⟩ := hd
    exact hr.cell (show 0 < 74 by omega)
  have HD := Lib.hid hd; have HV := Lib.hid hv; clear hd hv
  go_enter Try.func18, Try.ntmps18
  go_wp2_with fail
  clear c0
  go_loopw [1, 4, 5] (fun v1 _ _ wr => ∃ j : Nat, j ≤ xs.length ∧ SlP RByte 1 (· ≠ D) wr v1 (xs.drop j) ∧ DigOf wr D (m ++ xs.take j) ∧ Chg (· = D) w wr) (fun v1 _ _ _ => lenOf v1)
  case atStart => exact ⟨0, Nat.zero_le _, HV.out, by simpa using HD.out, Chg.refl _ _⟩
  case round =>
    obtain ⟨j, hj, hsl, hdig, hch⟩ := hrel
    obtain ⟨r, hr⟩ : ∃ r, r = xs.drop j := ⟨_, rfl⟩
    obtain ⟨mm, hmm⟩ : ∃ mm, mm = m ++ xs.take j := ⟨_, rfl⟩
    have hrl : r.length = xs.length - j := by rw [hr]; simp
    have hml : mm.length = m.length + j := by rw [hmm]; simp; omega
    rw [← hr] at hsl; rw [← hmm] at hdig
    have HR := Lib.hid hr; have HMM := Lib.hid hmm; clear hr hmm
    obtain ⟨a, bb, off, cap, hv1, hcap, hm, hn0, ha, hc⟩ := id hsl
    subst hv1
    unfold maxLen at hm
    obtain ⟨wait, hw, hrow⟩ := hdig
    have HW := Lib.hid hw; clear hw
    by_cases hlt : 0 < r.length
    · obtain ⟨rfl, hne⟩ := ha hlt
      obtain ⟨q, hq⟩ : ∃ q, q = mm.length % 64 := ⟨_, rfl⟩
      have hq64 : q < 64 := by omega
      obtain ⟨k, hk⟩ : ∃ k, k = Nat.min r.length (64 - q) := ⟨_, rfl⟩
      have hk1 : 0 < k ∧ k ≤ r.length ∧ k ≤ 64 - q := by rw [hk]; simp only [Nat.min_def]; split <;> omega
      have HK := Lib.hid hk; clear hk
      have HC := Lib.hid hc; have HN0 := Lib.hid hn0; clear hc hn0 ha
      obtain ⟨n, hn⟩ : ∃ n, n = mm.length := ⟨_, rfl⟩
      obtain ⟨len, hlen⟩ : ∃ len, len = r.length := ⟨_, rfl⟩
      have hnb : n ≤ 1000000000 := by omega
      rw [← hlen] at hcap hlt hk1 hsl ⊢
      have p73 := hrow.cell (show 73 < 74 by omega)
      have p73' : wr.cell? ⟨D, 73, none⟩ = some (.int .i64 n) := by rw [hn]; exact p73
      have fD := hrow.frozen 73
      have eq : ((n : Int) % 64) = (q : Int) := by omega
      have e9 : ((q : Int)).toNat = q := by omega
      clear p73
      have hslw := fun wx => slice_wait D q hq64 wx
      have hsub := run_sub_lo (P := Try.prog) Try.underlying22 sizeByte (some ⟨bb, off, none⟩) len cap k .i64 (by omega)
      have HQ := Lib.hid hq; have HN := Lib.hid hn; have HLEN := Lib.hid hlen; have HRL := Lib.hid hrl; have HML := Lib.hid hml
      clear hq hn hlen hrl hml
      have HS := Lib.hid hsl; have HROW := Lib.hid hrow; have HCH := Lib.hid hch
      clear hsl hrow hch
      obtain ⟨cs, hcs⟩ : ∃ cs, cs = (r.take k).flatMap encByte := ⟨_, rfl⟩
      have hck : cs.length = k := by
        rw [hcs, flatMap_length encByte 1 (fun _ => rfl)]; have := HLEN.out; simp; omega
      have hcn : k = Nat.min len (64 - q) := by rw [HK.out, HLEN.out]
      have hcs1 : ∀ j v, cs[j]? = some v → wr.cell? ((⟨bb, off, none⟩ : Addr).add j) = some v := by
        rw [hcs]
        exact bytes_src (fun i hi => by
          have := HC.out i (by simp at hi; omega)
          rw [List.getElem_take]
          exact this)
      have hcs2 : ∀ u ∈ cs, u.oneCell' = true := by rw [hcs]; exact oneCell_flat encByte encByte_one _
      have hfit : 9 + q + k ≤ (rowArr 74 (digF (stateM mm) wait mm.length)).size := by simp [rowArr]; omega
      have hq2 : q + (r.take k).length ≤ 64 := by rw [List.length_take]; omega
      have HCN := Lib.hid hcn; have HCS1 := Lib.hid hcs1; have HCS2 := Lib.hid hcs2; have HFIT := Lib.hid hfit; have HCS := Lib.hid hcs; have HCK := Lib.hid hck; have HQ2 := Lib.hid hq2
      clear hcn hcs1 hcs2 hfit hcs hck hq2
      go_upto_region 4 with (first | (refine wpList_copy_at rfl _ _ 22 22 rfl 5 Try.underlying22 (by kernel_rfl) D (9 + q) (64 - q) (64 - q) ⟨bb, off, none⟩ len cap rfl rfl _ _ (rowIs_heap HROW.out) cs k HCK.out HCN.out HCS1.out HFIT.out HCS2.out ?_; intro W1 hW1) | fail)
      have hrow1 : W1.rowIs D 44 74 (digF (stateM mm) (laid wait q (r.take k)) mm.length) := by
        rw [hW1.out, HCS.out]
        exact dig_copy HROW.out HW.out.1 HQ2.out
      have hch1 : Chg (· = D) wr W1 := by
        rw [hW1.out]; exact Chg.setRow (S := (· = D)) (Chg.refl _ _) rfl _
      clear hW1
      clear p73' fD
      have p73 := hrow1.cell (show 73 < 74 by omega)
      have p73' : W1.cell? ⟨D, 73, none⟩ = some (.int .i64 n) := by rw [HN.out]; exact p73
      have fD := hrow1.frozen 73
      clear p73
      have HROW1 := Lib.hid hrow1; have HCH1 := Lib.hid (HCH.out.trans hch1)
      have HS1 := Lib.hid (HS.out.bytes hch1 (fun b h => h))
      clear hrow1 hch1 HROW HCH HS
      go_upto_region 5 with fail
      have hv1 : SlP RByte 1 (· ≠ D) W1 (subV 1 (some ⟨bb, off, none⟩) k len cap) (r.drop k) := by
        have := HS1.out.sub (l := k) (h := len) (by omega) (by rw [HLEN.out]; omega)
        rw [show r.take len = r by rw [HLEN.out, List.take_length]] at this
        exact this
      have HVL := Lib.hid (show lenOf (subV 1 (some ⟨bb, off, none⟩) k len cap) = len - k from rfl)
      generalize hvv : subV 1 (some ⟨bb, off, none⟩) k len cap = v1 at *
      have HV1 := Lib.hid hv1
      clear hv1 hvv hsub hslw e9 HS1 HC HCS1
      have hch2 : Chg (· = D) w (W1.setCell ⟨D, 73, none⟩ (.int .i64 ((n + k : Nat) : Int))) := Chg.setCell (S := (· = D)) HCH1.out rfl _
      have hrow2 : (W1.setCell ⟨D, 73, none⟩ (.int .i64 ((n + k : Nat) : Int))).rowIs D 44 74 (digF (stateM mm) (laid wait q (r.take k)) (n + k)) := dig_count HROW1.out
      have hvv2 : SlP RByte 1 (· ≠ D) (W1.setCell ⟨D, 73, none⟩ (.int .i64 ((n + k : Nat) : Int))) v1 (r.drop k) := HV1.out.bytes (Chg.setCell (S := (· = D)) (Chg.refl _ _) rfl _) (fun b h => h)
      rw [show ((n + k : Nat) : Int) = (n : Int) + k by omega] at hch2 hrow2 hvv2
      have HCH2 := Lib.hid hch2; have HROW2 := Lib.hid hrow2; have HV2 := Lib.hid hvv2
      clear hch2 hrow2 hvv2 HCH1 HROW1 HV1
      by_cases hful : q + k = 64
      · have hful' : ((q : Int) + k == 64) = true := by simp; omega
        have HFUL := Lib.hid hful; clear hful
        go_upto_region 7 with fail
        generalize W1.setCell ⟨D, 73, none⟩ (.int .i64 ((n : Int) + k)) = W2 at *
        obtain ⟨st, hst⟩ : ∃ st, st = stateM mm := ⟨_, rfl⟩
        obtain ⟨wt, hwt⟩ : ∃ wt, wt = laid wait q (r.take k) := ⟨_, rfl⟩
        rw [← hst, ← hwt] at HROW2
        have hwl : wt.length = 64 := by rw [hwt, laid_length _ _ _ (by rw [HW.out.1]; simp; omega), HW.out.1]
        have HST := Lib.hid hst; have HWT := Lib.hid hwt; clear hst hwt
        have s0 := HROW2.out.cell (show 1 < 74 by omega); rw [digF_state (s := st) (wait := wt) (n := n + k) 0 (by omega)] at s0
        have s1 := HROW2.out.cell (show 2 < 74 by omega); rw [digF_state (s := st) (wait := wt) (n := n + k) 1 (by omega)] at s1
        have s2 := HROW2.out.cell (show 3 < 74 by omega); rw [digF_state (s := st) (wait := wt) (n := n + k) 2 (by omega)] at s2
        have s3 := HROW2.out.cell (show 4 < 74 by omega); rw [digF_state (s := st) (wait := wt) (n := n + k) 3 (by omega)] at s3
        have s4 := HROW2.out.cell (show 5 < 74 by omega); rw [digF_state (s := st) (wait := wt) (n := n + k) 4 (by omega)] at s4
        have s5 := HROW2.out.cell (show 6 < 74 by omega); rw [digF_state (s := st) (wait := wt) (n := n + k) 5 (by omega)] at s5
        have s6 := HROW2.out.cell (show 7 < 74 by omega); rw [digF_state (s := st) (wait := wt) (n := n + k) 6 (by omega)] at s6
        have s7 := HROW2.out.cell (show 8 < 74 by omega); rw [digF_state (s := st) (wait := wt) (n := n + k) 7 (by omega)] at s7
        have HWL := Lib.hid hwl; clear hwl
        have hslw := fun wx => slice_wait0 D wx
        have hDlt := HROW2.out.lt
        have hnext := next_any (D + 1) (.slice (some ⟨D, 9, none⟩) 64 64) st wt W2.drew (by show D + 1 ≤ W2.heap.size; omega) (dig_wait HROW2.out HWL.out) HWL.out
        unfold agg8 at hnext
        have HNEXT := Lib.hid hnext; clear hnext
        have HDL := Lib.hid hDlt; clear hDlt
        go_region_with ((go_at_call 31; refine (HNEXT.out).mono ?_; rintro e w1 ⟨rfl, hb1⟩; obtain ⟨t0, t1, t2, t3, t4, t5, t6, t7, f0, f1, f2, f3, f4, f5, f6, f7⟩ := dig_kept HROW2.out hb1; have HB1 := Lib.hid hb1; clear hb1))
        clear t0 t1 t2 t3 t4 t5 t6 t7 f0 f1 f2 f3 f4 f5 f6 f7
        have hx := put8_row (HROW2.out.drew.of_block (HB1.out.block D HDL.out)) (gI (stepM st wt))
        have hy : Chg (· = D) w (put8 w1 D (gI (stepM st wt))) := put8_chg (HCH2.out.drew.after HB1.out)
        have hz : SlP RByte 1 (· ≠ D) (put8 w1 D (gI (stepM st wt))) v1 (r.drop k) := HV2.out.bytes (put8_chg (S := (· = D)) ((Chg.refl _ _).drew.after HB1.out)) (fun b h => h)
        unfold put8 at hx hy hz
        have HX := Lib.hid hx; have HY := Lib.hid hy; have HZ := Lib.hid hz
        clear hx hy hz
        generalize (((((((World.setCell w1 _ _).setCell _ _).setCell _ _).setCell _ _).setCell _ _).setCell _ _).setCell _ _).setCell _ _ = W3 at *
        go_wp2_with fail
        refine ⟨⟨j + k, by have := HRL.out; have := HLEN.out; omega, ?_, ?_, HY.out⟩, by rw [HVL.out]; show len - k < len; omega⟩
        · rw [← List.drop_drop, ← HR.out]; exact HZ.out
        · rw [List.take_add, ← List.append_assoc, ← HMM.out, ← HR.out]
          have hq := HQ.out; have hf := HFUL.out; have hlen := HLEN.out
          have htl : (r.take k).length = k := by simp; omega
          refine ⟨_, waits_full wait mm (r.take k) (by omega) HW.out, ?_⟩
          rw [stateM_full wait mm (r.take k) (by omega) HW.out, ← hq, ← HST.out, ← HWT.out]
          have e : (mm ++ r.take k).length = n + k := by have := HN.out; simp; omega
          rw [e]
          exact HX.out.congr fun i hi => digF_congr i fun j hj => stepM_get st wt j hj
      · have hful' : ((q : Int) + k == 64) = false := by simp; omega
        have HFUL := Lib.hid hful; clear hful
        go_wp2_with fail
        refine ⟨⟨j + k, by have := HRL.out; have := HLEN.out; omega, ?_, ?_, HCH2.out⟩, by rw [HVL.out]; show len - k < len; omega⟩
        · rw [← List.drop_drop, ← HR.out]; exact HV2.out
        · rw [List.take_add, ← List.append_assoc, ← HMM.out, ← HR.out]
          have hq := HQ.out; have hf := HFUL.out; have hlen := HLEN.out
          have htl : (r.take k).length = k := by simp; omega
          refine ⟨_, waits_less wait mm (r.take k) (by omega) HW.out, ?_⟩
          rw [stateM_less mm (r.take k) (by omega), ← hq]
          have e : (mm ++ r.take k).length = n + k := by have := HN.out; simp; omega
          rw [e]
          exact HROW2.out
    · obtain rfl : j = xs.length := by omega
      have hd : DigOf wr D (m ++ xs) := by
        have : mm = m ++ xs := by rw [HMM.out, List.take_length]
        rw [← this]; exact ⟨wait, HW.out, hrow⟩
      have h0 : r.length = 0 := by omega
      have hr0 : ¬ (0 : Int) < (r.length : Int) := by omega
      have HD2 := Lib.hid hd; have HCH := Lib.hid hch
      clear hd hch hrow hsl hc hlt hrl hml h0
      go_wp2_with fail
      go_end0
      exact ⟨rfl, HD2.out, HCH.out⟩
end Go.Proofs.Ytcgknadodpdblaa
