/- Contracts of the statements' kit: bytes that are lent, kept, the same, written over. Conditions: the slices lie in memory. -/
import Derived.Test.YtcgknadodpdblaaProg
import Derived.Test.YtcgknadodpdblaaChg
import Derived.Laws.BytesArg
import Derived.Laws.IdiomStrings
import Derived.Deep.RegionWith
import Derived.Deep.RegionHeld3
import Derived.Deep.Cut
import Derived.Deep.DeepCutAuto
set_option linter.unusedVariables false
set_option linter.unusedSimpArgs false
namespace Go.Proofs.Ytcgknadodpdblaa
open Go.RowKit

theorem sizeByteK (w : World) : (sizeOf 5).run Try.prog w = .ok 1 w := by kernel_rfl
/-- bytes as a string -/
def strB (l : List UInt8) : ByteArray := ⟨l.toArray⟩
theorem run_string_of {B : Nat} {w : World} {v : Value} {l : List UInt8} (hv : SlByte B w v l) : (convert 22 9 v).run Try.prog w = .ok (.string (strB l)) w := by
  obtain ⟨a, b, off, cap, rfl, h2, h3, h4, h5, h6⟩ := hv
  rcases Nat.eq_zero_or_pos l.length with h0 | hp
  · have : l = [] := List.length_eq_zero_iff.1 h0
    subst this
    cases a with
    | none => exact run_convert_bytes_nil w _ _ Try.underlying22 Try.underlying5 _ _ _ Try.underlying9
    | some a => exact run_convert_bytes_back w _ _ _ a cap [] Try.underlying22 Try.underlying5 Try.underlying9 (fun j hj => by simp at hj)
  · obtain ⟨rfl, _⟩ := h5 hp
    refine run_convert_bytes_back w _ _ _ _ cap l Try.underlying22 Try.underlying5 Try.underlying9 (fun j hj => ?_)
    have := h6 j hj
    unfold RByte at this
    rw [Nat.mul_one] at this
    rw [← this]
    congr 1
    unfold Addr.add
    split <;> simp_all
def sameB (a b : List UInt8) : Bool := decide (a = b)
theorem strB_toList (a : List UInt8) : (strB a).toList = a := by
  rw [ByteArray.toList_eq]
  simp [strB]
theorem strB_beq (a b : List UInt8) : ((strB a).toList == (strB b).toList) = sameB a b := by
  rw [strB_toList, strB_toList]
  unfold sameB
  rw [Bool.eq_iff_iff]
  simp
theorem sameB_self (a : List UInt8) : sameB a a = true := by simp [sameB]
theorem same_any (B : Nat) (v u : Value) (a b : List UInt8) (w : World) (hv : SlByte B w v a) (hu : SlByte B w u b) :
    Calls Try.prog 29 #[v, u] w fun e w' => e = .returned (.bool (sameB a b)) ∧ w = w' := by
  have h1 := run_string_of hv
  have h2 := run_string_of hu
  have hs := strB_beq a b
  clear hv hu
  obtain ⟨s, hs1⟩ : ∃ s, s = strB a := ⟨_, rfl⟩
  obtain ⟨t, ht1⟩ : ∃ t, t = strB b := ⟨_, rfl⟩
  rw [← hs1] at h1 hs; rw [← ht1] at h2 hs
  have HS := Lib.hid hs
  clear hs1 ht1 hs
  go_enter Try.func29, Try.ntmps29
  go_wp2_with fail
  go_ret
  exact ⟨ret_bool HS.out, rfl⟩

theorem bytes_srcK {w : World} {bb off : Nat} {r : List UInt8} (h : ∀ i (hi : i < r.length), RByte w bb (off + i * 1) r[i]) : ∀ j v, (r.flatMap encByte)[j]? = some v → w.cell? ((⟨bb, off, none⟩ : Addr).add j) = some v := by
  intro j v hj
  have hlen : (r.flatMap encByte).length = r.length := by rw [flatMap_length encByte 1 (fun _ => rfl)]; omega
  have hjl : j < r.length := by
    rcases Nat.lt_or_ge j r.length with h | h
    · exact h
    · rw [List.getElem?_eq_none (by omega)] at hj; cases hj
  have e := flatMap_get encByte 1 (fun _ => rfl) r j 0 hjl (by omega)
  rw [Nat.mul_one, Nat.add_zero, hj] at e
  have h1 := h j hjl
  unfold RByte at h1
  rw [Nat.mul_one] at h1
  have e4 : (⟨bb, off, none⟩ : Addr).add j = ⟨bb, off + j, none⟩ := by
    unfold Addr.add
    split
    · subst_vars; rfl
    · rfl
  rw [e4, h1]
  simp [encByte] at e
  rw [e]
/-- the marks behind n bytes that are lent -/
def marks (n : Nat) : List UInt8 := [UInt8.ofNat (160 + n % 90), UInt8.ofNat (160 + (n + 1) % 90), UInt8.ofNat (160 + (n + 2) % 90)]
def lentTo (b : List UInt8) (k : Nat) : List UInt8 := b ++ (marks b.length).take k
def lentM (b : List UInt8) : List UInt8 := b ++ marks b.length
theorem lentM_length (b : List UInt8) : (lentM b).length = b.length + 3 := by simp [lentM, marks]
theorem marks_get (n k : Nat) (hk : k < 3) : (marks n)[k]? = some (UInt8.ofNat (160 + (n + k) % 90)) := by
  have : k = 0 ∨ k = 1 ∨ k = 2 := by omega
  rcases this with rfl | rfl | rfl <;> rfl
theorem lentTo_succ (b : List UInt8) (k : Nat) (hk : k < 3) : lentTo b (k + 1) = lentTo b k ++ [UInt8.ofNat (160 + (b.length + k) % 90)] := by
  unfold lentTo
  rw [List.take_add_one, marks_get _ _ hk]
  simp
theorem lentTo_length (b : List UInt8) (k : Nat) (hk : k ≤ 3) : (lentTo b k).length = b.length + k := by
  unfold lentTo marks
  simp
  omega
/-- a byte of a row -/
def rowB (l : List UInt8) (i : Nat) : Value := .int .u8 ((l.getD i 0).toNat : Int)
theorem rowB_snoc {w : World} {g n : Nat} {T : TypeId} {l : List UInt8} (h : w.rowIs g T n (rowB l)) (c : UInt8) : (w.setCell ⟨g, l.length, none⟩ (.int .u8 c.toNat)).rowIs g T n (rowB (l ++ [c])) :=
  (h.set l.length _).congr fun i hi => by
    unfold rowB
    by_cases e : i = l.length
    · subst e; simp
    · rw [if_neg e]
      rcases Nat.lt_or_ge i l.length with h1 | h1
      · simp [List.getD, List.getElem?_append_left h1]
      · simp [List.getD, List.getElem?_eq_none h1, List.getElem?_eq_none (show (l ++ [c]).length ≤ i by simp; omega)]
theorem rowB_cell {w : World} {g n : Nat} {T : TypeId} {l : List UInt8} (h : w.rowIs g T n (rowB l)) {i : Nat} (hi : i < n) (hl : i < l.length) : RByte w g i l[i] := by
  have := h.cell hi
  unfold RByte
  rw [this]
  simp [rowB, List.getD, hl]
/-- a row's beginning as a slice -/
theorem rowB_slice {w : World} {g n : Nat} {T : TypeId} {l xs : List UInt8} (h : w.rowIs g T n (rowB l)) (hn : n ≤ maxLen) (hx : xs.length ≤ n) (hp : ∀ i (hi : i < xs.length), l[i]? = some xs[i]) : SlP RByte 1 (· = g) w (.slice (some ⟨g, 0, none⟩) xs.length n) xs := by
  refine ⟨_, g, 0, n, rfl, hx, hn, (fun h => by cases h), (fun _ => ⟨rfl, rfl⟩), fun i hi => ?_⟩
  have h1 := hp i hi
  have h2 := h.cell (show i < n by omega)
  unfold RByte
  rw [Nat.zero_add, Nat.mul_one, h2]
  simp [rowB, List.getD, h1]
theorem Try.infoByteK : ∃ i, Try.prog.info? 5 = some i ∧ i.zero = some (.int .u8 0) ∧ i.size = 1 ∧ i.bytes = 1 := by
  have h : (Try.prog.info? 5).map (fun i => (i.zero, i.size, i.bytes)) = some (some (.int .u8 0), 1, 1) := by kernel_rfl
  cases hi : Try.prog.info? 5 with
  | none => rw [hi] at h; cases h
  | some i =>
    rw [hi] at h
    simp at h
    exact ⟨i, rfl, h.1, h.2.1, h.2.2⟩
theorem made_list (c : Nat) (z : Value) : madeCells #[z] c = (List.replicate c z).toArray := by
  apply Array.ext_getElem?
  intro i
  by_cases h : i < c
  · simp [madeCells, h, Nat.mod_one]
  · simp [madeCells, h]
theorem lent_splice {w : World} {g n : Nat} {T : TypeId} {b : List UInt8} (h : w.heap[g]? = some (.cells (splice (List.replicate n (Value.int .u8 0)) 0 (b.flatMap encByte)).toArray T (0, 0))) (hb : b.length ≤ n) : w.rowIs g T n (rowB b) := by
  have hl : (b.flatMap encByte).length = b.length := by rw [flatMap_length encByte 1 (fun _ => rfl)]; omega
  refine ⟨_, h, by rw [List.size_toArray, length_splice _ _ _ (by rw [hl]; simp; omega)]; simp, fun i hi => ?_⟩
  rw [List.getElem?_toArray]
  unfold splice
  rw [splice_get _ _ _ _ (by rw [hl]; simp; omega), hl]
  by_cases h1 : i < b.length
  · rw [if_pos ⟨by omega, by omega⟩]
    have e := flatMap_get encByte 1 (fun _ => rfl) b i 0 h1 (by omega)
    rw [Nat.mul_one, Nat.add_zero] at e
    rw [Nat.sub_zero, e]
    simp [encByte, rowB, List.getD, h1]
  · rw [if_neg (by omega)]
    simp [rowB, List.getD, hi, List.getElem?_eq_none (show b.length ≤ i by omega)]

/-- bytes that are lent: a new row, marks behind them -/
def LentPost (w : World) (b : List UInt8) (e : Ending) (w' : World) : Prop :=
  ∃ P, e = .returned (.slice (some ⟨P, 0, none⟩) b.length (b.length + 3)) ∧ w.heap.size ≤ P ∧ w'.rowIs P 5 (b.length + 3) (rowB (lentM b)) ∧ Below w.heap.size w w'
set_option maxHeartbeats 1000000 in
theorem lent_any (B : Nat) (v : Value) (b : List UInt8) (w : World) (hB : B ≤ w.heap.size) (hv : SlByte B w v b) (hl : b.length ≤ 1000000000) :
    Calls Try.prog 11 #[v] w (LentPost w b) := by
  have HV := Lib.hid hv
  obtain ⟨a, bb, off, cap, rfl, hcap, hm, hn0, ha, hc⟩ := hv
  obtain ⟨n, hn⟩ : ∃ n, n = b.length := ⟨_, rfl⟩
  rw [← hn] at hl hcap ⊢
  obtain ⟨ib, hib, hiz, his, hiby⟩ := Try.infoByteK
  have HIB := Lib.hid hib; have HIZ := Lib.hid hiz; have HIS := Lib.hid his; have HIBY := Lib.hid hiby; clear hib hiz his hiby
  obtain ⟨cs, hcs⟩ : ∃ cs, cs = b.flatMap encByte := ⟨_, rfl⟩
  have hck : cs.length = n := by rw [hcs, flatMap_length encByte 1 (fun _ => rfl)]; omega
  have hcs2 : ∀ u ∈ cs, u.oneCell' = true := by rw [hcs]; exact oneCell_flat encByte encByte_one _
  have HN := Lib.hid hn; have HCS := Lib.hid hcs; have HCK := Lib.hid hck; have HCS2 := Lib.hid hcs2; have HC := Lib.hid hc; have HA := Lib.hid ha
  clear hn hcs hck hcs2 hc hm hn0 ha
  go_enter Try.func11, Try.ntmps11
  go_upto_region 2 with (first | (refine wpList_make_at rfl _ _ 22 rfl 5 ib (.int .u8 0) Try.underlying22 HIB.out HIZ.out HIS.out rfl .i64 .i64 (n + 3) (n + 3) rfl rfl (Nat.le_refl _) (by rw [HIBY.out]; omega) (by omega) ?_; intro W1 hW1) | fail)
  have hg : W1.heap[w.heap.size]? = some (.cells (List.replicate (n + 3) (Value.int .u8 0)).toArray 5 (0, 0)) := by
    rw [hW1.out, made_list]; exact heap_alloc_new _ _
  have hb1 : Below w.heap.size w W1 := by rw [hW1.out]; exact (Below.refl _ _).alloc (Nat.le_refl _) _
  have hpos : 0 < cs.length → (some ⟨w.heap.size, 0, none⟩ : Option Addr) = some ⟨w.heap.size, 0, none⟩ ∧ ∃ ad, a = some ad ∧ ∀ j v, cs[j]? = some v → W1.cell? (ad.add j) = some v := by
    intro hp
    rw [HCK.out, HN.out] at hp
    obtain ⟨rfl, hbB⟩ := HA.out hp
    refine ⟨rfl, _, rfl, ?_⟩
    rw [HCS.out]
    exact bytes_srcK (fun i hi => (HC.out i hi).below (Nat.lt_of_lt_of_le hbB hB) hb1)
  have HG := Lib.hid hg; have HB1 := Lib.hid hb1; have HPOS := Lib.hid hpos
  clear hg hb1 hpos hW1
  go_upto_region 3 with (first | (refine wpList_copy_splice rfl _ _ 22 22 rfl 5 Try.underlying22 (by kernel_rfl) _ a (n + 3) (n + 3) n cap rfl rfl w.heap.size 0 (List.replicate (n + 3) (Value.int .u8 0)) 5 HG.out cs (by rw [HCK.out]; simp only [Nat.min_def]; split <;> omega) HPOS.out (by rw [HCK.out]; simp) HCS2.out w.heap.size w HB1.out (Nat.le_refl _) ?_; intro W2 hW2 hb2) | fail)
  have hr2 : W2.rowIs w.heap.size 5 (n + 3) (rowB (lentTo b 0)) := by
    have h := hW2.out
    rw [HCS.out] at h
    have := lent_splice h (by rw [HN.out]; omega)
    simpa [lentTo] using this
  have HR2 := Lib.hid hr2; have HB2 := Lib.hid hb2
  clear hr2 hb2 hW2
  go_wp2_with fail
  go_loopw [4] (fun i wr => ∃ k : Nat, k ≤ 3 ∧ i = .int .i64 ((n : Int) + k) ∧ wr.rowIs w.heap.size 5 (n + 3) (rowB (lentTo b k)) ∧ Below w.heap.size w wr) (fun i _ => ((n : Int) + 3 - intOf i).toNat)
  case atStart => exact ⟨0, by omega, by go_num, HR2.out, HB2.out⟩
  case round =>
    obtain ⟨k, hk, rfl, hr, hb⟩ := hrel
    by_cases hlt : k < 3
    · have q := hr.cell (show n + k < n + 3 by omega)
      have f := hr.frozen (n + k)
      have hll := lentTo_length b k hk
      rw [← HN.out] at hll
      have hnew := rowB_snoc hr (UInt8.ofNat (160 + (n + k) % 90))
      rw [hll] at hnew
      rw [show lentTo b k ++ [UInt8.ofNat (160 + (n + k) % 90)] = lentTo b (k + 1) by rw [lentTo_succ b k hlt, ← HN.out]] at hnew
      have hval : ((UInt8.ofNat (160 + (n + k) % 90)).toNat : Int) = 160 + ((n : Int) + k) % 90 := by
        rw [UInt8.toNat_ofNat']; omega
      rw [hval] at hnew
      have e0 : ((n : Int) + k).toNat = n + k := by omega
      have HNEW := Lib.hid hnew; have HB := Lib.hid hb
      clear hr hb hnew hll hval
      go_wp2_with fail
      go_roundw
      case rel => exact ⟨k + 1, by omega, by go_num, HNEW.out, HB.out.setCell (Nat.le_refl _) _⟩
      case measure => simp [intOf]; omega
    · obtain rfl : k = 3 := by omega
      have HR := Lib.hid hr; have HB := Lib.hid hb
      clear hr hb
      have hsub := run_sub_hi (P := Try.prog) Try.underlying22 sizeByteK (some ⟨w.heap.size, 0, none⟩) (n + 3) (n + 3) n .i64 (by omega)
      have hsv : subV 1 (some ⟨w.heap.size, 0, none⟩) 0 n (n + 3) = .slice (some ⟨w.heap.size, 0, none⟩) n (n + 3) := by
        unfold subV; rw [if_neg (by omega)]; simp [Addr.add]
      rw [hsv] at hsub
      clear hsv
      go_wp2_with fail
      go_ret
      have hN := HN.out
      subst hN
      exact ⟨w.heap.size, rfl, Nat.le_refl _, HR.out, HB.out⟩

theorem slice_all (Q n : Nat) (w : World) : (Instr.slice 22 (.slice (some ⟨Q, 0, none⟩) n (n + 3)) none (some (.int .i64 ((n : Int) + 3))) none).run Try.prog w = .ok (.slice (some ⟨Q, 0, none⟩) (n + 3) (n + 3)) w := by
  have h := run_sub_hi (P := Try.prog) Try.underlying22 sizeByteK (some ⟨Q, 0, none⟩) n (n + 3) (n + 3) .i64 (Nat.le_refl _) w
  have e : subV 1 (some ⟨Q, 0, none⟩) 0 (n + 3) (n + 3) = .slice (some ⟨Q, 0, none⟩) (n + 3) (n + 3) := by unfold subV; rw [if_neg (by omega)]; simp [Addr.add]
  rw [e] at h
  rw [← h]
  congr 4
theorem kept_same {w w1 : World} {P P2 n : Nat} {b : List UInt8} (hr : w.rowIs P 5 (b.length + 3) (rowB (lentM b))) (hn : n = b.length) (hP : P < w.heap.size) (hr2 : w1.rowIs P2 5 (n + 3) (rowB (lentM b))) (hb : Below w.drew.heap.size w.drew w1) (hl : n ≤ 1000000000) :
    Calls Try.prog 29 #[.slice (some ⟨P, 0, none⟩) (n + 3) (n + 3), .slice (some ⟨P2, 0, none⟩) (n + 3) (n + 3)] w1 fun e w' => e = .returned (.bool true) ∧ w1 = w' := by
  subst hn
  have h1 := hr.drew.of_block (hb.block P hP)
  have e : (lentM b).length = b.length + 3 := lentM_length b
  have s1 := rowB_slice (xs := lentM b) h1 (by unfold maxLen; omega) (by omega) (fun i hi => by simp [hi])
  have s2 := rowB_slice (xs := lentM b) hr2 (by unfold maxLen; omega) (by omega) (fun i hi => by simp [hi])
  rw [e] at s1 s2
  have := same_any w1.heap.size _ _ (lentM b) (lentM b) w1 (s1.to fun x hx => by rw [hx]; exact h1.lt) (s2.to fun x hx => by rw [hx]; exact hr2.lt)
  rwa [sameB_self] at this
set_option maxHeartbeats 1000000 in
theorem kept_any (B P : Nat) (u : Value) (b : List UInt8) (w : World) (hB : B ≤ w.heap.size) (hr : w.rowIs P 5 (b.length + 3) (rowB (lentM b))) (hu : SlByte B w u b) (hl : b.length ≤ 1000000000) :
    Calls Try.prog 16 #[.slice (some ⟨P, 0, none⟩) b.length (b.length + 3), u] w fun e w' => e = .returned (.bool true) ∧ Below w.heap.size w w' := by
  have HU := Lib.hid hu; have HR := Lib.hid hr
  obtain ⟨a, cap, rfl, -⟩ := hu.len
  clear hr
  obtain ⟨n, hn⟩ : ∃ n, n = b.length := ⟨_, rfl⟩
  have hu2 : SlByte B w (.slice a n cap) b := by rw [hn]; exact HU.out
  have hlent := lent_any B (.slice a n cap) b w.drew hB hu2 hl
  rw [← hn] at hl ⊢
  unfold LentPost at hlent
  rw [← hn] at hlent
  have HLENT := Lib.hid hlent; have HN := Lib.hid hn; have HU := Lib.hid hu2
  clear hlent hn hu2
  go_enter Try.func16, Try.ntmps16
  have hw3 : IntKind.i64.wrap ((n : Int) + 3) = (n : Int) + 3 := wrap_i64 (by unfold I64; omega)
  have hsl := fun (Q : Nat) (wx : World) => slice_all Q n wx
  have hplt : P < w.heap.size := HR.out.lt
  have HPL := Lib.hid hplt; clear hplt
  go_wp2_with fail
  go_region_held3 (fun _ => True) (exact trivial) ((first | (go_at_call 11; refine (HLENT.out).mono ?_; rintro e w1 ⟨P2, rfl, hP2, hr2, hb1⟩; have HSAME := Lib.hid (kept_same HR.out HN.out HPL.out hr2 hb1 hl); have HB1 := Lib.hid hb1; clear hP2 hr2 hb1) | (go_at_call 29; refine (HSAME.out).mono ?_; rintro e w' ⟨rfl, rfl⟩)))
  all_goals
    go_wp2_with fail
    go_ret
    exact ⟨rfl, Below.trans (Below.drew (Below.refl _ _)) HB1.out⟩

set_option maxHeartbeats 1000000 in
theorem over_any (P n c : Nat) (l : List UInt8) (w : World) (hr : w.rowIs P 5 c (rowB l)) (hc : c ≤ 1000000000) (hn : n ≤ c) :
    Calls Try.prog 19 #[.slice (some ⟨P, 0, none⟩) n c] w fun e w' => e = .returned (.tuple #[]) ∧ Chg (· = P) w w' := by
  have HR := Lib.hid hr; clear hr
  go_enter Try.func19, Try.ntmps19
  go_wp2_with fail
  go_loopw [3] (fun i wr => ∃ k : Nat, k ≤ c ∧ i = .int .i64 k ∧ Chg (· = P) w wr ∧ ∃ f : Nat → Int, wr.rowIs P 5 c (fun i => .int .u8 (f i))) (fun i _ => ((c : Int) - intOf i).toNat)
  case atStart => exact ⟨0, by omega, rfl, Chg.refl _ _, fun i => ((l.getD i 0).toNat : Int), HR.out⟩
  case round =>
    obtain ⟨k, hk, rfl, hch, f, hl'⟩ := hrel
    by_cases hlt : k < c
    · have q := hl'.cell hlt
      have fr := hl'.frozen k
      obtain ⟨x, hx⟩ : ∃ x, x = f k := ⟨_, rfl⟩
      rw [← hx] at q
      have HCH := Lib.hid hch; have HL := Lib.hid hl'
      clear hch hl' hx
      go_wp2_with fail
      go_roundw
      case rel =>
        refine ⟨k + 1, by omega, by go_num, Chg.setCell (S := (· = P)) HCH.out rfl _, fun i => if i = k then bits BinOp.xor IntKind.u8 x 90 else f i, ?_⟩
        exact (HL.out.set k _).congr fun i hi => by
          by_cases e : i = k
          · simp [e]
          · simp [e]
      case measure => simp [intOf]; omega
    · obtain rfl : k = c := by omega
      have HCH := Lib.hid hch
      clear hch hl'
      go_wp2_with fail
      go_end0
      exact ⟨rfl, HCH.out⟩
/-- '[]byte(s)': a slice of the call's own -/
theorem run_bytes_of (l : List UInt8) (hl : l.length ≤ maxLen) (w : World) : ∃ v w', (convert 9 22 (.string (strB l))).run Try.prog w = .ok v w' ∧ SlByte w'.heap.size w' v l ∧ Below w.heap.size w w' := by
  have hs : (strB l).size = l.length := by show (strB l).data.size = _; simp [strB]
  refine ⟨_, _, run_bytes_of_string w _ _ _ (strB l) Try.underlying9 Try.underlying22 Try.underlying5, ?_, (Below.refl _ _).drew.alloc (Nat.le_refl _) _⟩
  have hc := grownCap_ge w (strB l).size 0 5
  refine ⟨_, w.heap.size, 0, grownCap w (strB l).size 0 5, by rw [hs], by rw [← hs]; exact hc, grownCap_le_maxLen w _ _ _ (by rw [hs]; exact hl), (fun h => by cases h), (fun _ => ⟨rfl, by simp⟩), fun i hi => ?_⟩
  unfold RByte
  rw [Nat.zero_add, Nat.mul_one]
  have := World.cell?_alloc_mark w.drew (bytesRow (strB l) (grownCap w (strB l).size 0 5)) 5 ((bytesRow (strB l) (grownCap w (strB l).size 0 5)).size, (bytesRow (strB l) (grownCap w (strB l).size 0 5)).size + 1) i
  refine this.trans ?_
  rw [bytesRow_at _ _ _ (by show i < (strB l).data.size; simpa [strB] using hi)]
  simp [strB]
end Go.Proofs.Ytcgknadodpdblaa
