/- Contracts of layer 3's reference: bytes filled up, their digest, their name. Conditions: the slice lies in memory. -/
import Derived.Test.YtcgknadodpdblaaDigI
set_option linter.unusedVariables false
set_option linter.unusedSimpArgs false
namespace Go.Proofs.Ytcgknadodpdblaa
open Go.RowKit

/-- what is filled up so far, in memory -/
def FillAt (w wr : World) (v : Value) (xs : List UInt8) : Prop := wr.ownsRow w.heap.size 5 1 v xs.length (xs.flatMap encByte) ∧ Below w.heap.size w wr
def FillPost (w : World) (b : List UInt8) (e : Ending) (w' : World) : Prop := ∃ v, e = .returned v ∧ SlP RByte 1 (w.heap.size ≤ ·) w' v (b ++ padM b.length) ∧ Below w.heap.size w w'
theorem FillAt.snoc {w wr w' : World} {v v' : Value} {xs : List UInt8} {c : UInt8} {o : Obj} (h : FillAt w wr v xs) (hown : w'.ownsRow w.heap.size 5 1 v' (xs.length + 1) (xs.flatMap encByte ++ [.int .u8 c.toNat])) (hg : (wr.alloc o).grownBy w' v.ownBlock) : FillAt w w' v' (xs ++ [c]) :=
  ⟨by rw [flat_snoc, List.length_append]; exact hown, below_append h.2 h.1 hg (Nat.le_refl _) h.2.size⟩
theorem slice_lenOf {w : World} {base e n : Nat} {v : Value} {xs : List Value} (h : w.ownsRow base e 1 v n xs) : ∃ a c, v = .slice a n c := by
  rcases h.2 with ⟨hv, h0⟩ | ⟨g, cap, cur, hv, _⟩
  · exact ⟨none, 0, by rw [hv, h0]⟩
  · exact ⟨_, _, hv⟩

theorem below_grown0 (w w1 : World) {o : Obj} (h : (w.alloc o).grownBy w1 (Value.slice (some ⟨w.heap.size, 0, none⟩) 0 0).ownBlock) : Below w.heap.size w w1 :=
  Below.grown (Below.alloc (Below.refl _ _) (Nat.le_refl _) _) h (by simp) (fun k hk => by simp [Value.ownBlock] at hk; omega)
set_option maxHeartbeats 1000000 in
theorem fill_any (B : Nat) (v : Value) (b : List UInt8) (w : World) (hB : B ≤ w.heap.size) (hv : SlByte B w v b) (hl : b.length ≤ 1000000) :
    Calls Try.prog 27 #[v] w (FillPost w b) := by
  have HV := Lib.hid hv
  obtain ⟨a, cap, rfl, -⟩ := hv.len
  clear hv
  obtain ⟨n, hn⟩ : ∃ n, n = b.length := ⟨_, rfl⟩
  rw [← hn] at hl ⊢
  have hv2 : SlByte B w (.slice a n cap) b := by rw [hn]; exact HV.out
  have HN := Lib.hid hn; have HV := Lib.hid hv2; clear hn hv2
  obtain ⟨ib, hib, hiz, his, hiby⟩ := Try.infoByteD
  have HIB := Lib.hid hib; have HIZ := Lib.hid hiz; have HIS := Lib.hid his; have HIBY := Lib.hid hiby; clear hib hiz his hiby
  go_enter Try.func27, Try.ntmps27
  go_upto_region 2 with (first | (at_builtin; (go_loud (refine wpList_append_slice rfl _ _ 22 rfl w.heap.size 5 ib (.int .u8 0) 1 1 Try.underlying22 HIB.out HIZ.out HIS.out HIBY.out rfl (by decide) _ 0 [] rfl (owns_empty w _ _) encByte b _ rfl (SlByte.below HV.out (Below.alloc (Below.refl _ _) hB _) (Nat.le_refl B)) (fun _ => rfl) (fun _ _ _ h => h.enc) (oneCell_flat encByte encByte_one _) (by rw [← HN.out]; unfold maxLen; omega) (by rw [← HN.out]; omega) (by simp) ?_)); intro v1 w1 hown1 hg1) | fail)
  rw [Nat.zero_add, List.nil_append, ← HN.out] at hown1
  have hb1 : Below w.heap.size w w1 := (below_grown0 w w1 hg1)
  have HO1 := Lib.hid hown1; have HB1 := Lib.hid hb1
  clear hown1 hb1 hg1
  go_upto_region 3 with (first | (at_builtin; (go_loud (refine wpList_append_own _ rfl _ _ 22 rfl w.heap.size 5 ib (.int .u8 0) 1 1 Try.underlying22 HIB.out HIZ.out HIS.out HIBY.out rfl (by decide) _ _ _ rfl (HO1.out.alloc _) ⟨w1.heap.size, 0, none⟩ 1 1 [.int .u8 128] rfl rfl (cell_one_new _ _ _) (oneCell_int _ _) (by unfold maxLen; omega) (by omega) (by have := HB1.out.size; simp; omega) ?_)); intro v2 w2 hown2 hg2 _) | fail)
  have hf2 : FillAt w w2 v2 (b ++ [128]) := FillAt.snoc (w := w) (wr := w1) (c := 128) ⟨by rw [← HN.out]; exact HO1.out, HB1.out⟩ (by rw [← HN.out]; exact hown2) hg2
  have HF2 := Lib.hid hf2
  clear hown2 hg2 hf2
  obtain ⟨p, hp⟩ : ∃ p, p = (119 - n % 64) % 64 := ⟨_, rfl⟩
  have hp64 : p < 64 := by omega
  go_loopw [3] (fun v wr => ∃ k : Nat, k ≤ p ∧ FillAt w wr v (b ++ 128 :: List.replicate k 0)) (fun v _ => n + 1 + p - lenOf v)
  case atStart => exact ⟨0, Nat.zero_le _, HF2.out⟩
  case round =>
    obtain ⟨k, hk, hf⟩ := hrel
    obtain ⟨av, cv, hav⟩ := slice_lenOf hf.1
    have hlen : (b ++ 128 :: List.replicate k 0).length = n + 1 + k := by rw [HN.out]; simp; omega
    rw [hlen] at hav
    subst hav
    have hl1 : n + 1 + k ≤ 9223372036854775807 := by omega
    by_cases hlt : k < p
    · have ht : (((n : Int) + 1 + (k : Int)) % 64 != 56) = true := by rw [bne_iff_ne]; omega
      have hown := hf.1
      rw [hlen] at hown
      have HF := Lib.hid hf; have HP := Lib.hid hp; have HLN := Lib.hid hlen
      clear hf hp hlen
      go_wp2_with (first | (at_builtin; (go_loud (refine wpList_append_own _ rfl _ _ 22 rfl w.heap.size 5 ib (.int .u8 0) 1 1 Try.underlying22 HIB.out HIZ.out HIS.out HIBY.out rfl (by decide) _ _ _ rfl (hown.alloc _) ⟨wr.heap.size, 0, none⟩ 1 1 [.int .u8 0] rfl rfl (cell_one_new _ _ _) (oneCell_int _ _) (by unfold maxLen; omega) (by omega) (by have := HF.out.2.size; simp; omega) ?_)); intro v' w' hown' hg' _) | fail)
      have hf' := FillAt.snoc (c := 0) HF.out (by rw [HLN.out]; exact hown') hg'
      rw [List.append_assoc, List.cons_append, ← List.replicate_succ'] at hf'
      have hln' : lenOf v' = n + 1 + k + 1 := by obtain ⟨a', c', e'⟩ := slice_lenOf hown'; rw [e']; rfl
      have HF' := Lib.hid hf'; have HLN' := Lib.hid hln'
      clear hown' hg' hf' hln'
      go_roundw
      case rel => exact ⟨k + 1, by omega, HF'.out⟩
      case measure => rw [HLN'.out]; show n + 1 + p - (n + 1 + k + 1) < n + 1 + p - (n + 1 + k); omega
    · obtain rfl : k = p := by omega
      have ht : (((n : Int) + 1 + (k : Int)) % 64 != 56) = false := by rw [bne_eq_false_iff_eq]; omega
      have HF := Lib.hid hf; have HP := Lib.hid hp; have HLN := Lib.hid hlen
      clear hf hp hlen
      go_wp2_with fail
      go_loopw [3, 5] (fun v i wr => ∃ j : Nat, j ≤ 8 ∧ i = .int .i64 (7 - (j : Int)) ∧ FillAt w wr v (b ++ padTo n k j)) (fun _ i _ => (intOf i + 1).toNat)
      case atStart => exact ⟨0, Nat.zero_le _, rfl, by have := HF.out; simpa [padTo] using this⟩
      case round =>
        obtain ⟨j, hj, rfl, hf⟩ := hrel
        by_cases hlt : j < 8
        · have hown := hf.1
          have hpl : (b ++ padTo n k j).length = n + 1 + k + j := by rw [HN.out]; simp [padTo, lenBytes]; omega
          rw [hpl] at hown
          have HFJ := Lib.hid hf; have HPL := Lib.hid hpl
          clear hf hpl
          have hsh : (8 * (7 - (j : Int))).toNat = 56 - 8 * j := by omega
          have hs0 : 0 ≤ 8 * (7 - (j : Int)) ∧ 8 * (7 - (j : Int)) < 64 := by omega
          go_wp2_with (first | (at_builtin; (go_loud (refine wpList_append_own _ rfl _ _ 22 rfl w.heap.size 5 ib (.int .u8 0) 1 1 Try.underlying22 HIB.out HIZ.out HIS.out HIBY.out rfl (by decide) _ _ _ rfl (hown.alloc _) ⟨wr.heap.size, 0, none⟩ 1 1 [.int .u8 (8 * (n : Int) / 2 ^ (56 - 8 * j) % 256)] rfl rfl (cell_one_new _ _ _) (oneCell_int _ _) (by unfold maxLen; omega) (by omega) (by have := HFJ.out.2.size; simp; omega) ?_)); intro v' w' hown' hg' _) | fail)
          have hf' : FillAt w w' v' (b ++ padTo n k (j + 1)) := by
            refine ⟨?_, below_append HFJ.out.2 HFJ.out.1 hg' (Nat.le_refl _) HFJ.out.2.size⟩
            have e : (b ++ padTo n k (j + 1)).flatMap encByte = (b ++ padTo n k j).flatMap encByte ++ [.int .u8 (8 * (n : Int) / 2 ^ (56 - 8 * j) % 256)] := by
              rw [List.flatMap_append, List.flatMap_append, padTo_succ n k j hlt, List.append_assoc]
            have e2 : (b ++ padTo n k (j + 1)).length = n + 1 + k + j + 1 := by rw [HN.out]; simp [padTo, lenBytes]; omega
            rw [e, e2]
            exact hown'
          have HF' := Lib.hid hf'
          clear hown' hg' hf'
          go_roundw
          case rel => exact ⟨j + 1, by omega, by go_num, HF'.out⟩
          case measure => simp [intOf]; omega
        · obtain rfl : j = 8 := by omega
          rw [show padTo n k 8 = padM b.length by rw [← HN.out]; exact padTo_full n k HP.out] at hf
          have HFJ := Lib.hid hf
          clear hf
          go_wp2_with fail
          go_ret
          exact ⟨_, rfl, SlP.bytes_of_owns HFJ.out.1 rfl, HFJ.out.2⟩
end Go.Proofs.Ytcgknadodpdblaa
