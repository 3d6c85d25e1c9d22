/- Contract of layer 3's reference: a text read as an ID. Conditions: none. -/
import Derived.Test.YtcgknadodpdblaaDigV
set_option linter.unusedVariables false
set_option linter.unusedSimpArgs false
namespace Go.Proofs.Ytcgknadodpdblaa
open Go.RowKit

theorem digit_any (c : UInt8) (w : World) : Calls Try.prog 33 #[.int .u8 (c.toNat : Int)] w fun e w' => e = .returned (.int .u8 (hexV c : Int)) ∧ w = w' := by
  obtain ⟨n, hn⟩ : ∃ n, n = c.toNat := ⟨_, rfl⟩
  have hcl : n < 256 := by rw [hn]; exact c.toNat_lt
  have hv : hexV c = if 48 ≤ n ∧ n ≤ 57 then n - 48 else if 97 ≤ n ∧ n ≤ 102 then n - 87 else 16 := by rw [hn]; rfl
  rw [hv, ← hn]
  clear hv hn
  by_cases h1 : 48 ≤ n ∧ n ≤ 57
  · rw [if_pos h1]
    obtain ⟨m, rfl⟩ : ∃ m, n = m + 48 := ⟨n - 48, by omega⟩
    rw [show m + 48 - 48 = m by omega]
    have hw : IntKind.u8.wrap (m : Int) = (m : Int) := by rw [IntKind.wrap_u8]; omega
    have hs : ((m + 48 : Nat) : Int) - 48 = (m : Int) := by omega
    have hge : (48 : Int) ≤ ((m + 48 : Nat) : Int) := by omega
    have hle : ((m + 48 : Nat) : Int) ≤ 57 := by omega
    obtain ⟨x, hx⟩ : ∃ x : Int, x = ((m + 48 : Nat) : Int) := ⟨_, rfl⟩
    rw [← hx] at hs hge hle ⊢
    clear hx h1
    go_enter Try.func33, Try.ntmps33
    go_wp2_with fail
    go_ret
    exact ⟨rfl, rfl⟩
  · rw [if_neg h1]
    by_cases h2 : 97 ≤ n ∧ n ≤ 102
    · rw [if_pos h2]
      obtain ⟨m, rfl⟩ : ∃ m, n = m + 87 := ⟨n - 87, by omega⟩
      rw [show m + 87 - 87 = m by omega]
      have hw : IntKind.u8.wrap (m : Int) = (m : Int) := by rw [IntKind.wrap_u8]; omega
      have hw2 : IntKind.u8.wrap ((m : Int) - 10) = (m : Int) - 10 := by rw [IntKind.wrap_u8]; omega
      have hs : ((m + 87 : Nat) : Int) - 97 = (m : Int) - 10 := by omega
      have hs2 : (m : Int) - 10 + 10 = m := by omega
      have hge0 : (48 : Int) ≤ ((m + 87 : Nat) : Int) := by omega
      have hle0 : ¬ ((m + 87 : Nat) : Int) ≤ 57 := by omega
      have hge : (97 : Int) ≤ ((m + 87 : Nat) : Int) := by omega
      have hle : ((m + 87 : Nat) : Int) ≤ 102 := by omega
      obtain ⟨x, hx⟩ : ∃ x : Int, x = ((m + 87 : Nat) : Int) := ⟨_, rfl⟩
      rw [← hx] at hs hge hle hge0 hle0 ⊢
      clear hx h1 h2
      go_enter Try.func33, Try.ntmps33
      go_wp2_with fail
      go_ret
      exact ⟨rfl, rfl⟩
    · rw [if_neg h2]
      go_enter Try.func33, Try.ntmps33
      go_wp2_with fail
      all_goals (first | (exfalso; omega) | (go_ret; exact ⟨rfl, rfl⟩))
theorem ParAt.drew {w wr : World} {n b : Nat} {s : List UInt8} {k : Nat} (h : ParAt w wr n b s k) : ParAt w wr.drew n b s k := ⟨h.below.drew, h.r0.drew, h.r1.drew, h.r2.drew⟩
/-- what lies in memory: the answer's two rows -/
structure ParR (w wr : World) (n : Nat) : Prop where
  below : Below n w wr
  r0 : wr.rowIs n 28 16 (fun _ => .int .u8 0)
  r1 : wr.rowIs (n + 1) 48 2 (fun _ => .int .i64 0)
theorem parTo_two (s : List UInt8) (k : Nat) : parTo s (2 * k + 2) k = 16 * hexAt s (2 * k) + hexAt s (2 * k + 1) := by unfold parTo; rw [if_pos (by omega)]
theorem ParAt.put2 {w wr : World} {n b : Nat} {s : List UInt8} {k : Nat} (hE : ParAt w wr n b s (2 * k)) (hk : k < 16) (hb : n + 1 < b) : ParAt w (wr.setCell ⟨b, k, none⟩ (.int .u8 (16 * (hexAt s (2 * k) : Int) + (hexAt s (2 * k + 1) : Int)))) n b s (2 * (k + 1)) where
  below := hE.below.setCell (show n ≤ b by omega) _
  r0 := (Chg.refl (· = b) wr).setCell rfl _ |>.row hE.r0 (show n ≠ b by omega)
  r1 := (Chg.refl (· = b) wr).setCell rfl _ |>.row hE.r1 (show n + 1 ≠ b by omega)
  r2 := (hE.r2.set k _).congr fun i hi => by
    unfold parF
    by_cases e : i = k
    · rw [if_pos e, e, show 2 * (k + 1) = 2 * k + 2 by omega, parTo_two, Int.natCast_add, Int.natCast_mul]; rfl
    · rw [if_neg e]
      congr 2
      unfold parTo
      by_cases h1 : 2 * i + 2 ≤ 2 * k
      · rw [if_pos h1, if_pos (by omega)]
      · rw [if_neg h1, if_neg (by omega), if_neg (by omega), if_neg (by omega)]
set_option maxHeartbeats 1000000 in
set_option maxRecDepth 20000 in
theorem parseR_any (s : List UInt8) (hs : s.length < 2 ^ 62) (w : World) : Calls Try.prog 23 #[.string (strB s)] w fun e w' => e = .returned (parsed s) ∧ Below w.heap.size w w' := by
  obtain ⟨n, hn⟩ : ∃ n, n = s.length := ⟨_, rfl⟩
  have hbs : n < 4611686018427387904 := by rw [hn]; exact hs
  have hidx := index_str s
  obtain ⟨sb, hsb⟩ : ∃ sb, sb = strB s := ⟨_, rfl⟩
  have hlen : sb.size = n := by rw [hsb, hn]; show s.toArray.size = _; simp
  rw [← hsb] at hidx ⊢
  have HN := Lib.hid hn; have HIDX := Lib.hid hidx
  clear hn hsb hs hidx
  obtain ⟨Z, hZ⟩ : ∃ Z, Z = rowArr 16 fun _ => Value.int .u8 0 := ⟨_, rfl⟩
  have hZs : Z.size = 16 := by rw [hZ]; rfl
  have hZ1 : Z.all (·.oneCell') = true := by rw [hZ]; decide +kernel
  have HZ := Lib.hid hZ; clear hZ
  have h28 : (Try.prog.info? 28).map (·.size) = some 16 := by kernel_rfl
  have h48 : (Try.prog.info? 48).map (·.size) = some 2 := by kernel_rfl
  go_enter Try.func23, Try.ntmps23
  go_upto_region 1 with fail
  generalize hWA : World.alloc w _ = WA
  generalize hW1 : World.alloc WA _ = W1
  have rA : WA.rowIs w.heap.size 28 16 (fun _ => .int .u8 0) := by subst hWA; exact zeros_row w _ _ _ 16 (by kernel_rfl)
  have zA : WA.heap.size = w.heap.size + 1 := by subst hWA; simp
  have bA : Below w.heap.size w WA := by subst hWA; exact (Below.refl _ _).alloc (Nat.le_refl _) _
  have rB : W1.rowIs WA.heap.size 48 2 (fun _ => .int .i64 0) := by subst hW1; exact zeros_row WA _ _ _ 2 (by kernel_rfl)
  have z1 : W1.heap.size = w.heap.size + 1 + 1 := by subst hW1; simp [zA]
  rw [zA] at rB
  have hE : ParR w W1 w.heap.size := by
    subst hW1
    exact ⟨bA.alloc (by omega) _, rA.alloc _, rB⟩
  have HE := Lib.hid hE; have HZ1 := Lib.hid z1
  clear hE hW1 hWA rA zA bA rB z1
  go_wp2_with fail
  go_loopw [4] (fun i wr => ∃ k : Nat, k ≤ n ∧ i = .int .i64 k ∧ Fine s k ∧ W1 = wr) (fun i _ => (n - intOf i).toNat)
  case atStart => exact ⟨0, by omega, rfl, fun i hi => by omega, rfl⟩
  case round =>
    obtain ⟨k, hk, rfl, hf, rfl⟩ := hrel
    obtain ⟨old, g0, hold⟩ := row_any HE.out.r0
    obtain ⟨old1, g1, hold1⟩ := row_any HE.out.r1
    by_cases hlt : k < n
    · have hkl : k < s.length := by rw [← HN.out]; exact hlt
      have hidx := fun wx => HIDX.out k hkl wx
      have hhx := hexAt_eq s k hkl
      obtain ⟨c, hc⟩ : ∃ c : UInt8, c = s[k]'hkl := ⟨_, rfl⟩
      rw [← hc] at hidx hhx
      have HF := Lib.hid hf; have HHX := Lib.hid hhx; have HC := Lib.hid hc
      clear hf hhx hc
      go_wp2_with fail
      refine (digit_any c W1).mono ?_
      rintro e w1 ⟨he, rfl⟩
      have hh17 := hexV_le c
      obtain ⟨v, hv⟩ : ∃ v, v = hexV c := ⟨_, rfl⟩
      rw [← hv] at he hh17
      have HV := Lib.hid hv; clear hv
      subst he
      by_cases hbad : v = 16
      · subst hbad
        obtain ⟨p1, p2, p3⟩ := parse_bad s k hkl HF.out (by rw [← HC.out, ← HV.out])
        have HP1 := Lib.hid p1; have HP2 := Lib.hid p2; have HP3 := Lib.hid p3
        clear p1 p2 p3
        have g1' := (setRow_other W1 w.heap.size (w.heap.size + 1) Z (by omega)).trans g1
        go_wp2_with (first | (refine wpList_build_at Z rfl 28 _ rfl (by rw [HZ.out]; kernel_rfl) ?_) | (refine wpList_store_row rfl 28 _ _ rfl w.heap.size Z rfl rfl 28 old g0 (by rw [h28, hZs]) (by rw [hold, hZs]) hZ1 ?_) | (refine wpList_store_row rfl 48 _ _ rfl (w.heap.size + 1) _ rfl rfl 48 old1 g1' h48 hold1 (faultOne _ _) ?_) | fail)
        have gA := (setRow_other (W1.setRow w.heap.size Z) (w.heap.size + 1) w.heap.size #[.int .i64 4, .int .i64 (k : Int)] (by omega)).trans (setRow_heap W1 w.heap.size old Z 28 (0, 0) g0)
        have gB := setRow_heap (W1.setRow w.heap.size Z) (w.heap.size + 1) old1 #[.int .i64 4, .int .i64 (k : Int)] 48 (0, 0) g1'
        exact bodyPost_ret (results_two rfl _ _ w.heap.size (w.heap.size + 1) _ _ _ _ (0, 0) (0, 0) _ _ rfl gA rfl gB Try.underlying28 rfl (by rw [h28, hZs]) Try.underlying48 rfl h48) rfl ⟨by rw [HZ.out]; exact parsed_bad s _ HP1.out HP2.out HP3.out, below_setRow (below_setRow HE.out.below (Nat.le_refl _) _) (Nat.le_succ _) _⟩
      · have hv16 : v < 16 := by omega
        have hpos : ((v : Int) = 16) = False := by simp; omega
        go_wp2_with fail
        go_roundw
        case rel => exact ⟨k + 1, by omega, by go_num, fine_succ HF.out (by rw [HHX.out, ← HV.out]; exact hv16), trivial⟩
        case measure => simp [intOf]; omega
    · obtain rfl : k = n := by omega
      have HF := Lib.hid hf; clear hf
      have hbad := parse_fine s (by rw [← HN.out]; exact HF.out)
      by_cases h32 : k = 32
      · subst h32
        clear g0 g1
        go_upto_region 9 with fail
        generalize hW2 : World.alloc W1 _ = W2
        have hE0 : ParAt w W2 w.heap.size W1.heap.size s (2 * 0) := by
          subst hW2
          have rC : (World.alloc W1 (.cells (Array.replicate 16 (.int .u8 0)) 28)).rowIs W1.heap.size 28 16 (fun _ => .int .u8 0) := zeros_row W1 _ _ _ 16 rfl
          exact ⟨HE.out.below.alloc (by rw [HZ1.out]; omega) _, HE.out.r0.alloc _, HE.out.r1.alloc _, rC.congr fun i hi => by unfold parF parTo; rw [if_neg (by omega), if_neg (by omega)]; rfl⟩
        have HE0 := Lib.hid hE0
        have HBAD := Lib.hid hbad; have HW2 := Lib.hid (hW2)
        clear hE0 hbad hW2
        go_wp2_with fail
        simp only [Int.cast_ofNat_Int]
        go_loopw [6] (fun j wr => ∃ k : Nat, k ≤ 16 ∧ j = .int .i64 k ∧ ParAt w wr w.heap.size W1.heap.size s (2 * k)) (fun j _ => (16 - intOf j).toNat)
        case atStart => exact ⟨0, by omega, rfl, HE0.out⟩
        case round =>
          obtain ⟨k, hk, rfl, hE2⟩ := hrel
          have HE2 := Lib.hid hE2; clear hE2
          by_cases h16 : k < 16
          · have hn32 : s.length = 32 := HN.out.symm
            have hi1 := fun wx => HIDX.out (2 * k) (by omega) wx
            have hi2 := fun wx => HIDX.out (2 * k + 1) (by omega) wx
            have f1 := HF.out (2 * k) (by omega)
            have f2 := HF.out (2 * k + 1) (by omega)
            have x1 := hexAt_eq s (2 * k) (by omega)
            have x2 := hexAt_eq s (2 * k + 1) (by omega)
            obtain ⟨c1, hc1⟩ : ∃ c : UInt8, c = s[2 * k]'(by omega) := ⟨_, rfl⟩
            obtain ⟨c2, hc2⟩ : ∃ c : UInt8, c = s[2 * k + 1]'(by omega) := ⟨_, rfl⟩
            rw [← hc1] at hi1 x1
            rw [← hc2] at hi2 x2
            have hput := HE2.out.put2 h16 (by rw [HZ1.out]; omega)
            rw [x1, x2] at hput
            rw [x1] at f1
            rw [x2] at f2
            rw [Int.natCast_mul] at hi1
            rw [Int.natCast_add, Int.natCast_mul] at hi2
            simp only [Int.cast_ofNat_Int] at hi1 hi2
            have q := HE2.out.r2.cell h16
            unfold parF at q
            have hfz := HE2.out.r2.frozen k
            have hd1 := fun wx => digit_any c1 wx
            have hd2 := fun wx => digit_any c2 wx
            obtain ⟨v1, hv1⟩ : ∃ v1, v1 = hexV c1 := ⟨_, rfl⟩
            obtain ⟨v2, hv2⟩ : ∃ v2, v2 = hexV c2 := ⟨_, rfl⟩
            rw [← hv1] at hd1 hput f1
            rw [← hv2] at hd2 hput f2
            have hw1 : IntKind.u8.wrap (16 * (v1 : Int)) = 16 * (v1 : Int) := by rw [IntKind.wrap_u8]; omega
            have hw2 : IntKind.u8.wrap (16 * (v1 : Int) + (v2 : Int)) = 16 * (v1 : Int) + (v2 : Int) := by rw [IntKind.wrap_u8]; omega
            have bk : 0 ≤ (k : Int) ∧ (k : Int) < 16 := by omega
            obtain ⟨T, hT⟩ : ∃ T, T = W1.heap.size := ⟨_, rfl⟩
            have HPUT := Lib.hid hput
            clear hput hv1 hv2 hc1 hc2 x1 x2 hn32 hT
            have HD1 := Lib.hid hd1; have HD2 := Lib.hid hd2
            clear hd1 hd2
            have hwr1 : IntKind.i64.wrap (2 * (k : Int)) = 2 * (k : Int) := wrap_i64 (by unfold I64; omega)
            have hwr2 : IntKind.i64.wrap (2 * (k : Int) + 1) = 2 * (k : Int) + 1 := wrap_i64 (by unfold I64; omega)
            go_wp2_with fail
            go_region_with (first | (go_at_call_of 33 c1; refine (HD1.out _).mono ?_; rintro e w9 ⟨rfl, rfl⟩) | (go_at_call_of 33 c2; refine (HD2.out _).mono ?_; rintro e w9 ⟨rfl, rfl⟩))
            all_goals
              go_wp2_with fail
              go_roundw
              case rel => exact ⟨k + 1, by omega, by go_num, HPUT.out.drew⟩
              case measure => simp [intOf]; omega
          · obtain rfl : k = 16 := by omega
            obtain ⟨C, hC⟩ : ∃ C, C = rowArr 16 (parF s 32) := ⟨_, rfl⟩
            have g2 : wr.heap[W1.heap.size]? = some (.cells (rowArr 16 (parF s 32)) 28 (0, 0)) := rowIs_heap HE2.out.r2
            rw [← hC] at g2
            have hCs : C.size = 16 := by rw [hC]; simp [rowArr]
            have hC1 : C.all (·.oneCell') = true := by
              rw [hC]
              unfold rowArr
              rw [List.all_toArray, List.all_eq_true]
              intro v hv
              obtain ⟨i, _, rfl⟩ := List.mem_map.1 hv
              rfl
            have hfin := parsed_ok s HN.out.symm HBAD.out
            rw [show s.length = 32 from HN.out.symm, ← hC] at hfin
            obtain ⟨old, g0, hold⟩ := row_any HE2.out.r0
            obtain ⟨old1, g1, hold1⟩ := row_any HE2.out.r1
            have g1' := (setRow_other wr w.heap.size (w.heap.size + 1) C (by omega)).trans g1
            have HFIN := Lib.hid hfin; clear hfin hC
            go_wp2_with (first | (refine wpList_load_row rfl 28 _ rfl W1.heap.size rfl 28 C (0, 0) _ g2 Try.underlying28 rfl (by rw [h28, hCs]) ?_) | (refine wpList_store_row rfl 28 _ _ rfl w.heap.size C rfl rfl 28 old g0 (by rw [h28, hCs]) (by rw [hold, hCs]) hC1 ?_) | (refine wpList_store_row rfl 48 _ _ rfl (w.heap.size + 1) #[.int .i64 0, .int .i64 0] rfl rfl 48 old1 g1' h48 hold1 (faultOne _ _) ?_) | fail)
            have gA := (setRow_other (wr.setRow w.heap.size C) (w.heap.size + 1) w.heap.size #[.int .i64 0, .int .i64 0] (by omega)).trans (setRow_heap wr w.heap.size old C 28 (0, 0) g0)
            have gB := setRow_heap (wr.setRow w.heap.size C) (w.heap.size + 1) old1 #[.int .i64 0, .int .i64 0] 48 (0, 0) g1'
            exact bodyPost_ret (results_two rfl _ _ w.heap.size (w.heap.size + 1) _ _ _ _ (0, 0) (0, 0) _ _ rfl gA rfl gB Try.underlying28 rfl (by rw [h28, hCs]) Try.underlying48 rfl h48) rfl ⟨HFIN.out, below_setRow (below_setRow HE2.out.below (Nat.le_refl _) _) (Nat.le_succ _) _⟩
      · have hend := parse_short s (fun e => h32 (HN.out.trans e)) hbad
        rw [show s.length = k by rw [← HN.out]] at hend
        obtain ⟨p1, p2, p3⟩ := hend
        have HP1 := Lib.hid p1; have HP2 := Lib.hid p2; have HP3 := Lib.hid p3
        clear p1 p2 p3 hbad
        have g1' := (setRow_other W1 w.heap.size (w.heap.size + 1) Z (by omega)).trans g1
        go_wp2_with (first | (refine wpList_build_at Z rfl 28 _ rfl (by rw [HZ.out]; kernel_rfl) ?_) | (refine wpList_store_row rfl 28 _ _ rfl w.heap.size Z rfl rfl 28 old g0 (by rw [h28, hZs]) (by rw [hold, hZs]) hZ1 ?_) | (refine wpList_store_row rfl 48 _ _ rfl (w.heap.size + 1) _ rfl rfl 48 old1 g1' h48 hold1 (faultOne _ _) ?_) | fail)
        have gA := (setRow_other (W1.setRow w.heap.size Z) (w.heap.size + 1) w.heap.size #[.int .i64 4, .int .i64 (min (k : Int) 32)] (by omega)).trans (setRow_heap W1 w.heap.size old Z 28 (0, 0) g0)
        have gB := setRow_heap (W1.setRow w.heap.size Z) (w.heap.size + 1) old1 #[.int .i64 4, .int .i64 (min (k : Int) 32)] 48 (0, 0) g1'
        exact bodyPost_ret (results_two rfl _ _ w.heap.size (w.heap.size + 1) _ _ _ _ (0, 0) (0, 0) _ _ rfl gA rfl gB Try.underlying28 rfl (by rw [h28, hZs]) Try.underlying48 rfl h48) rfl ⟨by rw [HZ.out]; exact parsed_bad s _ HP1.out HP2.out HP3.out, below_setRow (below_setRow HE.out.below (Nat.le_refl _) _) (Nat.le_succ _) _⟩
end Go.Proofs.Ytcgknadodpdblaa
