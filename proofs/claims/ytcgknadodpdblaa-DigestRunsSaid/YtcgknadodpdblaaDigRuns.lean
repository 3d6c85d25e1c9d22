/- DigestRuns: which digest a running one has, behind each piece. Conditions: none. -/
import Derived.Test.YtcgknadodpdblaaDigNil
import Derived.Test.YtcgknadodpdblaaOpenL
import Derived.Laws.StructEq
set_option linter.unusedVariables false
set_option linter.unusedSimpArgs false
namespace Go.Proofs.Ytcgknadodpdblaa
open Go.RowKit Go.Maps Go.ChangeShapes Go.WideShapes Go.ChangeAt

theorem cells_eqR (l : List UInt8) : l.flatMap encByte = l.map Extern.Stop.cell := by
  induction l with
  | nil => rfl
  | cons a l ih => rw [List.flatMap_cons, List.map_cons, ih]; rfl
theorem neq32R (l : List UInt8) (hl : l.length = 32) (w : World) : (binOp .neq 25 (aggB l) (aggB l)).run Try.prog w = .ok (.bool false) w := by
  unfold aggB
  rw [cells_eqR, run_neq_struct, run_equalIn_bytes w 9998 25 5 32 Try.underlying25 Try.underlying5 sizeByteK l l hl hl]
  simp [Result.andThen]
theorem owns_chg {S : Nat → Prop} {w w' : World} {base e sz n : Nat} {v : Value} {xs : List Value} (h : w.ownsRow base e sz v n xs) (hc : Chg S w w') (hS : ∀ k, base ≤ k → ¬ S k) : w'.ownsRow base e sz v n xs := by
  obtain ⟨h1, h2⟩ := h
  refine ⟨h1, ?_⟩
  rcases h2 with h2 | ⟨g, cap, cur, hv, hg, hh, r⟩
  · exact Or.inl h2
  · refine Or.inr ⟨g, cap, cur, hv, hg, ?_, r⟩
    rw [hc.block g ?_ (hS g hg)]
    · exact hh
    · rcases Nat.lt_or_ge g w.heap.size with h3 | h3
      · exact h3
      · simp [Array.getElem?_eq_none h3] at hh
/-- how many bytes the first k pieces have -/
def lens (l : List (List UInt8)) (k : Nat) : Nat := ((l.take k).map List.length).sum
theorem lens_succ (l : List (List UInt8)) (k : Nat) (hk : k < l.length) : lens l (k + 1) = lens l k + l[k].length := by
  unfold lens
  rw [List.take_succ_eq_append_getElem hk, List.map_append, List.sum_append]
  show _ + (l[k].length + 0) = _
  rw [Nat.add_zero]
theorem lens_le (l : List (List UInt8)) (M : Nat) (h : ∀ x ∈ l, x.length ≤ M) : ∀ k, lens l k ≤ k * M := by
  intro k
  induction k with
  | zero => simp [lens]
  | succ k ih =>
    rcases Nat.lt_or_ge k l.length with hk | hk
    · rw [lens_succ l k hk, Nat.succ_mul]
      have := h l[k] (List.getElem_mem hk)
      omega
    · have : lens l (k + 1) = lens l k := by unfold lens; rw [List.take_of_length_le (by omega), List.take_of_length_le hk]
      rw [this, Nat.succ_mul]; omega
theorem lens_mono (l : List (List UInt8)) (k : Nat) (hk : k < l.length) : lens l k + l[k].length ≤ lens l l.length := by
  rw [← lens_succ l k hk]
  have h : ∀ n, lens l (k + 1) ≤ lens l (k + 1 + n) := by
    intro n
    induction n with
    | zero => exact Nat.le_refl _
    | succ n ih =>
      rcases Nat.lt_or_ge (k + 1 + n) l.length with h | h
      · have := lens_succ l (k + 1 + n) h
        rw [← Nat.add_assoc]; omega
      · have : lens l (k + 1 + (n + 1)) = lens l (k + 1 + n) := by unfold lens; rw [List.take_of_length_le (by omega), List.take_of_length_le h]
        omega
  have := h (l.length - (k + 1))
  rwa [show k + 1 + (l.length - (k + 1)) = l.length by omega] at this
def flatTo (l : List (List UInt8)) (k : Nat) : List UInt8 := (l.take k).flatten
theorem flatTo_succ (l : List (List UInt8)) (k : Nat) (hk : k < l.length) : flatTo l (k + 1) = flatTo l k ++ l[k] := by
  unfold flatTo
  rw [List.take_succ_eq_append_getElem hk, List.flatten_append]
  show _ ++ (l[k] ++ []) = _
  rw [List.append_nil]
theorem flatTo_length (l : List (List UInt8)) (k : Nat) : (flatTo l k).length = lens l k := by
  unfold flatTo lens
  rw [List.length_flatten]

theorem lent_sliceR {w : World} {P : Nat} {b : List UInt8} (h : w.rowIs P 5 (b.length + 3) (rowB (lentM b))) (hl : b.length ≤ 1000000) : SlP RByte 1 (· = P) w (.slice (some ⟨P, 0, none⟩) b.length (b.length + 3)) b :=
  rowB_slice h (by unfold maxLen; omega) (by omega) fun i hi => by
    unfold lentM
    rw [List.getElem?_append_left hi, List.getElem?_eq_getElem hi]
/-- what was owned ahead of a block's making is apart from it -/
theorem owns_apart {w0 w w' : World} {base e sz n P : Nat} {v : Value} {xs : List Value} (h : w.ownsRow base e sz v n xs) (hc : Chg (· = P) w w') (h0 : w0.ownsRow base e sz v n xs) (hP : w0.heap.size ≤ P) : w'.ownsRow base e sz v n xs := by
  obtain ⟨h1, h2⟩ := h
  refine ⟨h1, ?_⟩
  rcases h2 with h2 | ⟨g, cap, cur, hv, hg, hh, r⟩
  · exact Or.inl h2
  · have hgw : g < w.heap.size := by
      rcases Nat.lt_or_ge g w.heap.size with h3 | h3
      · exact h3
      · simp [Array.getElem?_eq_none h3] at hh
    have hne : g ≠ P := by
      rcases h0.2 with ⟨hv0, _⟩ | ⟨g0, _, _, hv0, _, hh0, _⟩
      · rw [hv] at hv0; cases hv0
      · rw [hv] at hv0
        injection hv0 with e1
        injection e1 with e1
        injection e1 with e1
        have : g0 < w0.heap.size := by
          rcases Nat.lt_or_ge g0 w0.heap.size with h3 | h3
          · exact h3
          · simp [Array.getElem?_eq_none h3] at hh0
        omega
    exact Or.inr ⟨g, cap, cur, hv, hg, by rw [hc.block g hgw hne]; exact hh, r⟩
/-- what lies in memory between two pieces -/
structure RunsAt (w W1 wr : World) (D : Nat) (v : Value) (m : List UInt8) : Prop where
  below : Below w.heap.size w wr
  dig : DigOf wr D m
  own : wr.ownsRow W1.heap.size 5 1 v m.length (m.flatMap encByte)
  hsz : W1.heap.size ≤ wr.heap.size

theorem RunsAt.chg {S : Nat → Prop} {w W1 wr w' : World} {D : Nat} {v : Value} {m : List UInt8} (h : RunsAt w W1 wr D v m) (hc : Chg S wr w') (hS : ∀ k, k < wr.heap.size → ¬ S k) (hD : D < wr.heap.size) (hw : w.heap.size ≤ wr.heap.size) (hown : ∀ k, W1.heap.size ≤ k → k < wr.heap.size → ¬ S k) : RunsAt w W1 w' D v m where
  below := h.below.trans (hc.below (fun k hk => hS k (by omega)) hw)
  dig := h.dig.chg hc (hS D hD)
  hsz := Nat.le_trans h.hsz hc.size
  own := by
    obtain ⟨h1, h2⟩ := h.own
    refine ⟨h1, ?_⟩
    rcases h2 with h2 | ⟨g, cap, cur, hv, hg, hh, r⟩
    · exact Or.inl h2
    · have hg2 : g < wr.heap.size := by
        rcases Nat.lt_or_ge g wr.heap.size with h3 | h3
        · exact h3
        · simp [Array.getElem?_eq_none h3] at hh
      exact Or.inr ⟨g, cap, cur, hv, hg, by rw [hc.block g hg2 (hS g hg2)]; exact hh, r⟩
theorem RunsAt.after {w W1 wr w' : World} {D : Nat} {v : Value} {m : List UInt8} (h : RunsAt w W1 wr D v m) (hb : Below wr.heap.size wr w') (hD : D < wr.heap.size) : RunsAt w W1 w' D v m :=
  h.chg (S := fun _ => False) (Chg.of_below hb fun k hk _ => hk) (fun _ _ h => h) hD h.below.size (fun _ _ _ h => h)

set_option maxHeartbeats 2000000 in
set_option maxRecDepth 20000 in
theorem runs_walk (v : Value) (l : List (List UInt8)) (w : World) (hv : Sl (RBytes w.heap.size) 1 w.heap.size w v l) (hsm : ∀ x ∈ l, x.length ≤ 140737488351232) :
    Calls Try.prog 4 #[v] w fun e w' => e = .returned (.bool true) ∧ Below w.heap.size w w' := by
  obtain ⟨a, bb, off, cap, rfl, hcap, hm, hn0, ha, hc⟩ := hv
  unfold maxLen at hm
  obtain ⟨N, hN⟩ : ∃ N, N = l.length := ⟨_, rfl⟩
  rw [← hN] at hcap ⊢
  have hcell : ∀ i (hi : i < l.length), ∃ u, a = some ⟨bb, off, none⟩ ∧ bb < w.heap.size ∧ w.cell? ⟨bb, off + i, none⟩ = some u ∧ SlByte w.heap.size w u l[i] := by
    intro i hi
    obtain ⟨h1, h2⟩ := ha (by omega)
    obtain ⟨u, h3, h4⟩ := hc i hi
    rw [Nat.mul_one] at h3
    exact ⟨u, h1, h2, h3, h4⟩
  have HCELL := Lib.hid hcell; have HN := Lib.hid hN; have HSM := Lib.hid hsm
  clear hcell hN hsm hn0 ha hc
  go_enter Try.func4, Try.ntmps4
  go_wp2_with fail
  refine (new_any w).mono ?_
  rintro e W1 ⟨D, rfl, hD, hdig, hb1⟩
  have HD := Lib.hid hD; have HDIG := Lib.hid hdig; have HB1 := Lib.hid hb1
  clear hD hdig hb1
  go_wp2_with fail
  go_loopw [4, 5] (fun n i wr => ∃ k : Nat, k ≤ l.length ∧ k ≤ 21 ∧ n = .int .i64 (lens l k) ∧ i = .int .i64 k ∧ wr = W1) (fun _ i _ => (21 - intOf i).toNat)
  case atStart => exact ⟨0, by omega, by omega, rfl, rfl, rfl⟩
  case round =>
    obtain ⟨k, hk1, hk2, rfl, rfl, rfl⟩ := hrel
    have hln := lens_le l 140737488351232 HSM.out k
    have hln2 : lens l k ≤ 2955487255375872 := by
      have : k * 140737488351232 ≤ 21 * 140737488351232 := Nat.mul_le_mul_right _ hk2
      omega
    clear hln
    by_cases hlt : k < l.length ∧ k < 21
    · obtain ⟨hlt1, hlt2⟩ := hlt
      obtain ⟨u, rfl, hbl, hu, hus⟩ := HCELL.out k hlt1
      have hu1 := (HB1.out.cell (p := ⟨bb, off + k, none⟩) (by exact hbl)).trans hu
      obtain ⟨au, cu, rfl, hul⟩ := hus.len
      have hx := HSM.out l[k] (List.getElem_mem hlt1)
      have hsucc := lens_succ l k hlt1
      generalize l[k].length = lk at *
      have hNk : k < N := by have := HN.out; omega
      have HS := Lib.hid hsucc; clear hsucc hu hus
      generalize lens l k = sk at *
      go_wp2_with fail
      go_roundw
      case rel => exact ⟨k + 1, by omega, by omega, by rw [HS.out]; go_num, by go_num, trivial⟩
      case measure => simp [intOf]; omega
    · have hNl := HN.out
      by_cases h20 : 20 < N
      · obtain rfl : k = 21 := by omega
        generalize lens l 21 = sk at *
        by_cases h21 : 21 < N
        all_goals
          have h20' : (20 : Int) < N := by omega
          clear hlt hNl
          go_wp2_with fail
          refine (awake_any _).mono ?_
          rintro e w2 ⟨rfl, hb2⟩
          have HB2 := Lib.hid hb2; clear hb2
          go_wp2_with fail
          go_ret
          exact ⟨rfl, Below.after HB1.out HB2.out HB1.out.size⟩
      · obtain rfl : k = l.length := by omega
        have h20' : ¬ (20 : Int) < N := by omega
        have hmono : ∀ k (hk : k < l.length), lens l k + l[k].length ≤ lens l N := by rw [HN.out]; exact lens_mono l
        clear hk1 hk2
        rw [← HN.out] at hln2 hlt ⊢
        have HM := Lib.hid hmono; clear hmono hNl
        by_cases hbig : 1000 < lens l N
        · generalize lens l N = sk at *
          have hbig' : (1000 : Int) < sk := by omega
          go_wp2_with fail
          refine (awake_any _).mono ?_
          rintro e w2 ⟨rfl, hb2⟩
          have HB2 := Lib.hid hb2; clear hb2
          go_wp2_with fail
          go_ret
          exact ⟨rfl, Below.after HB1.out HB2.out HB1.out.size⟩
        · have hbig' : ¬ (1000 : Int) < lens l N := by omega
          have HBIG := Lib.hid hbig
          have hNb : N ≤ 20 := by omega
          generalize lens l N = sk at *
          have hD0 := HDIG.out
          have hDlt : D < wr.heap.size := by obtain ⟨_, _, h⟩ := hD0; exact h.lt
          have hR0 : RunsAt w wr wr D (.slice none 0 0) (flatTo l 0) := ⟨HB1.out, hD0, ⟨rfl, .inl ⟨rfl, rfl⟩⟩, Nat.le_refl _⟩
          have HR0 := Lib.hid hR0; have HDL := Lib.hid hDlt
          clear hD0 hDlt hR0 hbig h20 hln2 hlt
          obtain ⟨ib, hib, hiz, his, hiby⟩ := Try.infoByteK
          have HIB := Lib.hid hib; have HIZ := Lib.hid hiz; have HIS := Lib.hid his; have HIBY := Lib.hid hiby; clear hib hiz his hiby
          go_wp2_with fail
          obtain ⟨W1, hW1⟩ : ∃ W1, W1 = wr := ⟨_, rfl⟩
          rw [← hW1] at HDIG HB1 HR0 HDL ⊢
          go_loopw [6, 7, 8] (fun v i _ wq => ∃ j : Nat, j ≤ l.length ∧ i = .int .i64 j ∧ RunsAt w W1 wq D v (flatTo l j)) (fun _ i _ _ => ((N : Int) - intOf i).toNat)
          case atStart => exact ⟨0, by omega, rfl, HR0.out⟩
          case round =>
            obtain ⟨j, hj, rfl, hR⟩ := hrel
            by_cases hlt : j < l.length
            · have hNj : j < N := by have := HN.out; omega
              obtain ⟨u, rfl, hbl, hu, hus⟩ := HCELL.out j hlt
              have hu1 := (hR.below.cell (p := ⟨bb, off + j, none⟩) (by exact hbl)).trans hu
              have hls : l[j].length ≤ 1000 := by have := HM.out j hlt; have := HBIG.out; omega
              have hfl : (flatTo l j).length ≤ 1000 := by rw [flatTo_length]; have := HM.out j hlt; have := HBIG.out; omega
              have hfl2 : (flatTo l j).length + l[j].length ≤ 1000 := by rw [flatTo_length]; have := HM.out j hlt; have := HBIG.out; omega
              have hsucc := flatTo_succ l j hlt
              obtain ⟨x, hx⟩ : ∃ x, x = l[j] := ⟨_, rfl⟩
              rw [← hx] at hus hls hfl2 hsucc
              obtain ⟨m, hmm⟩ : ∃ m, m = flatTo l j := ⟨_, rfl⟩
              rw [← hmm] at hR hfl hfl2 hsucc
              have HR := Lib.hid hR; have HUS := Lib.hid hus; have HLS := Lib.hid hls; have HFL := Lib.hid hfl; have HFL2 := Lib.hid hfl2; have HSUCC := Lib.hid hsucc; have HBL := Lib.hid hbl; have HU := Lib.hid hu
              clear hx hmm hR hus hls hfl hfl2 hsucc hbl hu
              go_wp2_with fail
              refine (lent_any w.heap.size u x wr HR.out.below.size (SlByte.below HUS.out HR.out.below (Nat.le_refl _)) (by have := HLS.out; omega)).mono ?_
              rintro e w1 ⟨P, rfl, hP, hr1, hb1⟩
              have hDw : D < wr.heap.size := Nat.lt_of_lt_of_le HDL.out HR.out.hsz
              have hR1 := HR.out.after hb1 hDw
              have HR1 := Lib.hid hR1; have HP := Lib.hid hP; have HROW1 := Lib.hid hr1; have HDW := Lib.hid hDw; have HS1 := Lib.hid hb1.size
              clear hP hr1 hb1 hDw hR1 hu1
              obtain ⟨xl, hxl⟩ : ∃ xl, xl = x.length := ⟨_, rfl⟩
              rw [← hxl]
              have HXL := Lib.hid hxl; clear hxl
              go_wp2_with fail
              have hwr := write_any D (.slice (some ⟨P, 0, none⟩) x.length (x.length + 3)) m x w1 HR1.out.dig ((lent_sliceR HROW1.out (by have := HLS.out; omega)).imp fun b hb e => by have := HP.out; have := HDW.out; omega) (by have := HFL2.out; omega)
              rw [← HXL.out] at hwr
              refine (hwr).mono ?_
              clear hwr
              rintro e w2 ⟨rfl, hd2, hc2⟩
              have hPD : P ≠ D := by have := HP.out; have := HDW.out; omega
              have hb2 : Below w.heap.size w w2 := HR1.out.below.trans (hc2.below (fun k hk e => by have := HD.out; omega) HR1.out.below.size)
              have ho2 := owns_chg HR1.out.own hc2 (fun k hk e => by have := HDL.out; omega)
              have hr2 := hc2.row HROW1.out hPD
              have hu2 := (hb2.cell (p := ⟨bb, off + j, none⟩) (by exact HBL.out)).trans HU.out
              have hs2 : W1.heap.size ≤ w2.heap.size := Nat.le_trans HR1.out.hsz hc2.size
              have hk2 := kept_any w.heap.size P u x w2 hb2.size hr2 (SlByte.below HUS.out hb2 (Nat.le_refl _)) (by have := HLS.out; omega)
              rw [← HXL.out] at hk2
              have HD2 := Lib.hid hd2; have HB2 := Lib.hid hb2; have HO2 := Lib.hid ho2; have HR2 := Lib.hid hr2; have HS2 := Lib.hid hs2; have HK2 := Lib.hid hk2; have HPD := Lib.hid hPD
              clear hd2 hc2 hb2 ho2 hr2 hs2 hk2 hPD HR1 HROW1 HS1
              go_wp2_with fail
              refine (HK2.out).mono ?_
              clear HK2
              rintro e w3 ⟨rfl, hb3⟩
              have HB3 := Lib.hid hb3; clear hb3 hu2
              go_wp2_with fail
              have hr3 := HR2.out.of_block (HB3.out.block P HR2.out.lt)
              have hov := over_any P xl (x.length + 3) _ w3 hr3 (by have := HLS.out; omega) (by have := HXL.out; omega)
              rw [← HXL.out] at hov
              refine (hov).mono ?_
              clear hov hr3
              rintro e w4 ⟨rfl, hc4⟩
              have hb4 : Below w.heap.size w w4 := (Below.after HB2.out HB3.out HB2.out.size).trans (hc4.below (fun k hk e => by have := HP.out; have := HR.out.below.size; omega) (Nat.le_trans HB2.out.size HB3.out.size))
              have hd2lt : D < w2.heap.size := by obtain ⟨_, _, h⟩ := HD2.out; exact h.lt
              have hd4 : DigOf w4 D (m ++ x) := (HD2.out.chg (S := fun _ => False) (Chg.of_below HB3.out fun k hk _ => hk) (fun h => h)).chg hc4 (fun e => HPD.out e.symm)
              have ho4 := owns_apart (owns_below HO2.out HB3.out) hc4 HR.out.own HP.out
              have hu4 := (hb4.cell (p := ⟨bb, off + j, none⟩) (by exact HBL.out)).trans HU.out
              have hs4 : W1.heap.size ≤ w4.heap.size := Nat.le_trans HS2.out (Nat.le_trans HB3.out.size hc4.size)
              have HD4 := Lib.hid hd4; have HB4 := Lib.hid hb4; have HO4 := Lib.hid ho4; have HS4 := Lib.hid hs4
              clear hd4 hb4 ho4 hs4 hc4 hd2lt HD2 HB2 HO2 HR2 HS2 HB3
              go_wp2_with (first | (at_builtin; refine wpList_append_slice rfl _ _ 22 rfl W1.heap.size 5 ib (.int .u8 0) 1 1 Try.underlying22 HIB.out HIZ.out HIS.out HIBY.out rfl (by decide) _ m.length _ rfl HO4.out encByte x _ rfl (SlByte.below HUS.out HB4.out (Nat.le_refl _)) (fun _ => rfl) (fun _ _ _ h => h.enc) (oneCell_flat encByte encByte_one _) (by have := HFL2.out; unfold maxLen; omega) (by have := HFL2.out; omega) HS4.out ?_; intro v5 w5 hown5 hg5) | fail)
              have hR5 : RunsAt w W1 w5 D v5 (m ++ x) := by
                have hsz5 := hg5.size
                refine ⟨HB4.out.grown hg5 (by have := HB4.out.size; omega) (fun k hk => ?_), ?_, by rw [List.length_append, List.flatMap_append]; exact hown5, Nat.le_trans HS4.out hsz5⟩
                · have := (HO4.out.lt k hk).1; have := HB1.out.size; omega
                · refine HD4.out.chg (S := fun k => W1.heap.size ≤ k) ⟨hg5.os, hg5.tape, hg5.output, hg5.size, fun k hk hS => hg5.block k hk (fun e => ?_)⟩ (by have := HDL.out; omega)
                  exact hS ((HO4.out.lt k e.symm).1)
              have hm1 : (m ++ x).length ≤ 1000 := by have := HFL2.out; simp; omega
              have hq := fun wx => neq32R (sumM (m ++ x)) (sumM_length _) wx
              have hg := fun (x y : Operand) (o : Array Value) (wx : World) => run_eqGuard_agg (P := Try.prog) wx .neq 25 x y o o (by kernel_rfl)
              obtain ⟨av5, cv5, hav5⟩ : ∃ a c, v5 = .slice a (m ++ x).length c := by
                rcases hR5.own.2 with ⟨h1, h2⟩ | ⟨g, c, cur, h1, _⟩
                · exact ⟨none, 0, by rw [h1, h2]⟩
                · exact ⟨_, c, h1⟩
              obtain ⟨m2, hm2⟩ : ∃ m2, m2 = m ++ x := ⟨_, rfl⟩
              rw [← hm2] at hR5 hm1 hq hav5
              subst hav5
              obtain ⟨o1, hV1⟩ : ∃ o1, aggB (sumM m2) = .agg o1 := ⟨_, rfl⟩
              rw [hV1] at hq
              have HR5 := Lib.hid hR5; have HM1 := Lib.hid hm1; have HM2 := Lib.hid hm2; have HV1 := Lib.hid hV1
              clear hR5 hm1 hm2 hV1 hown5 hg5 hu4
              have hm2b : m2.length ≤ 1000 := HM1.out
              go_wp2_with fail
              have hDw5 : D < w5.heap.size := Nat.lt_of_lt_of_le HDL.out HR5.out.hsz
              have HDW5 := Lib.hid hDw5; clear hDw5
              refine (sumD_any D m2 w5 HR5.out.dig (by omega)).mono ?_
              rintro e w6 ⟨rfl, hb6⟩
              rw [HV1.out]
              have HR6 := Lib.hid (HR5.out.after hb6 HDW5.out)
              have HDW6 := Lib.hid (Nat.lt_of_lt_of_le HDW5.out hb6.size)
              clear hb6
              go_wp2_with fail
              refine (sumR_any w6.heap.size _ m2 w6 (Nat.le_refl _) (SlByte.of_owns HR6.out.own rfl) (by omega)).mono ?_
              rintro e w7 ⟨rfl, hb7⟩
              rw [HV1.out]
              have HR7 := Lib.hid (HR6.out.after hb7 HDW6.out)
              have HDW7 := Lib.hid (Nat.lt_of_lt_of_le HDW6.out hb7.size)
              clear hb7
              go_wp2_with fail
              refine (sumD_any D m2 w7 HR7.out.dig (by omega)).mono ?_
              rintro e w8 ⟨rfl, hb8⟩
              rw [HV1.out]
              have HR8 := Lib.hid (HR7.out.after hb8 HDW7.out)
              have HDW8 := Lib.hid (Nat.lt_of_lt_of_le HDW7.out hb8.size)
              clear hb8
              go_wp2_with fail
              refine (sumD_any D m2 w8 HR8.out.dig (by omega)).mono ?_
              rintro e w9 ⟨rfl, hb9⟩
              rw [HV1.out]
              have HR9 := Lib.hid (HR8.out.after hb9 HDW8.out)
              clear hb9
              go_wp2_with fail
              refine (len_any w9 D m2 HR9.out.dig (by omega)).mono ?_
              rintro e w' ⟨rfl, rfl⟩
              go_wp2_with fail
              go_roundw
              case rel => exact ⟨j + 1, by omega, by go_num, by rw [HSUCC.out, ← HM2.out]; exact HR9.out⟩
              case measure => simp [intOf]; omega
            · obtain rfl : j = l.length := by omega
              have hNj : ¬ ((l.length : Nat) : Int) < N := by have := HN.out; omega
              have HR := Lib.hid hR.below; clear hR
              go_wp2_with fail
              refine (awake_any _).mono ?_
              rintro e w2 ⟨rfl, hb2⟩
              have HB2 := Lib.hid hb2; clear hb2
              go_wp2_with fail
              go_ret
              exact ⟨rfl, Below.after HR.out HB2.out HR.out.size⟩

set_option maxRecDepth 100000 in
theorem digestRuns_contract (H : Type) (enc : TypeId × Value → H) (W : World) (base : Nat) (args : Array Value) (ds gs : List (DataW H)) (before : List MemPlace)
    (hval : ∀ (j : Nat) t v, Try.f4.params[j]? = some t → args[j]? = some v → Value.okWide Try.prog W .any base t v)
    (hW : DataW.Whole enc Try.prog Try.f4.params.toList Rows.digestRunsSpec.vars false W args.toList ds gs before) (hsz : (DataW.weightsEach Try.prog (Try.f4.params.toList ++ Rows.digestRunsSpec.plain.varTypes Try.prog) (ds ++ gs)).all (· ≤ reachBytes) = true) :
    Calls Try.prog 4 args W fun e W' => ∃ v, e = .returned v ∧ Rows.digestRunsSpec.post enc Try.prog Try.f4 false true false false W args v W' := by
  have hlt := hW.lt
  obtain ⟨p, q, hA, hV, hpq, _, _⟩ := id hW
  obtain ⟨rfl, rfl⟩ := trodVars_none hV
  rw [Try.params4] at hA hval
  obtain ⟨v0, vs0, d0, ds0, p0, q0, hargs, rfl, rfl, h0, r0⟩ := trodAll_cons hA
  obtain ⟨rfl, rfl, rfl⟩ := ChangeShapes.trodAll_nil r0
  obtain rfl : args = #[v0] := by cases args; simp_all
  obtain ⟨l0, hl0, hs0⟩ := open_listsv (j := 0) (hval 0 _ _ rfl rfl) h0 hsz (by kernel_rfl) rfl
  refine (runs_walk v0 l0 W hl0 hs0).mono fun e W' ⟨he, hb⟩ => ?_
  subst he
  exact ⟨_, rfl, law_post hW (by rw [Try.params4]; intro t ht; simp at ht; first | (rcases ht with rfl <;> exact ⟨by kernel_rfl, of_decide_eq_true (by kernel_rfl)⟩) | exact ht.elim) rfl rfl rfl rfl rfl hb⟩

set_option maxRecDepth 100000 in
theorem digestRuns_lifted (os : Os) (started : os.Started) (H : Type) (enc : TypeId × Value → H) :
    ReturnsInHanded {} Try.checked os 4 .any (Rows.digestRunsSpec.pre6 enc Try.prog Try.f4 Rows.digestRunsRow.domain false) (Rows.digestRunsSpec.post enc Try.prog Try.f4 false true false false) := by
  refine returnsInHanded_of_change_sized (C := Try.checked) Try.own started (by kernel_rfl) Try.func4
    (ChangeSpec.witness6 (enc := enc) (C := Try.checked) false ⟨#[], #[.slice none 0 0], []⟩ 8 (by kernel_rfl) (by kernel_rfl) (by kernel_rfl) (by kernel_rfl)) ?_
  intro W base args ds gs before hval0 hW _ hsz0 _
  exact digestRuns_contract H enc W base args ds gs before hval0 hW hsz0

theorem digestRuns_holds : Rows.DigestRunsSaid :=
  OpenClaim.holds_of_wide 4 Try.f4 rfl rfl rfl rfl rfl rfl rfl ⟨rfl, rfl, rfl, rfl, rfl⟩ rfl rfl rfl rfl rfl (by kernel_rfl) Try.func4 (by kernel_rfl)
    (of_decide_eq_true (by kernel_rfl)) (by unfold Func.isWrapper; first | (rw [if_pos (by decide +kernel)]; kernel_rfl) | (rw [if_neg (by decide +kernel)]; exact ⟨rfl, rfl⟩))
    (fun os started H enc _ => digestRuns_lifted os started H enc)
end Go.Proofs.Ytcgknadodpdblaa
