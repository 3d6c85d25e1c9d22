/- DigestNone: a running digest that is none, or that New did not make, tells noughts. Conditions: none. -/
import Derived.Test.YtcgknadodpdblaaDigNil
import Derived.Test.YtcgknadodpdblaaOpenB
set_option linter.unusedVariables false
set_option linter.unusedSimpArgs false
namespace Go.Proofs.Ytcgknadodpdblaa
open Go.RowKit Go.Maps Go.ChangeShapes Go.WideShapes Go.ChangeAt

theorem cells_eqN (l : List UInt8) : l.flatMap encByte = l.map Extern.Stop.cell := by
  induction l with
  | nil => rfl
  | cons a l ih => rw [List.flatMap_cons, List.map_cons, ih]; rfl
theorem neq32 (l : List UInt8) (hl : l.length = 32) (w : World) : (binOp .neq 25 (aggB l) (aggB l)).run Try.prog w = .ok (.bool false) w := by
  unfold aggB
  rw [cells_eqN, run_neq_struct, run_equalIn_bytes w 9998 25 5 32 Try.underlying25 Try.underlying5 sizeByteK l l hl hl]
  simp [Result.andThen]
/-- the two digests in memory -/
structure NoneAt (w wr : World) (L D : Nat) : Prop where
  below : Below w.heap.size w wr
  hL : w.heap.size ≤ L
  c0 : wr.cell? ⟨L, 0, none⟩ = some (.pointer none)
  c1 : wr.cell? ⟨L, 1, none⟩ = some (.pointer (some ⟨D, 0, none⟩))
  dig : wr.rowIs D 44 74 zeroDigF
theorem NoneAt.after {w wr w' : World} {L D : Nat} (h : NoneAt w wr L D) (hb : Below wr.heap.size wr w') : NoneAt w w' L D :=
  ⟨Below.after h.below hb h.below.size, h.hL, (hb.cell (by exact cell_lt h.c0)).trans h.c0, (hb.cell (by exact cell_lt h.c1)).trans h.c1, h.dig.of_block (hb.block D h.dig.lt)⟩

set_option maxHeartbeats 1000000 in
set_option maxRecDepth 20000 in
theorem none_walk (v : Value) (l : List UInt8) (w : World) (hv : SlByte w.heap.size w v l) :
    Calls Try.prog 5 #[v] w fun e w' => e = .returned (.bool true) ∧ Below w.heap.size w w' := by
  obtain ⟨a, cap, rfl, hlb⟩ := hv.len
  clear hv
  generalize l.length = n at *
  by_cases hbig : 100 < n
  · have hbig' : (100 : Int) < n := by omega
    go_enter Try.func5, Try.ntmps5
    go_wp2_with fail
    refine (awake_any _).mono ?_
    rintro e w1 ⟨rfl, hb1⟩
    have HB1 := Lib.hid hb1; clear hb1
    go_wp2_with fail
    go_ret
    exact ⟨rfl, HB1.out⟩
  · have hbig' : ¬ (100 : Int) < n := by omega
    go_enter Try.func5, Try.ntmps5
    obtain ⟨cs, hc⟩ : ∃ cs, cs = rowArr 74 zeroDigF := ⟨_, rfl⟩
    have HC := Lib.hid hc; clear hc
    go_upto_region 5 with (first | (refine wpList_build_at cs rfl 44 _ rfl (by rw [HC.out]; kernel_rfl) ?_) | fail)
    generalize hW1 : World.alloc (World.alloc w _) _ = W1
    have hN : NoneAt w W1 (w.heap.size + 1) w.heap.size := by
      subst hW1
      refine ⟨((Below.refl _ _).alloc (Nat.le_refl _) _).alloc (by simp) _, by omega, by rw [cell_of_row _ _ _ _ _ (0, 0) (heap_alloc2_new _ _ _)]; rfl, by rw [cell_of_row _ _ _ _ _ (0, 0) (heap_alloc2_new _ _ _)]; rfl, ?_⟩
      have := (heap_alloc2_old w (.cells cs 44) (.cells #[.pointer none, .pointer (some ⟨w.heap.size, 0, none⟩)] 33))
      rw [HC.out] at this ⊢
      exact ⟨_, this, by simp [rowArr], fun i hi => by simp [rowArr, hi]⟩
    have HN := Lib.hid hN
    clear hW1 hN
    have hq := fun wx => neq32 zeros32 rfl wx
    have hg := fun (x y : Operand) (o : Array Value) (wx : World) => run_eqGuard_agg (P := Try.prog) wx .neq 25 x y o o (by kernel_rfl)
    go_wp2_with fail
    go_loopw [5] (fun i wr => ∃ k : Nat, k ≤ 2 ∧ i = .int .i64 k ∧ NoneAt w wr (w.heap.size + 1) w.heap.size) (fun i _ => (2 - intOf i).toNat)
    case atStart => exact ⟨0, by omega, rfl, HN.out⟩
    case round =>
      obtain ⟨k, hk, rfl, hE⟩ := hrel
      by_cases hlt : k < 2
      · obtain ⟨u, hu1, hu2⟩ : ∃ u, wr.cell? ⟨w.heap.size + 1, k, none⟩ = some u ∧ NoDig wr u := by
          have : k = 0 ∨ k = 1 := by omega
          rcases this with rfl | rfl
          · exact ⟨_, hE.c0, .inl rfl⟩
          · exact ⟨_, hE.c1, .inr ⟨_, rfl, hE.dig⟩⟩
        have HE := Lib.hid hE; have HU := Lib.hid hu2; have HC1 := Lib.hid hu1; clear hE hu2
        go_wp2_with fail
        refine (writeN_any u _ wr HU.out).mono ?_
        rintro e w' ⟨rfl, rfl⟩
        go_wp2_with fail
        refine (sumN_any u wr HU.out).mono ?_
        rintro e w2 ⟨rfl, hb2⟩
        have hu3 : w2.cell? ⟨w.heap.size + 1, k, none⟩ = some u := (hb2.cell (by exact cell_lt HC1.out)).trans HC1.out
        have HU2 := Lib.hid (HU.out.of hb2); have HE2 := Lib.hid (HE.out.after hb2)
        clear hb2 hu1
        unfold aggB at hq ⊢
        rw [zeros32_arr] at hq ⊢
        go_wp2_with fail
        refine (lenN_any u w2 HU2.out).mono ?_
        rintro e w' ⟨rfl, rfl⟩
        go_wp2_with fail
        go_roundw
        case rel => exact ⟨k + 1, by omega, by go_num, HE2.out⟩
        case measure => simp [intOf]; omega
      · obtain rfl : k = 2 := by omega
        have HE := Lib.hid hE; clear hE
        go_wp2_with fail
        refine (awake_any _).mono ?_
        rintro e w2 ⟨rfl, hb2⟩
        have HB2 := Lib.hid (HE.out.after hb2); clear hb2
        go_wp2_with fail
        go_ret
        exact ⟨rfl, HB2.out.below⟩

set_option maxRecDepth 100000 in
theorem digestNone_contract (H : Type) (enc : TypeId × Value → H) (W : World) (base : Nat) (args : Array Value) (ds gs : List (DataW H)) (before : List MemPlace)
    (hval : ∀ (j : Nat) t v, Try.f5.params[j]? = some t → args[j]? = some v → Value.okWide Try.prog W .any base t v)
    (hW : DataW.Whole enc Try.prog Try.f5.params.toList Rows.digestNoneSpec.vars false W args.toList ds gs before) :
    Calls Try.prog 5 args W fun e W' => ∃ v, e = .returned v ∧ Rows.digestNoneSpec.post enc Try.prog Try.f5 false true false false W args v W' := by
  have hlt := hW.lt
  obtain ⟨p, q, hA, hV, hpq, _, _⟩ := id hW
  obtain ⟨rfl, rfl⟩ := trodVars_none hV
  rw [Try.params5] at hA hval
  obtain ⟨v0, vs0, d0, ds0, p0, q0, hargs, rfl, rfl, h0, r0⟩ := trodAll_cons hA
  obtain ⟨rfl, rfl, rfl⟩ := ChangeShapes.trodAll_nil r0
  obtain rfl : args = #[v0] := by cases args; simp_all
  obtain ⟨l0, hl0, hn0⟩ := open_bytesv (hval 0 _ _ rfl rfl) h0
  refine (none_walk v0 l0 W hl0).mono fun e W' ⟨he, hb⟩ => ?_
  subst he
  exact ⟨_, rfl, law_post hW (by rw [Try.params5]; intro t ht; simp at ht; first | (rcases ht with rfl <;> exact ⟨by kernel_rfl, of_decide_eq_true (by kernel_rfl)⟩) | exact ht.elim) rfl rfl rfl rfl rfl hb⟩

set_option maxRecDepth 100000 in
theorem digestNone_lifted (os : Os) (started : os.Started) (H : Type) (enc : TypeId × Value → H) :
    ReturnsInHanded {} Try.checked os 5 .any (Rows.digestNoneSpec.pre6 enc Try.prog Try.f5 Rows.digestNoneRow.domain false) (Rows.digestNoneSpec.post enc Try.prog Try.f5 false true false false) := by
  refine returnsInHanded_of_change_sized (C := Try.checked) Try.own started (by kernel_rfl) Try.func5
    (ChangeSpec.witness6 (enc := enc) (C := Try.checked) false ⟨#[], #[.slice none 0 0], []⟩ 8 (by kernel_rfl) (by kernel_rfl) (by kernel_rfl) (by kernel_rfl)) ?_
  intro W base args ds gs before hval0 hW _ hsz0 _
  exact digestNone_contract H enc W base args ds gs before hval0 hW

theorem digestNone_holds : Rows.DigestNoneSaid :=
  OpenClaim.holds_of_wide 5 Try.f5 rfl rfl rfl rfl rfl rfl rfl ⟨rfl, rfl, rfl, rfl, rfl⟩ rfl rfl rfl rfl rfl (by kernel_rfl) Try.func5 (by kernel_rfl)
    (of_decide_eq_true (by kernel_rfl)) (by unfold Func.isWrapper; first | (rw [if_pos (by decide +kernel)]; kernel_rfl) | (rw [if_neg (by decide +kernel)]; exact ⟨rfl, rfl⟩))
    (fun os started H enc _ => digestNone_lifted os started H enc)
end Go.Proofs.Ytcgknadodpdblaa
