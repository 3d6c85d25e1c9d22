/- DigestSums: which digest, and which ID, bytes have; what is handed in stays. Conditions: none. -/
import Derived.Test.YtcgknadodpdblaaDigL
import Derived.Test.YtcgknadodpdblaaOpenB
import Derived.Laws.StructEq
set_option linter.unusedVariables false
set_option linter.unusedSimpArgs false
namespace Go.Proofs.Ytcgknadodpdblaa
open Go.RowKit Go.Maps Go.ChangeShapes Go.WideShapes Go.ChangeAt

theorem cells_eq (l : List UInt8) : l.flatMap encByte = l.map Extern.Stop.cell := by
  induction l with
  | nil => rfl
  | cons a l ih => rw [List.flatMap_cons, List.map_cons, ih]; rfl
theorem eql32 (l : List UInt8) (hl : l.length = 32) (w : World) : (binOp .eql 25 (aggB l) (aggB l)).run Try.prog w = .ok (.bool true) w := by
  have := run_eql_bytes w 25 5 32 Try.underlying25 Try.underlying5 sizeByteK l l hl hl
  rw [show (l == l) = true by simp] at this
  unfold aggB
  rw [cells_eq]
  exact this
theorem eql16 (l : List UInt8) (hl : l.length = 16) (w : World) : (binOp .eql 28 (aggB l) (aggB l)).run Try.prog w = .ok (.bool true) w := by
  have := run_eql_bytes w 28 5 16 Try.underlying28 Try.underlying5 sizeByteK l l hl hl
  rw [show (l == l) = true by simp] at this
  unfold aggB
  rw [cells_eq]
  exact this
theorem lent_slice {w : World} {P : Nat} {b : List UInt8} (h : w.rowIs P 5 (b.length + 3) (rowB (lentM b))) (hl : b.length ≤ 1000000) : SlP RByte 1 (· = P) w (.slice (some ⟨P, 0, none⟩) b.length (b.length + 3)) b :=
  rowB_slice h (by unfold maxLen; omega) (by omega) fun i hi => by
    unfold lentM
    rw [List.getElem?_append_left hi, List.getElem?_eq_getElem hi]

set_option maxHeartbeats 1000000 in
set_option maxRecDepth 20000 in
theorem sums_walk (B : Nat) (v : Value) (l : List UInt8) (w : World) (hB : B ≤ w.heap.size) (hv : SlByte B w v l) :
    Calls Try.prog 3 #[v] w fun e w' => e = .returned (.bool true) ∧ Below w.heap.size w w' := by
  have HV := Lib.hid hv
  obtain ⟨a, cap, rfl, hlb⟩ := hv.len
  clear hv
  obtain ⟨n, hn⟩ : ∃ n, n = l.length := ⟨_, rfl⟩
  have hv2 : SlByte B w (.slice a n cap) l := by rw [hn]; exact HV.out
  rw [← hn] at hlb ⊢
  have HN := Lib.hid hn; have HV := Lib.hid hv2
  clear hn hv2
  by_cases hbig : 2000 < n
  · go_enter Try.func3, Try.ntmps3
    go_wp2_with fail
    refine (awake_any _).mono ?_
    rintro e w1 ⟨rfl, hb1⟩
    have HB1 := Lib.hid hb1; clear hb1
    go_wp2_with fail
    go_ret
    exact ⟨rfl, HB1.out⟩
  · have hsm : l.length ≤ 1000000 := by have := HN.out; omega
    have HSM := Lib.hid hsm; clear hsm
    go_enter Try.func3, Try.ntmps3
    go_wp2_with fail
    refine (lent_any B _ l w hB HV.out (by have := HSM.out; omega)).mono ?_
    rintro e w1 ⟨P, rfl, hP, hr1, hb1⟩
    rw [← HN.out]
    have HR1 := Lib.hid hr1; have HB1 := Lib.hid hb1
    clear hP hr1 hb1
    go_wp2_with fail
    have hs1 : SlByte w1.heap.size w1 (.slice (some ⟨P, 0, none⟩) n (n + 3)) l := by
      rw [HN.out]; exact (lent_slice HR1.out HSM.out).to fun x hx => by rw [hx]; exact HR1.out.lt
    refine (sum_any w1.heap.size _ l w1 (Nat.le_refl _) hs1 HSM.out).mono ?_
    rintro e w2 ⟨rfl, hb2⟩
    have HS1 := Lib.hid hs1; have HB2 := Lib.hid hb2
    clear hs1 hb2
    have hq1 := fun wx => eql32 (sumM l) (sumM_length l) wx
    have hq2 := fun wx => eql16 ((sumM l).take 16) (by rw [List.length_take, sumM_length]; rfl) wx
    have hg1 := fun (x y : Operand) (o : Array Value) (wx : World) => run_eqGuard_agg (P := Try.prog) wx .eql 25 x y o o (by kernel_rfl)
    have hg2 := fun (x y : Operand) (o : Array Value) (wx : World) => run_eqGuard_agg (P := Try.prog) wx .eql 28 x y o o (by kernel_rfl)
    obtain ⟨o1, hV1⟩ : ∃ o1, aggB (sumM l) = .agg o1 := ⟨_, rfl⟩
    obtain ⟨o2, hV2⟩ : ∃ o2, aggB ((sumM l).take 16) = .agg o2 := ⟨_, rfl⟩
    rw [hV1] at hq1 ⊢
    rw [hV2] at hq2
    have HV1 := Lib.hid hV1; have HV2 := Lib.hid hV2; clear hV1 hV2
    go_wp2_with fail
    have HBA2 := Lib.hid (Below.after HB1.out HB2.out HB1.out.size)
    refine (sumR_any B _ l w2 (Nat.le_trans hB HBA2.out.size) (SlByte.below HV.out (HBA2.out.mono hB) (Nat.le_refl _)) HSM.out).mono ?_
    rintro e w3 ⟨rfl, hb3⟩
    rw [HV1.out]
    have HB3 := Lib.hid (Below.after HB2.out hb3 HB2.out.size)
    have HBA3 := Lib.hid (Below.after HBA2.out hb3 HBA2.out.size)
    clear hb3
    go_wp2_with fail
    refine (id_any w3.heap.size _ l w3 (Nat.le_refl _) (SlByte.below HS1.out HB3.out HB3.out.size) HSM.out).mono ?_
    rintro e w4 ⟨rfl, hb4⟩
    rw [HV2.out]
    have HB4 := Lib.hid (Below.after HB3.out hb4 HB3.out.size)
    have HBA4 := Lib.hid (Below.after HBA3.out hb4 HBA3.out.size)
    clear hb4
    go_wp2_with fail
    refine (idR_any B _ l w4 (Nat.le_trans hB HBA4.out.size) (SlByte.below HV.out (HBA4.out.mono hB) (Nat.le_refl _)) HSM.out).mono ?_
    rintro e w5 ⟨rfl, hb5⟩
    rw [HV2.out]
    have HB5 := Lib.hid (Below.after HB4.out hb5 HB4.out.size)
    have HBA5 := Lib.hid (Below.after HBA4.out hb5 HBA4.out.size)
    clear hb5
    have hr5 := HR1.out.of_block (HB5.out.block P HR1.out.lt)
    have hk := kept_any B P (.slice a n cap) l w5 (Nat.le_trans hB HBA5.out.size) hr5 (SlByte.below HV.out (HBA5.out.mono hB) (Nat.le_refl _)) (by have := HSM.out; omega)
    rw [← HN.out] at hk
    have HK := Lib.hid hk
    clear hr5 hk
    go_wp2_with fail
    refine (HK.out).mono ?_
    rintro e w6 ⟨rfl, hb6⟩
    have HBA6 := Lib.hid (Below.after HBA5.out hb6 HBA5.out.size)
    clear hb6
    go_wp2_with fail
    refine (awake_any _).mono ?_
    rintro e w7 ⟨rfl, hb7⟩
    have HBA7 := Lib.hid (Below.after HBA6.out hb7 HBA6.out.size)
    clear hb7
    go_wp2_with fail
    go_ret
    exact ⟨rfl, HBA7.out⟩

set_option maxRecDepth 100000 in
theorem digestSums_contract (H : Type) (enc : TypeId × Value → H) (W : World) (base : Nat) (args : Array Value) (ds gs : List (DataW H)) (before : List MemPlace)
    (hval : ∀ (j : Nat) t v, Try.f3.params[j]? = some t → args[j]? = some v → Value.okWide Try.prog W .any base t v)
    (hW : DataW.Whole enc Try.prog Try.f3.params.toList Rows.digestSumsSpec.vars false W args.toList ds gs before) :
    Calls Try.prog 3 args W fun e W' => ∃ v, e = .returned v ∧ Rows.digestSumsSpec.post enc Try.prog Try.f3 false true false false W args v W' := by
  have hlt := hW.lt
  obtain ⟨p, q, hA, hV, hpq, _, _⟩ := id hW
  obtain ⟨rfl, rfl⟩ := trodVars_none hV
  rw [Try.params3] at hA hval
  obtain ⟨v0, vs0, d0, ds0, p0, q0, hargs, rfl, rfl, h0, r0⟩ := trodAll_cons hA
  obtain ⟨rfl, rfl, rfl⟩ := ChangeShapes.trodAll_nil r0
  obtain rfl : args = #[v0] := by cases args; simp_all
  obtain ⟨l0, hl0, hn0⟩ := open_bytesv (hval 0 _ _ rfl rfl) h0
  refine (sums_walk W.heap.size v0 l0 W (Nat.le_refl _) hl0).mono fun e W' ⟨he, hb⟩ => ?_
  subst he
  exact ⟨_, rfl, law_post hW (by rw [Try.params3]; intro t ht; simp at ht; first | (rcases ht with rfl <;> exact ⟨by kernel_rfl, of_decide_eq_true (by kernel_rfl)⟩) | exact ht.elim) rfl rfl rfl rfl rfl hb⟩

set_option maxRecDepth 100000 in
theorem digestSums_lifted (os : Os) (started : os.Started) (H : Type) (enc : TypeId × Value → H) :
    ReturnsInHanded {} Try.checked os 3 .any (Rows.digestSumsSpec.pre6 enc Try.prog Try.f3 Rows.digestSumsRow.domain false) (Rows.digestSumsSpec.post enc Try.prog Try.f3 false true false false) := by
  refine returnsInHanded_of_change_sized (C := Try.checked) Try.own started (by kernel_rfl) Try.func3
    (ChangeSpec.witness6 (enc := enc) (C := Try.checked) false ⟨#[], #[.slice none 0 0], []⟩ 8 (by kernel_rfl) (by kernel_rfl) (by kernel_rfl) (by kernel_rfl)) ?_
  intro W base args ds gs before hval0 hW _ hsz0 _
  exact digestSums_contract H enc W base args ds gs before hval0 hW

theorem digestSums_holds : Rows.DigestSumsSaid :=
  OpenClaim.holds_of_wide 3 Try.f3 rfl rfl rfl rfl rfl rfl rfl ⟨rfl, rfl, rfl, rfl, rfl⟩ rfl rfl rfl rfl rfl (by kernel_rfl) Try.func3 (by kernel_rfl)
    (of_decide_eq_true (by kernel_rfl)) (by unfold Func.isWrapper; first | (rw [if_pos (by decide +kernel)]; kernel_rfl) | (rw [if_neg (by decide +kernel)]; exact ⟨rfl, rfl⟩))
    (fun os started H enc _ => digestSums_lifted os started H enc)
end Go.Proofs.Ytcgknadodpdblaa
