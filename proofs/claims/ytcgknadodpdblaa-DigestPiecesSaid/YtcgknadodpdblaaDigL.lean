/- Contracts of layer 3: the reference's name of bytes; the chapter's examples. Conditions: the slice lies in memory. -/
import Derived.Test.YtcgknadodpdblaaDigR
import Derived.Test.YtcgknadodpdblaaKit
import Derived.Stop.BytesEq
set_option linter.unusedVariables false
set_option linter.unusedSimpArgs false
namespace Go.Proofs.Ytcgknadodpdblaa
open Go.RowKit

/-- four bytes as a value -/
def agg4 (a b c d : UInt8) : Value := .agg #[.int .u8 (a.toNat : Int), .int .u8 (b.toNat : Int), .int .u8 (c.toNat : Int), .int .u8 (d.toNat : Int)]
theorem eql4 (a b c d : UInt8) (w : World) : (binOp .eql 54 (agg4 a b c d) (agg4 a b c d)).run Try.prog w = .ok (.bool true) w := by
  have := run_eql_bytes w 54 5 4 Try.underlying54 Try.underlying5 sizeByteK [a, b, c, d] [a, b, c, d] rfl rfl
  rw [show ([a, b, c, d] == [a, b, c, d]) = true by simp] at this
  exact this
theorem sum_cell {W : World} {g : Nat} {ob : Array Value} {T : TypeId} {l : List UInt8} (h : W.heap[g]? = some (.cells ob T (0, 0))) (ho : ob = (l.flatMap encByte).toArray) (i : Nat) (x : UInt8) (hx : l[i]? = some x) : W.cell? ⟨g, i, none⟩ = some (.int .u8 (x.toNat : Int)) := by
  have hi : i < l.length := (List.getElem?_eq_some_iff.1 hx).1
  have e := flatMap_get encByte 1 (fun _ => rfl) l i 0 hi (by omega)
  rw [Nat.mul_one, Nat.add_zero] at e
  rw [cell_of_row W g i ob T (0, 0) h, ho, List.getElem?_toArray, e]
  rw [List.getElem?_eq_getElem hi] at hx
  injection hx with hx
  rw [hx]
  rfl
set_option maxHeartbeats 1000000 in
set_option maxRecDepth 20000 in
theorem sums_any (l : List UInt8) (a b c d p q r t : UInt8) (w : World) (hl : l.length ≤ 1000000)
    (h0 : (sumM l)[0]? = some a) (h1 : (sumM l)[1]? = some b) (h2 : (sumM l)[2]? = some c) (h3 : (sumM l)[3]? = some d)
    (k0 : (sumM l)[28]? = some p) (k1 : (sumM l)[29]? = some q) (k2 : (sumM l)[30]? = some r) (k3 : (sumM l)[31]? = some t) :
    Calls Try.prog 26 #[.string (strB l), agg4 a b c d, agg4 p q r t] w fun e w' => e = .returned (.bool true) ∧ Below w.heap.size w w' := by
  have HL := Lib.hid hl; clear hl
  have HS := Lib.hid (And.intro h0 (And.intro h1 (And.intro h2 (And.intro h3 (And.intro k0 (And.intro k1 (And.intro k2 k3)))))))
  clear h0 h1 h2 h3 k0 k1 k2 k3
  have e1 := fun wx => eql4 a b c d wx
  have e2 := fun wx => eql4 p q r t wx
  unfold agg4 at e1 e2 ⊢
  have E1 := Lib.hid e1; have E2 := Lib.hid e2; clear e1 e2
  go_enter Try.func26, Try.ntmps26
  obtain ⟨s, hs⟩ : ∃ s, s = strB l := ⟨_, rfl⟩
  rw [← hs]
  go_upto_region 1 with fail
  generalize hW : World.alloc (World.alloc w _) _ = W1
  have hb1 : Below w.heap.size w W1 := by subst hW; exact ((Below.refl _ _).alloc (Nat.le_refl _) _).alloc (by simp) _
  have g4 : W1.heap[w.heap.size]? = some (.cells #[.int .u8 (a.toNat : Int), .int .u8 (b.toNat : Int), .int .u8 (c.toNat : Int), .int .u8 (d.toNat : Int)] 54 (0, 0)) := by
    subst hW; exact heap_alloc2_old _ _ _
  have g5 : W1.heap[w.heap.size + 1]? = some (.cells #[.int .u8 (p.toNat : Int), .int .u8 (q.toNat : Int), .int .u8 (r.toNat : Int), .int .u8 (t.toNat : Int)] 54 (0, 0)) := by
    subst hW; exact heap_alloc2_new _ _ _
  have hz : W1.heap.size = w.heap.size + 2 := by subst hW; simp
  clear hW
  obtain ⟨v, w1, hconv, hv, hbv⟩ := run_bytes_of l (by have := HL.out; unfold maxLen; omega) W1
  rw [← hs] at hconv
  have HG := Lib.hid (And.intro g4 (And.intro g5 hz)); have HB1 := Lib.hid hb1; have HV := Lib.hid hv; have HBV := Lib.hid hbv; have HSS := Lib.hid hs
  clear g4 g5 hz hb1 hv hbv hs
  go_wp2_with fail
  clear hconv
  refine (sum_any w1.heap.size v l w1 (Nat.le_refl _) HV.out HL.out).mono ?_
  rintro e w2 ⟨rfl, hb2⟩
  have HB2 := Lib.hid hb2; clear hb2
  obtain ⟨ob, hob⟩ : ∃ ob, ob = ((sumM l).flatMap encByte).toArray := ⟨_, rfl⟩
  unfold aggB
  rw [← hob]
  have hoa := bytesArr (sumM l)
  rw [← hob, sumM_length] at hoa
  have HOB := Lib.hid hob; have HOA := Lib.hid hoa
  clear hob hoa
  have h25 : (Try.prog.info? 25).map (·.size) = some 32 := by kernel_rfl
  go_upto_region 2 with (first | (refine wpList_store_row rfl 25 _ _ rfl w2.heap.size ob rfl rfl 25 _ (heap_alloc_new _ _) (by rw [h25, HOA.out.1]) (by rw [HOA.out.1]; rfl) HOA.out.2 ?_) | fail)
  generalize hW3 : World.setRow (World.alloc w2 _) _ _ = W3
  have g3 : W3.heap[w2.heap.size]? = some (.cells ob 25 (0, 0)) := by subst hW3; exact setRow_heap _ _ _ _ _ (0, 0) (heap_alloc_new _ _)
  have hb3 : Below w2.heap.size w2 W3 := by subst hW3; exact below_setRow ((Below.refl _ _).alloc (Nat.le_refl _) _) (Nat.le_refl _) _
  clear hW3
  have hbb : Below W1.heap.size W1 W3 := (HBV.out.trans (HB2.out.mono HBV.out.size)).trans (hb3.mono (Nat.le_trans HBV.out.size HB2.out.size))
  have hcell := fun (i : Nat) (x : UInt8) (hx : (sumM l)[i]? = some x) => sum_cell g3 HOB.out i x hx
  obtain ⟨h0, h1, h2, h3, k0, k1, k2, k3⟩ := HS.out
  have c0 := hcell _ _ h0; have c1 := hcell _ _ h1; have c2 := hcell _ _ h2; have c3 := hcell _ _ h3
  have d0 := hcell _ _ k0; have d1 := hcell _ _ k1; have d2 := hcell _ _ k2; have d3 := hcell _ _ k3
  have gz := HG.out.2.2
  have b4 := (hbb.block w.heap.size (by omega)).trans HG.out.1
  have b5 := (hbb.block (w.heap.size + 1) (by omega)).trans HG.out.2.1
  have x0 := (cell_of_row W3 _ 0 _ _ _ b4); have x1 := (cell_of_row W3 _ 1 _ _ _ b4); have x2 := (cell_of_row W3 _ 2 _ _ _ b4); have x3 := (cell_of_row W3 _ 3 _ _ _ b4)
  have y0 := (cell_of_row W3 _ 0 _ _ _ b5); have y1 := (cell_of_row W3 _ 1 _ _ _ b5); have y2 := (cell_of_row W3 _ 2 _ _ _ b5); have y3 := (cell_of_row W3 _ 3 _ _ _ b5)
  have HBB := Lib.hid (HB1.out.trans (hbb.mono HB1.out.size))
  clear hcell h0 h1 h2 h3 k0 k1 k2 k3 b4 b5 hbb hb3 g3 gz
  have e1 := E1.out; have e2 := E2.out
  simp only [List.getElem?_toArray, List.getElem?_cons_zero, List.getElem?_cons_succ] at x0 x1 x2 x3 y0 y1 y2 y3
  go_wp2_with fail
  go_ret
  exact ⟨rfl, HBB.out⟩

theorem awake_sum0 : (sumM [])[0]? = some 0xe3 ∧ (sumM [])[1]? = some 0xb0 ∧ (sumM [])[2]? = some 0xc4 ∧ (sumM [])[3]? = some 0x42 ∧ (sumM [])[28]? = some 0x78 ∧ (sumM [])[29]? = some 0x52 ∧ (sumM [])[30]? = some 0xb8 ∧ (sumM [])[31]? = some 0x55 := by
  decide +kernel
theorem awake_sum1 : (sumM [97, 98, 99])[0]? = some 0xba ∧ (sumM [97, 98, 99])[1]? = some 0x78 ∧ (sumM [97, 98, 99])[2]? = some 0x16 ∧ (sumM [97, 98, 99])[3]? = some 0xbf ∧ (sumM [97, 98, 99])[28]? = some 0xf2 ∧ (sumM [97, 98, 99])[29]? = some 0x00 ∧ (sumM [97, 98, 99])[30]? = some 0x15 ∧ (sumM [97, 98, 99])[31]? = some 0xad := by
  decide +kernel
theorem awake_any (w : World) : Calls Try.prog 10 #[] w fun e w' => e = .returned (.bool true) ∧ Below w.heap.size w w' := by
  go_enter Try.func10, Try.ntmps10
  go_wp2_with fail
  obtain ⟨h0, h1, h2, h3, k0, k1, k2, k3⟩ := awake_sum0
  refine (sums_any [] _ _ _ _ _ _ _ _ w (by decide) h0 h1 h2 h3 k0 k1 k2 k3).mono ?_
  rintro e w1 ⟨rfl, hb1⟩
  clear h0 h1 h2 h3 k0 k1 k2 k3
  have HB1 := Lib.hid hb1; clear hb1
  go_wp2_with fail
  obtain ⟨h0, h1, h2, h3, k0, k1, k2, k3⟩ := awake_sum1
  refine (sums_any [97, 98, 99] _ _ _ _ _ _ _ _ w1 (by decide) h0 h1 h2 h3 k0 k1 k2 k3).mono ?_
  rintro e w2 ⟨rfl, hb2⟩
  clear h0 h1 h2 h3 k0 k1 k2 k3
  have HB2 := Lib.hid hb2; clear hb2
  go_wp2_with fail
  go_ret
  exact ⟨rfl, Below.after HB1.out HB2.out HB1.out.size⟩
end Go.Proofs.Ytcgknadodpdblaa
