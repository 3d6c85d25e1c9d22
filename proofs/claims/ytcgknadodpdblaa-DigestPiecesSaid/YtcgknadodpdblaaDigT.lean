/- Contracts of layer 3: IDs as texts. Conditions: none. -/
import Derived.Test.YtcgknadodpdblaaDigL
import Derived.Test.YtcgknadodpdblaaStrB
set_option linter.unusedVariables false
set_option linter.unusedSimpArgs false
namespace Go.Proofs.Ytcgknadodpdblaa
open Go.RowKit

/-- a digit of sixteen -/
def hexN (n : Nat) : UInt8 := if n < 10 then UInt8.ofNat (48 + n) else UInt8.ofNat (87 + n)
def textTo (id : List UInt8) (k : Nat) : List UInt8 := (id.take k).flatMap fun b => [hexN (b.toNat / 16), hexN (b.toNat % 16)]
def textM (id : List UInt8) : List UInt8 := id.flatMap fun b => [hexN (b.toNat / 16), hexN (b.toNat % 16)]
theorem textTo_succ (id : List UInt8) (k : Nat) (hk : k < id.length) : textTo id (k + 1) = textTo id k ++ [hexN (id[k].toNat / 16)] ++ [hexN (id[k].toNat % 16)] := by
  unfold textTo
  rw [List.take_succ_eq_append_getElem hk, List.flatMap_append]
  simp
theorem textTo_all (id : List UInt8) (k : Nat) (hk : id.length ≤ k) : textTo id k = textM id := by
  unfold textTo textM
  rw [List.take_of_length_le hk]
theorem textTo_length (id : List UInt8) (k : Nat) : (textTo id k).length ≤ 2 * k := by
  unfold textTo
  have : ∀ l : List UInt8, (l.flatMap fun b => [hexN (b.toNat / 16), hexN (b.toNat % 16)]).length = 2 * l.length := by
    intro l
    induction l with
    | nil => rfl
    | cons a l ih => rw [List.flatMap_cons, List.length_append, ih]; simp; omega
  rw [this]
  simp
  omega
def digits : ByteArray := { data := #[48, 49, 50, 51, 52, 53, 54, 55, 56, 57, 97, 98, 99, 100, 101, 102] }
theorem digit_at (n : Nat) (hn : n < 16) (w : World) : (Instr.index 9 (.string digits) (.int .u8 (n : Int))).run Try.prog w = .ok (.int .u8 ((hexN n).toNat : Int)) w := by
  have : n = 0 ∨ n = 1 ∨ n = 2 ∨ n = 3 ∨ n = 4 ∨ n = 5 ∨ n = 6 ∨ n = 7 ∨ n = 8 ∨ n = 9 ∨ n = 10 ∨ n = 11 ∨ n = 12 ∨ n = 13 ∨ n = 14 ∨ n = 15 := by omega
  rcases this with rfl | rfl | rfl | rfl | rfl | rfl | rfl | rfl | rfl | rfl | rfl | rfl | rfl | rfl | rfl | rfl
  all_goals (show (_ : Result Value) = _; kernel_rfl)
theorem and15 (n : Nat) (h : n < 256) : bits BinOp.and IntKind.u8 (n : Int) 15 = (n : Int) % 16 := by
  have : ∀ m : Fin 256, bits BinOp.and IntKind.u8 (m.val : Int) 15 = (m.val : Int) % 16 := by decide +kernel
  exact this ⟨n, h⟩
theorem index_id (l : List UInt8) (hl : l.length = 16) (k : Nat) (hk : k < 16) (w : World) : (Instr.index 28 (aggB l) (.int .i64 (k : Int))).run Try.prog w = .ok (.int .u8 ((l[k]'(by omega)).toNat : Int)) w := by
  have hz := sizeByteK
  have e := flatMap_get encByte 1 (fun _ => rfl) l k 0 (by omega) (by omega)
  rw [Nat.mul_one, Nat.add_zero] at e
  have h1 : (0 : Int) ≤ k := by omega
  have h2 : (k : Int) < (16 : Nat) := by omega
  have ha : ∀ w, (isAgg 5).run Try.prog w = .ok false w := fun w => by kernel_rfl
  unfold aggB
  unfold Instr.index part
  simp [go_sem, run_underlying Try.underlying28, hz, ha, h1, h2]
  rw [if_pos (by omega)]
  simp [go_sem, hz, ha, e]
  simp [encByte]

/-- what lies in memory while an ID's text is made -/
structure TextAt (w wr : World) (b : Nat) (t : List UInt8) : Prop where
  below : Below w.heap.size w wr
  bld : Lib.IsBuilder 65 5 w.heap.size b (Lib.byteCells t) wr
theorem byteCells_snoc (t : List UInt8) (c : UInt8) : Lib.byteCells t ++ [.int .u8 (c.toNat : Int)] = Lib.byteCells (t ++ [c]) := by simp [Lib.byteCells]
set_option maxHeartbeats 1000000 in
set_option maxRecDepth 20000 in
theorem text_any (id : List UInt8) (hid : id.length = 16) (w : World) : Calls Try.prog 24 #[aggB id] w fun e w' => e = .returned (.string (strB (textM id))) ∧ Below w.heap.size w w' := by
  have HID := Lib.hid hid; clear hid
  have harr := bytesArr id
  rw [HID.out] at harr
  obtain ⟨oc, hoc⟩ : ∃ oc, oc = (id.flatMap encByte).toArray := ⟨_, rfl⟩
  unfold aggB
  rw [← hoc] at harr ⊢
  have HOC := Lib.hid hoc; have HARR := Lib.hid harr
  clear hoc harr
  have h28 : (Try.prog.info? 28).map (·.size) = some 16 := by kernel_rfl
  go_enter Try.func24, Try.ntmps24
  go_upto_region 2 with fail
  generalize hW1 : World.alloc (World.alloc w _) _ = W1
  have hb1 : Below w.heap.size w W1 := by subst hW1; exact ((Below.refl _ _).alloc (Nat.le_refl _) _).alloc (by simp) _
  have g1 : W1.heap[w.heap.size]? = some (.cells oc 28 (0, 0)) := by subst hW1; exact heap_alloc2_old _ _ _
  have hbld : TextAt w W1 (w.heap.size + 1) (textTo id 0) := by
    refine ⟨hb1, ?_⟩
    subst hW1
    have := Lib.fresh_isBuilder 65 5 (w.alloc (.cells oc 28))
    rw [World.size_alloc] at this
    rcases this with ⟨h1, v, h2, h3, h4⟩ | ⟨h1, v, h2, h3, h4⟩
    · exact .inl ⟨by omega, v, h2, ⟨h3.1, h3.2.imp (fun h => h) fun ⟨g, c, cur, a1, a2, a3⟩ => ⟨g, c, cur, a1, by omega, a3⟩⟩, h4⟩
    · exact .inr ⟨by omega, v, h2, ⟨h3.1, h3.2.imp (fun h => h) fun ⟨g, c, cur, a1, a2, a3⟩ => ⟨g, c, cur, a1, by omega, a3⟩⟩, h4⟩
  have HB := Lib.hid hbld
  clear hb1 hbld hW1
  go_wp2_with (first | (refine wpList_load_row rfl 28 _ rfl w.heap.size rfl 28 _ (0, 0) _ g1 Try.underlying28 rfl (by rw [h28, HARR.out.1]) ?_) | fail)
  clear g1
  go_loopw [5, 7] (fun _ i wr => ∃ k : Nat, k ≤ 16 ∧ i = .int .i64 k ∧ TextAt w wr (w.heap.size + 1) (textTo id k)) (fun _ i _ => (16 - intOf i).toNat)
  case atStart => exact ⟨0, by omega, rfl, HB.out⟩
  case round =>
    obtain ⟨k, hk, rfl, hE⟩ := hrel
    by_cases hlt : k < 16
    · have hidx := fun wx => index_id id HID.out k hlt wx
      unfold aggB at hidx
      rw [← HOC.out] at hidx
      obtain ⟨c, hc⟩ : ∃ c : UInt8, c = id[k]'(by rw [HID.out]; exact hlt) := ⟨_, rfl⟩
      rw [← hc] at hidx
      have hsucc := textTo_succ id k (by rw [HID.out]; exact hlt)
      rw [← hc] at hsucc
      have hcl := c.toNat_lt
      have hlen := textTo_length id k
      obtain ⟨n, hn⟩ : ∃ n, n = c.toNat := ⟨_, rfl⟩
      rw [← hn] at hidx hsucc hcl
      have hand := and15 n hcl
      have hd1 := fun wx => digit_at (n / 16) (by omega) wx
      have hd2 := fun wx => digit_at (n % 16) (by omega) wx
      rw [show ((n / 16 : Nat) : Int) = (n : Int) / 16 by omega] at hd1
      rw [show ((n % 16 : Nat) : Int) = (n : Int) % 16 by omega] at hd2
      unfold digits at hd1 hd2
      have HE := Lib.hid hE; have HSUCC := Lib.hid hsucc; have HLEN := Lib.hid hlen
      clear hE hsucc hlen hc hn
      go_wp2_with fail
      refine (writeByte_any w.heap.size (w.heap.size + 1) (Lib.byteCells (textTo id k)) _ wr HE.out.bld (by have := HLEN.out; simp [Lib.byteCells]; omega) HE.out.below.size).mono ?_
      rintro e w1 ⟨rfl, hb1, hbw1⟩
      rw [byteCells_snoc] at hb1
      have HB1 := Lib.hid hb1; have HBW1 := Lib.hid (HE.out.below.trans hbw1)
      clear hb1 hbw1
      go_wp2_with fail
      refine (writeByte_any w.heap.size (w.heap.size + 1) _ _ w1 (.inr HB1.out) (by have := HLEN.out; simp [Lib.byteCells]; omega) HBW1.out.size).mono ?_
      rintro e w2 ⟨rfl, hb2, hbw2⟩
      rw [byteCells_snoc] at hb2
      have HB2 := Lib.hid hb2; have HBW2 := Lib.hid (HBW1.out.trans hbw2)
      clear hb2 hbw2
      go_wp2_with fail
      go_roundw
      case rel => exact ⟨k + 1, by omega, by go_num, HBW2.out, by rw [HSUCC.out]; exact .inr HB2.out⟩
      case measure => simp [intOf]; omega
    · obtain rfl : k = 16 := by omega
      have HE := Lib.hid hE; clear hE
      go_wp2_with fail
      refine (Try.Builder_String_any w.heap.size (w.heap.size + 1) (textTo id 16) wr HE.out.bld HE.out.below.size).mono ?_
      rintro e w1 ⟨rfl, hb1⟩
      have HB1 := Lib.hid (HE.out.below.trans hb1); clear hb1
      go_wp2_with fail
      go_ret
      refine ⟨?_, HB1.out⟩
      rw [textTo_all id 16 (by rw [HID.out]; exact Nat.le_refl _)]
      rfl
end Go.Proofs.Ytcgknadodpdblaa
