/- Contracts of layer 1's reader, its inner parts: they may panic. Conditions: the reader is made; its bytes are not more than a thousand million. -/
import Derived.Test.YtakcffhknnailaaFY
import Derived.Test.YtakcffhknnailaaW7
set_option linter.unusedVariables false
set_option linter.unusedSimpArgs false
namespace Go.Proofs.Ytakcffhknnailaa
open Go.RowKit

/-- what reading a number comes to -/
inductive Rn where
  | ok (n next : Nat)
  | bad (e p : Nat)
def getGo (b : List UInt8) (at_ : Nat) : Nat → Nat → Nat → Rn
  | 0, _, _ => .bad 5 at_
  | f + 1, k, n => match b[at_ + k]? with
    | none => .bad 4 b.length
    | some c => if 128 ≤ c.toNat then getGo b at_ f (k + 1) (n * 128 + c.toNat % 128) else if 2147483647 < n * 128 + c.toNat % 128 then .bad 5 at_ else .ok (n * 128 + c.toNat % 128) (at_ + k + 1)
def getM (b : List UInt8) (at_ : Nat) : Rn := if b[at_]? = some 128 then .bad 4 at_ else getGo b at_ 5 0 0
/-- what a fault that gives up is -/
def wrongC (e p : Int) : List PanicEntry := [{ v := .iface 104 (.agg #[.int .i64 e, .int .i64 p]), recovered := false }]
set_option maxRecDepth 20000 in

theorem give_tr (e p : Int) : TrO Try.prog 79 #[.int .i64 e, .int .i64 p] [] [] (TO (fun _ : Unit => False) (fun _ => .tuple #[]) (fun _ => []) (fun _ : Unit => True) (fun _ => wrongC e p) (fun _ => [])) := by
  refine TrO.of (l := [(0, .int .i64 e), (1, .int .i64 p)]) Try.func79 rfl (n := 9) rfl (.cons rfl (.cons rfl .nil)) (fun w0 hro => ?_)
  refine G.region ?_
  refine G.op rfl (G.val rfl rfl (pv_move rfl) ?_)
  refine G.op rfl (G.val rfl rfl (pv_move rfl) ?_)
  refine G.op rfl (G.val rfl rfl (pv_build (cells := #[.int .i64 e, .int .i64 p]) (fun a ha => ha.pevs rfl) (by kernel_rfl)) ?_)
  refine G.op rfl (G.val rfl rfl (pv_build (cells := #[.int .i64 e, .int .i64 p]) (fun a ha => ha.pevs rfl) (by kernel_rfl)) ?_)
  refine G.op rfl (G.val rfl rfl (pv_iface Try.underlying104 rfl rfl) ?_)
  refine G.op rfl (G.panicOp rfl ?_)
  exact G.outP .nil ⟨(), trivial, rfl, rfl⟩
theorem getGo_none {b : List UInt8} {a k n : Nat} (hk : k < 5) (h : a + k = b.length) : getGo b a (5 - k) k n = .bad 4 b.length := by
  obtain ⟨f, hf⟩ : ∃ f, 5 - k = f + 1 := ⟨4 - k, by omega⟩
  rw [hf, getGo, List.getElem?_eq_none (by omega)]
theorem getGo_hi {b : List UInt8} {a k n : Nat} (hk : k < 5) (h : a + k < b.length) (hc : 128 ≤ b[a + k].toNat) : getGo b a (5 - k) k n = getGo b a (5 - (k + 1)) (k + 1) (n * 128 + b[a + k].toNat % 128) := by
  obtain ⟨f, hf⟩ : ∃ f, 5 - k = f + 1 := ⟨4 - k, by omega⟩
  rw [hf, getGo, List.getElem?_eq_getElem h]
  simp only
  rw [if_pos hc, show 5 - (k + 1) = f by omega]
theorem getGo_big {b : List UInt8} {a k n : Nat} (hk : k < 5) (h : a + k < b.length) (hc : ¬ 128 ≤ b[a + k].toNat) (hn : 2147483647 < n * 128 + b[a + k].toNat % 128) : getGo b a (5 - k) k n = .bad 5 a := by
  obtain ⟨f, hf⟩ : ∃ f, 5 - k = f + 1 := ⟨4 - k, by omega⟩
  rw [hf, getGo, List.getElem?_eq_getElem h]
  simp only
  rw [if_neg hc, if_pos hn]
theorem getGo_ok {b : List UInt8} {a k n : Nat} (hk : k < 5) (h : a + k < b.length) (hc : ¬ 128 ≤ b[a + k].toNat) (hn : ¬ 2147483647 < n * 128 + b[a + k].toNat % 128) : getGo b a (5 - k) k n = .ok (n * 128 + b[a + k].toNat % 128) (a + k + 1) := by
  obtain ⟨f, hf⟩ : ∃ f, 5 - k = f + 1 := ⟨4 - k, by omega⟩
  rw [hf, getGo, List.getElem?_eq_getElem h]
  simp only
  rw [if_neg hc, if_neg hn]
theorem getM_128 {b : List UInt8} {a : Nat} (h : a < b.length) (hc : (b[a].toNat : Int) = 128) : getM b a = .bad 4 a := by
  unfold getM
  rw [if_pos]
  rw [List.getElem?_eq_getElem h]
  congr 1
  exact UInt8.toNat_inj.1 (show b[a].toNat = 128 by omega)
theorem getM_go {b : List UInt8} {a : Nat} (h : ∀ h : a < b.length, (b[a].toNat : Int) ≠ 128) : getM b a = getGo b a (5 - 0) 0 0 := by
  unfold getM
  rw [if_neg]
  intro hc
  rcases Nat.lt_or_ge a b.length with h1 | h1
  · rw [List.getElem?_eq_getElem h1] at hc
    injection hc with hc
    have := h h1
    rw [hc] at this
    exact this rfl
  · rw [List.getElem?_eq_none (by omega)] at hc
    cases hc
theorem pow_bound {k n : Nat} (hk : k ≤ 5) (h : n < 128 ^ k) : n < 34359738368 := Nat.lt_of_lt_of_le h (Nat.pow_le_pow_right (by omega) hk : 128 ^ k ≤ 128 ^ 5)
theorem pow_step {k n c : Nat} (h : n < 128 ^ k) (hc : c < 128) : n * 128 + c < 128 ^ (k + 1) := by rw [Nat.pow_succ]; omega
set_option maxRecDepth 20000 in

theorem number_tr (D a : Nat) (v : Value) (b : List UInt8) (p : Int) (ha : a ≤ b.length) (hb : b.length ≤ 1000000000) : TrO Try.prog 78 #[.pointer (some ⟨D, 0, none⟩)] [] [blk D 96 [.bool true, v, .int .i64 (a : Int), .int .i64 0, .int .i64 p], own 5 1 v b.length (b.map vByte)]
    (TO (fun x : Nat × Nat => getM b a = .ok x.1 x.2) (fun x => .int .i64 (x.1 : Int)) (fun x => [blk D 96 [.bool true, v, .int .i64 (x.2 : Int), .int .i64 0, .int .i64 p], own 5 1 v b.length (b.map vByte)]) (fun y : Nat × Nat × Nat => getM b a = .bad y.1 y.2.1) (fun y => wrongC y.1 y.2.1) (fun y => [blk D 96 [.bool true, v, .int .i64 (y.2.2 : Int), .int .i64 0, .int .i64 p], own 5 1 v b.length (b.map vByte)])) := by
  refine TrO.of (l := [(0, .pointer (some ⟨D, 0, none⟩))]) Try.func78 rfl (n := 78) rfl (.cons rfl .nil) (fun w0 hro => ?_)
  refine G.ownNews (by repeat (first | with_reducible exact Sel.here | exact Sel.here | apply Sel.there)) (fun ad cap bb hv hcap hmax had hnil hnews => ?_)
  subst hv
  refine G.seq ?_
  refine G.region ?_
  refine G.op rfl (G.val rfl rfl (pv_assign rfl) ?_)
  refine G.nil ?_
  refine G.nThen ?_
  refine G.seq ?_
  refine G.region ?_
  refine G.op rfl (G.val rfl rfl (pv_move rfl) ?_)
  refine G.op rfl (G.val rfl rfl (pv_nilCheck rfl) ?_)
  refine G.op rfl (G.val rfl rfl (pv_fieldAddr (sz := 0) Try.underlying96 rfl (by kernel_rfl) rfl) ?_)
  refine G.op rfl (G.val rfl rfl (pv_load Try.underlying3 rfl rfl (blk_cell (v := .int .i64 (a : Int)) (by repeat (first | with_reducible exact Sel.here | exact Sel.here | apply Sel.there)) rfl)) ?_)
  refine G.op rfl (G.val rfl rfl (pv_assign rfl) ?_)
  refine G.op rfl (G.val rfl rfl (pv_assign rfl) ?_)
  refine G.nil ?_
  refine G.nThen ?_
  refine G.seq ?_
  refine G.seq ?_
  refine G.cut (X := Bool) (fun q => (q = true → ∃ h : a < b.length, (b[a].toNat : Int) = 128) ∧ (q = false → getM b a = getGo b a (5 - 0) 0 0)) (fun q => [(26, .bool q), (3, .int .i64 (a : Int)), (4, .int .i64 0), (0, .pointer (some ⟨D, 0, none⟩))]) (fun q => [blk D 96 [.bool true, (.slice ad b.length cap), .int .i64 (a : Int), .int .i64 0, .int .i64 p], own 5 1 (.slice ad b.length cap) b.length (b.map vByte)]) ?_ ?_
  · refine G.region ?_
    refine G.op rfl (G.val rfl rfl (pv_move rfl) ?_)
    refine G.op rfl (G.val rfl rfl (pv_move rfl) ?_)
    refine G.op rfl (G.val rfl rfl (pv_nilCheck rfl) ?_)
    refine G.op rfl (G.val rfl rfl (pv_fieldAddr (sz := 0) Try.underlying96 rfl (by kernel_rfl) rfl) ?_)
    refine G.op rfl (G.val rfl rfl (pv_load Try.underlying24 rfl rfl (blk_cell (v := .slice ad b.length cap) (by repeat (first | with_reducible exact Sel.here | exact Sel.here | apply Sel.there)) rfl)) ?_)
    refine G.op rfl (G.val rfl rfl (pv_lenSl Try.underlying24 rfl) ?_)
    refine G.op rfl (G.val rfl rfl (pv_lss rfl rfl) ?_)
    refine G.op rfl (G.val rfl rfl (pv_move rfl) ?_)
    refine G.partP (t := 17) rfl (fun h17 => ?_) (fun h17 => ?_)
    · refine G.want rfl rfl rfl (G.val rfl rfl (pv_move rfl) ?_)
      refine G.want rfl rfl rfl (G.val rfl rfl (pv_nilCheck rfl) ?_)
      refine G.want rfl rfl rfl (G.val rfl rfl (pv_fieldAddr (sz := 0) Try.underlying96 rfl (by kernel_rfl) rfl) ?_)
      refine G.want rfl rfl rfl (G.val rfl rfl (pv_load Try.underlying24 rfl rfl (blk_cell (v := .slice ad b.length cap) (by repeat (first | with_reducible exact Sel.here | exact Sel.here | apply Sel.there)) rfl)) ?_)
      refine G.want rfl rfl rfl (G.val rfl rfl (pv_move rfl) ?_)
      refine G.want rfl rfl rfl (G.val rfl rfl (pv_ixSl (sz := 1) (k := a) Try.underlying24 Try.sizeByte rfl rfl had rfl (by omega)) ?_)
      have hlt : a < b.length := by omega
      refine G.want rfl rfl rfl (G.val rfl rfl (pv_load Try.underlying5 rfl rfl (fun w hw => (hnews (by repeat (first | with_reducible exact Sel.here | exact Sel.here | apply Sel.there)) w hw).byte a hlt)) ?_)
      refine G.want rfl rfl rfl (G.val rfl rfl (pv_eql rfl rfl) ?_)
      refine G.op rfl (G.val rfl rfl (pv_pick rfl rfl) ?_)
      refine G.nil ?_
      first | exact G.meet (decide ((b[a].toNat : Int) = 128)) (by exact ⟨fun h => ⟨hlt, of_decide_eq_true h⟩, fun h => getM_go fun _ => of_decide_eq_false h⟩) (.cons rfl (.cons rfl (.cons rfl (.cons rfl .nil)))) (.cons (by repeat (first | with_reducible exact Sel.here | exact Sel.here | apply Sel.there)) (.cons (by repeat (first | with_reducible exact Sel.here | exact Sel.here | apply Sel.there)) .nil)) | exact G.meet false (by exact ⟨(fun h => by cases h), fun _ => getM_go fun h => absurd h (by omega)⟩) (.cons rfl (.cons rfl (.cons rfl (.cons rfl .nil)))) (.cons (by repeat (first | with_reducible exact Sel.here | exact Sel.here | apply Sel.there)) (.cons (by repeat (first | with_reducible exact Sel.here | exact Sel.here | apply Sel.there)) .nil))
    · refine G.pass rfl rfl rfl rfl rfl rfl ?_
      refine G.pass rfl rfl rfl rfl rfl rfl ?_
      refine G.pass rfl rfl rfl rfl rfl rfl ?_
      refine G.pass rfl rfl rfl rfl rfl rfl ?_
      refine G.pass rfl rfl rfl rfl rfl rfl ?_
      refine G.pass rfl rfl rfl rfl rfl rfl ?_
      refine G.pass rfl rfl rfl rfl rfl rfl ?_
      refine G.pass rfl rfl rfl rfl rfl rfl ?_
      refine G.op rfl (G.val rfl rfl (pv_pick rfl rfl) ?_)
      refine G.nil ?_
      first | exact G.meet (decide ((b[a].toNat : Int) = 128)) (by exact ⟨fun h => ⟨hlt, of_decide_eq_true h⟩, fun h => getM_go fun _ => of_decide_eq_false h⟩) (.cons rfl (.cons rfl (.cons rfl (.cons rfl .nil)))) (.cons (by repeat (first | with_reducible exact Sel.here | exact Sel.here | apply Sel.there)) (.cons (by repeat (first | with_reducible exact Sel.here | exact Sel.here | apply Sel.there)) .nil)) | exact G.meet false (by exact ⟨(fun h => by cases h), fun _ => getM_go fun h => absurd h (by omega)⟩) (.cons rfl (.cons rfl (.cons rfl (.cons rfl .nil)))) (.cons (by repeat (first | with_reducible exact Sel.here | exact Sel.here | apply Sel.there)) (.cons (by repeat (first | with_reducible exact Sel.here | exact Sel.here | apply Sel.there)) .nil))
  · rintro q ⟨hq1, hq2⟩
    show G _ _ _ [(26, .bool q), (3, .int .i64 (a : Int)), (4, .int .i64 0), (0, .pointer (some ⟨D, 0, none⟩))] [blk D 96 [.bool true, (.slice ad b.length cap), .int .i64 (a : Int), .int .i64 0, .int .i64 p], own 5 1 (.slice ad b.length cap) b.length (b.map vByte)] _
    refine G.cond rfl (fun h26 => ?_) (fun h26 => ?_)
    · obtain ⟨hlt, hc⟩ := hq1 h26
      refine G.region ?_
      refine G.op rfl (G.val rfl rfl (pv_move rfl) ?_)
      refine G.op rfl (G.cO0 rfl rfl (pe_fn rfl rfl Try.func79 rfl rfl) (give_tr _ _) Sub.nil may0 ?_ ?_)
      · intro x hJ; exact hJ.elim
      · rintro _ _
        refine G.pThen ?_
        exact G.outP (.cons (by repeat (first | with_reducible exact Sel.here | exact Sel.here | apply Sel.there)) (.cons (by repeat (first | with_reducible exact Sel.here | exact Sel.here | apply Sel.there)) .nil)) ⟨(4, a, a), getM_128 (by omega) (by assumption), rfl, rfl⟩
    · have hgo := hq2 h26
      refine G.skip ?_
      refine G.nThen ?_
      refine G.seq ?_
      refine G.seq ?_
      refine G.region ?_
      refine G.op rfl (G.val rfl rfl (pv_move rfl) ?_)
      refine G.nil ?_
      refine G.nThen ?_
      refine G.block ?_
      refine G.loop (X := Nat × Nat) (fun (k, nn) => k ≤ 5 ∧ a + k ≤ b.length ∧ nn < 128 ^ k ∧ getM b a = getGo b a (5 - k) k nn) (fun (k, nn) => [(29, .int .i64 (k : Int)), (4, .int .i64 (nn : Int)), (3, .int .i64 (a : Int)), (0, .pointer (some ⟨D, 0, none⟩))]) (fun (k, nn) => [blk D 96 [.bool true, (.slice ad b.length cap), .int .i64 (((a + k : Nat)) : Int), .int .i64 0, .int .i64 p], own 5 1 (.slice ad b.length cap) b.length (b.map vByte)]) (fun (k, nn) => 5 - k) (x0 := (0, 0)) (⟨by omega, by omega, by decide, hgo⟩) (.consE rfl (by first | rfl | exact int_eq (by omega) | exact congrArg _ (by omega)) (.consE rfl (by first | rfl | exact int_eq (by omega) | exact congrArg _ (by omega)) (.consE rfl (by first | rfl | exact int_eq (by omega) | exact congrArg _ (by omega)) (.consE rfl (by first | rfl | exact int_eq (by omega) | exact congrArg _ (by omega)) .nil)))) (.cons (by repeat (first | with_reducible exact Sel.here | exact Sel.here | apply Sel.there)) (.cons (by repeat (first | with_reducible exact Sel.here | exact Sel.here | apply Sel.there)) .nil)) (fun ⟨k, nn⟩ hJ => ?_)
      show G _ _ _ [(29, .int .i64 (k : Int)), (4, .int .i64 (nn : Int)), (3, .int .i64 (a : Int)), (0, .pointer (some ⟨D, 0, none⟩))] [blk D 96 [.bool true, (.slice ad b.length cap), .int .i64 (((a + k : Nat)) : Int), .int .i64 0, .int .i64 p], own 5 1 (.slice ad b.length cap) b.length (b.map vByte)] _
      obtain ⟨hk, hak, hnn, hg⟩ := hJ
      have hnn' := pow_bound hk hnn
      refine G.seq ?_
      refine G.region ?_
      refine G.op rfl (G.val rfl rfl (pv_lss rfl rfl) ?_)
      refine G.nil ?_
      refine G.nThen ?_
      refine G.seq ?_
      refine G.condP rfl (fun h30 => ?_) (fun h30 => ?_)
      · refine G.skip ?_
        refine G.nThen ?_
        refine G.seq ?_
        refine G.block ?_
        refine G.seq ?_
        refine G.seq ?_
        refine G.drawn (by kernel_rfl) (k := 10) rfl [blk D 96 [.bool true, (.slice ad b.length cap), .int .i64 (((a + k : Nat)) : Int), .int .i64 0, .int .i64 p], own 5 1 (.slice ad b.length cap) b.length (b.map vByte)] ?_
        refine G.take (i := 0) rfl rfl rfl (by kernel_rfl) (by kernel_rfl) (by kernel_rfl) (fun _ _ _ h => h) rfl (pv_move rfl) (.cons (by repeat (first | with_reducible exact Sel.here | exact Sel.here | apply Sel.there)) (.cons (by repeat (first | with_reducible exact Sel.here | exact Sel.here | apply Sel.there)) .nil)) ?_
        refine G.take (i := 1) rfl rfl rfl (by kernel_rfl) (by kernel_rfl) (by kernel_rfl) (fun _ _ _ h => h) rfl (pv_nilCheck rfl) (.cons (by repeat (first | with_reducible exact Sel.here | exact Sel.here | apply Sel.there)) (.cons (by repeat (first | with_reducible exact Sel.here | exact Sel.here | apply Sel.there)) .nil)) ?_
        refine G.take (i := 2) rfl rfl rfl (by kernel_rfl) (by kernel_rfl) (by kernel_rfl) (fun _ _ _ h => h) rfl (pv_fieldAddr (sz := 0) Try.underlying96 rfl (by kernel_rfl) rfl) (.cons (by repeat (first | with_reducible exact Sel.here | exact Sel.here | apply Sel.there)) (.cons (by repeat (first | with_reducible exact Sel.here | exact Sel.here | apply Sel.there)) .nil)) ?_
        refine G.take (i := 4) rfl rfl rfl (by kernel_rfl) (by kernel_rfl) (by kernel_rfl) (fun _ _ _ h => h) rfl (pv_move rfl) (.cons (by repeat (first | with_reducible exact Sel.here | exact Sel.here | apply Sel.there)) (.cons (by repeat (first | with_reducible exact Sel.here | exact Sel.here | apply Sel.there)) .nil)) ?_
        refine G.take (i := 5) rfl rfl rfl (by kernel_rfl) (by kernel_rfl) (by kernel_rfl) (fun _ _ _ h => h) rfl (pv_nilCheck rfl) (.cons (by repeat (first | with_reducible exact Sel.here | exact Sel.here | apply Sel.there)) (.cons (by repeat (first | with_reducible exact Sel.here | exact Sel.here | apply Sel.there)) .nil)) ?_
        refine G.take (i := 6) rfl rfl rfl (by kernel_rfl) (by kernel_rfl) (by kernel_rfl) (fun _ _ _ h => h) rfl (pv_fieldAddr (sz := 0) Try.underlying96 rfl (by kernel_rfl) rfl) (.cons (by repeat (first | with_reducible exact Sel.here | exact Sel.here | apply Sel.there)) (.cons (by repeat (first | with_reducible exact Sel.here | exact Sel.here | apply Sel.there)) .nil)) ?_
        refine G.take (i := 3) rfl rfl rfl (by kernel_rfl) (by kernel_rfl) (by kernel_rfl) (fun _ _ _ h => h) rfl (pv_load Try.underlying3 rfl rfl (blk_cell (v := .int .i64 (((a + k : Nat)) : Int)) (by repeat (first | with_reducible exact Sel.here | exact Sel.here | apply Sel.there)) rfl)) (.cons (by repeat (first | with_reducible exact Sel.here | exact Sel.here | apply Sel.there)) (.cons (by repeat (first | with_reducible exact Sel.here | exact Sel.here | apply Sel.there)) .nil)) ?_
        refine G.one (i := 7) (by kernel_rfl) ?_
        refine G.turnOp rfl rfl (G.val rfl rfl (pv_load Try.underlying24 rfl rfl (blk_cell (v := .slice ad b.length cap) (by repeat (first | with_reducible exact Sel.here | exact Sel.here | apply Sel.there)) rfl)) ?_)
        refine G.back (.cons (by repeat (first | with_reducible exact Sel.here | exact Sel.here | apply Sel.there)) (.cons (by repeat (first | with_reducible exact Sel.here | exact Sel.here | apply Sel.there)) .nil)) ?_
        refine G.take (i := 8) rfl rfl rfl (by kernel_rfl) (by kernel_rfl) (by kernel_rfl) (fun _ _ _ h => h) rfl (pv_lenSl Try.underlying24 rfl) (.cons (by repeat (first | with_reducible exact Sel.here | exact Sel.here | apply Sel.there)) (.cons (by repeat (first | with_reducible exact Sel.here | exact Sel.here | apply Sel.there)) .nil)) ?_
        refine G.take (i := 9) rfl rfl rfl (by kernel_rfl) (by kernel_rfl) (by kernel_rfl) (fun _ _ _ h => h) rfl (pv_eql rfl rfl) (.cons (by repeat (first | with_reducible exact Sel.here | exact Sel.here | apply Sel.there)) (.cons (by repeat (first | with_reducible exact Sel.here | exact Sel.here | apply Sel.there)) .nil)) ?_
        refine G.over (by kernel_rfl) ?_
        refine G.nThen ?_
        refine G.condP rfl (fun h40 => ?_) (fun h40 => ?_)
        · refine G.region ?_
          refine G.op rfl (G.val rfl rfl (pv_move rfl) ?_)
          refine G.op rfl (G.val rfl rfl (pv_nilCheck rfl) ?_)
          refine G.op rfl (G.val rfl rfl (pv_fieldAddr (sz := 0) Try.underlying96 rfl (by kernel_rfl) rfl) ?_)
          refine G.op rfl (G.val rfl rfl (pv_load Try.underlying24 rfl rfl (blk_cell (v := .slice ad b.length cap) (by repeat (first | with_reducible exact Sel.here | exact Sel.here | apply Sel.there)) rfl)) ?_)
          refine G.op rfl (G.val rfl rfl (pv_lenSl Try.underlying24 rfl) ?_)
          refine G.op rfl (G.cO0 rfl rfl (pe_fn rfl rfl Try.func79 rfl rfl) (give_tr _ _) Sub.nil may0 ?_ ?_)
          · intro x hJ; exact hJ.elim
          · rintro _ _
            refine G.pThen ?_
            refine G.pBlock ?_
            refine G.pThen ?_
            refine G.pThen ?_
            refine G.pBlock ?_
            refine G.pThen ?_
            exact G.outP (.cons (by repeat (first | with_reducible exact Sel.here | exact Sel.here | apply Sel.there)) (.cons (by repeat (first | with_reducible exact Sel.here | exact Sel.here | apply Sel.there)) .nil)) ⟨(4, b.length, a + k), hg.trans (getGo_none (by omega) (by omega)), rfl, rfl⟩
        · have hlt : a + k < b.length := by omega
          refine G.skip ?_
          refine G.nThen ?_
          refine G.seq ?_
          refine G.drawn (by kernel_rfl) (k := 11) rfl [blk D 96 [.bool true, (.slice ad b.length cap), .int .i64 (((a + k : Nat)) : Int), .int .i64 0, .int .i64 p], own 5 1 (.slice ad b.length cap) b.length (b.map vByte)] ?_
          refine G.take (i := 0) rfl rfl rfl (by kernel_rfl) (by kernel_rfl) (by kernel_rfl) (fun _ _ _ h => h) rfl (pv_move rfl) (.cons (by repeat (first | with_reducible exact Sel.here | exact Sel.here | apply Sel.there)) (.cons (by repeat (first | with_reducible exact Sel.here | exact Sel.here | apply Sel.there)) .nil)) ?_
          refine G.take (i := 1) rfl rfl rfl (by kernel_rfl) (by kernel_rfl) (by kernel_rfl) (fun _ _ _ h => h) rfl (pv_nilCheck rfl) (.cons (by repeat (first | with_reducible exact Sel.here | exact Sel.here | apply Sel.there)) (.cons (by repeat (first | with_reducible exact Sel.here | exact Sel.here | apply Sel.there)) .nil)) ?_
          refine G.take (i := 2) rfl rfl rfl (by kernel_rfl) (by kernel_rfl) (by kernel_rfl) (fun _ _ _ h => h) rfl (pv_fieldAddr (sz := 0) Try.underlying96 rfl (by kernel_rfl) rfl) (.cons (by repeat (first | with_reducible exact Sel.here | exact Sel.here | apply Sel.there)) (.cons (by repeat (first | with_reducible exact Sel.here | exact Sel.here | apply Sel.there)) .nil)) ?_
          refine G.take (i := 4) rfl rfl rfl (by kernel_rfl) (by kernel_rfl) (by kernel_rfl) (fun _ _ _ h => h) rfl (pv_move rfl) (.cons (by repeat (first | with_reducible exact Sel.here | exact Sel.here | apply Sel.there)) (.cons (by repeat (first | with_reducible exact Sel.here | exact Sel.here | apply Sel.there)) .nil)) ?_
          refine G.take (i := 5) rfl rfl rfl (by kernel_rfl) (by kernel_rfl) (by kernel_rfl) (fun _ _ _ h => h) rfl (pv_nilCheck rfl) (.cons (by repeat (first | with_reducible exact Sel.here | exact Sel.here | apply Sel.there)) (.cons (by repeat (first | with_reducible exact Sel.here | exact Sel.here | apply Sel.there)) .nil)) ?_
          refine G.take (i := 6) rfl rfl rfl (by kernel_rfl) (by kernel_rfl) (by kernel_rfl) (fun _ _ _ h => h) rfl (pv_fieldAddr (sz := 0) Try.underlying96 rfl (by kernel_rfl) rfl) (.cons (by repeat (first | with_reducible exact Sel.here | exact Sel.here | apply Sel.there)) (.cons (by repeat (first | with_reducible exact Sel.here | exact Sel.here | apply Sel.there)) .nil)) ?_
          refine G.take (i := 3) rfl rfl rfl (by kernel_rfl) (by kernel_rfl) (by kernel_rfl) (fun _ _ _ h => h) rfl (pv_load Try.underlying24 rfl rfl (blk_cell (v := .slice ad b.length cap) (by repeat (first | with_reducible exact Sel.here | exact Sel.here | apply Sel.there)) rfl)) (.cons (by repeat (first | with_reducible exact Sel.here | exact Sel.here | apply Sel.there)) (.cons (by repeat (first | with_reducible exact Sel.here | exact Sel.here | apply Sel.there)) .nil)) ?_
          refine G.one (i := 7) (by kernel_rfl) ?_
          refine G.turnOp rfl rfl (G.val rfl rfl (pv_load Try.underlying3 rfl rfl (blk_cell (v := .int .i64 (((a + k : Nat)) : Int)) (by repeat (first | with_reducible exact Sel.here | exact Sel.here | apply Sel.there)) rfl)) ?_)
          refine G.back (.cons (by repeat (first | with_reducible exact Sel.here | exact Sel.here | apply Sel.there)) (.cons (by repeat (first | with_reducible exact Sel.here | exact Sel.here | apply Sel.there)) .nil)) ?_
          refine G.take (i := 8) rfl rfl rfl (by kernel_rfl) (by kernel_rfl) (by kernel_rfl) (fun _ _ _ h => h) rfl (pv_ixSl (sz := 1) (k := a + k) Try.underlying24 Try.sizeByte rfl rfl had rfl (by omega)) (.cons (by repeat (first | with_reducible exact Sel.here | exact Sel.here | apply Sel.there)) (.cons (by repeat (first | with_reducible exact Sel.here | exact Sel.here | apply Sel.there)) .nil)) ?_
          refine G.one (i := 9) (by kernel_rfl) ?_
          refine G.turnOp rfl rfl (G.val rfl rfl (pv_load Try.underlying5 rfl rfl (fun w hw => (hnews (by repeat (first | with_reducible exact Sel.here | exact Sel.here | apply Sel.there)) w hw).byte (a + k) hlt)) ?_)
          refine G.back (.cons (by repeat (first | with_reducible exact Sel.here | exact Sel.here | apply Sel.there)) (.cons (by repeat (first | with_reducible exact Sel.here | exact Sel.here | apply Sel.there)) .nil)) ?_
          refine G.take (i := 10) rfl rfl rfl (by kernel_rfl) (by kernel_rfl) (by kernel_rfl) (fun _ _ _ h => h) rfl (pv_assign rfl) (.cons (by repeat (first | with_reducible exact Sel.here | exact Sel.here | apply Sel.there)) (.cons (by repeat (first | with_reducible exact Sel.here | exact Sel.here | apply Sel.there)) .nil)) ?_
          refine G.over (by kernel_rfl) ?_
          refine G.nThen ?_
          refine G.seq ?_
          refine G.region ?_
          refine G.op rfl (G.val rfl rfl (pv_move rfl) ?_)
          refine G.op rfl (G.val rfl rfl (pv_nilCheck rfl) ?_)
          refine G.op rfl (G.val rfl rfl (pv_fieldAddr (sz := 0) Try.underlying96 rfl (by kernel_rfl) rfl) ?_)
          refine G.op rfl (G.val rfl rfl (pv_load Try.underlying3 rfl rfl (blk_cell (v := .int .i64 (((a + k : Nat)) : Int)) (by repeat (first | with_reducible exact Sel.here | exact Sel.here | apply Sel.there)) rfl)) ?_)
          refine G.op rfl (G.val rfl rfl ((pv_add64 rfl rfl (by omega)).int (show _ = ((a + (k + 1) : Nat) : Int) by omega)) ?_)
          refine G.op rfl (G.val rfl rfl (pv_nilCheck rfl) ?_)
          refine G.op rfl (G.val rfl rfl (pv_fieldAddr (sz := 0) Try.underlying96 rfl (by kernel_rfl) rfl) ?_)
          refine G.op rfl (G.store (o := 2) (by kernel_rfl) rfl rfl rfl .here (by simp) ?_)
          refine G.nil ?_
          refine G.nThen ?_
          refine G.seq ?_
          refine G.region ?_
          refine G.op rfl (G.val rfl rfl (pv_move rfl) ?_)
          refine G.op rfl (G.val rfl rfl ((pv_shl (s := 7) rfl rfl (by decide)).int (wrap_i64 (by unfold I64; omega))) ?_)
          refine G.op rfl (G.val rfl rfl (pv_move rfl) ?_)
          have hc0 := b[a + k].toNat_lt
          refine G.op rfl (G.val rfl rfl ((pv_and rfl rfl).int ((and127b _ (by omega) (by omega)).trans (show _ = ((b[a + k].toNat % 128 : Nat) : Int) by omega))) ?_)
          refine G.op rfl (G.val rfl rfl ((pv_conv (by rw [Try.underlying5]; rfl) Try.underlying3 rfl).int (wrap_i64 (by unfold I64; omega))) ?_)
          refine G.op rfl (G.val rfl rfl ((pv_or rfl rfl).int ((or_add 7 nn _ (by omega) (by omega) (by omega)).trans (show _ = ((nn * 128 + b[a + k].toNat % 128 : Nat) : Int) by omega))) ?_)
          refine G.op rfl (G.val rfl rfl (pv_assign rfl) ?_)
          refine G.nil ?_
          refine G.nThen ?_
          refine G.seq ?_
          refine G.seq ?_
          refine G.region ?_
          refine G.op rfl (G.val rfl rfl (pv_move rfl) ?_)
          refine G.op rfl (G.val rfl rfl (pv_geq rfl rfl) ?_)
          refine G.nil ?_
          refine G.nThen ?_
          refine G.condP rfl (fun h71 => ?_) (fun h71 => ?_)
          · refine G.exit ?_
            refine G.eThen ?_
            refine G.eBlock ?_
            refine G.nThen ?_
            refine G.region ?_
            refine G.op rfl (G.val rfl rfl (pv_add64 rfl rfl (by omega)) ?_)
            refine G.op rfl (G.val rfl rfl (pv_move rfl) ?_)
            refine G.nil ?_
            exact G.next ((k + 1, nn * 128 + b[a + k].toNat % 128)) (by exact ⟨by omega, by omega, pow_step hnn (by omega), hg.trans (getGo_hi (by omega) hlt (by omega))⟩) (by dsimp only; omega) (.consE rfl (by first | rfl | exact int_eq (by omega) | exact congrArg _ (by omega)) (.consE rfl (by first | rfl | exact int_eq (by omega) | exact congrArg _ (by omega)) (.consE rfl (by first | rfl | exact int_eq (by omega) | exact congrArg _ (by omega)) (.consE rfl (by first | rfl | exact int_eq (by omega) | exact congrArg _ (by omega)) .nil)))) (.cons (by repeat (first | with_reducible exact Sel.here | exact Sel.here | apply Sel.there)) (.cons (by repeat (first | with_reducible exact Sel.here | exact Sel.here | apply Sel.there)) .nil))
          · refine G.skip ?_
            refine G.nThen ?_
            refine G.seq ?_
            refine G.seq ?_
            refine G.region ?_
            refine G.op rfl (G.val rfl rfl (pv_move rfl) ?_)
            refine G.op rfl (G.val rfl rfl (pv_gtr rfl rfl) ?_)
            refine G.nil ?_
            refine G.nThen ?_
            refine G.condP rfl (fun h73 => ?_) (fun h73 => ?_)
            · refine G.exit ?_
              refine G.eThen ?_
              refine G.ePass rfl ?_
              refine G.eThen ?_
              refine G.eThen ?_
              refine G.eBlock ?_
              refine G.nThen ?_
              refine G.seq ?_
              refine G.region ?_
              refine G.op rfl (G.val rfl rfl (pv_move rfl) ?_)
              refine G.op rfl (G.cO0 rfl rfl (pe_fn rfl rfl Try.func79 rfl rfl) (give_tr _ _) Sub.nil may0 ?_ ?_)
              · intro x hJ; exact hJ.elim
              · rintro _ _
                refine G.pThen ?_
                first | exact G.outP (.cons (by repeat (first | with_reducible exact Sel.here | exact Sel.here | apply Sel.there)) (.cons (by repeat (first | with_reducible exact Sel.here | exact Sel.here | apply Sel.there)) .nil)) ⟨(5, a, a + (k + 1)), hg.trans (getGo_big (by omega) hlt (by omega) (by omega)), rfl, rfl⟩ | (obtain rfl : k = 5 := (by omega); exact G.outP (.cons (by repeat (first | with_reducible exact Sel.here | exact Sel.here | apply Sel.there)) (.cons (by repeat (first | with_reducible exact Sel.here | exact Sel.here | apply Sel.there)) .nil)) ⟨(5, a, a + 5), hg, rfl, rfl⟩)
            · refine G.skip ?_
              refine G.nThen ?_
              refine G.seq ?_
              refine G.region ?_
              refine G.op rfl (G.val rfl rfl (pv_move rfl) ?_)
              refine G.op rfl (G.val rfl rfl (pv_assign rfl) ?_)
              refine G.nil ?_
              refine G.nThen ?_
              refine G.ret ?_
              refine G.rBlock ?_
              refine G.rThen ?_
              refine G.rThen ?_
              refine G.rBlock ?_
              refine G.rThen ?_
              exact G.out1 rfl rfl (.cons (by repeat (first | with_reducible exact Sel.here | exact Sel.here | apply Sel.there)) (.cons (by repeat (first | with_reducible exact Sel.here | exact Sel.here | apply Sel.there)) .nil)) ⟨(nn * 128 + b[a + k].toNat % 128, a + (k + 1)), hg.trans (getGo_ok (by omega) hlt (by omega) (by omega)), rfl, rfl⟩
      · refine G.exit ?_
        refine G.eThen ?_
        refine G.eThen ?_
        refine G.eBlock ?_
        refine G.nThen ?_
        refine G.seq ?_
        refine G.region ?_
        refine G.op rfl (G.val rfl rfl (pv_move rfl) ?_)
        refine G.op rfl (G.cO0 rfl rfl (pe_fn rfl rfl Try.func79 rfl rfl) (give_tr _ _) Sub.nil may0 ?_ ?_)
        · intro x hJ; exact hJ.elim
        · rintro _ _
          refine G.pThen ?_
          first | exact G.outP (.cons (by repeat (first | with_reducible exact Sel.here | exact Sel.here | apply Sel.there)) (.cons (by repeat (first | with_reducible exact Sel.here | exact Sel.here | apply Sel.there)) .nil)) ⟨(5, a, a + (k + 1)), hg.trans (getGo_big (by omega) hlt (by omega) (by omega)), rfl, rfl⟩ | (obtain rfl : k = 5 := (by omega); exact G.outP (.cons (by repeat (first | with_reducible exact Sel.here | exact Sel.here | apply Sel.there)) (.cons (by repeat (first | with_reducible exact Sel.here | exact Sel.here | apply Sel.there)) .nil)) ⟨(5, a, a + 5), hg, rfl, rfl⟩)
end Go.Proofs.Ytakcffhknnailaa
