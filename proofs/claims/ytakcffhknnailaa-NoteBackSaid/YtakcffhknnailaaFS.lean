/- Contracts of layer 1's reader: a number within bounds, some bytes, what is tried. Conditions: the reader is made; its bytes are not more than a thousand million. -/
import Derived.Test.YtakcffhknnailaaFR
import Derived.Test.YtakcffhknnailaaW8
set_option linter.unusedVariables false
set_option linter.unusedSimpArgs false
namespace Go.Proofs.Ytakcffhknnailaa
open Go.RowKit

/-- what a number within bounds comes to -/
def bndM (b : List UInt8) (a : Nat) (low high above : Int) : Rn := match getM b a with
  | .bad e p => .bad e p
  | .ok n nx => if high < n then .bad above.toNat a else if (n : Int) < low then .bad 5 a else .ok n nx
theorem bnd_bad {b : List UInt8} {a e p : Nat} {low high above : Int} (h : getM b a = .bad e p) : bndM b a low high above = .bad e p := by unfold bndM; rw [h]
theorem bnd_hi {b : List UInt8} {a n nx : Nat} {low high above : Int} (h : getM b a = .ok n nx) (h1 : high < n) : bndM b a low high above = .bad above.toNat a := by unfold bndM; rw [h]; exact if_pos h1
theorem bnd_lo {b : List UInt8} {a n nx : Nat} {low high above : Int} (h : getM b a = .ok n nx) (h1 : ¬ high < n) (h2 : (n : Int) < low) : bndM b a low high above = .bad 5 a := by
  unfold bndM
  rw [h]
  simp only
  rw [if_neg h1, if_pos h2]
theorem bnd_ok {b : List UInt8} {a n nx : Nat} {low high above : Int} (h : getM b a = .ok n nx) (h1 : ¬ high < n) (h2 : ¬ (n : Int) < low) : bndM b a low high above = .ok n nx := by
  unfold bndM
  rw [h]
  simp only
  rw [if_neg h1, if_neg h2]
theorem getGo_next {b : List UInt8} : ∀ (f k n a m nx : Nat), getGo b a f k n = .ok m nx → nx ≤ b.length ∧ a + k < nx := by
  intro f
  induction f with
  | zero => intro k n a m nx h; cases h
  | succ f ih =>
    intro k n a m nx h
    unfold getGo at h
    split at h
    · cases h
    · rename_i c hc
      have hlt : a + k < b.length := (List.getElem?_eq_some_iff.1 hc).1
      split at h
      · have := ih _ _ _ _ _ h
        omega
      · split at h
        · cases h
        · injection h with h1 h2
          omega
theorem getM_next {b : List UInt8} {a m nx : Nat} (h : getM b a = .ok m nx) : nx ≤ b.length := by
  unfold getM at h
  split at h
  · cases h
  · exact (getGo_next _ _ _ _ _ _ h).1
theorem bnd_get {b : List UInt8} {a m nx : Nat} {low high above : Int} (h : bndM b a low high above = .ok m nx) : getM b a = .ok m nx ∧ (m : Int) ≤ high ∧ low ≤ m := by
  unfold bndM at h
  split at h
  · cases h
  · rename_i n nx' e
    split at h
    · cases h
    · split at h
      · cases h
      · injection h with h1 h2
        subst h1
        subst h2
        exact ⟨e, by omega, by omega⟩
/-- so many bytes from there -/
def subB (b : List UInt8) (a n : Nat) : List UInt8 := (b.take (a + n)).drop a
theorem subB_length {b : List UInt8} {a n : Nat} (h : a + n ≤ b.length) : (subB b a n).length = n := by unfold subB; simp; omega
set_option maxRecDepth 20000 in

theorem bounded_tr (D a : Nat) (v : Value) (b : List UInt8) (p low high above : Int) (habove : 0 ≤ above) (ha : a ≤ b.length) (hb : b.length ≤ 1000000000) : TrO Try.prog 67 #[.pointer (some ⟨D, 0, none⟩), .int .i64 low, .int .i64 high, .int .i64 above] [] [blk D 96 [.bool true, v, .int .i64 (a : Int), .int .i64 0, .int .i64 p], own 5 1 v b.length (b.map vByte)]
    (TO (fun x : Nat × Nat => bndM b a low high above = .ok x.1 x.2) (fun x => .int .i64 (x.1 : Int)) (fun x => [blk D 96 [.bool true, v, .int .i64 (x.2 : Int), .int .i64 0, .int .i64 p], own 5 1 v b.length (b.map vByte)]) (fun y : Nat × Nat × Nat => bndM b a low high above = .bad y.1 y.2.1) (fun y => wrongC y.1 y.2.1) (fun y => [blk D 96 [.bool true, v, .int .i64 (y.2.2 : Int), .int .i64 0, .int .i64 p], own 5 1 v b.length (b.map vByte)])) := by
  refine TrO.of (l := [(0, .pointer (some ⟨D, 0, none⟩)), (1, .int .i64 low), (2, .int .i64 high), (3, .int .i64 above)]) Try.func67 rfl (n := 29) rfl (.cons rfl (.cons rfl (.cons rfl (.cons rfl .nil)))) (fun w0 hro => ?_)
  refine G.seq ?_
  refine G.region ?_
  refine G.op rfl (G.val rfl rfl (pv_assign rfl) ?_)
  refine G.nil ?_
  refine G.nThen ?_
  refine G.seq ?_
  refine G.region ?_
  refine G.op rfl (G.val rfl rfl (pv_move rfl) ?_)
  refine G.op rfl (G.val rfl rfl (pv_nilCheck rfl) ?_)
  refine G.op rfl (G.val rfl rfl (pv_fieldAddr (sz := 0) Try.underlying96 rfl (by kernel_rfl) rfl) ?_)
  refine G.op rfl (G.val rfl rfl (pv_load Try.underlying3 rfl rfl (blk_cell (v := .int .i64 (a : Int)) (by repeat (first | with_reducible exact Sel.here | exact Sel.here | apply Sel.there)) rfl)) ?_)
  refine G.op rfl (G.val rfl rfl (pv_assign rfl) ?_)
  refine G.nil ?_
  refine G.nThen ?_
  refine G.seq ?_
  refine G.region ?_
  refine G.op rfl (G.val rfl rfl (pv_move rfl) ?_)
  refine G.op rfl (G.cO2 rfl rfl (pe_fn rfl rfl Try.func78 rfl rfl) (number_tr D a v b p ha hb) (.cons (by repeat (first | with_reducible exact Sel.here | exact Sel.here | apply Sel.there)) (.cons (by repeat (first | with_reducible exact Sel.here | exact Sel.here | apply Sel.there)) .nil)) may0 ?_ ?_)
  · rintro ⟨nn, nx⟩ hg
    have hg' : getM b a = .ok nn nx := hg
    refine G.op rfl (G.val rfl rfl (pv_assign rfl) ?_)
    refine G.nil ?_
    refine G.nThen ?_
    refine G.seq ?_
    refine G.seq ?_
    refine G.region ?_
    refine G.op rfl (G.val rfl rfl (pv_move rfl) ?_)
    refine G.op rfl (G.val rfl rfl (pv_move rfl) ?_)
    refine G.op rfl (G.val rfl rfl (pv_gtr rfl rfl) ?_)
    refine G.nil ?_
    refine G.nThen ?_
    refine G.condP rfl (fun h19 => ?_) (fun h19 => ?_)
    · refine G.region ?_
      refine G.op rfl (G.val rfl rfl (pv_move rfl) ?_)
      refine G.op rfl (G.val rfl rfl (pv_move rfl) ?_)
      refine G.op rfl (G.cO0 rfl rfl (pe_fn rfl rfl Try.func79 rfl rfl) (give_tr _ _) Sub.nil may0 ?_ ?_)
      · intro x hJ; exact hJ.elim
      · rintro _ _
        refine G.pThen ?_
        have e : wrongC above (a : Int) = wrongC (above.toNat : Int) (a : Int) := by rw [Int.toNat_of_nonneg habove]
        rw [e]
        exact G.outP (.cons (by repeat (first | with_reducible exact Sel.here | exact Sel.here | apply Sel.there)) (.cons (by repeat (first | with_reducible exact Sel.here | exact Sel.here | apply Sel.there)) .nil)) ⟨(above.toNat, a, nx), bnd_hi hg' (by assumption), rfl, rfl⟩
    · refine G.skip ?_
      refine G.nThen ?_
      refine G.seq ?_
      refine G.seq ?_
      refine G.region ?_
      refine G.op rfl (G.val rfl rfl (pv_move rfl) ?_)
      refine G.op rfl (G.val rfl rfl (pv_move rfl) ?_)
      refine G.op rfl (G.val rfl rfl (pv_lss rfl rfl) ?_)
      refine G.nil ?_
      refine G.nThen ?_
      refine G.condP rfl (fun h25 => ?_) (fun h25 => ?_)
      · refine G.region ?_
        refine G.op rfl (G.val rfl rfl (pv_move rfl) ?_)
        refine G.op rfl (G.cO0 rfl rfl (pe_fn rfl rfl Try.func79 rfl rfl) (give_tr _ _) Sub.nil may0 ?_ ?_)
        · intro x hJ; exact hJ.elim
        · rintro _ _
          refine G.pThen ?_
          exact G.outP (.cons (by repeat (first | with_reducible exact Sel.here | exact Sel.here | apply Sel.there)) (.cons (by repeat (first | with_reducible exact Sel.here | exact Sel.here | apply Sel.there)) .nil)) ⟨(5, a, nx), bnd_lo hg' (by assumption) (by assumption), rfl, rfl⟩
      · refine G.skip ?_
        refine G.nThen ?_
        refine G.seq ?_
        refine G.region ?_
        refine G.op rfl (G.val rfl rfl (pv_move rfl) ?_)
        refine G.op rfl (G.val rfl rfl (pv_assign rfl) ?_)
        refine G.nil ?_
        refine G.nThen ?_
        refine G.ret ?_
        exact G.out1 rfl rfl (.cons (by repeat (first | with_reducible exact Sel.here | exact Sel.here | apply Sel.there)) (.cons (by repeat (first | with_reducible exact Sel.here | exact Sel.here | apply Sel.there)) .nil)) ⟨(nn, nx), bnd_ok hg' (by assumption) (by assumption), rfl, rfl⟩
  · rintro ⟨ee, pp, aa⟩ hbad
    refine G.pThen ?_
    exact G.outP (.cons (by repeat (first | with_reducible exact Sel.here | exact Sel.here | apply Sel.there)) (.cons (by repeat (first | with_reducible exact Sel.here | exact Sel.here | apply Sel.there)) .nil)) ⟨(ee, pp, aa), bnd_bad hbad, rfl, rfl⟩
set_option maxRecDepth 20000 in

theorem some_tr (D a n : Nat) (v : Value) (b : List UInt8) (p : Int) (ha : a ≤ b.length) (hb : b.length ≤ 1000000000) (hn : n ≤ 9000000000000000000) : TrO Try.prog 70 #[.pointer (some ⟨D, 0, none⟩), .int .i64 (n : Int)] [] [blk D 96 [.bool true, v, .int .i64 (a : Int), .int .i64 0, .int .i64 p], own 5 1 v b.length (b.map vByte)]
    (TO (fun _ : Value => a + n ≤ b.length) (fun x => x) (fun x => [blk D 96 [.bool true, v, .int .i64 ((a + n : Nat) : Int), .int .i64 0, .int .i64 p], own 5 1 v b.length (b.map vByte), own 5 1 x (subB b a n).length ((subB b a n).map vByte)]) (fun _ : Unit => b.length < a + n) (fun _ => wrongC 4 b.length) (fun _ => [blk D 96 [.bool true, v, .int .i64 (a : Int), .int .i64 0, .int .i64 p], own 5 1 v b.length (b.map vByte)])) := by
  refine TrO.of (l := [(0, .pointer (some ⟨D, 0, none⟩)), (1, .int .i64 (n : Int))]) Try.func70 rfl (n := 47) rfl (.cons rfl (.cons rfl .nil)) (fun w0 hro => ?_)
  refine G.ownNews (by repeat (first | with_reducible exact Sel.here | exact Sel.here | apply Sel.there)) (fun ad cap bb hv hcap hmax had hnil hnews => ?_)
  subst hv
  refine G.seq ?_
  refine G.region ?_
  refine G.op rfl (G.val rfl rfl (pv_assign rfl) ?_)
  refine G.nil ?_
  refine G.nThen ?_
  refine G.seq ?_
  refine G.seq ?_
  refine G.drawn (by kernel_rfl) (k := 12) rfl [blk D 96 [.bool true, (.slice ad b.length cap), .int .i64 (a : Int), .int .i64 0, .int .i64 p], own 5 1 (.slice ad b.length cap) b.length (b.map vByte)] ?_
  refine G.take (i := 0) rfl rfl rfl (by kernel_rfl) (by kernel_rfl) (by kernel_rfl) (fun _ _ _ h => h) rfl (pv_move rfl) (.cons (by repeat (first | with_reducible exact Sel.here | exact Sel.here | apply Sel.there)) (.cons (by repeat (first | with_reducible exact Sel.here | exact Sel.here | apply Sel.there)) .nil)) ?_
  refine G.take (i := 1) rfl rfl rfl (by kernel_rfl) (by kernel_rfl) (by kernel_rfl) (fun _ _ _ h => h) rfl (pv_move rfl) (.cons (by repeat (first | with_reducible exact Sel.here | exact Sel.here | apply Sel.there)) (.cons (by repeat (first | with_reducible exact Sel.here | exact Sel.here | apply Sel.there)) .nil)) ?_
  refine G.take (i := 2) rfl rfl rfl (by kernel_rfl) (by kernel_rfl) (by kernel_rfl) (fun _ _ _ h => h) rfl (pv_nilCheck rfl) (.cons (by repeat (first | with_reducible exact Sel.here | exact Sel.here | apply Sel.there)) (.cons (by repeat (first | with_reducible exact Sel.here | exact Sel.here | apply Sel.there)) .nil)) ?_
  refine G.take (i := 3) rfl rfl rfl (by kernel_rfl) (by kernel_rfl) (by kernel_rfl) (fun _ _ _ h => h) rfl (pv_fieldAddr (sz := 0) Try.underlying96 rfl (by kernel_rfl) rfl) (.cons (by repeat (first | with_reducible exact Sel.here | exact Sel.here | apply Sel.there)) (.cons (by repeat (first | with_reducible exact Sel.here | exact Sel.here | apply Sel.there)) .nil)) ?_
  refine G.take (i := 6) rfl rfl rfl (by kernel_rfl) (by kernel_rfl) (by kernel_rfl) (fun _ _ _ h => h) rfl (pv_move rfl) (.cons (by repeat (first | with_reducible exact Sel.here | exact Sel.here | apply Sel.there)) (.cons (by repeat (first | with_reducible exact Sel.here | exact Sel.here | apply Sel.there)) .nil)) ?_
  refine G.take (i := 7) rfl rfl rfl (by kernel_rfl) (by kernel_rfl) (by kernel_rfl) (fun _ _ _ h => h) rfl (pv_nilCheck rfl) (.cons (by repeat (first | with_reducible exact Sel.here | exact Sel.here | apply Sel.there)) (.cons (by repeat (first | with_reducible exact Sel.here | exact Sel.here | apply Sel.there)) .nil)) ?_
  refine G.take (i := 8) rfl rfl rfl (by kernel_rfl) (by kernel_rfl) (by kernel_rfl) (fun _ _ _ h => h) rfl (pv_fieldAddr (sz := 0) Try.underlying96 rfl (by kernel_rfl) rfl) (.cons (by repeat (first | with_reducible exact Sel.here | exact Sel.here | apply Sel.there)) (.cons (by repeat (first | with_reducible exact Sel.here | exact Sel.here | apply Sel.there)) .nil)) ?_
  refine G.take (i := 4) rfl rfl rfl (by kernel_rfl) (by kernel_rfl) (by kernel_rfl) (fun _ _ _ h => h) rfl (pv_load Try.underlying24 rfl rfl (blk_cell (v := .slice ad b.length cap) (by repeat (first | with_reducible exact Sel.here | exact Sel.here | apply Sel.there)) rfl)) (.cons (by repeat (first | with_reducible exact Sel.here | exact Sel.here | apply Sel.there)) (.cons (by repeat (first | with_reducible exact Sel.here | exact Sel.here | apply Sel.there)) .nil)) ?_
  refine G.take (i := 5) rfl rfl rfl (by kernel_rfl) (by kernel_rfl) (by kernel_rfl) (fun _ _ _ h => h) rfl (pv_lenSl Try.underlying24 rfl) (.cons (by repeat (first | with_reducible exact Sel.here | exact Sel.here | apply Sel.there)) (.cons (by repeat (first | with_reducible exact Sel.here | exact Sel.here | apply Sel.there)) .nil)) ?_
  refine G.one (i := 9) (by kernel_rfl) ?_
  refine G.turnOp rfl rfl (G.val rfl rfl (pv_load Try.underlying3 rfl rfl (blk_cell (v := .int .i64 (a : Int)) (by repeat (first | with_reducible exact Sel.here | exact Sel.here | apply Sel.there)) rfl)) ?_)
  refine G.back (.cons (by repeat (first | with_reducible exact Sel.here | exact Sel.here | apply Sel.there)) (.cons (by repeat (first | with_reducible exact Sel.here | exact Sel.here | apply Sel.there)) .nil)) ?_
  refine G.take (i := 10) rfl rfl rfl (by kernel_rfl) (by kernel_rfl) (by kernel_rfl) (fun _ _ _ h => h) rfl (pv_sub64 rfl rfl (by omega)) (.cons (by repeat (first | with_reducible exact Sel.here | exact Sel.here | apply Sel.there)) (.cons (by repeat (first | with_reducible exact Sel.here | exact Sel.here | apply Sel.there)) .nil)) ?_
  refine G.take (i := 11) rfl rfl rfl (by kernel_rfl) (by kernel_rfl) (by kernel_rfl) (fun _ _ _ h => h) rfl (pv_gtr rfl rfl) (.cons (by repeat (first | with_reducible exact Sel.here | exact Sel.here | apply Sel.there)) (.cons (by repeat (first | with_reducible exact Sel.here | exact Sel.here | apply Sel.there)) .nil)) ?_
  refine G.over (by kernel_rfl) ?_
  refine G.nThen ?_
  refine G.condP rfl (fun h16 => ?_) (fun h16 => ?_)
  · refine G.region ?_
    refine G.op rfl (G.val rfl rfl (pv_move rfl) ?_)
    refine G.op rfl (G.val rfl rfl (pv_nilCheck rfl) ?_)
    refine G.op rfl (G.val rfl rfl (pv_fieldAddr (sz := 0) Try.underlying96 rfl (by kernel_rfl) rfl) ?_)
    refine G.op rfl (G.val rfl rfl (pv_load Try.underlying24 rfl rfl (blk_cell (v := .slice ad b.length cap) (by repeat (first | with_reducible exact Sel.here | exact Sel.here | apply Sel.there)) rfl)) ?_)
    refine G.op rfl (G.val rfl rfl (pv_lenSl Try.underlying24 rfl) ?_)
    refine G.op rfl (G.cO0 rfl rfl (pe_fn rfl rfl Try.func79 rfl rfl) (give_tr _ _) Sub.nil may0 ?_ ?_)
    · intro x hJ; exact hJ.elim
    · rintro _ _
      refine G.pThen ?_
      exact G.outP (.cons (by repeat (first | with_reducible exact Sel.here | exact Sel.here | apply Sel.there)) (.cons (by repeat (first | with_reducible exact Sel.here | exact Sel.here | apply Sel.there)) .nil)) ⟨(), by show b.length < a + n; omega, rfl, rfl⟩
  · refine G.skip ?_
    refine G.nThen ?_
    refine G.seq ?_
    refine G.region ?_
    refine G.op rfl (G.val rfl rfl (pv_move rfl) ?_)
    refine G.op rfl (G.val rfl rfl (pv_nilCheck rfl) ?_)
    refine G.op rfl (G.val rfl rfl (pv_fieldAddr (sz := 0) Try.underlying96 rfl (by kernel_rfl) rfl) ?_)
    refine G.op rfl (G.val rfl rfl (pv_load Try.underlying3 rfl rfl (blk_cell (v := .int .i64 (a : Int)) (by repeat (first | with_reducible exact Sel.here | exact Sel.here | apply Sel.there)) rfl)) ?_)
    refine G.op rfl (G.val rfl rfl (pv_move rfl) ?_)
    refine G.op rfl (G.val rfl rfl ((pv_add64 rfl rfl (by omega)).int (show _ = ((a + n : Nat) : Int) by omega)) ?_)
    refine G.op rfl (G.val rfl rfl (pv_nilCheck rfl) ?_)
    refine G.op rfl (G.val rfl rfl (pv_fieldAddr (sz := 0) Try.underlying96 rfl (by kernel_rfl) rfl) ?_)
    refine G.op rfl (G.store (by kernel_rfl) rfl rfl rfl (by repeat (first | with_reducible exact Sel.here | exact Sel.here | apply Sel.there)) (by first | (simp; done) | exact Nat.le_of_ble_eq_true rfl) ?_)
    refine G.nil ?_
    refine G.nThen ?_
    refine G.seq ?_
    have hle : a + n ≤ b.length := by omega
    refine G.drawn (by kernel_rfl) (k := 17) rfl [blk D 96 [.bool true, (.slice ad b.length cap), .int .i64 ((a + n : Nat) : Int), .int .i64 0, .int .i64 p], own 5 1 (.slice ad b.length cap) b.length (b.map vByte)] ?_
    refine G.take (i := 0) rfl rfl rfl (by kernel_rfl) (by kernel_rfl) (by kernel_rfl) (fun _ _ _ h => h) rfl (pv_move rfl) (.cons (by repeat (first | with_reducible exact Sel.here | exact Sel.here | apply Sel.there)) (.cons (by repeat (first | with_reducible exact Sel.here | exact Sel.here | apply Sel.there)) .nil)) ?_
    refine G.take (i := 1) rfl rfl rfl (by kernel_rfl) (by kernel_rfl) (by kernel_rfl) (fun _ _ _ h => h) rfl (pv_nilCheck rfl) (.cons (by repeat (first | with_reducible exact Sel.here | exact Sel.here | apply Sel.there)) (.cons (by repeat (first | with_reducible exact Sel.here | exact Sel.here | apply Sel.there)) .nil)) ?_
    refine G.take (i := 2) rfl rfl rfl (by kernel_rfl) (by kernel_rfl) (by kernel_rfl) (fun _ _ _ h => h) rfl (pv_fieldAddr (sz := 0) Try.underlying96 rfl (by kernel_rfl) rfl) (.cons (by repeat (first | with_reducible exact Sel.here | exact Sel.here | apply Sel.there)) (.cons (by repeat (first | with_reducible exact Sel.here | exact Sel.here | apply Sel.there)) .nil)) ?_
    refine G.take (i := 4) rfl rfl rfl (by kernel_rfl) (by kernel_rfl) (by kernel_rfl) (fun _ _ _ h => h) rfl (pv_move rfl) (.cons (by repeat (first | with_reducible exact Sel.here | exact Sel.here | apply Sel.there)) (.cons (by repeat (first | with_reducible exact Sel.here | exact Sel.here | apply Sel.there)) .nil)) ?_
    refine G.take (i := 5) rfl rfl rfl (by kernel_rfl) (by kernel_rfl) (by kernel_rfl) (fun _ _ _ h => h) rfl (pv_nilCheck rfl) (.cons (by repeat (first | with_reducible exact Sel.here | exact Sel.here | apply Sel.there)) (.cons (by repeat (first | with_reducible exact Sel.here | exact Sel.here | apply Sel.there)) .nil)) ?_
    refine G.take (i := 6) rfl rfl rfl (by kernel_rfl) (by kernel_rfl) (by kernel_rfl) (fun _ _ _ h => h) rfl (pv_fieldAddr (sz := 0) Try.underlying96 rfl (by kernel_rfl) rfl) (.cons (by repeat (first | with_reducible exact Sel.here | exact Sel.here | apply Sel.there)) (.cons (by repeat (first | with_reducible exact Sel.here | exact Sel.here | apply Sel.there)) .nil)) ?_
    refine G.take (i := 8) rfl rfl rfl (by kernel_rfl) (by kernel_rfl) (by kernel_rfl) (fun _ _ _ h => h) rfl (pv_move rfl) (.cons (by repeat (first | with_reducible exact Sel.here | exact Sel.here | apply Sel.there)) (.cons (by repeat (first | with_reducible exact Sel.here | exact Sel.here | apply Sel.there)) .nil)) ?_
    refine G.take (i := 10) rfl rfl rfl (by kernel_rfl) (by kernel_rfl) (by kernel_rfl) (fun _ _ _ h => h) rfl (pv_move rfl) (.cons (by repeat (first | with_reducible exact Sel.here | exact Sel.here | apply Sel.there)) (.cons (by repeat (first | with_reducible exact Sel.here | exact Sel.here | apply Sel.there)) .nil)) ?_
    refine G.take (i := 11) rfl rfl rfl (by kernel_rfl) (by kernel_rfl) (by kernel_rfl) (fun _ _ _ h => h) rfl (pv_nilCheck rfl) (.cons (by repeat (first | with_reducible exact Sel.here | exact Sel.here | apply Sel.there)) (.cons (by repeat (first | with_reducible exact Sel.here | exact Sel.here | apply Sel.there)) .nil)) ?_
    refine G.take (i := 12) rfl rfl rfl (by kernel_rfl) (by kernel_rfl) (by kernel_rfl) (fun _ _ _ h => h) rfl (pv_fieldAddr (sz := 0) Try.underlying96 rfl (by kernel_rfl) rfl) (.cons (by repeat (first | with_reducible exact Sel.here | exact Sel.here | apply Sel.there)) (.cons (by repeat (first | with_reducible exact Sel.here | exact Sel.here | apply Sel.there)) .nil)) ?_
    refine G.take (i := 3) rfl rfl rfl (by kernel_rfl) (by kernel_rfl) (by kernel_rfl) (fun _ _ _ h => h) rfl (pv_load Try.underlying24 rfl rfl (blk_cell (v := .slice ad b.length cap) (by repeat (first | with_reducible exact Sel.here | exact Sel.here | apply Sel.there)) rfl)) (.cons (by repeat (first | with_reducible exact Sel.here | exact Sel.here | apply Sel.there)) (.cons (by repeat (first | with_reducible exact Sel.here | exact Sel.here | apply Sel.there)) .nil)) ?_
    refine G.take (i := 7) rfl rfl rfl (by kernel_rfl) (by kernel_rfl) (by kernel_rfl) (fun _ _ _ h => h) rfl (pv_load Try.underlying3 rfl rfl (blk_cell (v := .int .i64 ((a + n : Nat) : Int)) (by repeat (first | with_reducible exact Sel.here | exact Sel.here | apply Sel.there)) rfl)) (.cons (by repeat (first | with_reducible exact Sel.here | exact Sel.here | apply Sel.there)) (.cons (by repeat (first | with_reducible exact Sel.here | exact Sel.here | apply Sel.there)) .nil)) ?_
    refine G.take (i := 9) rfl rfl rfl (by kernel_rfl) (by kernel_rfl) (by kernel_rfl) (fun _ _ _ h => h) rfl ((pv_sub64 rfl rfl (by omega)).int (show _ = (a : Int) by omega)) (.cons (by repeat (first | with_reducible exact Sel.here | exact Sel.here | apply Sel.there)) (.cons (by repeat (first | with_reducible exact Sel.here | exact Sel.here | apply Sel.there)) .nil)) ?_
    refine G.one (i := 13) (by kernel_rfl) ?_
    refine G.turnOp rfl rfl (G.val rfl rfl (pv_load Try.underlying3 rfl rfl (blk_cell (v := .int .i64 ((a + n : Nat) : Int)) (by repeat (first | with_reducible exact Sel.here | exact Sel.here | apply Sel.there)) rfl)) ?_)
    refine G.back (.cons (by repeat (first | with_reducible exact Sel.here | exact Sel.here | apply Sel.there)) (.cons (by repeat (first | with_reducible exact Sel.here | exact Sel.here | apply Sel.there)) .nil)) ?_
    refine G.take (i := 14) rfl rfl rfl (by kernel_rfl) (by kernel_rfl) (by kernel_rfl) (fun _ _ _ h => h) rfl (pv_subLH (sz := 1) Try.underlying24 Try.sizeByte rfl rfl rfl rfl rfl (Nat.le_add_right a n) (by omega)) (.cons (by repeat (first | with_reducible exact Sel.here | exact Sel.here | apply Sel.there)) (.cons (by repeat (first | with_reducible exact Sel.here | exact Sel.here | apply Sel.there)) .nil)) ?_
    refine G.one (i := 15) (by kernel_rfl) ?_
    refine G.ownNil 5 1 ?_
    refine G.turnOp rfl rfl (G.appendS (k := 0) (cs := []) (xs := subB b a n) (f := vByte) (p := fun _ => True) (Ps := fun k => (Value.slice ad b.length cap).ownBlock = some k) rfl Try.underlying24 Try.infoByte' rfl rfl .here (fun w hw => (own_isSl (f := vByte) (p := fun _ => True) (xs := b) (by repeat (first | with_reducible exact Sel.here | exact Sel.here | apply Sel.there)) rfl (fun _ _ => trivial) w hw).sub (E := rByte) (Nat.le_add_right a n) hle) (vByte_one _) (by rw [subB_length hle]; omega) (by rw [subB_length hle]; omega) ?_)
    intro v'
    rw [Nat.zero_add (subB b a n).length, List.nil_append]
    refine G.back (.cons (by repeat (first | with_reducible exact Sel.here | exact Sel.here | apply Sel.there)) (.cons (by repeat (first | with_reducible exact Sel.here | exact Sel.here | apply Sel.there)) .nil)) ?_
    refine G.take (i := 16) rfl rfl rfl (by kernel_rfl) (by kernel_rfl) (by kernel_rfl) (fun _ _ _ h => h) rfl (pv_assign rfl) (.cons (by repeat (first | with_reducible exact Sel.here | exact Sel.here | apply Sel.there)) (.cons (by repeat (first | with_reducible exact Sel.here | exact Sel.here | apply Sel.there)) .nil)) ?_
    refine G.over (by kernel_rfl) ?_
    refine G.nThen ?_
    refine G.ret ?_
    exact G.out1 (m' := [blk D 96 [.bool true, (.slice ad b.length cap), .int .i64 ((a + n : Nat) : Int), .int .i64 0, .int .i64 p], own 5 1 (.slice ad b.length cap) b.length (b.map vByte), own 5 1 v' (subB b a n).length ((subB b a n).map vByte)]) rfl rfl (.cons (by repeat (first | with_reducible exact Sel.here | exact Sel.here | apply Sel.there)) (.cons (by repeat (first | with_reducible exact Sel.here | exact Sel.here | apply Sel.there)) (.cons (by repeat (first | with_reducible exact Sel.here | exact Sel.here | apply Sel.there)) .nil))) ⟨v', hle, rfl, rfl⟩
set_option maxRecDepth 20000 in

theorem int1_tr (D a bR bL bH bN : Nat) (v : Value) (b : List UInt8) (p low high : Int) (ha : a ≤ b.length) (hb : b.length ≤ 1000000000) : TrO Try.prog 66 #[.pointer (some ⟨bR, 0, none⟩), .pointer (some ⟨bL, 0, none⟩), .pointer (some ⟨bH, 0, none⟩), .pointer (some ⟨bN, 0, none⟩)] [] [blk D 96 [.bool true, v, .int .i64 (a : Int), .int .i64 0, .int .i64 p], own 5 1 v b.length (b.map vByte), blk bR 75 [.pointer (some ⟨D, 0, none⟩)], blk bL 3 [.int .i64 low], blk bH 3 [.int .i64 high], blk bN 3 [.int .i64 0]]
    (TO (fun x : Nat × Nat => bndM b a low high 5 = .ok x.1 x.2) (fun _ => .tuple #[]) (fun x => [blk D 96 [.bool true, v, .int .i64 (x.2 : Int), .int .i64 0, .int .i64 p], own 5 1 v b.length (b.map vByte), blk bR 75 [.pointer (some ⟨D, 0, none⟩)], blk bL 3 [.int .i64 low], blk bH 3 [.int .i64 high], blk bN 3 [.int .i64 (x.1 : Int)]]) (fun y : Nat × Nat × Nat => bndM b a low high 5 = .bad y.1 y.2.1) (fun y => wrongC y.1 y.2.1) (fun y => [blk D 96 [.bool true, v, .int .i64 (y.2.2 : Int), .int .i64 0, .int .i64 p], own 5 1 v b.length (b.map vByte), blk bR 75 [.pointer (some ⟨D, 0, none⟩)], blk bL 3 [.int .i64 low], blk bH 3 [.int .i64 high], blk bN 3 [.int .i64 0]])) := by
  refine TrO.of (l := [(0, .pointer (some ⟨bR, 0, none⟩)), (1, .pointer (some ⟨bL, 0, none⟩)), (2, .pointer (some ⟨bH, 0, none⟩)), (3, .pointer (some ⟨bN, 0, none⟩))]) Try.func66 rfl (n := 8) rfl (.cons rfl (.cons rfl (.cons rfl (.cons rfl .nil)))) (fun w0 hro => ?_)
  refine G.region ?_
  refine G.op rfl (G.val rfl rfl (pv_load Try.underlying75 rfl rfl (blk_cell (v := .pointer (some ⟨D, 0, none⟩)) (by repeat (first | with_reducible exact Sel.here | exact Sel.here | apply Sel.there)) rfl)) ?_)
  refine G.op rfl (G.val rfl rfl (pv_load Try.underlying3 rfl rfl (blk_cell (v := .int .i64 low) (by repeat (first | with_reducible exact Sel.here | exact Sel.here | apply Sel.there)) rfl)) ?_)
  refine G.op rfl (G.val rfl rfl (pv_load Try.underlying3 rfl rfl (blk_cell (v := .int .i64 high) (by repeat (first | with_reducible exact Sel.here | exact Sel.here | apply Sel.there)) rfl)) ?_)
  refine G.op rfl (G.cO2 rfl rfl (pe_fn rfl rfl Try.func67 rfl rfl) (bounded_tr D a v b p low high 5 (by decide) ha hb) (.cons (by repeat (first | with_reducible exact Sel.here | exact Sel.here | apply Sel.there)) (.cons (by repeat (first | with_reducible exact Sel.here | exact Sel.here | apply Sel.there)) .nil)) may0 ?_ ?_)
  · rintro ⟨nn, nx⟩ hg
    refine G.op rfl (G.store (by kernel_rfl) rfl rfl rfl (by repeat (first | with_reducible exact Sel.here | exact Sel.here | apply Sel.there)) (by first | (simp; done) | exact Nat.le_of_ble_eq_true rfl) ?_)
    refine G.nil ?_
    exact G.outE (m' := [blk D 96 [.bool true, v, .int .i64 (nx : Int), .int .i64 0, .int .i64 p], own 5 1 v b.length (b.map vByte), blk bR 75 [.pointer (some ⟨D, 0, none⟩)], blk bL 3 [.int .i64 low], blk bH 3 [.int .i64 high], blk bN 3 [.int .i64 (nn : Int)]]) rfl (.cons (by repeat (first | with_reducible exact Sel.here | exact Sel.here | apply Sel.there)) (.cons (by repeat (first | with_reducible exact Sel.here | exact Sel.here | apply Sel.there)) (.cons (by repeat (first | with_reducible exact Sel.here | exact Sel.here | apply Sel.there)) (.cons (by repeat (first | with_reducible exact Sel.here | exact Sel.here | apply Sel.there)) (.cons (by repeat (first | with_reducible exact Sel.here | exact Sel.here | apply Sel.there)) (.cons (by repeat (first | with_reducible exact Sel.here | exact Sel.here | apply Sel.there)) .nil)))))) ⟨(nn, nx), hg, rfl, rfl⟩
  · rintro ⟨ee, pp, aa⟩ hbad
    exact G.outP (.cons (by repeat (first | with_reducible exact Sel.here | exact Sel.here | apply Sel.there)) (.cons (by repeat (first | with_reducible exact Sel.here | exact Sel.here | apply Sel.there)) (.cons (by repeat (first | with_reducible exact Sel.here | exact Sel.here | apply Sel.there)) (.cons (by repeat (first | with_reducible exact Sel.here | exact Sel.here | apply Sel.there)) (.cons (by repeat (first | with_reducible exact Sel.here | exact Sel.here | apply Sel.there)) (.cons (by repeat (first | with_reducible exact Sel.here | exact Sel.here | apply Sel.there)) .nil)))))) ⟨(ee, pp, aa), hbad, rfl, rfl⟩
set_option maxRecDepth 20000 in

theorem count1_tr (D a bR bH bN : Nat) (v : Value) (b : List UInt8) (p high : Int) (ha : a ≤ b.length) (hb : b.length ≤ 1000000000) : TrO Try.prog 80 #[.pointer (some ⟨bR, 0, none⟩), .pointer (some ⟨bH, 0, none⟩), .pointer (some ⟨bN, 0, none⟩)] [] [blk D 96 [.bool true, v, .int .i64 (a : Int), .int .i64 0, .int .i64 p], own 5 1 v b.length (b.map vByte), blk bR 75 [.pointer (some ⟨D, 0, none⟩)], blk bH 3 [.int .i64 high], blk bN 3 [.int .i64 0]]
    (TO (fun x : Nat × Nat => bndM b a 0 high 3 = .ok x.1 x.2) (fun _ => .tuple #[]) (fun x => [blk D 96 [.bool true, v, .int .i64 (x.2 : Int), .int .i64 0, .int .i64 p], own 5 1 v b.length (b.map vByte), blk bR 75 [.pointer (some ⟨D, 0, none⟩)], blk bH 3 [.int .i64 high], blk bN 3 [.int .i64 (x.1 : Int)]]) (fun y : Nat × Nat × Nat => bndM b a 0 high 3 = .bad y.1 y.2.1) (fun y => wrongC y.1 y.2.1) (fun y => [blk D 96 [.bool true, v, .int .i64 (y.2.2 : Int), .int .i64 0, .int .i64 p], own 5 1 v b.length (b.map vByte), blk bR 75 [.pointer (some ⟨D, 0, none⟩)], blk bH 3 [.int .i64 high], blk bN 3 [.int .i64 0]])) := by
  refine TrO.of (l := [(0, .pointer (some ⟨bR, 0, none⟩)), (1, .pointer (some ⟨bH, 0, none⟩)), (2, .pointer (some ⟨bN, 0, none⟩))]) Try.func80 rfl (n := 6) rfl (.cons rfl (.cons rfl (.cons rfl .nil))) (fun w0 hro => ?_)
  refine G.region ?_
  refine G.op rfl (G.val rfl rfl (pv_load Try.underlying75 rfl rfl (blk_cell (v := .pointer (some ⟨D, 0, none⟩)) (by repeat (first | with_reducible exact Sel.here | exact Sel.here | apply Sel.there)) rfl)) ?_)
  refine G.op rfl (G.val rfl rfl (pv_load Try.underlying3 rfl rfl (blk_cell (v := .int .i64 high) (by repeat (first | with_reducible exact Sel.here | exact Sel.here | apply Sel.there)) rfl)) ?_)
  refine G.op rfl (G.cO2 rfl rfl (pe_fn rfl rfl Try.func67 rfl rfl) (bounded_tr D a v b p 0 high 3 (by decide) ha hb) (.cons (by repeat (first | with_reducible exact Sel.here | exact Sel.here | apply Sel.there)) (.cons (by repeat (first | with_reducible exact Sel.here | exact Sel.here | apply Sel.there)) .nil)) may0 ?_ ?_)
  · rintro ⟨nn, nx⟩ hg
    refine G.op rfl (G.store (by kernel_rfl) rfl rfl rfl (by repeat (first | with_reducible exact Sel.here | exact Sel.here | apply Sel.there)) (by first | (simp; done) | exact Nat.le_of_ble_eq_true rfl) ?_)
    refine G.nil ?_
    exact G.outE (m' := [blk D 96 [.bool true, v, .int .i64 (nx : Int), .int .i64 0, .int .i64 p], own 5 1 v b.length (b.map vByte), blk bR 75 [.pointer (some ⟨D, 0, none⟩)], blk bH 3 [.int .i64 high], blk bN 3 [.int .i64 (nn : Int)]]) rfl (.cons (by repeat (first | with_reducible exact Sel.here | exact Sel.here | apply Sel.there)) (.cons (by repeat (first | with_reducible exact Sel.here | exact Sel.here | apply Sel.there)) (.cons (by repeat (first | with_reducible exact Sel.here | exact Sel.here | apply Sel.there)) (.cons (by repeat (first | with_reducible exact Sel.here | exact Sel.here | apply Sel.there)) (.cons (by repeat (first | with_reducible exact Sel.here | exact Sel.here | apply Sel.there)) .nil))))) ⟨(nn, nx), hg, rfl, rfl⟩
  · rintro ⟨ee, pp, aa⟩ hbad
    exact G.outP (.cons (by repeat (first | with_reducible exact Sel.here | exact Sel.here | apply Sel.there)) (.cons (by repeat (first | with_reducible exact Sel.here | exact Sel.here | apply Sel.there)) (.cons (by repeat (first | with_reducible exact Sel.here | exact Sel.here | apply Sel.there)) (.cons (by repeat (first | with_reducible exact Sel.here | exact Sel.here | apply Sel.there)) (.cons (by repeat (first | with_reducible exact Sel.here | exact Sel.here | apply Sel.there)) .nil))))) ⟨(ee, pp, aa), hbad, rfl, rfl⟩
/-- what a string of bytes comes to: how many, and where it begins -/
def bytR (b : List UInt8) (a : Nat) (high : Int) : Rn := match bndM b a 0 high 3 with
  | .bad e p => .bad e p
  | .ok n nx => if b.length < nx + n then .bad 4 b.length else .ok n nx
theorem bytR_bad {b : List UInt8} {a e p : Nat} {high : Int} (h : bndM b a 0 high 3 = .bad e p) : bytR b a high = .bad e p := by unfold bytR; rw [h]
theorem bytR_cut {b : List UInt8} {a n nx : Nat} {high : Int} (h : bndM b a 0 high 3 = .ok n nx) (h1 : b.length < nx + n) : bytR b a high = .bad 4 b.length := by unfold bytR; rw [h]; exact if_pos h1
theorem bytR_ok {b : List UInt8} {a n nx : Nat} {high : Int} (h : bndM b a 0 high 3 = .ok n nx) (h1 : nx + n ≤ b.length) : bytR b a high = .ok n nx := by unfold bytR; rw [h]; exact if_neg (by omega)
theorem getGo_small {b : List UInt8} : ∀ (f k n a m nx : Nat), getGo b a f k n = .ok m nx → m ≤ 2147483647 := by
  intro f
  induction f with
  | zero => intro k n a m nx h; cases h
  | succ f ih =>
    intro k n a m nx h
    unfold getGo at h
    split at h
    · cases h
    · split at h
      · exact ih _ _ _ _ _ h
      · split at h
        · cases h
        · injection h with h1 h2
          omega
theorem getM_small {b : List UInt8} {a m nx : Nat} (h : getM b a = .ok m nx) : m ≤ 2147483647 := by
  unfold getM at h
  split at h
  · cases h
  · exact getGo_small _ _ _ _ _ _ h
set_option maxRecDepth 20000 in

theorem bytes1_tr (D a bR bH bN : Nat) (v : Value) (b : List UInt8) (p high : Int) (ha : a ≤ b.length) (hb : b.length ≤ 1000000000) : TrO Try.prog 71 #[.pointer (some ⟨bR, 0, none⟩), .pointer (some ⟨bH, 0, none⟩), .pointer (some ⟨bN, 0, none⟩)] [] [blk D 96 [.bool true, v, .int .i64 (a : Int), .int .i64 0, .int .i64 p], own 5 1 v b.length (b.map vByte), blk bR 75 [.pointer (some ⟨D, 0, none⟩)], blk bH 3 [.int .i64 high], blk bN 24 [.slice none 0 0]]
    (TO (fun x : Nat × Nat × Value => bytR b a high = .ok x.1 x.2.1) (fun _ => .tuple #[]) (fun x => [blk D 96 [.bool true, v, .int .i64 ((x.2.1 + x.1 : Nat) : Int), .int .i64 0, .int .i64 p], own 5 1 v b.length (b.map vByte), blk bR 75 [.pointer (some ⟨D, 0, none⟩)], blk bH 3 [.int .i64 high], blk bN 24 [x.2.2], own 5 1 x.2.2 (subB b x.2.1 x.1).length ((subB b x.2.1 x.1).map vByte)]) (fun y : Nat × Nat × Nat => bytR b a high = .bad y.1 y.2.1) (fun y => wrongC y.1 y.2.1) (fun y => [blk D 96 [.bool true, v, .int .i64 (y.2.2 : Int), .int .i64 0, .int .i64 p], own 5 1 v b.length (b.map vByte), blk bR 75 [.pointer (some ⟨D, 0, none⟩)], blk bH 3 [.int .i64 high], blk bN 24 [.slice none 0 0]])) := by
  refine TrO.of (l := [(0, .pointer (some ⟨bR, 0, none⟩)), (1, .pointer (some ⟨bH, 0, none⟩)), (2, .pointer (some ⟨bN, 0, none⟩))]) Try.func71 rfl (n := 8) rfl (.cons rfl (.cons rfl (.cons rfl .nil))) (fun w0 hro => ?_)
  refine G.drawn (by kernel_rfl) (k := 6) rfl [blk bR 75 [.pointer (some ⟨D, 0, none⟩)], blk bH 3 [.int .i64 high]] ?_
  refine G.take (i := 0) rfl rfl rfl (by kernel_rfl) (by kernel_rfl) (by kernel_rfl) (fun _ _ _ h => h) rfl (pv_load Try.underlying75 rfl rfl (blk_cell (v := .pointer (some ⟨D, 0, none⟩)) (by repeat (first | with_reducible exact Sel.here | exact Sel.here | apply Sel.there)) rfl)) (.cons (by repeat (first | with_reducible exact Sel.here | exact Sel.here | apply Sel.there)) (.cons (by repeat (first | with_reducible exact Sel.here | exact Sel.here | apply Sel.there)) .nil)) ?_
  refine G.take (i := 1) rfl rfl rfl (by kernel_rfl) (by kernel_rfl) (by kernel_rfl) (fun _ _ _ h => h) rfl (pv_load Try.underlying75 rfl rfl (blk_cell (v := .pointer (some ⟨D, 0, none⟩)) (by repeat (first | with_reducible exact Sel.here | exact Sel.here | apply Sel.there)) rfl)) (.cons (by repeat (first | with_reducible exact Sel.here | exact Sel.here | apply Sel.there)) (.cons (by repeat (first | with_reducible exact Sel.here | exact Sel.here | apply Sel.there)) .nil)) ?_
  refine G.one (i := 2) (by kernel_rfl) ?_
  refine G.turnOp rfl rfl (G.val rfl rfl (pv_load Try.underlying3 rfl rfl (blk_cell (v := .int .i64 high) (by repeat (first | with_reducible exact Sel.here | exact Sel.here | apply Sel.there)) rfl)) ?_)
  refine G.back (.cons (by repeat (first | with_reducible exact Sel.here | exact Sel.here | apply Sel.there)) (.cons (by repeat (first | with_reducible exact Sel.here | exact Sel.here | apply Sel.there)) .nil)) ?_
  refine G.one (i := 3) (by kernel_rfl) ?_
  refine G.turnOp rfl rfl (G.cO2 rfl rfl (pe_fn rfl rfl Try.func67 rfl rfl) (bounded_tr D a v b p 0 high 3 (by decide) ha hb) (.cons (by repeat (first | with_reducible exact Sel.here | exact Sel.here | apply Sel.there)) (.cons (by repeat (first | with_reducible exact Sel.here | exact Sel.here | apply Sel.there)) .nil)) may0 ?_ ?_)
  · rintro ⟨nn, nx⟩ hg
    have hg' : bndM b a 0 high 3 = .ok nn nx := hg
    have hget := (bnd_get hg').1
    have hnx := getM_next hget
    have hsm := getM_small hget
    refine G.back (.cons (by repeat (first | with_reducible exact Sel.here | exact Sel.here | apply Sel.there)) (.cons (by repeat (first | with_reducible exact Sel.here | exact Sel.here | apply Sel.there)) .nil)) ?_
    refine G.one (i := 4) (by kernel_rfl) ?_
    refine G.turnOp rfl rfl (G.cO3 rfl rfl (pe_fn rfl rfl Try.func70 rfl rfl) (some_tr D nx nn v b p hnx hb (by omega)) (.cons (by repeat (first | with_reducible exact Sel.here | exact Sel.here | apply Sel.there)) (.cons (by repeat (first | with_reducible exact Sel.here | exact Sel.here | apply Sel.there)) .nil)) may0 ?_ ?_)
    · rintro v' hle
      have hle' : nx + nn ≤ b.length := hle
      refine G.ownFact (v := v') (by repeat (first | with_reducible exact Sel.here | exact Sel.here | apply Sel.there)) (fun hv1 _ => ?_)
      refine G.back (.cons (by repeat (first | with_reducible exact Sel.here | exact Sel.here | apply Sel.there)) (.cons (by repeat (first | with_reducible exact Sel.here | exact Sel.here | apply Sel.there)) .nil)) ?_
      refine G.one (i := 5) (by kernel_rfl) ?_
      refine G.turnOp rfl rfl (G.store (o := 0) (by kernel_rfl) rfl rfl hv1 (by repeat (first | with_reducible exact Sel.here | exact Sel.here | apply Sel.there)) (by simp) ?_)
      refine G.back (.cons (by repeat (first | with_reducible exact Sel.here | exact Sel.here | apply Sel.there)) (.cons (by repeat (first | with_reducible exact Sel.here | exact Sel.here | apply Sel.there)) .nil)) ?_
      refine G.over (by kernel_rfl) ?_
      exact G.outE (m' := [blk D 96 [.bool true, v, .int .i64 ((nx + nn : Nat) : Int), .int .i64 0, .int .i64 p], own 5 1 v b.length (b.map vByte), blk bR 75 [.pointer (some ⟨D, 0, none⟩)], blk bH 3 [.int .i64 high], blk bN 24 [v'], own 5 1 v' (subB b nx nn).length ((subB b nx nn).map vByte)]) rfl (.cons (by repeat (first | with_reducible exact Sel.here | exact Sel.here | apply Sel.there)) (.cons (by repeat (first | with_reducible exact Sel.here | exact Sel.here | apply Sel.there)) (.cons (by repeat (first | with_reducible exact Sel.here | exact Sel.here | apply Sel.there)) (.cons (by repeat (first | with_reducible exact Sel.here | exact Sel.here | apply Sel.there)) (.cons (by repeat (first | with_reducible exact Sel.here | exact Sel.here | apply Sel.there)) (.cons (by repeat (first | with_reducible exact Sel.here | exact Sel.here | apply Sel.there)) .nil)))))) ⟨(nn, nx, v'), bytR_ok hg' hle', rfl, rfl⟩
    · rintro ⟨⟩ hlt
      exact G.outP (.cons (by repeat (first | with_reducible exact Sel.here | exact Sel.here | apply Sel.there)) (.cons (by repeat (first | with_reducible exact Sel.here | exact Sel.here | apply Sel.there)) (.cons (by repeat (first | with_reducible exact Sel.here | exact Sel.here | apply Sel.there)) (.cons (by repeat (first | with_reducible exact Sel.here | exact Sel.here | apply Sel.there)) (.cons (by repeat (first | with_reducible exact Sel.here | exact Sel.here | apply Sel.there)) .nil))))) ⟨(4, b.length, nx), bytR_cut hg' hlt, rfl, rfl⟩
  · rintro ⟨ee, pp, aa⟩ hbad
    exact G.outP (.cons (by repeat (first | with_reducible exact Sel.here | exact Sel.here | apply Sel.there)) (.cons (by repeat (first | with_reducible exact Sel.here | exact Sel.here | apply Sel.there)) (.cons (by repeat (first | with_reducible exact Sel.here | exact Sel.here | apply Sel.there)) (.cons (by repeat (first | with_reducible exact Sel.here | exact Sel.here | apply Sel.there)) (.cons (by repeat (first | with_reducible exact Sel.here | exact Sel.here | apply Sel.there)) .nil))))) ⟨(ee, pp, aa), bytR_bad hbad, rfl, rfl⟩
end Go.Proofs.Ytakcffhknnailaa
