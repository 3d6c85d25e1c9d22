/- Contracts of layer 1: making and telling; and of the statements' helpers. Conditions: what is read is not more than a thousand million bytes. -/
import Derived.Test.YtakcffhknnailaaFU
import Derived.Test.YtakcffhknnailaaW9
set_option linter.unusedVariables false
set_option linter.unusedSimpArgs false
namespace Go.Proofs.Ytakcffhknnailaa
open Go.RowKit

set_option maxRecDepth 20000 in

theorem at_tr (D : Nat) (v : Value) (made : Bool) (a e p : Int) : Tr Try.prog 52 #[.pointer (some ⟨D, 0, none⟩)] [blk D 96 [.bool made, v, .int .i64 (a : Int), .int .i64 e, .int .i64 p]] [] (T0 (.int .i64 a)) := by
  refine Tr.of (l := [(0, .pointer (some ⟨D, 0, none⟩))]) Try.func52 rfl (n := 9) rfl (.cons rfl .nil) (fun w0 hro => ?_)
  have hr := ro1 hro
  refine G.seq ?_
  refine G.region ?_
  refine G.op rfl (G.val rfl rfl (pv_assign rfl) ?_)
  refine G.nil ?_
  refine G.nThen ?_
  refine G.seq ?_
  refine G.seq ?_
  refine G.region ?_
  refine G.op rfl (G.val rfl rfl (pv_move rfl) ?_)
  refine G.op rfl (G.val rfl rfl (pv_eqlP0 Try.underlying75 rfl rfl) ?_)
  refine G.nil ?_
  refine G.nThen ?_
  refine G.condF rfl (rfl) ?_
  refine G.skip ?_
  refine G.nThen ?_
  refine G.seq ?_
  refine G.region ?_
  refine G.op rfl (G.val rfl rfl (pv_move rfl) ?_)
  refine G.op rfl (G.val rfl rfl (pv_nilCheck rfl) ?_)
  refine G.op rfl (G.val rfl rfl (pv_fieldAddr (sz := 0) Try.underlying96 rfl (by kernel_rfl) rfl) ?_)
  refine G.op rfl (G.val rfl rfl (pv_load Try.underlying3 rfl rfl (ro_blk (v := .int .i64 a) hr rfl)) ?_)
  refine G.op rfl (G.val rfl rfl (pv_assign rfl) ?_)
  refine G.nil ?_
  refine G.nThen ?_
  refine G.ret ?_
  exact G.done1 rfl rfl .nil ⟨rfl, rfl⟩
set_option maxRecDepth 20000 in

theorem at0_tr : Tr Try.prog 52 #[.pointer none] [] [] (T0 (.int .i64 0)) := by
  refine Tr.of (l := [(0, .pointer none)]) Try.func52 rfl (n := 9) rfl (.cons rfl .nil) (fun w0 hro => ?_)
  refine G.seq ?_
  refine G.region ?_
  refine G.op rfl (G.val rfl rfl (pv_assign rfl) ?_)
  refine G.nil ?_
  refine G.nThen ?_
  refine G.seq ?_
  refine G.seq ?_
  refine G.region ?_
  refine G.op rfl (G.val rfl rfl (pv_move rfl) ?_)
  refine G.op rfl (G.val rfl rfl (pv_eqlP0 Try.underlying75 rfl rfl) ?_)
  refine G.nil ?_
  refine G.nThen ?_
  refine G.condT rfl (rfl) ?_
  refine G.seq ?_
  refine G.region ?_
  refine G.op rfl (G.val rfl rfl (pv_assign rfl) ?_)
  refine G.nil ?_
  refine G.nThen ?_
  refine G.ret ?_
  refine G.rThen ?_
  exact G.done1 rfl rfl .nil ⟨rfl, rfl⟩
set_option maxRecDepth 20000 in

theorem fault_tr (D : Nat) (v : Value) (made : Bool) (a e p : Int) : Tr Try.prog 49 #[.pointer (some ⟨D, 0, none⟩)] [blk D 96 [.bool made, v, .int .i64 (a : Int), .int .i64 e, .int .i64 p]] [] (T0 (.agg #[.int .i64 (if made then e else 1), .int .i64 (if made then p else 0)])) := by
  refine Tr.of (l := [(0, .pointer (some ⟨D, 0, none⟩))]) Try.func49 rfl (n := 17) rfl (.cons rfl .nil) (fun w0 hro => ?_)
  have hr := ro1 hro
  refine G.seq ?_
  refine G.region ?_
  refine G.op rfl (G.alloc (z := .agg #[.int .i64 0, .int .i64 0]) (cs := [.int .i64 0, .int .i64 0]) rfl (by kernel_rfl) rfl ?_)
  intro b2
  refine G.nil ?_
  refine G.nThen ?_
  refine G.seq ?_
  refine G.seq ?_
  refine G.region ?_
  refine G.op rfl (G.val rfl rfl (pv_move rfl) ?_)
  refine G.op rfl (G.val rfl rfl (pv_eqlP0 Try.underlying75 rfl rfl) ?_)
  refine G.op rfl (G.val rfl rfl (pv_move rfl) ?_)
  refine G.want rfl rfl rfl (G.val rfl rfl (pv_move rfl) ?_)
  refine G.want rfl rfl rfl (G.val rfl rfl (pv_nilCheck rfl) ?_)
  refine G.want rfl rfl rfl (G.val rfl rfl (pv_fieldAddr (sz := 0) Try.underlying96 rfl (by kernel_rfl) rfl) ?_)
  refine G.want rfl rfl rfl (G.val rfl rfl (pv_load Try.underlying4 rfl rfl (ro_blk (v := .bool made) hr rfl)) ?_)
  refine G.want rfl rfl rfl (G.val rfl rfl (pv_not rfl) ?_)
  refine G.op rfl (G.val rfl rfl (pv_pick rfl rfl) ?_)
  refine G.nil ?_
  refine G.nThen ?_
  refine G.cond rfl (fun h11 => ?_) (fun h11 => ?_)
  · obtain rfl : made = false := by cases made <;> first | rfl | cases h11
    refine G.seq ?_
    refine G.region ?_
    refine G.op rfl (G.val rfl rfl (pv_build (cells := #[.int .i64 1, .int .i64 0]) (fun a ha => ha.pevs rfl) (by kernel_rfl)) ?_)
    refine G.op rfl (G.storeN (by kernel_rfl) rfl rfl rfl (by repeat (first | with_reducible exact Sel.here | exact Sel.here | apply Sel.there)) (by first | (simp; done) | exact Nat.le_of_ble_eq_true rfl) ?_)
    refine G.nil ?_
    refine G.nThen ?_
    refine G.ret ?_
    refine G.rThen ?_
    first | exact G.doneCN (cs := [.int .i64 1, .int .i64 0]) rfl rfl Try.underlying39 rfl (by kernel_rfl) (blk_range (k := 2) (by repeat (first | with_reducible exact Sel.here | exact Sel.here | apply Sel.there)) rfl) .nil ⟨rfl, rfl⟩ | exact G.doneCN (cs := [.int .i64 e, .int .i64 p]) rfl rfl Try.underlying39 rfl (by kernel_rfl) (blk_range (k := 2) (by repeat (first | with_reducible exact Sel.here | exact Sel.here | apply Sel.there)) rfl) .nil ⟨rfl, rfl⟩
  · obtain rfl : made = true := by cases made <;> first | rfl | cases h11
    refine G.skip ?_
    refine G.nThen ?_
    refine G.seq ?_
    refine G.region ?_
    refine G.op rfl (G.val rfl rfl (pv_move rfl) ?_)
    refine G.op rfl (G.val rfl rfl (pv_nilCheck rfl) ?_)
    refine G.op rfl (G.val rfl rfl (pv_fieldAddr (sz := 1) Try.underlying96 rfl (by kernel_rfl) rfl) ?_)
    refine G.op rfl (G.val rfl rfl (pv_loadN (cs := [.int .i64 e, .int .i64 p]) Try.underlying39 rfl (by kernel_rfl) rfl (ro_range (k := 2) hr rfl)) ?_)
    refine G.op rfl (G.storeN (by kernel_rfl) rfl rfl rfl (by repeat (first | with_reducible exact Sel.here | exact Sel.here | apply Sel.there)) (by first | (simp; done) | exact Nat.le_of_ble_eq_true rfl) ?_)
    refine G.nil ?_
    refine G.nThen ?_
    refine G.ret ?_
    first | exact G.doneCN (cs := [.int .i64 1, .int .i64 0]) rfl rfl Try.underlying39 rfl (by kernel_rfl) (blk_range (k := 2) (by repeat (first | with_reducible exact Sel.here | exact Sel.here | apply Sel.there)) rfl) .nil ⟨rfl, rfl⟩ | exact G.doneCN (cs := [.int .i64 e, .int .i64 p]) rfl rfl Try.underlying39 rfl (by kernel_rfl) (blk_range (k := 2) (by repeat (first | with_reducible exact Sel.here | exact Sel.here | apply Sel.there)) rfl) .nil ⟨rfl, rfl⟩
set_option maxRecDepth 20000 in

theorem fault0_tr : Tr Try.prog 49 #[.pointer none] [] [] (T0 (.agg #[.int .i64 1, .int .i64 0])) := by
  refine Tr.of (l := [(0, .pointer none)]) Try.func49 rfl (n := 17) rfl (.cons rfl .nil) (fun w0 hro => ?_)
  refine G.seq ?_
  refine G.region ?_
  refine G.op rfl (G.alloc (z := .agg #[.int .i64 0, .int .i64 0]) (cs := [.int .i64 0, .int .i64 0]) rfl (by kernel_rfl) rfl ?_)
  intro b2
  refine G.nil ?_
  refine G.nThen ?_
  refine G.seq ?_
  refine G.seq ?_
  refine G.region ?_
  refine G.op rfl (G.val rfl rfl (pv_move rfl) ?_)
  refine G.op rfl (G.val rfl rfl (pv_eqlP0 Try.underlying75 rfl rfl) ?_)
  refine G.op rfl (G.val rfl rfl (pv_move rfl) ?_)
  refine G.pass rfl rfl rfl rfl rfl rfl ?_
  refine G.pass rfl rfl rfl rfl rfl rfl ?_
  refine G.pass rfl rfl rfl rfl rfl rfl ?_
  refine G.pass rfl rfl rfl rfl rfl rfl ?_
  refine G.pass rfl rfl rfl rfl rfl rfl ?_
  refine G.op rfl (G.val rfl rfl (pv_pick rfl rfl) ?_)
  refine G.nil ?_
  refine G.nThen ?_
  refine G.condT rfl (rfl) ?_
  refine G.seq ?_
  refine G.region ?_
  refine G.op rfl (G.val rfl rfl (pv_build (cells := #[.int .i64 1, .int .i64 0]) (fun a ha => ha.pevs rfl) (by kernel_rfl)) ?_)
  refine G.op rfl (G.storeN (by kernel_rfl) rfl rfl rfl (by repeat (first | with_reducible exact Sel.here | exact Sel.here | apply Sel.there)) (by first | (simp; done) | exact Nat.le_of_ble_eq_true rfl) ?_)
  refine G.nil ?_
  refine G.nThen ?_
  refine G.ret ?_
  refine G.rThen ?_
  exact G.doneCN (cs := [.int .i64 1, .int .i64 0]) rfl rfl Try.underlying39 rfl (by kernel_rfl) (blk_range (k := 2) (by repeat (first | with_reducible exact Sel.here | exact Sel.here | apply Sel.there)) rfl) .nil ⟨rfl, rfl⟩
set_option maxRecDepth 20000 in

theorem open_tr {Pu : Nat → Prop} (u : Value) (b : List UInt8) (hb : b.length ≤ 1000000000) : Tr Try.prog 47 #[u] [slc rByte Pu u b] []
    (TX (fun _ : Nat × Value => True) (fun x => .pointer (some ⟨x.1, 0, none⟩)) (fun x => [blk x.1 96 [.bool true, x.2, .int .i64 (0 : Int), .int .i64 0, .int .i64 0], own 5 1 x.2 b.length (b.map vByte)])) := by
  refine Tr.of (l := [(0, u)]) Try.func47 rfl (n := 7) rfl (.cons rfl .nil) (fun w0 hro => ?_)
  have hr := ro1 hro
  refine G.seq ?_
  refine G.region ?_
  refine G.op rfl (G.val rfl rfl (pv_assign rfl) ?_)
  refine G.nil ?_
  refine G.nThen ?_
  refine G.seq ?_
  refine G.region ?_
  refine G.op rfl (G.val rfl rfl (pv_move rfl) ?_)
  refine G.ownNil 5 1 ?_
  refine G.op rfl (G.appendS (k := 0) (cs := []) (xs := b) (f := vByte) (p := fun _ => True) (Ps := Pu) rfl Try.underlying24 Try.infoByte' rfl rfl .here (ro_sl hr) (vByte_one _) (by omega) (by omega) ?_)
  intro v'
  rw [Nat.zero_add b.length, List.nil_append]
  refine G.ownFact .here (fun hv1 _ => ?_)
  refine G.op rfl (G.val rfl rfl (pv_build (cells := #[.bool true, v', .int .i64 0, .int .i64 0, .int .i64 0]) (fun a ha => ha.pevs rfl) (by cases v' <;> first | (cases hv1; done) | kernel_rfl)) ?_)
  refine G.op rfl (G.box rfl rfl (cs := [.bool true, v', .int .i64 0, .int .i64 0, .int .i64 0]) rfl ?_)
  intro b6
  refine G.op rfl (G.val rfl rfl (pv_assign rfl) ?_)
  refine G.nil ?_
  refine G.nThen ?_
  refine G.ret ?_
  exact G.done1 (m' := [blk b6 96 [.bool true, v', .int .i64 (0 : Int), .int .i64 0, .int .i64 0], own 5 1 v' b.length (b.map vByte)]) rfl rfl (.cons (by repeat (first | with_reducible exact Sel.here | exact Sel.here | apply Sel.there)) (.cons (by repeat (first | with_reducible exact Sel.here | exact Sel.here | apply Sel.there)) .nil)) ⟨(b6, v'), trivial, rfl, rfl⟩
set_option maxRecDepth 20000 in

theorem new_tr : Tr Try.prog 33 #[] [] [] (TX (fun _ : Nat => True) (fun D => .pointer (some ⟨D, 0, none⟩)) (fun D => [blk D 90 [.bool true, .bool false, .slice none 0 0], own 5 1 (.slice none 0 0) ([] : List UInt8).length (([] : List UInt8).map vByte)])) := by
  refine Tr.of (l := []) Try.func33 rfl (n := 3) rfl Fa.nil (fun w0 hro => ?_)
  refine G.seq ?_
  refine G.region ?_
  refine G.op rfl (G.val rfl rfl (pv_assign rfl) ?_)
  refine G.nil ?_
  refine G.nThen ?_
  refine G.seq ?_
  refine G.region ?_
  refine G.op rfl (G.val rfl rfl (pv_build (cells := #[.bool true, .bool false, .slice none 0 0]) (fun a ha => ha.pevs rfl) (by kernel_rfl)) ?_)
  refine G.op rfl (G.box rfl rfl (cs := [.bool true, .bool false, .slice none 0 0]) rfl ?_)
  intro b2
  refine G.ownNil 5 1 ?_
  refine G.op rfl (G.val rfl rfl (pv_assign rfl) ?_)
  refine G.nil ?_
  refine G.nThen ?_
  refine G.ret ?_
  exact G.done1 rfl rfl (.cons (by repeat (first | with_reducible exact Sel.here | exact Sel.here | apply Sel.there)) (.cons (by repeat (first | with_reducible exact Sel.here | exact Sel.here | apply Sel.there)) .nil)) ⟨b2, trivial, rfl, rfl⟩
theorem ro_own {w0 : World} {S : Nat → Prop} {m : List Ck} {e : TypeId} {v : Value} {xs : List UInt8} (h : Ro w0 S (own e 1 v xs.length (xs.map vByte))) : ∀ w, Hp w0 S w m → IsSl (r1 vByte fun _ => True) (fun b => v.ownBlock = some b) w v xs := fun w hw => own_isSl' (h.at hw) rfl fun _ _ => trivial
/-- what a writer tells -/
def outW (bad : Bool) (bs : List UInt8) : List UInt8 := if bad then [] else bs
def outE (bad : Bool) : Int := if bad then 5 else 0
set_option maxRecDepth 20000 in

theorem wout_tr (D : Nat) (bad : Bool) (v : Value) (bs : List UInt8) (hb : bs.length ≤ 1000000000) : Tr Try.prog 37 #[.pointer (some ⟨D, 0, none⟩)] [blk D 90 [.bool true, .bool bad, v], own 5 1 v bs.length (bs.map vByte)] []
    (TX (fun _ : Value => True) (fun x => .tuple #[x, .int .i64 (outE bad)]) (fun x => [own 5 1 x (outW bad bs).length ((outW bad bs).map vByte)])) := by
  refine Tr.of (l := [(0, .pointer (some ⟨D, 0, none⟩))]) Try.func37 rfl (n := 24) rfl (.cons rfl .nil) (fun w0 hro => ?_)
  obtain ⟨hr, ho⟩ := ro2 hro
  refine G.seq ?_
  refine G.region ?_
  refine G.op rfl (G.val rfl rfl (pv_assign rfl) ?_)
  refine G.op rfl (G.val rfl rfl (pv_assign rfl) ?_)
  refine G.nil ?_
  refine G.nThen ?_
  refine G.seq ?_
  refine G.block ?_
  refine G.seq ?_
  refine G.region ?_
  refine G.op rfl (G.val rfl rfl (pv_move rfl) ?_)
  refine G.op rfl (G.val rfl rfl (pv_eqlP0 Try.underlying58 rfl rfl) ?_)
  refine G.op rfl (G.val rfl rfl (pv_move rfl) ?_)
  refine G.want rfl rfl rfl (G.val rfl rfl (pv_move rfl) ?_)
  refine G.want rfl rfl rfl (G.val rfl rfl (pv_nilCheck rfl) ?_)
  refine G.want rfl rfl rfl (G.val rfl rfl (pv_fieldAddr (sz := 0) Try.underlying90 rfl (by kernel_rfl) rfl) ?_)
  refine G.want rfl rfl rfl (G.val rfl rfl (pv_load Try.underlying4 rfl rfl (ro_blk (v := .bool true) hr rfl)) ?_)
  refine G.want rfl rfl rfl (G.val rfl rfl (pv_not rfl) ?_)
  refine G.op rfl (G.val rfl rfl (pv_pick rfl rfl) ?_)
  refine G.op rfl (G.val rfl rfl (pv_assign rfl) ?_)
  refine G.nil ?_
  refine G.nThen ?_
  refine G.condF rfl (rfl) ?_
  refine G.seq ?_
  refine G.region ?_
  refine G.op rfl (G.val rfl rfl (pv_move rfl) ?_)
  refine G.op rfl (G.val rfl rfl (pv_nilCheck rfl) ?_)
  refine G.op rfl (G.val rfl rfl (pv_fieldAddr (sz := 0) Try.underlying90 rfl (by kernel_rfl) rfl) ?_)
  refine G.op rfl (G.val rfl rfl (pv_load Try.underlying4 rfl rfl (ro_blk (v := .bool bad) hr rfl)) ?_)
  refine G.op rfl (G.val rfl rfl (pv_assign rfl) ?_)
  refine G.nil ?_
  refine G.nThen ?_
  refine G.cond rfl (fun h14 => ?_) (fun h14 => ?_)
  · obtain rfl : bad = true := h14
    refine G.seq ?_
    refine G.region ?_
    refine G.ownNil 5 1 ?_
    refine G.op rfl (G.val rfl rfl (pv_assign rfl) ?_)
    refine G.op rfl (G.val rfl rfl (pv_assign rfl) ?_)
    refine G.nil ?_
    refine G.nThen ?_
    refine G.ret ?_
    refine G.rBlock ?_
    refine G.rThen ?_
    first | exact G.done2 (m' := [own 5 1 (.slice none 0 0) ([] : List UInt8).length (([] : List UInt8).map vByte)]) rfl rfl rfl (.cons (by repeat (first | with_reducible exact Sel.here | exact Sel.here | apply Sel.there)) .nil) ⟨_, trivial, rfl, rfl⟩ | exact G.done2 (m' := [own 5 1 v' bs.length (bs.map vByte)]) rfl rfl rfl (.cons (by repeat (first | with_reducible exact Sel.here | exact Sel.here | apply Sel.there)) .nil) ⟨v', trivial, rfl, rfl⟩
  · obtain rfl : bad = false := h14
    refine G.skip ?_
    refine G.nBlock ?_
    refine G.nThen ?_
    refine G.seq ?_
    refine G.region ?_
    refine G.op rfl (G.val rfl rfl (pv_move rfl) ?_)
    refine G.op rfl (G.val rfl rfl (pv_nilCheck rfl) ?_)
    refine G.op rfl (G.val rfl rfl (pv_fieldAddr (sz := 0) Try.underlying90 rfl (by kernel_rfl) rfl) ?_)
    refine G.op rfl (G.val rfl rfl (pv_load Try.underlying24 rfl rfl (ro_blk (v := v) hr rfl)) ?_)
    refine G.ownNil 5 1 ?_
    refine G.op rfl (G.appendS (k := 0) (cs := []) (xs := bs) (f := vByte) (p := fun _ => True) (Ps := fun k => v.ownBlock = some k) rfl Try.underlying24 Try.infoByte' rfl rfl .here (ro_own ho) (vByte_one _) (by omega) (by omega) ?_)
    intro v'
    rw [Nat.zero_add bs.length, List.nil_append]
    refine G.op rfl (G.val rfl rfl (pv_assign rfl) ?_)
    refine G.op rfl (G.val rfl rfl (pv_assign rfl) ?_)
    refine G.nil ?_
    refine G.nThen ?_
    refine G.ret ?_
    first | exact G.done2 (m' := [own 5 1 (.slice none 0 0) ([] : List UInt8).length (([] : List UInt8).map vByte)]) rfl rfl rfl (.cons (by repeat (first | with_reducible exact Sel.here | exact Sel.here | apply Sel.there)) .nil) ⟨_, trivial, rfl, rfl⟩ | exact G.done2 (m' := [own 5 1 v' bs.length (bs.map vByte)]) rfl rfl rfl (.cons (by repeat (first | with_reducible exact Sel.here | exact Sel.here | apply Sel.there)) .nil) ⟨v', trivial, rfl, rfl⟩
set_option maxRecDepth 20000 in

theorem woutR_tr (D : Nat) (bad : Bool) (v : Value) (bs : List UInt8) (hb : bs.length ≤ 1000000000) : Tr Try.prog 41 #[.pointer (some ⟨D, 0, none⟩)] [blk D 65 [v, .bool bad], own 5 1 v bs.length (bs.map vByte)] []
    (TX (fun _ : Value => True) (fun x => .tuple #[x, .int .i64 (outE bad)]) (fun x => [own 5 1 x (outW bad bs).length ((outW bad bs).map vByte)])) := by
  refine Tr.of (l := [(0, .pointer (some ⟨D, 0, none⟩))]) Try.func41 rfl (n := 14) rfl (.cons rfl .nil) (fun w0 hro => ?_)
  obtain ⟨hr, ho⟩ := ro2 hro
  refine G.seq ?_
  refine G.region ?_
  refine G.op rfl (G.val rfl rfl (pv_assign rfl) ?_)
  refine G.op rfl (G.val rfl rfl (pv_assign rfl) ?_)
  refine G.nil ?_
  refine G.nThen ?_
  refine G.seq ?_
  refine G.seq ?_
  refine G.region ?_
  refine G.op rfl (G.val rfl rfl (pv_move rfl) ?_)
  refine G.op rfl (G.val rfl rfl (pv_nilCheck rfl) ?_)
  refine G.op rfl (G.val rfl rfl (pv_fieldAddr (sz := 0) Try.underlying65 rfl (by kernel_rfl) rfl) ?_)
  refine G.op rfl (G.val rfl rfl (pv_load Try.underlying4 rfl rfl (ro_blk (v := .bool bad) hr rfl)) ?_)
  refine G.nil ?_
  refine G.nThen ?_
  refine G.cond rfl (fun h7 => ?_) (fun h7 => ?_)
  · obtain rfl : bad = true := h7
    refine G.seq ?_
    refine G.region ?_
    refine G.ownNil 5 1 ?_
    refine G.op rfl (G.val rfl rfl (pv_assign rfl) ?_)
    refine G.op rfl (G.val rfl rfl (pv_assign rfl) ?_)
    refine G.nil ?_
    refine G.nThen ?_
    refine G.ret ?_
    refine G.rThen ?_
    first | exact G.done2 (m' := [own 5 1 (.slice none 0 0) ([] : List UInt8).length (([] : List UInt8).map vByte)]) rfl rfl rfl (.cons (by repeat (first | with_reducible exact Sel.here | exact Sel.here | apply Sel.there)) .nil) ⟨_, trivial, rfl, rfl⟩ | exact G.done2 (m' := [own 5 1 v' bs.length (bs.map vByte)]) rfl rfl rfl (.cons (by repeat (first | with_reducible exact Sel.here | exact Sel.here | apply Sel.there)) .nil) ⟨v', trivial, rfl, rfl⟩
  · obtain rfl : bad = false := h7
    refine G.skip ?_
    refine G.nThen ?_
    refine G.seq ?_
    refine G.region ?_
    refine G.op rfl (G.lit0 rfl Try.underlying24 (by kernel_rfl) rfl ?_)
    intro b8
    refine G.ownBlk (k := 0) (sz := 1) .here rfl (by omega) ?_
    refine G.op rfl (G.val rfl rfl (pv_move rfl) ?_)
    refine G.op rfl (G.val rfl rfl (pv_nilCheck rfl) ?_)
    refine G.op rfl (G.val rfl rfl (pv_fieldAddr (sz := 0) Try.underlying65 rfl (by kernel_rfl) rfl) ?_)
    refine G.op rfl (G.val rfl rfl (pv_load Try.underlying24 rfl rfl (ro_blk (v := v) hr rfl)) ?_)
    refine G.op rfl (G.appendS (k := 0) (cs := []) (xs := bs) (f := vByte) (p := fun _ => True) (Ps := fun k => v.ownBlock = some k) rfl Try.underlying24 Try.infoByte' rfl rfl .here (ro_own ho) (vByte_one _) (by omega) (by omega) ?_)
    intro v'
    rw [Nat.zero_add bs.length, List.nil_append]
    refine G.op rfl (G.val rfl rfl (pv_assign rfl) ?_)
    refine G.op rfl (G.val rfl rfl (pv_assign rfl) ?_)
    refine G.nil ?_
    refine G.nThen ?_
    refine G.ret ?_
    first | exact G.done2 (m' := [own 5 1 (.slice none 0 0) ([] : List UInt8).length (([] : List UInt8).map vByte)]) rfl rfl rfl (.cons (by repeat (first | with_reducible exact Sel.here | exact Sel.here | apply Sel.there)) .nil) ⟨_, trivial, rfl, rfl⟩ | exact G.done2 (m' := [own 5 1 v' bs.length (bs.map vByte)]) rfl rfl rfl (.cons (by repeat (first | with_reducible exact Sel.here | exact Sel.here | apply Sel.there)) .nil) ⟨v', trivial, rfl, rfl⟩
set_option maxRecDepth 20000 in

theorem wout_none : Tr Try.prog 37 #[(.pointer none)] [] [] (T0 (.tuple #[.slice none 0 0, .int .i64 1])) := by
  refine Tr.of (l := [(0, (.pointer none))]) Try.func37 rfl (n := 24) rfl (.cons rfl .nil) (fun w0 hro => ?_)
  refine G.seq ?_
  refine G.region ?_
  refine G.op rfl (G.val rfl rfl (pv_assign rfl) ?_)
  refine G.op rfl (G.val rfl rfl (pv_assign rfl) ?_)
  refine G.nil ?_
  refine G.nThen ?_
  refine G.seq ?_
  refine G.block ?_
  refine G.seq ?_
  refine G.region ?_
  refine G.op rfl (G.val rfl rfl (pv_move rfl) ?_)
  refine G.op rfl (G.val rfl rfl (pv_eqlP0 Try.underlying58 rfl rfl) ?_)
  refine G.op rfl (G.val rfl rfl (pv_move rfl) ?_)
  refine G.pass rfl rfl rfl rfl rfl rfl ?_
  refine G.pass rfl rfl rfl rfl rfl rfl ?_
  refine G.pass rfl rfl rfl rfl rfl rfl ?_
  refine G.pass rfl rfl rfl rfl rfl rfl ?_
  refine G.pass rfl rfl rfl rfl rfl rfl ?_
  refine G.op rfl (G.val rfl rfl (pv_pick rfl rfl) ?_)
  refine G.op rfl (G.val rfl rfl (pv_assign rfl) ?_)
  refine G.nil ?_
  refine G.nThen ?_
  refine G.condT rfl (rfl) ?_
  refine G.seq ?_
  refine G.region ?_
  refine G.op rfl (G.val rfl rfl (pv_assign rfl) ?_)
  refine G.op rfl (G.val rfl rfl (pv_assign rfl) ?_)
  refine G.nil ?_
  refine G.nThen ?_
  refine G.ret ?_
  refine G.rBlock ?_
  refine G.rThen ?_
  exact G.done2 rfl rfl rfl .nil ⟨rfl, rfl⟩
set_option maxRecDepth 20000 in

theorem wout_bare (D : Nat) (bad : Bool) (v : Value) : Tr Try.prog 37 #[(.pointer (some ⟨D, 0, none⟩))] [blk D 90 [.bool false, .bool bad, v]] [] (T0 (.tuple #[.slice none 0 0, .int .i64 1])) := by
  refine Tr.of (l := [(0, (.pointer (some ⟨D, 0, none⟩)))]) Try.func37 rfl (n := 24) rfl (.cons rfl .nil) (fun w0 hro => ?_)
  refine G.seq ?_
  refine G.region ?_
  refine G.op rfl (G.val rfl rfl (pv_assign rfl) ?_)
  refine G.op rfl (G.val rfl rfl (pv_assign rfl) ?_)
  refine G.nil ?_
  refine G.nThen ?_
  refine G.seq ?_
  refine G.block ?_
  refine G.seq ?_
  refine G.region ?_
  refine G.op rfl (G.val rfl rfl (pv_move rfl) ?_)
  refine G.op rfl (G.val rfl rfl (pv_eqlP0 Try.underlying58 rfl rfl) ?_)
  refine G.op rfl (G.val rfl rfl (pv_move rfl) ?_)
  refine G.want rfl rfl rfl (G.val rfl rfl (pv_move rfl) ?_)
  refine G.want rfl rfl rfl (G.val rfl rfl (pv_nilCheck rfl) ?_)
  refine G.want rfl rfl rfl (G.val rfl rfl (pv_fieldAddr (sz := 0) Try.underlying90 rfl (by kernel_rfl) rfl) ?_)
  refine G.want rfl rfl rfl (G.val rfl rfl (pv_load Try.underlying4 rfl rfl (ro_blk (v := .bool false) (ro1 hro) rfl)) ?_)
  refine G.want rfl rfl rfl (G.val rfl rfl (pv_not rfl) ?_)
  refine G.op rfl (G.val rfl rfl (pv_pick rfl rfl) ?_)
  refine G.op rfl (G.val rfl rfl (pv_assign rfl) ?_)
  refine G.nil ?_
  refine G.nThen ?_
  refine G.condT rfl (rfl) ?_
  refine G.seq ?_
  refine G.region ?_
  refine G.op rfl (G.val rfl rfl (pv_assign rfl) ?_)
  refine G.op rfl (G.val rfl rfl (pv_assign rfl) ?_)
  refine G.nil ?_
  refine G.nThen ?_
  refine G.ret ?_
  refine G.rBlock ?_
  refine G.rThen ?_
  exact G.done2 rfl rfl rfl .nil ⟨rfl, rfl⟩
end Go.Proofs.Ytakcffhknnailaa
