/- Contracts of layer 1's writer, the rest. Conditions: the writer is made, its bytes are not more than a thousand million. -/
import Derived.Test.YtakcffhknnailaaFX
set_option linter.unusedVariables false
set_option linter.unusedSimpArgs false
namespace Go.Proofs.Ytakcffhknnailaa
open Go.RowKit

def bytesM (b : List UInt8) : List UInt8 := putM b.length ++ b
theorem putM_le (x : Int) : (putM x).length ≤ 5 := by rw [putM_length]; exact sizeM_le x
set_option maxRecDepth 20000 in

theorem wbytes_tr (D : Nat) (bad : Bool) (v u : Value) (bs b : List UInt8) {Pu : Nat → Prop} (hb : bs.length ≤ 900000000) (hl : b.length ≤ 10000000) : Tr Try.prog 36 #[.pointer (some ⟨D, 0, none⟩), u] [slc rByte Pu u b] [blk D 90 [.bool true, .bool bad, v], own 5 1 v bs.length (bs.map vByte)]
    (TX (fun _ : Value => True) (fun _ => .tuple #[]) (fun v => [blk D 90 [.bool true, .bool (bad || decide (sizeM (b.length : Int) = 0)), v], own 5 1 v (bs ++ bytesM b).length ((bs ++ bytesM b).map vByte)])) := by
  refine Tr.of (l := [(0, .pointer (some ⟨D, 0, none⟩)), (1, u)]) Try.func36 rfl (n := 26) rfl (.cons rfl (.cons rfl .nil)) (fun w0 hro => ?_)
  have hu := ro1 hro
  have hu' := hu
  obtain ⟨ad, cap, bb, off, rfl, -⟩ := Ro.open hu
  have hp5 := putM_le b.length
  refine G.seq ?_
  refine G.seq ?_
  refine G.region ?_
  refine G.op rfl (G.val rfl rfl (pv_move rfl) ?_)
  refine G.op rfl (G.val rfl rfl (pv_eqlP0 Try.underlying58 rfl rfl) ?_)
  refine G.op rfl (G.val rfl rfl (pv_move rfl) ?_)
  refine G.want rfl rfl rfl (G.val rfl rfl (pv_move rfl) ?_)
  refine G.want rfl rfl rfl (G.val rfl rfl (pv_nilCheck rfl) ?_)
  refine G.want rfl rfl rfl (G.val rfl rfl (pv_fieldAddr (sz := 0) Try.underlying90 rfl (by kernel_rfl) rfl) ?_)
  refine G.want rfl rfl rfl (G.val rfl rfl (pv_load Try.underlying4 rfl rfl (blk_cell (v := .bool true) .here rfl)) ?_)
  refine G.want rfl rfl rfl (G.val rfl rfl (pv_not rfl) ?_)
  refine G.op rfl (G.val rfl rfl (pv_pick rfl rfl) ?_)
  refine G.nil ?_
  refine G.nThen ?_
  refine G.condF rfl (rfl) ?_
  refine G.skip ?_
  refine G.nThen ?_
  refine G.seq ?_
  refine G.region ?_
  refine G.op rfl (G.val rfl rfl (pv_move rfl) ?_)
  refine G.op rfl (G.val rfl rfl (pv_move rfl) ?_)
  refine G.op rfl (G.val rfl rfl (pv_lenSl Try.underlying24 rfl) ?_)
  refine G.op rfl (G.c2 rfl rfl rfl rfl Try.func34 rfl rfl (wint_any D bad v bs b.length (by omega)) (.cons (by repeat (first | with_reducible exact Sel.here | exact Sel.here | apply Sel.there)) (.cons (by repeat (first | with_reducible exact Sel.here | exact Sel.here | apply Sel.there)) .nil)) may0 ?_)
  rintro v2 -
  refine G.nil ?_
  refine G.nThen ?_
  refine G.region ?_
  refine G.op rfl (G.val rfl rfl (pv_move rfl) ?_)
  refine G.op rfl (G.val rfl rfl (pv_move rfl) ?_)
  refine G.op rfl (G.val rfl rfl (pv_nilCheck rfl) ?_)
  refine G.op rfl (G.val rfl rfl (pv_fieldAddr (sz := 0) Try.underlying90 rfl (by kernel_rfl) rfl) ?_)
  refine G.op rfl (G.val rfl rfl (pv_load Try.underlying24 rfl rfl (by first | exact blk_cell (by repeat (first | with_reducible exact Sel.here | exact Sel.here | apply Sel.there)) rfl | exact ro_int (by assumption) | exact ro_byte (by assumption) | exact ro_str (by assumption) | assumption)) ?_)
  refine G.op rfl (G.val rfl rfl (pv_move rfl) ?_)
  refine G.op rfl (G.appendS (k := (bs ++ putM b.length).length) (cs := (bs ++ putM b.length).map vByte) rfl Try.underlying24 Try.infoByte' rfl rfl (.there .here) (ro_sl hu) (vByte_one _) (by simp only [List.length_append]; omega) (by simp only [List.length_append]; omega) ?_)
  intro v'
  refine G.ownFact .here (fun hv1 _ => ?_)
  refine G.op rfl (G.val rfl rfl (pv_nilCheck rfl) ?_)
  refine G.op rfl (G.val rfl rfl (pv_fieldAddr (sz := 0) Try.underlying90 rfl (by kernel_rfl) rfl) ?_)
  refine G.op rfl (G.store (o := 2) (by kernel_rfl) rfl rfl hv1 (by repeat (first | with_reducible exact Sel.here | exact Sel.here | apply Sel.there)) (by simp) ?_)
  refine G.nil ?_
  exact G.doneE (m' := [blk D 90 [.bool true, .bool (bad || decide (sizeM (b.length : Int) = 0)), v'], own 5 1 v' (bs ++ bytesM b).length ((bs ++ bytesM b).map vByte)]) rfl (.cons .here (.cons (by rw [show bs ++ bytesM b = (bs ++ putM b.length) ++ b by simp [bytesM], ← own_app]; exact .here) .nil)) ⟨v', trivial, rfl, rfl⟩
set_option maxRecDepth 20000 in

theorem wbytesR_tr (D : Nat) (bad : Bool) (v u : Value) (bs b : List UInt8) {Pu : Nat → Prop} (hb : bs.length ≤ 900000000) (hl : b.length ≤ 10000000) : Tr Try.prog 40 #[.pointer (some ⟨D, 0, none⟩), u] [slc rByte Pu u b] [blk D 65 [v, .bool bad], own 5 1 v bs.length (bs.map vByte)]
    (TX (fun _ : Value => True) (fun _ => .tuple #[]) (fun v => [blk D 65 [v, .bool (bad || decide (sizeM (b.length : Int) = 0))], own 5 1 v (bs ++ bytesM b).length ((bs ++ bytesM b).map vByte)])) := by
  refine Tr.of (l := [(0, .pointer (some ⟨D, 0, none⟩)), (1, u)]) Try.func40 rfl (n := 17) rfl (.cons rfl (.cons rfl .nil)) (fun w0 hro => ?_)
  have hu := ro1 hro
  have hu' := hu
  obtain ⟨ad, cap, bb, off, rfl, -⟩ := Ro.open hu
  have hp5 := putM_le b.length
  refine G.seq ?_
  refine G.region ?_
  refine G.op rfl (G.val rfl rfl (pv_move rfl) ?_)
  refine G.op rfl (G.val rfl rfl (pv_move rfl) ?_)
  refine G.op rfl (G.val rfl rfl (pv_lenSl Try.underlying24 rfl) ?_)
  refine G.op rfl (G.c2 rfl rfl rfl rfl Try.func38 rfl rfl (wintR_any D bad v bs b.length (by omega)) (.cons (by repeat (first | with_reducible exact Sel.here | exact Sel.here | apply Sel.there)) (.cons (by repeat (first | with_reducible exact Sel.here | exact Sel.here | apply Sel.there)) .nil)) may0 ?_)
  rintro v2 -
  refine G.nil ?_
  refine G.nThen ?_
  refine G.region ?_
  refine G.op rfl (G.val rfl rfl (pv_move rfl) ?_)
  refine G.op rfl (G.val rfl rfl (pv_move rfl) ?_)
  refine G.op rfl (G.val rfl rfl (pv_nilCheck rfl) ?_)
  refine G.op rfl (G.val rfl rfl (pv_fieldAddr (sz := 0) Try.underlying65 rfl (by kernel_rfl) rfl) ?_)
  refine G.op rfl (G.val rfl rfl (pv_load Try.underlying24 rfl rfl (by first | exact blk_cell (by repeat (first | with_reducible exact Sel.here | exact Sel.here | apply Sel.there)) rfl | exact ro_int (by assumption) | exact ro_byte (by assumption) | exact ro_str (by assumption) | assumption)) ?_)
  refine G.op rfl (G.val rfl rfl (pv_move rfl) ?_)
  refine G.op rfl (G.appendS (k := (bs ++ putM b.length).length) (cs := (bs ++ putM b.length).map vByte) rfl Try.underlying24 Try.infoByte' rfl rfl (.there .here) (ro_sl hu) (vByte_one _) (by simp only [List.length_append]; omega) (by simp only [List.length_append]; omega) ?_)
  intro v'
  refine G.ownFact .here (fun hv1 _ => ?_)
  refine G.op rfl (G.val rfl rfl (pv_nilCheck rfl) ?_)
  refine G.op rfl (G.val rfl rfl (pv_fieldAddr (sz := 0) Try.underlying65 rfl (by kernel_rfl) rfl) ?_)
  refine G.op rfl (G.store (o := 0) (by kernel_rfl) rfl rfl hv1 (by repeat (first | with_reducible exact Sel.here | exact Sel.here | apply Sel.there)) (by simp) ?_)
  refine G.nil ?_
  exact G.doneE (m' := [blk D 65 [v', .bool (bad || decide (sizeM (b.length : Int) = 0))], own 5 1 v' (bs ++ bytesM b).length ((bs ++ bytesM b).map vByte)]) rfl (.cons .here (.cons (by rw [show bs ++ bytesM b = (bs ++ putM b.length) ++ b by simp [bytesM], ← own_app]; exact .here) .nil)) ⟨v', trivial, rfl, rfl⟩
/-- an ID's value -/
def vID (id : List UInt8) : Value := .agg (id.map vByte).toArray
set_option maxRecDepth 20000 in

theorem wid_tr (D : Nat) (bad : Bool) (v : Value) (bs id : List UInt8) (hid : id.length = 16) (hb : bs.length ≤ 1000000000) : Tr Try.prog 35 #[.pointer (some ⟨D, 0, none⟩), vID id] [] [blk D 90 [.bool true, .bool bad, v], own 5 1 v bs.length (bs.map vByte)]
    (TX (fun _ : Value => True) (fun _ => .tuple #[]) (fun v => [blk D 90 [.bool true, .bool bad, v], own 5 1 v (bs ++ id).length ((bs ++ id).map vByte)])) := by
  refine Tr.of (l := [(0, .pointer (some ⟨D, 0, none⟩)), (1, vID id)]) Try.func35 rfl (n := 21) rfl (.cons rfl (.cons rfl .nil)) (fun w0 hro => ?_)
  refine G.seq ?_
  refine G.region ?_
  refine G.op rfl (G.box (cs := id.map vByte) rfl rfl rfl ?_)
  intro b3
  refine G.nil ?_
  refine G.nThen ?_
  refine G.seq ?_
  refine G.region ?_
  refine G.op rfl (G.val rfl rfl (pv_move rfl) ?_)
  refine G.op rfl (G.val rfl rfl (pv_neqP0 Try.underlying58 rfl rfl) ?_)
  refine G.op rfl (G.val rfl rfl (pv_move rfl) ?_)
  refine G.want rfl rfl rfl (G.val rfl rfl (pv_move rfl) ?_)
  refine G.want rfl rfl rfl (G.val rfl rfl (pv_nilCheck rfl) ?_)
  refine G.want rfl rfl rfl (G.val rfl rfl (pv_fieldAddr (sz := 0) Try.underlying90 rfl (by kernel_rfl) rfl) ?_)
  refine G.want rfl rfl rfl (G.val rfl rfl (pv_load Try.underlying4 rfl rfl (blk_cell (v := .bool true) (.there .here) rfl)) ?_)
  refine G.op rfl (G.val rfl rfl (pv_pick rfl rfl) ?_)
  refine G.nil ?_
  refine G.nThen ?_
  refine G.condT rfl (rfl) ?_
  refine G.drawn (by kernel_rfl) (k := 10) rfl [] ?_
  refine G.take (i := 0) rfl rfl rfl (by kernel_rfl) (by kernel_rfl) (by kernel_rfl) (fun _ _ _ h => h) rfl (pv_move rfl) Sub.nil ?_
  refine G.take (i := 1) rfl rfl rfl (by kernel_rfl) (by kernel_rfl) (by kernel_rfl) (fun _ _ _ h => h) rfl (pv_move rfl) Sub.nil ?_
  refine G.take (i := 2) rfl rfl rfl (by kernel_rfl) (by kernel_rfl) (by kernel_rfl) (fun _ _ _ h => h) rfl (pv_nilCheck rfl) Sub.nil ?_
  refine G.take (i := 3) rfl rfl rfl (by kernel_rfl) (by kernel_rfl) (by kernel_rfl) (fun _ _ _ h => h) rfl (pv_fieldAddr (sz := 0) Try.underlying90 rfl (by kernel_rfl) rfl) Sub.nil ?_
  refine G.take (i := 5) rfl rfl rfl (by kernel_rfl) (by kernel_rfl) (by kernel_rfl) (fun _ _ _ h => h) rfl (pv_subAr (len := 16) Try.underlying49 (by kernel_rfl) rfl) Sub.nil ?_
  refine G.one (i := 4) (by kernel_rfl) ?_
  refine G.turnOp rfl rfl (G.val rfl rfl (pv_load Try.underlying24 rfl rfl (blk_cell (v := v) (.there .here) rfl)) ?_)
  refine G.back Sub.nil ?_
  refine G.one (i := 6) (by kernel_rfl) ?_
  refine G.turnOp rfl rfl (G.append (k := bs.length) (j := 16) (cs := bs.map vByte) (news := id.map vByte) (b := b3) (off := 0) rfl Try.underlying24 Try.infoByte' rfl rfl rfl (.there (.there .here)) (fun _ => rfl) (fun h => by cases h) (by rw [List.length_map, hid]) (blk_news (k := 16) .here (by rw [List.drop_zero, List.take_of_length_le (by rw [List.length_map, hid]; exact Nat.le_refl _)])) (vByte_one _) (by omega) (by omega) ?_)
  intro v'
  refine G.ownFact .here (fun hv1 _ => ?_)
  refine G.back Sub.nil ?_
  refine G.take (i := 7) rfl rfl rfl (by kernel_rfl) (by kernel_rfl) (by kernel_rfl) (fun _ _ _ h => h) rfl (pv_nilCheck rfl) Sub.nil ?_
  refine G.take (i := 8) rfl rfl rfl (by kernel_rfl) (by kernel_rfl) (by kernel_rfl) (fun _ _ _ h => h) rfl (pv_fieldAddr (sz := 0) Try.underlying90 rfl (by kernel_rfl) rfl) Sub.nil ?_
  refine G.one (i := 9) (by kernel_rfl) ?_
  refine G.turnOp rfl rfl (G.store (o := 2) (by kernel_rfl) rfl rfl hv1 (by repeat (first | with_reducible exact Sel.here | exact Sel.here | apply Sel.there)) (by simp) ?_)
  refine G.back Sub.nil ?_
  refine G.over (by kernel_rfl) ?_
  exact G.doneE (m' := [blk D 90 [.bool true, .bool bad, v'], own 5 1 v' (bs ++ id).length ((bs ++ id).map vByte)]) rfl (.cons (by repeat (first | with_reducible exact Sel.here | exact Sel.here | apply Sel.there)) (.cons (by rw [List.length_append, hid, List.map_append]; repeat (first | with_reducible exact Sel.here | apply Sel.there)) .nil)) ⟨v', trivial, rfl, rfl⟩
set_option maxRecDepth 20000 in

theorem widR_tr (D : Nat) (bad : Bool) (v : Value) (bs id : List UInt8) (hid : id.length = 16) (hb : bs.length ≤ 1000000000) : Tr Try.prog 39 #[.pointer (some ⟨D, 0, none⟩), vID id] [] [blk D 65 [v, .bool bad], own 5 1 v bs.length (bs.map vByte)]
    (TX (fun _ : Value => True) (fun _ => .tuple #[]) (fun v => [blk D 65 [v, .bool bad], own 5 1 v (bs ++ id).length ((bs ++ id).map vByte)])) := by
  refine Tr.of (l := [(0, .pointer (some ⟨D, 0, none⟩)), (1, vID id)]) Try.func39 rfl (n := 13) rfl (.cons rfl (.cons rfl .nil)) (fun w0 hro => ?_)
  refine G.seq ?_
  refine G.region ?_
  refine G.op rfl (G.box (cs := id.map vByte) rfl rfl rfl ?_)
  intro b3
  refine G.nil ?_
  refine G.nThen ?_
  refine G.drawn (by kernel_rfl) (k := 10) rfl [] ?_
  refine G.take (i := 0) rfl rfl rfl (by kernel_rfl) (by kernel_rfl) (by kernel_rfl) (fun _ _ _ h => h) rfl (pv_move rfl) Sub.nil ?_
  refine G.take (i := 1) rfl rfl rfl (by kernel_rfl) (by kernel_rfl) (by kernel_rfl) (fun _ _ _ h => h) rfl (pv_move rfl) Sub.nil ?_
  refine G.take (i := 2) rfl rfl rfl (by kernel_rfl) (by kernel_rfl) (by kernel_rfl) (fun _ _ _ h => h) rfl (pv_nilCheck rfl) Sub.nil ?_
  refine G.take (i := 3) rfl rfl rfl (by kernel_rfl) (by kernel_rfl) (by kernel_rfl) (fun _ _ _ h => h) rfl (pv_fieldAddr (sz := 0) Try.underlying65 rfl (by kernel_rfl) rfl) Sub.nil ?_
  refine G.take (i := 5) rfl rfl rfl (by kernel_rfl) (by kernel_rfl) (by kernel_rfl) (fun _ _ _ h => h) rfl (pv_subAr (len := 16) Try.underlying49 (by kernel_rfl) rfl) Sub.nil ?_
  refine G.one (i := 4) (by kernel_rfl) ?_
  refine G.turnOp rfl rfl (G.val rfl rfl (pv_load Try.underlying24 rfl rfl (blk_cell (v := v) (.there .here) rfl)) ?_)
  refine G.back Sub.nil ?_
  refine G.one (i := 6) (by kernel_rfl) ?_
  refine G.turnOp rfl rfl (G.append (k := bs.length) (j := 16) (cs := bs.map vByte) (news := id.map vByte) (b := b3) (off := 0) rfl Try.underlying24 Try.infoByte' rfl rfl rfl (.there (.there .here)) (fun _ => rfl) (fun h => by cases h) (by rw [List.length_map, hid]) (blk_news (k := 16) .here (by rw [List.drop_zero, List.take_of_length_le (by rw [List.length_map, hid]; exact Nat.le_refl _)])) (vByte_one _) (by omega) (by omega) ?_)
  intro v'
  refine G.ownFact .here (fun hv1 _ => ?_)
  refine G.back Sub.nil ?_
  refine G.take (i := 7) rfl rfl rfl (by kernel_rfl) (by kernel_rfl) (by kernel_rfl) (fun _ _ _ h => h) rfl (pv_nilCheck rfl) Sub.nil ?_
  refine G.take (i := 8) rfl rfl rfl (by kernel_rfl) (by kernel_rfl) (by kernel_rfl) (fun _ _ _ h => h) rfl (pv_fieldAddr (sz := 0) Try.underlying65 rfl (by kernel_rfl) rfl) Sub.nil ?_
  refine G.one (i := 9) (by kernel_rfl) ?_
  refine G.turnOp rfl rfl (G.store (o := 0) (by kernel_rfl) rfl rfl hv1 (by repeat (first | with_reducible exact Sel.here | exact Sel.here | apply Sel.there)) (by simp) ?_)
  refine G.back Sub.nil ?_
  refine G.over (by kernel_rfl) ?_
  exact G.doneE (m' := [blk D 65 [v', .bool bad], own 5 1 v' (bs ++ id).length ((bs ++ id).map vByte)]) rfl (.cons (by repeat (first | with_reducible exact Sel.here | exact Sel.here | apply Sel.there)) (.cons (by rw [List.length_append, hid, List.map_append]; repeat (first | with_reducible exact Sel.here | apply Sel.there)) .nil)) ⟨v', trivial, rfl, rfl⟩
end Go.Proofs.Ytakcffhknnailaa
