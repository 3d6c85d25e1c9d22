/- Contracts of layer 1's writer, the rest. Conditions: the writer is made, its bytes are not more than a thousand million. -/
import Derived.Test.YtnfjpiancbgdhaaFX
set_option linter.unusedVariables false
set_option linter.unusedSimpArgs false
namespace Go.Proofs.Ytnfjpiancbgdhaa
open Go.RowKit

def bytesM (b : List UInt8) : List UInt8 := putM b.length ++ b
theorem putM_le (x : Int) : (putM x).length ≤ 5 := by rw [putM_length]; exact sizeM_le x
set_option maxRecDepth 20000 in

theorem wbytes_tr (D : Nat) (bad : Bool) (v u : Value) (bs b : List UInt8) {Pu : Nat → Prop} (hb : bs.length ≤ 900000000) (hl : b.length ≤ 10000000) : Tr Try.prog 17 #[.pointer (some ⟨D, 0, none⟩), u] [slc rByte Pu u b] [blk D 60 [.bool true, .bool bad, v], own 5 1 v bs.length (bs.map vByte)]
    (TX (fun _ : Value => True) (fun _ => .tuple #[]) (fun v => [blk D 60 [.bool true, .bool (bad || decide (sizeM (b.length : Int) = 0)), v], own 5 1 v (bs ++ bytesM b).length ((bs ++ bytesM b).map vByte)])) := by
  refine Tr.of (l := [(0, .pointer (some ⟨D, 0, none⟩)), (1, u)]) Try.func17 rfl (n := 26) rfl (.cons rfl (.cons rfl .nil)) (fun w0 hro => ?_)
  have hu := ro1 hro
  have hu' := hu
  obtain ⟨ad, cap, bb, off, rfl, -⟩ := Ro.open hu
  have hp5 := putM_le b.length
  refine G.seq ?_
  refine G.seq ?_
  refine G.region ?_
  refine G.op rfl (G.val rfl rfl (pv_move rfl) ?_)
  refine G.op rfl (G.val rfl rfl (pv_eqlP0 Try.underlying29 rfl rfl) ?_)
  refine G.op rfl (G.val rfl rfl (pv_move rfl) ?_)
  refine G.want rfl rfl rfl (G.val rfl rfl (pv_move rfl) ?_)
  refine G.want rfl rfl rfl (G.val rfl rfl (pv_nilCheck rfl) ?_)
  refine G.want rfl rfl rfl (G.val rfl rfl (pv_fieldAddr (sz := 0) Try.underlying60 rfl (by kernel_rfl) rfl) ?_)
  refine G.want rfl rfl rfl (G.val rfl rfl (pv_load Try.underlying4 rfl rfl (blk_cell (v := .bool true) .here rfl)) ?_)
  refine G.want rfl rfl rfl (G.val rfl rfl (pv_not rfl) ?_)
  refine G.op rfl (G.val rfl rfl (pv_pick rfl rfl) ?_)
  refine G.nil ?_
  refine G.nThen ?_
  refine G.condF rfl (rfl) ?_
  refine G.skip ?_
  refine G.nThen ?_
  refine G.seq ?_
  refine G.region ?_
  refine G.op rfl (G.val rfl rfl (pv_move rfl) ?_)
  refine G.op rfl (G.val rfl rfl (pv_move rfl) ?_)
  refine G.op rfl (G.val rfl rfl (pv_lenSl Try.underlying23 rfl) ?_)
  refine G.op rfl (G.c2 rfl rfl rfl rfl Try.func15 rfl rfl (wint_any D bad v bs b.length (by omega)) (.cons (by repeat (first | with_reducible exact Sel.here | exact Sel.here | apply Sel.there)) (.cons (by repeat (first | with_reducible exact Sel.here | exact Sel.here | apply Sel.there)) .nil)) may0 ?_)
  rintro v2 -
  refine G.nil ?_
  refine G.nThen ?_
  refine G.region ?_
  refine G.op rfl (G.val rfl rfl (pv_move rfl) ?_)
  refine G.op rfl (G.val rfl rfl (pv_move rfl) ?_)
  refine G.op rfl (G.val rfl rfl (pv_nilCheck rfl) ?_)
  refine G.op rfl (G.val rfl rfl (pv_fieldAddr (sz := 0) Try.underlying60 rfl (by kernel_rfl) rfl) ?_)
  refine G.op rfl (G.val rfl rfl (pv_load Try.underlying23 rfl rfl (by first | exact blk_cell (by repeat (first | with_reducible exact Sel.here | exact Sel.here | apply Sel.there)) rfl | exact ro_int (by assumption) | exact ro_byte (by assumption) | exact ro_str (by assumption) | assumption)) ?_)
  refine G.op rfl (G.val rfl rfl (pv_move rfl) ?_)
  refine G.op rfl (G.appendS (k := (bs ++ putM b.length).length) (cs := (bs ++ putM b.length).map vByte) rfl Try.underlying23 Try.infoByte' rfl rfl (.there .here) (ro_sl hu) (vByte_one _) (by simp only [List.length_append]; omega) (by simp only [List.length_append]; omega) ?_)
  intro v'
  refine G.ownFact .here (fun hv1 _ => ?_)
  refine G.op rfl (G.val rfl rfl (pv_nilCheck rfl) ?_)
  refine G.op rfl (G.val rfl rfl (pv_fieldAddr (sz := 0) Try.underlying60 rfl (by kernel_rfl) rfl) ?_)
  refine G.op rfl (G.store (o := 2) (by kernel_rfl) rfl rfl hv1 (by repeat (first | with_reducible exact Sel.here | exact Sel.here | apply Sel.there)) (by simp) ?_)
  refine G.nil ?_
  exact G.doneE (m' := [blk D 60 [.bool true, .bool (bad || decide (sizeM (b.length : Int) = 0)), v'], own 5 1 v' (bs ++ bytesM b).length ((bs ++ bytesM b).map vByte)]) rfl (.cons .here (.cons (by rw [show bs ++ bytesM b = (bs ++ putM b.length) ++ b by simp [bytesM], ← own_app]; exact .here) .nil)) ⟨v', trivial, rfl, rfl⟩
set_option maxRecDepth 20000 in

theorem wbytesR_tr (D : Nat) (bad : Bool) (v u : Value) (bs b : List UInt8) {Pu : Nat → Prop} (hb : bs.length ≤ 900000000) (hl : b.length ≤ 10000000) : Tr Try.prog 18 #[.pointer (some ⟨D, 0, none⟩), u] [slc rByte Pu u b] [blk D 34 [v, .bool bad], own 5 1 v bs.length (bs.map vByte)]
    (TX (fun _ : Value => True) (fun _ => .tuple #[]) (fun v => [blk D 34 [v, .bool (bad || decide (sizeM (b.length : Int) = 0))], own 5 1 v (bs ++ bytesM b).length ((bs ++ bytesM b).map vByte)])) := by
  refine Tr.of (l := [(0, .pointer (some ⟨D, 0, none⟩)), (1, u)]) Try.func18 rfl (n := 17) rfl (.cons rfl (.cons rfl .nil)) (fun w0 hro => ?_)
  have hu := ro1 hro
  have hu' := hu
  obtain ⟨ad, cap, bb, off, rfl, -⟩ := Ro.open hu
  have hp5 := putM_le b.length
  refine G.seq ?_
  refine G.region ?_
  refine G.op rfl (G.val rfl rfl (pv_move rfl) ?_)
  refine G.op rfl (G.val rfl rfl (pv_move rfl) ?_)
  refine G.op rfl (G.val rfl rfl (pv_lenSl Try.underlying23 rfl) ?_)
  refine G.op rfl (G.c2 rfl rfl rfl rfl Try.func16 rfl rfl (wintR_any D bad v bs b.length (by omega)) (.cons (by repeat (first | with_reducible exact Sel.here | exact Sel.here | apply Sel.there)) (.cons (by repeat (first | with_reducible exact Sel.here | exact Sel.here | apply Sel.there)) .nil)) may0 ?_)
  rintro v2 -
  refine G.nil ?_
  refine G.nThen ?_
  refine G.region ?_
  refine G.op rfl (G.val rfl rfl (pv_move rfl) ?_)
  refine G.op rfl (G.val rfl rfl (pv_move rfl) ?_)
  refine G.op rfl (G.val rfl rfl (pv_nilCheck rfl) ?_)
  refine G.op rfl (G.val rfl rfl (pv_fieldAddr (sz := 0) Try.underlying34 rfl (by kernel_rfl) rfl) ?_)
  refine G.op rfl (G.val rfl rfl (pv_load Try.underlying23 rfl rfl (by first | exact blk_cell (by repeat (first | with_reducible exact Sel.here | exact Sel.here | apply Sel.there)) rfl | exact ro_int (by assumption) | exact ro_byte (by assumption) | exact ro_str (by assumption) | assumption)) ?_)
  refine G.op rfl (G.val rfl rfl (pv_move rfl) ?_)
  refine G.op rfl (G.appendS (k := (bs ++ putM b.length).length) (cs := (bs ++ putM b.length).map vByte) rfl Try.underlying23 Try.infoByte' rfl rfl (.there .here) (ro_sl hu) (vByte_one _) (by simp only [List.length_append]; omega) (by simp only [List.length_append]; omega) ?_)
  intro v'
  refine G.ownFact .here (fun hv1 _ => ?_)
  refine G.op rfl (G.val rfl rfl (pv_nilCheck rfl) ?_)
  refine G.op rfl (G.val rfl rfl (pv_fieldAddr (sz := 0) Try.underlying34 rfl (by kernel_rfl) rfl) ?_)
  refine G.op rfl (G.store (o := 0) (by kernel_rfl) rfl rfl hv1 (by repeat (first | with_reducible exact Sel.here | exact Sel.here | apply Sel.there)) (by simp) ?_)
  refine G.nil ?_
  exact G.doneE (m' := [blk D 34 [v', .bool (bad || decide (sizeM (b.length : Int) = 0))], own 5 1 v' (bs ++ bytesM b).length ((bs ++ bytesM b).map vByte)]) rfl (.cons .here (.cons (by rw [show bs ++ bytesM b = (bs ++ putM b.length) ++ b by simp [bytesM], ← own_app]; exact .here) .nil)) ⟨v', trivial, rfl, rfl⟩
set_option maxRecDepth 20000 in

theorem wtext_tr (D : Nat) (bad : Bool) (v : Value) (bs b : List UInt8) (hb : bs.length ≤ 900000000) (hl : b.length ≤ 10000000) : Tr Try.prog 19 #[.pointer (some ⟨D, 0, none⟩), .string (sB b)] [] [blk D 60 [.bool true, .bool bad, v], own 5 1 v bs.length (bs.map vByte)]
    (TX (fun _ : Value => True) (fun _ => .tuple #[]) (fun v => [blk D 60 [.bool true, .bool (bad || decide (sizeM (b.length : Int) = 0)), v], own 5 1 v (bs ++ bytesM b).length ((bs ++ bytesM b).map vByte)])) := by
  refine Tr.of (l := [(0, .pointer (some ⟨D, 0, none⟩)), (1, .string (sB b))]) Try.func19 rfl (n := 8) rfl (.cons rfl (.cons rfl .nil)) (fun w0 hro => ?_)
  refine G.region ?_
  refine G.op rfl (G.val rfl rfl (pv_move rfl) ?_)
  refine G.op rfl (G.val rfl rfl (pv_move rfl) ?_)
  refine G.op rfl (G.toBytes rfl Try.underlying9 Try.underlying23 Try.underlying5 rfl (by omega) ?_)
  intro b6 u
  refine G.op rfl (G.c2 rfl rfl rfl rfl Try.func17 rfl rfl (wbytes_tr D bad v u bs b (Pu := (· = b6)) hb hl) (.cons (by repeat (first | with_reducible exact Sel.here | exact Sel.here | apply Sel.there)) (.cons (by repeat (first | with_reducible exact Sel.here | exact Sel.here | apply Sel.there)) .nil)) (may1 (by first | exact .old (by assumption) | exact Sel.may (by repeat (first | with_reducible exact Sel.here | exact Sel.here | apply Sel.there)))) ?_)
  rintro v2 -
  refine G.nil ?_
  exact G.doneE (m' := [blk D 60 [.bool true, .bool (bad || decide (sizeM (b.length : Int) = 0)), v2], own 5 1 v2 (bs ++ bytesM b).length ((bs ++ bytesM b).map vByte)]) rfl (.cons .here (.cons .here .nil)) ⟨v2, trivial, rfl, rfl⟩
set_option maxRecDepth 20000 in

theorem wtextR_tr (D : Nat) (bad : Bool) (v : Value) (bs b : List UInt8) (hb : bs.length ≤ 900000000) (hl : b.length ≤ 10000000) : Tr Try.prog 20 #[.pointer (some ⟨D, 0, none⟩), .string (sB b)] [] [blk D 34 [v, .bool bad], own 5 1 v bs.length (bs.map vByte)]
    (TX (fun _ : Value => True) (fun _ => .tuple #[]) (fun v => [blk D 34 [v, .bool (bad || decide (sizeM (b.length : Int) = 0))], own 5 1 v (bs ++ bytesM b).length ((bs ++ bytesM b).map vByte)])) := by
  refine Tr.of (l := [(0, .pointer (some ⟨D, 0, none⟩)), (1, .string (sB b))]) Try.func20 rfl (n := 8) rfl (.cons rfl (.cons rfl .nil)) (fun w0 hro => ?_)
  refine G.region ?_
  refine G.op rfl (G.val rfl rfl (pv_move rfl) ?_)
  refine G.op rfl (G.val rfl rfl (pv_move rfl) ?_)
  refine G.op rfl (G.toBytes rfl Try.underlying9 Try.underlying23 Try.underlying5 rfl (by omega) ?_)
  intro b6 u
  refine G.op rfl (G.c2 rfl rfl rfl rfl Try.func18 rfl rfl (wbytesR_tr D bad v u bs b (Pu := (· = b6)) hb hl) (.cons (by repeat (first | with_reducible exact Sel.here | exact Sel.here | apply Sel.there)) (.cons (by repeat (first | with_reducible exact Sel.here | exact Sel.here | apply Sel.there)) .nil)) (may1 (by first | exact .old (by assumption) | exact Sel.may (by repeat (first | with_reducible exact Sel.here | exact Sel.here | apply Sel.there)))) ?_)
  rintro v2 -
  refine G.nil ?_
  exact G.doneE (m' := [blk D 34 [v2, .bool (bad || decide (sizeM (b.length : Int) = 0))], own 5 1 v2 (bs ++ bytesM b).length ((bs ++ bytesM b).map vByte)]) rfl (.cons .here (.cons .here .nil)) ⟨v2, trivial, rfl, rfl⟩
/-- an ID's value -/
def vID (id : List UInt8) : Value := .agg (id.map vByte).toArray
set_option maxRecDepth 20000 in

theorem wid_tr (D : Nat) (bad : Bool) (v : Value) (bs id : List UInt8) (hid : id.length = 16) (hb : bs.length ≤ 1000000000) : Tr Try.prog 21 #[.pointer (some ⟨D, 0, none⟩), vID id] [] [blk D 60 [.bool true, .bool bad, v], own 5 1 v bs.length (bs.map vByte)]
    (TX (fun _ : Value => True) (fun _ => .tuple #[]) (fun v => [blk D 60 [.bool true, .bool bad, v], own 5 1 v (bs ++ id).length ((bs ++ id).map vByte)])) := by
  refine Tr.of (l := [(0, .pointer (some ⟨D, 0, none⟩)), (1, vID id)]) Try.func21 rfl (n := 21) rfl (.cons rfl (.cons rfl .nil)) (fun w0 hro => ?_)
  refine G.seq ?_
  refine G.region ?_
  refine G.op rfl (G.box (cs := id.map vByte) rfl rfl rfl ?_)
  intro b3
  refine G.nil ?_
  refine G.nThen ?_
  refine G.seq ?_
  refine G.region ?_
  refine G.op rfl (G.val rfl rfl (pv_move rfl) ?_)
  refine G.op rfl (G.val rfl rfl (pv_neqP0 Try.underlying29 rfl rfl) ?_)
  refine G.op rfl (G.val rfl rfl (pv_move rfl) ?_)
  refine G.want rfl rfl rfl (G.val rfl rfl (pv_move rfl) ?_)
  refine G.want rfl rfl rfl (G.val rfl rfl (pv_nilCheck rfl) ?_)
  refine G.want rfl rfl rfl (G.val rfl rfl (pv_fieldAddr (sz := 0) Try.underlying60 rfl (by kernel_rfl) rfl) ?_)
  refine G.want rfl rfl rfl (G.val rfl rfl (pv_load Try.underlying4 rfl rfl (blk_cell (v := .bool true) (.there .here) rfl)) ?_)
  refine G.op rfl (G.val rfl rfl (pv_pick rfl rfl) ?_)
  refine G.nil ?_
  refine G.nThen ?_
  refine G.condT rfl (rfl) ?_
  refine G.drawn (by kernel_rfl) (k := 10) rfl [] ?_
  refine G.take (i := 0) rfl rfl rfl (by kernel_rfl) (by kernel_rfl) (by kernel_rfl) (fun _ _ _ h => h) rfl (pv_move rfl) Sub.nil ?_
  refine G.take (i := 1) rfl rfl rfl (by kernel_rfl) (by kernel_rfl) (by kernel_rfl) (fun _ _ _ h => h) rfl (pv_move rfl) Sub.nil ?_
  refine G.take (i := 2) rfl rfl rfl (by kernel_rfl) (by kernel_rfl) (by kernel_rfl) (fun _ _ _ h => h) rfl (pv_nilCheck rfl) Sub.nil ?_
  refine G.take (i := 3) rfl rfl rfl (by kernel_rfl) (by kernel_rfl) (by kernel_rfl) (fun _ _ _ h => h) rfl (pv_fieldAddr (sz := 0) Try.underlying60 rfl (by kernel_rfl) rfl) Sub.nil ?_
  refine G.take (i := 5) rfl rfl rfl (by kernel_rfl) (by kernel_rfl) (by kernel_rfl) (fun _ _ _ h => h) rfl (pv_subAr (len := 16) Try.underlying37 (by kernel_rfl) rfl) Sub.nil ?_
  refine G.one (i := 4) (by kernel_rfl) ?_
  refine G.turnOp rfl rfl (G.val rfl rfl (pv_load Try.underlying23 rfl rfl (blk_cell (v := v) (.there .here) rfl)) ?_)
  refine G.back Sub.nil ?_
  refine G.one (i := 6) (by kernel_rfl) ?_
  refine G.turnOp rfl rfl (G.append (k := bs.length) (j := 16) (cs := bs.map vByte) (news := id.map vByte) (b := b3) (off := 0) rfl Try.underlying23 Try.infoByte' rfl rfl rfl (.there (.there .here)) (fun _ => rfl) (fun h => by cases h) (by rw [List.length_map, hid]) (blk_news (k := 16) .here (by rw [List.drop_zero, List.take_of_length_le (by rw [List.length_map, hid]; exact Nat.le_refl _)])) (vByte_one _) (by omega) (by omega) ?_)
  intro v'
  refine G.ownFact .here (fun hv1 _ => ?_)
  refine G.back Sub.nil ?_
  refine G.take (i := 7) rfl rfl rfl (by kernel_rfl) (by kernel_rfl) (by kernel_rfl) (fun _ _ _ h => h) rfl (pv_nilCheck rfl) Sub.nil ?_
  refine G.take (i := 8) rfl rfl rfl (by kernel_rfl) (by kernel_rfl) (by kernel_rfl) (fun _ _ _ h => h) rfl (pv_fieldAddr (sz := 0) Try.underlying60 rfl (by kernel_rfl) rfl) Sub.nil ?_
  refine G.one (i := 9) (by kernel_rfl) ?_
  refine G.turnOp rfl rfl (G.store (o := 2) (by kernel_rfl) rfl rfl hv1 (by repeat (first | with_reducible exact Sel.here | exact Sel.here | apply Sel.there)) (by simp) ?_)
  refine G.back Sub.nil ?_
  refine G.over (by kernel_rfl) ?_
  exact G.doneE (m' := [blk D 60 [.bool true, .bool bad, v'], own 5 1 v' (bs ++ id).length ((bs ++ id).map vByte)]) rfl (.cons (by repeat (first | with_reducible exact Sel.here | exact Sel.here | apply Sel.there)) (.cons (by rw [List.length_append, hid, List.map_append]; repeat (first | with_reducible exact Sel.here | apply Sel.there)) .nil)) ⟨v', trivial, rfl, rfl⟩
set_option maxRecDepth 20000 in

theorem widR_tr (D : Nat) (bad : Bool) (v : Value) (bs id : List UInt8) (hid : id.length = 16) (hb : bs.length ≤ 1000000000) : Tr Try.prog 22 #[.pointer (some ⟨D, 0, none⟩), vID id] [] [blk D 34 [v, .bool bad], own 5 1 v bs.length (bs.map vByte)]
    (TX (fun _ : Value => True) (fun _ => .tuple #[]) (fun v => [blk D 34 [v, .bool bad], own 5 1 v (bs ++ id).length ((bs ++ id).map vByte)])) := by
  refine Tr.of (l := [(0, .pointer (some ⟨D, 0, none⟩)), (1, vID id)]) Try.func22 rfl (n := 13) rfl (.cons rfl (.cons rfl .nil)) (fun w0 hro => ?_)
  refine G.seq ?_
  refine G.region ?_
  refine G.op rfl (G.box (cs := id.map vByte) rfl rfl rfl ?_)
  intro b3
  refine G.nil ?_
  refine G.nThen ?_
  refine G.drawn (by kernel_rfl) (k := 10) rfl [] ?_
  refine G.take (i := 0) rfl rfl rfl (by kernel_rfl) (by kernel_rfl) (by kernel_rfl) (fun _ _ _ h => h) rfl (pv_move rfl) Sub.nil ?_
  refine G.take (i := 1) rfl rfl rfl (by kernel_rfl) (by kernel_rfl) (by kernel_rfl) (fun _ _ _ h => h) rfl (pv_move rfl) Sub.nil ?_
  refine G.take (i := 2) rfl rfl rfl (by kernel_rfl) (by kernel_rfl) (by kernel_rfl) (fun _ _ _ h => h) rfl (pv_nilCheck rfl) Sub.nil ?_
  refine G.take (i := 3) rfl rfl rfl (by kernel_rfl) (by kernel_rfl) (by kernel_rfl) (fun _ _ _ h => h) rfl (pv_fieldAddr (sz := 0) Try.underlying34 rfl (by kernel_rfl) rfl) Sub.nil ?_
  refine G.take (i := 5) rfl rfl rfl (by kernel_rfl) (by kernel_rfl) (by kernel_rfl) (fun _ _ _ h => h) rfl (pv_subAr (len := 16) Try.underlying37 (by kernel_rfl) rfl) Sub.nil ?_
  refine G.one (i := 4) (by kernel_rfl) ?_
  refine G.turnOp rfl rfl (G.val rfl rfl (pv_load Try.underlying23 rfl rfl (blk_cell (v := v) (.there .here) rfl)) ?_)
  refine G.back Sub.nil ?_
  refine G.one (i := 6) (by kernel_rfl) ?_
  refine G.turnOp rfl rfl (G.append (k := bs.length) (j := 16) (cs := bs.map vByte) (news := id.map vByte) (b := b3) (off := 0) rfl Try.underlying23 Try.infoByte' rfl rfl rfl (.there (.there .here)) (fun _ => rfl) (fun h => by cases h) (by rw [List.length_map, hid]) (blk_news (k := 16) .here (by rw [List.drop_zero, List.take_of_length_le (by rw [List.length_map, hid]; exact Nat.le_refl _)])) (vByte_one _) (by omega) (by omega) ?_)
  intro v'
  refine G.ownFact .here (fun hv1 _ => ?_)
  refine G.back Sub.nil ?_
  refine G.take (i := 7) rfl rfl rfl (by kernel_rfl) (by kernel_rfl) (by kernel_rfl) (fun _ _ _ h => h) rfl (pv_nilCheck rfl) Sub.nil ?_
  refine G.take (i := 8) rfl rfl rfl (by kernel_rfl) (by kernel_rfl) (by kernel_rfl) (fun _ _ _ h => h) rfl (pv_fieldAddr (sz := 0) Try.underlying34 rfl (by kernel_rfl) rfl) Sub.nil ?_
  refine G.one (i := 9) (by kernel_rfl) ?_
  refine G.turnOp rfl rfl (G.store (o := 0) (by kernel_rfl) rfl rfl hv1 (by repeat (first | with_reducible exact Sel.here | exact Sel.here | apply Sel.there)) (by simp) ?_)
  refine G.back Sub.nil ?_
  refine G.over (by kernel_rfl) ?_
  exact G.doneE (m' := [blk D 34 [v', .bool bad], own 5 1 v' (bs ++ id).length ((bs ++ id).map vByte)]) rfl (.cons (by repeat (first | with_reducible exact Sel.here | exact Sel.here | apply Sel.there)) (.cons (by rw [List.length_append, hid, List.map_append]; repeat (first | with_reducible exact Sel.here | apply Sel.there)) .nil)) ⟨v', trivial, rfl, rfl⟩
end Go.Proofs.Ytnfjpiancbgdhaa
