/- Contracts of layer 1's reader: what tries, and what it tries. Conditions: the reader is made; its bytes are not more than a thousand million. -/
import Derived.Test.YtakcffhknnailaaFS
set_option linter.unusedVariables false
set_option linter.unusedSimpArgs false
namespace Go.Proofs.Ytakcffhknnailaa
open Go.RowKit

set_option maxRecDepth 20000 in

theorem id1_tr (D a bR bI : Nat) (v : Value) (b : List UInt8) (p : Int) (ha : a ≤ b.length) (hb : b.length ≤ 1000000000) : TrO Try.prog 69 #[.pointer (some ⟨bI, 0, none⟩), .pointer (some ⟨bR, 0, none⟩)] [] [blk D 96 [.bool true, v, .int .i64 (a : Int), .int .i64 0, .int .i64 p], own 5 1 v b.length (b.map vByte), blk bR 75 [.pointer (some ⟨D, 0, none⟩)], blk bI 49 (List.replicate 16 (.int .u8 0))]
    (TO (fun _ : Unit => a + 16 ≤ b.length) (fun _ => .tuple #[]) (fun _ => [blk D 96 [.bool true, v, .int .i64 ((a + 16 : Nat) : Int), .int .i64 0, .int .i64 p], own 5 1 v b.length (b.map vByte), blk bR 75 [.pointer (some ⟨D, 0, none⟩)], blk bI 49 ((subB b a 16).map vByte)]) (fun _ : Unit => b.length < a + 16) (fun _ => wrongC 4 b.length) (fun _ => [blk D 96 [.bool true, v, .int .i64 (a : Int), .int .i64 0, .int .i64 p], own 5 1 v b.length (b.map vByte), blk bR 75 [.pointer (some ⟨D, 0, none⟩)], blk bI 49 (List.replicate 16 (.int .u8 0))])) := by
  refine TrO.of (l := [(0, .pointer (some ⟨bI, 0, none⟩)), (1, .pointer (some ⟨bR, 0, none⟩))]) Try.func69 rfl (n := 6) rfl (.cons rfl (.cons rfl .nil)) (fun w0 hro => ?_)
  refine G.drawn (by kernel_rfl) (k := 4) rfl [blk bR 75 [.pointer (some ⟨D, 0, none⟩)]] ?_
  refine G.take (i := 0) rfl rfl rfl (by kernel_rfl) (by kernel_rfl) (by kernel_rfl) (fun _ _ _ h => h) rfl (pv_subAr (len := 16) Try.underlying49 (by kernel_rfl) rfl) (.cons (by repeat (first | with_reducible exact Sel.here | exact Sel.here | apply Sel.there)) .nil) ?_
  refine G.one (i := 1) (by kernel_rfl) ?_
  refine G.turnOp rfl rfl (G.val rfl rfl (pv_load Try.underlying75 rfl rfl (blk_cell (v := .pointer (some ⟨D, 0, none⟩)) (by repeat (first | with_reducible exact Sel.here | exact Sel.here | apply Sel.there)) rfl)) ?_)
  refine G.back (.cons (by repeat (first | with_reducible exact Sel.here | exact Sel.here | apply Sel.there)) .nil) ?_
  refine G.one (i := 2) (by kernel_rfl) ?_
  refine G.turnOp rfl rfl (G.cO3 rfl rfl (pe_fn rfl rfl Try.func70 rfl rfl) (some_tr D a 16 v b p ha hb (by omega)) (.cons (by repeat (first | with_reducible exact Sel.here | exact Sel.here | apply Sel.there)) (.cons (by repeat (first | with_reducible exact Sel.here | exact Sel.here | apply Sel.there)) .nil)) may0 ?_ ?_)
  · rintro v' hle
    have hle' : a + 16 ≤ b.length := hle
    refine G.ownNews (v := v') (by repeat (first | with_reducible exact Sel.here | exact Sel.here | apply Sel.there)) (fun ad2 cap2 bb2 hv2 hcap2 hmax2 had2 hnil2 hnews2 => ?_)
    subst hv2
    refine G.back (.cons (by repeat (first | with_reducible exact Sel.here | exact Sel.here | apply Sel.there)) .nil) ?_
    refine G.one (i := 3) (by kernel_rfl) ?_
    refine G.turnOp rfl rfl (G.copy (j := (subB b a 16).length) (news := (subB b a 16).map vByte) (cs := List.replicate 16 (.int .u8 0)) (cs' := (subB b a 16).map vByte) (b' := bb2) (off := 0) rfl Try.underlying24 Try.sizeByte rfl rfl (by repeat (first | with_reducible exact Sel.here | exact Sel.here | apply Sel.there)) had2 (hnews2 (by repeat (first | with_reducible exact Sel.here | exact Sel.here | apply Sel.there))) (by rw [List.length_map, subB_length hle']; rfl) (vByte_one _) (by rw [List.length_map, subB_length hle']; exact Nat.le_refl _) (by rw [List.length_map, subB_length hle']; simp) ?_)
    refine G.back (.cons (by repeat (first | with_reducible exact Sel.here | exact Sel.here | apply Sel.there)) .nil) ?_
    refine G.over (by kernel_rfl) ?_
    exact G.outE (m' := [blk D 96 [.bool true, v, .int .i64 ((a + 16 : Nat) : Int), .int .i64 0, .int .i64 p], own 5 1 v b.length (b.map vByte), blk bR 75 [.pointer (some ⟨D, 0, none⟩)], blk bI 49 ((subB b a 16).map vByte)]) rfl (.cons (by repeat (first | with_reducible exact Sel.here | exact Sel.here | apply Sel.there)) (.cons (by repeat (first | with_reducible exact Sel.here | exact Sel.here | apply Sel.there)) (.cons (by repeat (first | with_reducible exact Sel.here | exact Sel.here | apply Sel.there)) (.cons (by repeat (first | with_reducible exact Sel.here | exact Sel.here | apply Sel.there)) .nil)))) ⟨(), hle', rfl, rfl⟩
  · rintro ⟨⟩ hlt
    exact G.outP (.cons (by repeat (first | with_reducible exact Sel.here | exact Sel.here | apply Sel.there)) (.cons (by repeat (first | with_reducible exact Sel.here | exact Sel.here | apply Sel.there)) (.cons (by repeat (first | with_reducible exact Sel.here | exact Sel.here | apply Sel.there)) (.cons (by repeat (first | with_reducible exact Sel.here | exact Sel.here | apply Sel.there)) .nil)))) ⟨(), hlt, rfl, rfl⟩
theorem ro_blk {w0 : World} {S : Nat → Prop} {m : List Ck} {b o : Nat} {T : TypeId} {cs : List Value} {v : Value} (h : Ro w0 S (blk b T cs)) (hv : cs[o]? = some v) : ∀ w, Hp w0 S w m → w.cell? ⟨b, o, none⟩ = some v := fun w hw => by
  have := h.at hw
  rw [cell_of_row _ _ _ _ _ _ this, List.getElem?_toArray, hv]
theorem ro_range {w0 : World} {S : Nat → Prop} {m : List Ck} {b o k : Nat} {T : TypeId} {cs xs : List Value} (h : Ro w0 S (blk b T cs)) (hv : (cs.drop o).take k = xs) : ∀ w, Hp w0 S w m → w.rangeAt b o xs := fun w hw j v hj => by
  have := h.at hw
  rw [cell_of_row _ _ _ _ _ _ this, List.getElem?_toArray]
  rw [← hv, List.getElem?_take] at hj
  split at hj
  · rwa [List.getElem?_drop] at hj
  · cases hj
set_option maxRecDepth 20000 in

theorem none0_tr : Tr Try.prog 76 #[.pointer none] [] [] (T0 (.bool true)) := by
  refine Tr.of (l := [(0, .pointer none)]) Try.func76 rfl (n := 20) rfl (.cons rfl .nil) (fun w0 hro => ?_)
  refine G.seq ?_
  refine G.region ?_
  refine G.op rfl (G.val rfl rfl (pv_assign rfl) ?_)
  refine G.nil ?_
  refine G.nThen ?_
  refine G.seq ?_
  refine G.region ?_
  refine G.op rfl (G.val rfl rfl (pv_move rfl) ?_)
  refine G.op rfl (G.val rfl rfl (pv_eqlP0 Try.underlying75 rfl rfl) ?_)
  refine G.op rfl (G.val rfl rfl (pv_move rfl) ?_)
  refine G.pass rfl rfl rfl rfl rfl rfl ?_
  refine G.pass rfl rfl rfl rfl rfl rfl ?_
  refine G.pass rfl rfl rfl rfl rfl rfl ?_
  refine G.pass rfl rfl rfl rfl rfl rfl ?_
  refine G.pass rfl rfl rfl rfl rfl rfl ?_
  refine G.op rfl (G.val rfl rfl (pv_pick rfl rfl) ?_)
  refine G.op rfl (G.val rfl rfl (pv_move rfl) ?_)
  refine G.pass rfl rfl rfl rfl rfl rfl ?_
  refine G.pass rfl rfl rfl rfl rfl rfl ?_
  refine G.pass rfl rfl rfl rfl rfl rfl ?_
  refine G.pass rfl rfl rfl rfl rfl rfl ?_
  refine G.pass rfl rfl rfl rfl rfl rfl ?_
  refine G.pass rfl rfl rfl rfl rfl rfl ?_
  refine G.op rfl (G.val rfl rfl (pv_pick rfl rfl) ?_)
  refine G.op rfl (G.val rfl rfl (pv_assign rfl) ?_)
  refine G.nil ?_
  refine G.nThen ?_
  refine G.ret ?_
  exact G.done1 rfl rfl .nil ⟨rfl, rfl⟩
set_option maxRecDepth 20000 in

theorem none_tr (D : Nat) (v : Value) (made : Bool) (a e p : Int) : Tr Try.prog 76 #[.pointer (some ⟨D, 0, none⟩)] [blk D 96 [.bool made, v, .int .i64 (a : Int), .int .i64 e, .int .i64 p]] [] (T0 (.bool (!made || decide (e ≠ 0)))) := by
  refine Tr.of (l := [(0, .pointer (some ⟨D, 0, none⟩))]) Try.func76 rfl (n := 20) rfl (.cons rfl .nil) (fun w0 hro => ?_)
  have hr := ro1 hro
  refine G.seq ?_
  refine G.region ?_
  refine G.op rfl (G.val rfl rfl (pv_assign rfl) ?_)
  refine G.nil ?_
  refine G.nThen ?_
  refine G.seq ?_
  refine G.region ?_
  refine G.op rfl (G.val rfl rfl (pv_move rfl) ?_)
  refine G.op rfl (G.val rfl rfl (pv_eqlP0 Try.underlying75 rfl rfl) ?_)
  refine G.op rfl (G.val rfl rfl (pv_move rfl) ?_)
  refine G.want rfl rfl rfl (G.val rfl rfl (pv_move rfl) ?_)
  refine G.want rfl rfl rfl (G.val rfl rfl (pv_nilCheck rfl) ?_)
  refine G.want rfl rfl rfl (G.val rfl rfl (pv_fieldAddr (sz := 0) Try.underlying96 rfl (by kernel_rfl) rfl) ?_)
  refine G.want rfl rfl rfl (G.val rfl rfl (pv_load Try.underlying4 rfl rfl (ro_blk (v := .bool made) hr rfl)) ?_)
  refine G.want rfl rfl rfl (G.val rfl rfl (pv_not rfl) ?_)
  refine G.op rfl (G.val rfl rfl (pv_pick rfl rfl) ?_)
  refine G.op rfl (G.val rfl rfl (pv_move rfl) ?_)
  refine G.part (t := 12) rfl (fun h12 => ?_) (fun h12 => ?_)
  · refine G.pass rfl rfl rfl rfl rfl rfl ?_
    refine G.pass rfl rfl rfl rfl rfl rfl ?_
    refine G.pass rfl rfl rfl rfl rfl rfl ?_
    refine G.pass rfl rfl rfl rfl rfl rfl ?_
    refine G.pass rfl rfl rfl rfl rfl rfl ?_
    refine G.pass rfl rfl rfl rfl rfl rfl ?_
    refine G.op rfl (G.val rfl rfl (pv_pick rfl rfl) ?_)
    refine G.op rfl (G.val rfl rfl (pv_assign rfl) ?_)
    refine G.nil ?_
    refine G.nThen ?_
    refine G.ret ?_
    first | exact G.done1 rfl rfl .nil ⟨by simp [*], rfl⟩ | (cases made <;> first | exact G.done1 rfl rfl .nil ⟨rfl, rfl⟩ | (exfalso; simp at *))
  · refine G.want rfl rfl rfl (G.val rfl rfl (pv_move rfl) ?_)
    refine G.want rfl rfl rfl (G.val rfl rfl (pv_nilCheck rfl) ?_)
    refine G.want rfl rfl rfl (G.val rfl rfl (pv_fieldAddr (sz := 1) Try.underlying96 rfl (by kernel_rfl) rfl) ?_)
    refine G.want rfl rfl rfl (G.val rfl rfl (pv_fieldAddr (sz := 0) Try.underlying39 rfl (by kernel_rfl) rfl) ?_)
    refine G.want rfl rfl rfl (G.val rfl rfl (pv_load Try.underlying29 rfl rfl (ro_blk (v := .int .i64 e) hr rfl)) ?_)
    refine G.want rfl rfl rfl (G.val rfl rfl (pv_neq rfl rfl) ?_)
    refine G.op rfl (G.val rfl rfl (pv_pick rfl rfl) ?_)
    refine G.op rfl (G.val rfl rfl (pv_assign rfl) ?_)
    refine G.nil ?_
    refine G.nThen ?_
    refine G.ret ?_
    first | exact G.done1 rfl rfl .nil ⟨by simp [*], rfl⟩ | (cases made <;> first | exact G.done1 rfl rfl .nil ⟨rfl, rfl⟩ | (exfalso; simp at *))
set_option maxRecDepth 20000 in

theorem try1_ret (D bA bR a nx : Nat) (v : Value) (p e pp : Int) : TrD Try.prog 77 #[.pointer (some ⟨bA, 0, none⟩), .pointer (some ⟨bR, 0, none⟩)] .returning .returning [] [] := by
  refine TrD.of (v := .nilIface) (l := [(0, .pointer (some ⟨bA, 0, none⟩)), (1, .pointer (some ⟨bR, 0, none⟩))]) Try.func77 rfl rfl (n := 20) rfl (.cons rfl (.cons rfl .nil)) rfl rfl rfl (fun ρ w => rfl) (.inl ⟨rfl, rfl, rfl⟩) (fun w0 => ?_)
  refine G.block ?_
  refine G.seq ?_
  refine G.region ?_
  refine G.op rfl (G.val rfl rfl (pv_eqI0 Try.underlying20 rfl) ?_)
  refine G.nil ?_
  refine G.nThen ?_
  refine G.condT rfl (rfl) ?_
  refine G.region ?_
  refine G.op rfl (G.val rfl rfl (pv_assign rfl) ?_)
  refine G.nil ?_
  refine G.nBlock ?_
  exact G.doneD rfl .nil
set_option maxRecDepth 20000 in

theorem try1_pan (D bA bR a nx : Nat) (v : Value) (p e pp : Int) : TrD Try.prog 77 #[.pointer (some ⟨bA, 0, none⟩), .pointer (some ⟨bR, 0, none⟩)] (.panicking (wrongC e pp)) (.panicking [{ v := .iface 104 (.agg #[.int .i64 e, .int .i64 pp]), recovered := true }]) [blk D 96 [.bool true, v, .int .i64 (nx : Int), .int .i64 0, .int .i64 p], blk bA 3 [.int .i64 (a : Int)], blk bR 75 [.pointer (some ⟨D, 0, none⟩)]] [blk D 96 [.bool true, v, .int .i64 (a : Int), .int .i64 e, .int .i64 pp], blk bA 3 [.int .i64 (a : Int)], blk bR 75 [.pointer (some ⟨D, 0, none⟩)]] := by
  refine TrD.of (v := .iface 104 (.agg #[.int .i64 e, .int .i64 pp])) (l := [(0, .pointer (some ⟨bA, 0, none⟩)), (1, .pointer (some ⟨bR, 0, none⟩))]) Try.func77 rfl rfl (n := 20) rfl (.cons rfl (.cons rfl .nil)) rfl rfl rfl (fun ρ w => rfl) (.inr ⟨_, rfl, rfl, rfl⟩) (fun w0 => ?_)
  refine G.block ?_
  refine G.seq ?_
  refine G.region ?_
  refine G.op rfl (G.val rfl rfl (pv_eqI1 Try.underlying20 rfl) ?_)
  refine G.nil ?_
  refine G.nThen ?_
  refine G.condF rfl (rfl) ?_
  refine G.seq ?_
  refine G.region ?_
  refine G.op rfl (G.val rfl rfl (pv_assertOk Try.underlying104 rfl rfl) ?_)
  refine G.op rfl (G.val rfl rfl (pv_extract rfl rfl) ?_)
  refine G.op rfl (G.val rfl rfl (pv_extract rfl rfl) ?_)
  refine G.nil ?_
  refine G.nThen ?_
  refine G.condT rfl (rfl) ?_
  refine G.seq ?_
  refine G.region ?_
  refine G.op rfl (G.alloc (z := .agg #[.int .i64 0, .int .i64 0]) (cs := [.int .i64 0, .int .i64 0]) rfl (by kernel_rfl) rfl ?_)
  intro b3
  refine G.op rfl (G.storeN (by kernel_rfl) rfl rfl rfl (by repeat (first | with_reducible exact Sel.here | exact Sel.here | apply Sel.there)) (by first | (simp; done) | exact Nat.le_of_ble_eq_true rfl) ?_)
  refine G.nil ?_
  refine G.nThen ?_
  refine G.region ?_
  refine G.op rfl (G.val rfl rfl (pv_load Try.underlying75 rfl rfl (blk_cell (v := .pointer (some ⟨D, 0, none⟩)) (by repeat (first | with_reducible exact Sel.here | exact Sel.here | apply Sel.there)) rfl)) ?_)
  refine G.op rfl (G.val rfl rfl (pv_load Try.underlying75 rfl rfl (blk_cell (v := .pointer (some ⟨D, 0, none⟩)) (by repeat (first | with_reducible exact Sel.here | exact Sel.here | apply Sel.there)) rfl)) ?_)
  refine G.op rfl (G.val rfl rfl (pv_fieldAddr (sz := 1) Try.underlying104 rfl (by kernel_rfl) rfl) ?_)
  refine G.op rfl (G.val rfl rfl (pv_loadN (cs := [.int .i64 e, .int .i64 pp]) Try.underlying39 rfl (by kernel_rfl) rfl (blk_range (k := 2) (by repeat (first | with_reducible exact Sel.here | exact Sel.here | apply Sel.there)) rfl)) ?_)
  refine G.op rfl (G.val rfl rfl (pv_load Try.underlying3 rfl rfl (blk_cell (v := .int .i64 (a : Int)) (by repeat (first | with_reducible exact Sel.here | exact Sel.here | apply Sel.there)) rfl)) ?_)
  refine G.op rfl (G.val rfl rfl (pv_nilCheck rfl) ?_)
  refine G.op rfl (G.val rfl rfl (pv_fieldAddr (sz := 1) Try.underlying96 rfl (by kernel_rfl) rfl) ?_)
  refine G.op rfl (G.storeN (by kernel_rfl) rfl rfl rfl (by repeat (first | with_reducible exact Sel.here | exact Sel.here | apply Sel.there)) (by first | (simp; done) | exact Nat.le_of_ble_eq_true rfl) ?_)
  refine G.op rfl (G.val rfl rfl (pv_nilCheck rfl) ?_)
  refine G.op rfl (G.val rfl rfl (pv_fieldAddr (sz := 0) Try.underlying96 rfl (by kernel_rfl) rfl) ?_)
  refine G.op rfl (G.store (by kernel_rfl) rfl rfl rfl (by repeat (first | with_reducible exact Sel.here | exact Sel.here | apply Sel.there)) (by first | (simp; done) | exact Nat.le_of_ble_eq_true rfl) ?_)
  refine G.nil ?_
  refine G.nBlock ?_
  exact G.doneD rfl (.cons (by repeat (first | with_reducible exact Sel.here | exact Sel.here | apply Sel.there)) (.cons (by repeat (first | with_reducible exact Sel.here | exact Sel.here | apply Sel.there)) (.cons (by repeat (first | with_reducible exact Sel.here | exact Sel.here | apply Sel.there)) .nil)))
set_option maxRecDepth 20000 in

theorem try_tr {X Y : Type} {J : X → Prop} {J' : Y → Prop} {nx : X → Nat} {at' : Y → Nat} {e pp : Y → Int} {q : List Ck} {q1 : X → List Ck} {q2 : Y → List Ck} (D a f : Nat) {caps args : Array Value} (v : Value) (p : Int) (hargs : args = #[] ++ #[] ++ caps) {fn : Func} {c : Code}
    (hf : Try.prog.funcs[f]? = some fn) (hb : fn.body = some c) (hnm : (fn.name == "runtime.NumGoroutine") = false)
    (hcl : TrO Try.prog f args [] (blk D 96 [.bool true, v, .int .i64 (a : Int), .int .i64 0, .int .i64 p] :: q) (TO J (fun _ => .tuple #[]) (fun x => blk D 96 [.bool true, v, .int .i64 (nx x : Int), .int .i64 0, .int .i64 p] :: q1 x) J' (fun y => wrongC (e y) (pp y)) (fun y => blk D 96 [.bool true, v, .int .i64 (at' y : Int), .int .i64 0, .int .i64 p] :: q2 y))) :
    Tr Try.prog 65 #[.pointer (some ⟨D, 0, none⟩), (.func (.func f) #[] caps)] [] (blk D 96 [.bool true, v, .int .i64 (a : Int), .int .i64 0, .int .i64 p] :: q)
    (fun u m => u = .tuple #[] ∧ ((∃ x, J x ∧ m = blk D 96 [.bool true, v, .int .i64 (nx x : Int), .int .i64 0, .int .i64 p] :: q1 x) ∨ ∃ y, J' y ∧ m = blk D 96 [.bool true, v, .int .i64 (a : Int), .int .i64 (e y), .int .i64 (pp y)] :: q2 y)) := by
  subst hargs
  refine Tr.ofD (l := [(0, .pointer (some ⟨D, 0, none⟩)), (1, (.func (.func f) #[] caps))]) Try.func65 rfl (n := 14) rfl (.cons rfl (.cons rfl .nil)) (fun w0 hro => ?_)
  refine G.seq ?_
  refine G.region ?_
  refine G.op rfl (G.box rfl rfl (cs := [_]) rfl ?_)
  intro b2
  obtain ⟨bR, hbR⟩ : ∃ bR, bR = b2 := ⟨_, rfl⟩
  subst hbR
  refine G.nil ?_
  refine G.nThen ?_
  refine G.seq ?_
  refine G.seq ?_
  refine G.region ?_
  refine G.op rfl (G.val rfl rfl (pv_load Try.underlying75 rfl rfl (blk_cell (v := .pointer (some ⟨D, 0, none⟩)) (by repeat (first | with_reducible exact Sel.here | exact Sel.here | apply Sel.there)) rfl)) ?_)
  refine G.op rfl (G.call0 rfl rfl rfl rfl Try.func76 rfl rfl (none_tr D v true (a : Int) 0 p) (may1 (.own (by simp))) ?_)
  refine G.nil ?_
  refine G.nThen ?_
  refine G.condF rfl (rfl) ?_
  refine G.skip ?_
  refine G.nThen ?_
  refine G.seq ?_
  refine G.region ?_
  refine G.op rfl (G.val rfl rfl (pv_load Try.underlying75 rfl rfl (blk_cell (v := .pointer (some ⟨D, 0, none⟩)) (by repeat (first | with_reducible exact Sel.here | exact Sel.here | apply Sel.there)) rfl)) ?_)
  refine G.op rfl (G.val rfl rfl (pv_nilCheck rfl) ?_)
  refine G.op rfl (G.val rfl rfl (pv_fieldAddr (sz := 0) Try.underlying96 rfl (by kernel_rfl) rfl) ?_)
  refine G.op rfl (G.val rfl rfl (pv_load Try.underlying3 rfl rfl (blk_cell (v := .int .i64 (a : Int)) (by repeat (first | with_reducible exact Sel.here | exact Sel.here | apply Sel.there)) rfl)) ?_)
  refine G.op rfl (G.alloc (z := .int .i64 0) (cs := [.int .i64 0]) rfl (by kernel_rfl) rfl ?_)
  intro b4
  refine G.op rfl (G.store (by kernel_rfl) rfl rfl rfl (by repeat (first | with_reducible exact Sel.here | exact Sel.here | apply Sel.there)) (by first | (simp; done) | exact Nat.le_of_ble_eq_true rfl) ?_)
  refine G.nil ?_
  refine G.nThen ?_
  refine G.seq ?_
  refine G.region ?_
  refine G.op rfl (G.val rfl rfl (pv_makeFunc rfl rfl) ?_)
  refine G.op rfl (G.defer rfl rfl rfl ?_)
  refine GD.nil (GD.nThen ?_)
  refine GD.region ?_
  refine GD.op rfl (GD.val rfl rfl (pv_move rfl) ?_)
  refine GD.op rfl (GD.callO rfl rfl (pe_val rfl rfl rfl hf hb hnm) hcl (.cons (.there (.there .here)) (Sub.right [_, _] q)) may0 ?_ ?_ (fun m' h => h))
  · rintro u m' ⟨x, hJ, hu, hm⟩
    subst hu
    subst hm
    refine GD.nil ?_
    exact GD.leave (e := .normal) (fun a w => rfl) (by simp) (run_invokeF Try.func77 rfl rfl) (try1_ret D b4 bR a 0 v p 0 0) .nil rfl rfl (fun w hw => ⟨_, _, rfl, ⟨rfl, .inl ⟨x, hJ, rfl⟩⟩, hw.sub (List.sublist_append_left _ _)⟩)
  · rintro ch m' ⟨y, hJ, hc, hm⟩
    subst hc
    subst hm
    exact GD.leave (e := .panic _) (fun a w => rfl) (by simp) (run_invokeF Try.func77 rfl rfl) (try1_pan D b4 bR a (at' y) v p (e y) (pp y)) (.cons .here (Sub.right (q2 y) _)) rfl rfl (fun w hw => ⟨_, _, rfl, ⟨rfl, .inr ⟨y, hJ, rfl⟩⟩, hw.sub (List.Sublist.cons_cons _ (List.Sublist.cons _ (List.Sublist.cons _ (List.Sublist.refl _))))⟩)
end Go.Proofs.Ytakcffhknnailaa
