/- Contracts of layer 1's reader, all that is exported. Conditions: the reader's bytes are not more than a thousand million. -/
import Derived.Test.YtakcffhknnailaaFT
set_option linter.unusedVariables false
set_option linter.unusedSimpArgs false
namespace Go.Proofs.Ytakcffhknnailaa
open Go.RowKit

def numN : Rn → Nat
  | .ok n _ => n
  | .bad _ _ => 0
def nextN (a : Nat) : Rn → Nat
  | .ok _ nx => nx
  | .bad _ _ => a
def errN : Rn → Nat
  | .ok _ _ => 0
  | .bad e _ => e
def posN (p : Int) : Rn → Int
  | .ok _ _ => p
  | .bad _ q => q
/-- bytes: where they end -/
def endB (a : Nat) : Rn → Nat
  | .ok n nx => nx + n
  | .bad _ _ => a
/-- .. what they are -/
def outB (b : List UInt8) : Rn → List UInt8
  | .ok n nx => subB b nx n
  | .bad _ _ => []
def idR (b : List UInt8) (a : Nat) : Rn := if b.length < a + 16 then .bad 4 b.length else .ok 16 a
def outI (b : List UInt8) (a : Nat) : List UInt8 := if b.length < a + 16 then List.replicate 16 0 else subB b a 16
/-- what there is to read: nothing -/
def Off (pv : Value) (ro : List Ck) : Prop := ∀ cl : Value, Tr Try.prog 65 #[pv, cl] ro [] (T0 (.tuple #[]))
set_option maxRecDepth 20000 in

theorem off_none : Off (.pointer none) [] := by
  intro cl
  refine Tr.ofD (l := [(0, .pointer none), (1, cl)]) Try.func65 rfl (n := 14) rfl (.cons rfl (.cons rfl .nil)) (fun w0 hro => ?_)
  refine G.seq ?_
  refine G.region ?_
  refine G.op rfl (G.box rfl rfl (cs := [_]) rfl ?_)
  intro b2
  refine G.nil ?_
  refine G.nThen ?_
  refine G.seq ?_
  refine G.seq ?_
  refine G.region ?_
  refine G.op rfl (G.val rfl rfl (pv_load Try.underlying75 rfl rfl (blk_cell (v := .pointer none) (by repeat (first | with_reducible exact Sel.here | exact Sel.here | apply Sel.there)) rfl)) ?_)
  refine G.op rfl (G.call0 rfl rfl rfl rfl Try.func76 rfl rfl (none0_tr) may0 ?_)
  refine G.nil ?_
  refine G.nThen ?_
  refine G.condT rfl (rfl) ?_
  refine G.ret ?_
  refine G.rThen ?_
  exact G.noDefers rfl (fun w hw => ⟨_, [], rfl, ⟨rfl, rfl⟩, hw.sub (List.nil_sublist _)⟩)
set_option maxRecDepth 20000 in

theorem off_rd (D : Nat) (v : Value) (made : Bool) (a e p : Int) (h : made = false ∨ e ≠ 0) : Off (.pointer (some ⟨D, 0, none⟩)) [blk D 96 [.bool made, v, .int .i64 (a : Int), .int .i64 e, .int .i64 p]] := by
  intro cl
  refine Tr.ofD (l := [(0, .pointer (some ⟨D, 0, none⟩)), (1, cl)]) Try.func65 rfl (n := 14) rfl (.cons rfl (.cons rfl .nil)) (fun w0 hro => ?_)
  refine G.seq ?_
  refine G.region ?_
  refine G.op rfl (G.box rfl rfl (cs := [_]) rfl ?_)
  intro b2
  refine G.nil ?_
  refine G.nThen ?_
  refine G.seq ?_
  refine G.seq ?_
  refine G.region ?_
  refine G.op rfl (G.val rfl rfl (pv_load Try.underlying75 rfl rfl (blk_cell (v := .pointer (some ⟨D, 0, none⟩)) (by repeat (first | with_reducible exact Sel.here | exact Sel.here | apply Sel.there)) rfl)) ?_)
  refine G.op rfl (G.call0 rfl rfl rfl rfl Try.func76 rfl rfl (none_tr D v made a e p) (may1 (.old (ro1 hro))) ?_)
  refine G.nil ?_
  refine G.nThen ?_
  refine G.condT rfl (by rcases h with rfl | h <;> simp [*]) ?_
  refine G.ret ?_
  refine G.rThen ?_
  exact G.noDefers rfl (fun w hw => ⟨_, [], rfl, ⟨rfl, rfl⟩, hw.sub (List.nil_sublist _)⟩)
set_option maxRecDepth 20000 in

theorem int_off {pv : Value} {ro : List Ck} (hoff : Off pv ro) (hpv : pv.oneCell' = true) (low high : Int) : Tr Try.prog 48 #[pv, .int .i64 low, .int .i64 high] ro [] (T0 (.int .i64 0)) := by
  refine Tr.of (l := [(0, pv), (1, .int .i64 low), (2, .int .i64 high)]) Try.func48 rfl (n := 11) rfl (.cons rfl (.cons rfl (.cons rfl .nil))) (fun w0 hro => ?_)
  refine G.seq ?_
  refine G.region ?_
  refine G.op rfl (G.box rfl rfl (cs := [pv]) (by cases pv <;> first | rfl | cases hpv) ?_)
  intro b3
  refine G.op rfl (G.box rfl rfl (cs := [_]) rfl ?_)
  intro b4
  refine G.op rfl (G.box rfl rfl (cs := [_]) rfl ?_)
  intro b5
  refine G.op rfl (G.alloc (z := .int .i64 0) (cs := [.int .i64 0]) rfl (by kernel_rfl) rfl ?_)
  intro b6
  refine G.nil ?_
  refine G.nThen ?_
  refine G.seq ?_
  refine G.region ?_
  refine G.op rfl (G.val rfl rfl (pv_load Try.underlying75 rfl rfl (blk_cell (v := pv) (by repeat (first | with_reducible exact Sel.here | exact Sel.here | apply Sel.there)) rfl)) ?_)
  refine G.op rfl (G.val rfl rfl (pv_makeFunc rfl rfl) ?_)
  refine G.op rfl (G.call0 rfl rfl rfl rfl Try.func65 rfl rfl (hoff _) (fun c hc => .old (hro c hc)) ?_)
  refine G.nil ?_
  refine G.nThen ?_
  refine G.seq ?_
  refine G.region ?_
  refine G.op rfl (G.val rfl rfl (pv_load Try.underlying3 rfl rfl (blk_cell (v := .int .i64 0) (by repeat (first | with_reducible exact Sel.here | exact Sel.here | apply Sel.there)) rfl)) ?_)
  refine G.op rfl (G.store (by kernel_rfl) rfl rfl rfl (by repeat (first | with_reducible exact Sel.here | exact Sel.here | apply Sel.there)) (by first | (simp; done) | exact Nat.le_of_ble_eq_true rfl) ?_)
  refine G.nil ?_
  refine G.nThen ?_
  refine G.ret ?_
  exact G.doneC (v := .int .i64 0) rfl rfl Try.underlying3 rfl (blk_cell (by repeat (first | with_reducible exact Sel.here | exact Sel.here | apply Sel.there)) rfl) .nil ⟨rfl, rfl⟩
set_option maxRecDepth 20000 in

theorem count_off {pv : Value} {ro : List Ck} (hoff : Off pv ro) (hpv : pv.oneCell' = true) (high : Int) : Tr Try.prog 68 #[pv, .int .i64 high] ro [] (T0 (.int .i64 0)) := by
  refine Tr.of (l := [(0, pv), (1, .int .i64 high)]) Try.func68 rfl (n := 9) rfl (.cons rfl (.cons rfl .nil)) (fun w0 hro => ?_)
  refine G.seq ?_
  refine G.region ?_
  refine G.op rfl (G.box rfl rfl (cs := [pv]) (by cases pv <;> first | rfl | cases hpv) ?_)
  intro b2
  refine G.op rfl (G.box rfl rfl (cs := [_]) rfl ?_)
  intro b3
  refine G.op rfl (G.alloc (z := .int .i64 0) (cs := [.int .i64 0]) rfl (by kernel_rfl) rfl ?_)
  intro b4
  refine G.nil ?_
  refine G.nThen ?_
  refine G.seq ?_
  refine G.region ?_
  refine G.op rfl (G.val rfl rfl (pv_load Try.underlying75 rfl rfl (blk_cell (v := pv) (by repeat (first | with_reducible exact Sel.here | exact Sel.here | apply Sel.there)) rfl)) ?_)
  refine G.op rfl (G.val rfl rfl (pv_makeFunc rfl rfl) ?_)
  refine G.op rfl (G.call0 rfl rfl rfl rfl Try.func65 rfl rfl (hoff _) (fun c hc => .old (hro c hc)) ?_)
  refine G.nil ?_
  refine G.nThen ?_
  refine G.seq ?_
  refine G.region ?_
  refine G.op rfl (G.val rfl rfl (pv_load Try.underlying3 rfl rfl (blk_cell (v := .int .i64 0) (by repeat (first | with_reducible exact Sel.here | exact Sel.here | apply Sel.there)) rfl)) ?_)
  refine G.op rfl (G.store (by kernel_rfl) rfl rfl rfl (by repeat (first | with_reducible exact Sel.here | exact Sel.here | apply Sel.there)) (by first | (simp; done) | exact Nat.le_of_ble_eq_true rfl) ?_)
  refine G.nil ?_
  refine G.nThen ?_
  refine G.ret ?_
  exact G.doneC (v := .int .i64 0) rfl rfl Try.underlying3 rfl (blk_cell (by repeat (first | with_reducible exact Sel.here | exact Sel.here | apply Sel.there)) rfl) .nil ⟨rfl, rfl⟩
set_option maxRecDepth 20000 in

theorem bytes_off {pv : Value} {ro : List Ck} (hoff : Off pv ro) (hpv : pv.oneCell' = true) (high : Int) : Tr Try.prog 53 #[pv, .int .i64 high] ro [] (T0 (.slice none 0 0)) := by
  refine Tr.of (l := [(0, pv), (1, .int .i64 high)]) Try.func53 rfl (n := 9) rfl (.cons rfl (.cons rfl .nil)) (fun w0 hro => ?_)
  refine G.seq ?_
  refine G.region ?_
  refine G.op rfl (G.box rfl rfl (cs := [pv]) (by cases pv <;> first | rfl | cases hpv) ?_)
  intro b2
  refine G.op rfl (G.box rfl rfl (cs := [_]) rfl ?_)
  intro b3
  refine G.op rfl (G.alloc (z := .slice none 0 0) (cs := [.slice none 0 0]) rfl (by kernel_rfl) rfl ?_)
  intro b4
  refine G.nil ?_
  refine G.nThen ?_
  refine G.seq ?_
  refine G.region ?_
  refine G.op rfl (G.val rfl rfl (pv_load Try.underlying75 rfl rfl (blk_cell (v := pv) (by repeat (first | with_reducible exact Sel.here | exact Sel.here | apply Sel.there)) rfl)) ?_)
  refine G.op rfl (G.val rfl rfl (pv_makeFunc rfl rfl) ?_)
  refine G.op rfl (G.call0 rfl rfl rfl rfl Try.func65 rfl rfl (hoff _) (fun c hc => .old (hro c hc)) ?_)
  refine G.nil ?_
  refine G.nThen ?_
  refine G.seq ?_
  refine G.region ?_
  refine G.op rfl (G.val rfl rfl (pv_load Try.underlying24 rfl rfl (blk_cell (v := .slice none 0 0) (by repeat (first | with_reducible exact Sel.here | exact Sel.here | apply Sel.there)) rfl)) ?_)
  refine G.op rfl (G.store (by kernel_rfl) rfl rfl rfl (by repeat (first | with_reducible exact Sel.here | exact Sel.here | apply Sel.there)) (by first | (simp; done) | exact Nat.le_of_ble_eq_true rfl) ?_)
  refine G.nil ?_
  refine G.nThen ?_
  refine G.ret ?_
  exact G.doneC (v := .slice none 0 0) rfl rfl Try.underlying24 rfl (blk_cell (by repeat (first | with_reducible exact Sel.here | exact Sel.here | apply Sel.there)) rfl) .nil ⟨rfl, rfl⟩
set_option maxRecDepth 20000 in

theorem id_off {pv : Value} {ro : List Ck} (hoff : Off pv ro) (hpv : pv.oneCell' = true) : Tr Try.prog 51 #[pv] ro [] (T0 (.agg (List.replicate 16 (.int .u8 0)).toArray)) := by
  refine Tr.of (l := [(0, pv)]) Try.func51 rfl (n := 7) rfl (.cons rfl .nil) (fun w0 hro => ?_)
  refine G.seq ?_
  refine G.region ?_
  refine G.op rfl (G.box rfl rfl (cs := [pv]) (by cases pv <;> first | rfl | cases hpv) ?_)
  intro b1
  refine G.op rfl (G.alloc (z := .agg #[.int .u8 0, .int .u8 0, .int .u8 0, .int .u8 0, .int .u8 0, .int .u8 0, .int .u8 0, .int .u8 0, .int .u8 0, .int .u8 0, .int .u8 0, .int .u8 0, .int .u8 0, .int .u8 0, .int .u8 0, .int .u8 0]) (cs := [.int .u8 0, .int .u8 0, .int .u8 0, .int .u8 0, .int .u8 0, .int .u8 0, .int .u8 0, .int .u8 0, .int .u8 0, .int .u8 0, .int .u8 0, .int .u8 0, .int .u8 0, .int .u8 0, .int .u8 0, .int .u8 0]) rfl (by kernel_rfl) rfl ?_)
  intro b2
  refine G.nil ?_
  refine G.nThen ?_
  refine G.seq ?_
  refine G.region ?_
  refine G.op rfl (G.val rfl rfl (pv_load Try.underlying75 rfl rfl (blk_cell (v := pv) (by repeat (first | with_reducible exact Sel.here | exact Sel.here | apply Sel.there)) rfl)) ?_)
  refine G.op rfl (G.val rfl rfl (pv_makeFunc rfl rfl) ?_)
  refine G.op rfl (G.call0 rfl rfl rfl rfl Try.func65 rfl rfl (hoff _) (fun c hc => .old (hro c hc)) ?_)
  refine G.nil ?_
  refine G.nThen ?_
  refine G.seq ?_
  refine G.region ?_
  refine G.op rfl (G.val rfl rfl (pv_loadN (cs := List.replicate 16 (.int .u8 0)) Try.underlying49 rfl (by kernel_rfl) rfl (blk_range (k := 16) (by repeat (first | with_reducible exact Sel.here | exact Sel.here | apply Sel.there)) rfl)) ?_)
  refine G.op rfl (G.storeN (by kernel_rfl) rfl rfl rfl (by repeat (first | with_reducible exact Sel.here | exact Sel.here | apply Sel.there)) (by first | (simp; done) | exact Nat.le_of_ble_eq_true rfl) ?_)
  refine G.nil ?_
  refine G.nThen ?_
  refine G.ret ?_
  exact G.doneCN (cs := List.replicate 16 (.int .u8 0)) rfl rfl Try.underlying49 rfl (by kernel_rfl) (blk_range (k := 16) (by repeat (first | with_reducible exact Sel.here | exact Sel.here | apply Sel.there)) rfl) .nil ⟨rfl, rfl⟩
theorem int_try (D a bR bL bH bN : Nat) (v : Value) (b : List UInt8) (p low high : Int) (ha : a ≤ b.length) (hb : b.length ≤ 1000000000) : Tr Try.prog 65 #[.pointer (some ⟨D, 0, none⟩), .func (.func 66) #[] #[.pointer (some ⟨bR, 0, none⟩), .pointer (some ⟨bL, 0, none⟩), .pointer (some ⟨bH, 0, none⟩), .pointer (some ⟨bN, 0, none⟩)]] [] [blk D 96 [.bool true, v, .int .i64 (a : Int), .int .i64 0, .int .i64 p], own 5 1 v b.length (b.map vByte), blk bR 75 [.pointer (some ⟨D, 0, none⟩)], blk bL 3 [.int .i64 low], blk bH 3 [.int .i64 high], blk bN 3 [.int .i64 0]]
    (TX (fun _ : Unit => True) (fun _ => .tuple #[]) (fun _ => [blk D 96 [.bool true, v, .int .i64 ((nextN a (bndM b a low high 5) : Nat) : Int), .int .i64 (errN (bndM b a low high 5) : Int), .int .i64 (posN p (bndM b a low high 5))], own 5 1 v b.length (b.map vByte), blk bR 75 [.pointer (some ⟨D, 0, none⟩)], blk bL 3 [.int .i64 low], blk bH 3 [.int .i64 high], blk bN 3 [.int .i64 (numN (bndM b a low high 5) : Int)]])) :=
  (try_tr D a _ v p (by simp) Try.func66 rfl rfl (int1_tr D a bR bL bH bN v b p low high ha hb)).imp fun u m ⟨hu, hm⟩ => by
    rcases hm with ⟨x, hJ, rfl⟩ | ⟨y, hJ, rfl⟩ <;> exact ⟨(), trivial, hu, by rw [hJ]; rfl⟩
theorem count_try (D a bR bH bN : Nat) (v : Value) (b : List UInt8) (p high : Int) (ha : a ≤ b.length) (hb : b.length ≤ 1000000000) : Tr Try.prog 65 #[.pointer (some ⟨D, 0, none⟩), .func (.func 80) #[] #[.pointer (some ⟨bR, 0, none⟩), .pointer (some ⟨bH, 0, none⟩), .pointer (some ⟨bN, 0, none⟩)]] [] [blk D 96 [.bool true, v, .int .i64 (a : Int), .int .i64 0, .int .i64 p], own 5 1 v b.length (b.map vByte), blk bR 75 [.pointer (some ⟨D, 0, none⟩)], blk bH 3 [.int .i64 high], blk bN 3 [.int .i64 0]]
    (TX (fun _ : Unit => True) (fun _ => .tuple #[]) (fun _ => [blk D 96 [.bool true, v, .int .i64 ((nextN a (bndM b a 0 high 3) : Nat) : Int), .int .i64 (errN (bndM b a 0 high 3) : Int), .int .i64 (posN p (bndM b a 0 high 3))], own 5 1 v b.length (b.map vByte), blk bR 75 [.pointer (some ⟨D, 0, none⟩)], blk bH 3 [.int .i64 high], blk bN 3 [.int .i64 (numN (bndM b a 0 high 3) : Int)]])) :=
  (try_tr D a _ v p (by simp) Try.func80 rfl rfl (count1_tr D a bR bH bN v b p high ha hb)).imp fun u m ⟨hu, hm⟩ => by
    rcases hm with ⟨x, hJ, rfl⟩ | ⟨y, hJ, rfl⟩ <;> exact ⟨(), trivial, hu, by rw [hJ]; rfl⟩
theorem bytes_try (D a bR bH bN : Nat) (v : Value) (b : List UInt8) (p high : Int) (ha : a ≤ b.length) (hb : b.length ≤ 1000000000) : Tr Try.prog 65 #[.pointer (some ⟨D, 0, none⟩), .func (.func 71) #[] #[.pointer (some ⟨bR, 0, none⟩), .pointer (some ⟨bH, 0, none⟩), .pointer (some ⟨bN, 0, none⟩)]] [] [blk D 96 [.bool true, v, .int .i64 (a : Int), .int .i64 0, .int .i64 p], own 5 1 v b.length (b.map vByte), blk bR 75 [.pointer (some ⟨D, 0, none⟩)], blk bH 3 [.int .i64 high], blk bN 24 [.slice none 0 0]]
    (TX (fun _ : Value => True) (fun _ => .tuple #[]) (fun x => [blk D 96 [.bool true, v, .int .i64 ((endB a (bytR b a high) : Nat) : Int), .int .i64 (errN (bytR b a high) : Int), .int .i64 (posN p (bytR b a high))], own 5 1 v b.length (b.map vByte), blk bR 75 [.pointer (some ⟨D, 0, none⟩)], blk bH 3 [.int .i64 high], blk bN 24 [x], own 5 1 x (outB b (bytR b a high)).length ((outB b (bytR b a high)).map vByte)])) :=
  (try_tr D a _ v p (by simp) Try.func71 rfl rfl (bytes1_tr D a bR bH bN v b p high ha hb)).impH fun u m ⟨hu, hm⟩ => by
    rcases hm with ⟨⟨n, nx, v'⟩, hJ, rfl⟩ | ⟨⟨e, q, aa⟩, hJ, rfl⟩
    · exact ⟨_, ⟨v', trivial, hu, rfl⟩, fun w0 S w hw => by
        have hJ' : bytR b a high = .ok n nx := hJ
        rw [hJ']
        exact hw⟩
    · exact ⟨_, ⟨.slice none 0 0, trivial, hu, rfl⟩, fun w0 S w hw => by
        have hJ' : bytR b a high = .bad e q := hJ
        rw [hJ']
        exact (hp_ownNil 5 1 hw).perm (List.perm_append_comm (l₁ := [own 5 1 (.slice none 0 0) 0 []]))⟩
theorem id_try (D a bR bI : Nat) (v : Value) (b : List UInt8) (p : Int) (ha : a ≤ b.length) (hb : b.length ≤ 1000000000) : Tr Try.prog 65 #[.pointer (some ⟨D, 0, none⟩), .func (.func 69) #[] #[.pointer (some ⟨bI, 0, none⟩), .pointer (some ⟨bR, 0, none⟩)]] [] [blk D 96 [.bool true, v, .int .i64 (a : Int), .int .i64 0, .int .i64 p], own 5 1 v b.length (b.map vByte), blk bR 75 [.pointer (some ⟨D, 0, none⟩)], blk bI 49 (List.replicate 16 (.int .u8 0))]
    (TX (fun _ : Unit => True) (fun _ => .tuple #[]) (fun _ => [blk D 96 [.bool true, v, .int .i64 ((endB a (idR b a) : Nat) : Int), .int .i64 (errN (idR b a) : Int), .int .i64 (posN p (idR b a))], own 5 1 v b.length (b.map vByte), blk bR 75 [.pointer (some ⟨D, 0, none⟩)], blk bI 49 ((outI b a).map vByte)])) :=
  (try_tr D a _ v p (by simp) Try.func69 rfl rfl (id1_tr D a bR bI v b p ha hb)).imp fun u m ⟨hu, hm⟩ => by
    rcases hm with ⟨x, hJ, rfl⟩ | ⟨y, hJ, rfl⟩
    · have hJ' : a + 16 ≤ b.length := hJ
      exact ⟨(), trivial, hu, by unfold idR outI; rw [if_neg (by omega), if_neg (by omega)]; rfl⟩
    · have hJ' : b.length < a + 16 := hJ
      exact ⟨(), trivial, hu, by unfold idR outI; rw [if_pos hJ', if_pos hJ']; rfl⟩
set_option maxRecDepth 20000 in

theorem int_tr (D a : Nat) (v : Value) (b : List UInt8) (p low high : Int) (ha : a ≤ b.length) (hb : b.length ≤ 1000000000) : Tr Try.prog 48 #[.pointer (some ⟨D, 0, none⟩), .int .i64 low, .int .i64 high] [] [blk D 96 [.bool true, v, .int .i64 (a : Int), .int .i64 0, .int .i64 p], own 5 1 v b.length (b.map vByte)]
    (TX (fun _ : Unit => True) (fun _ => .int .i64 (numN (bndM b a low high 5) : Int)) (fun _ => [blk D 96 [.bool true, v, .int .i64 ((nextN a (bndM b a low high 5) : Nat) : Int), .int .i64 (errN (bndM b a low high 5) : Int), .int .i64 (posN p (bndM b a low high 5))], own 5 1 v b.length (b.map vByte)])) := by
  refine Tr.of (l := [(0, .pointer (some ⟨D, 0, none⟩)), (1, .int .i64 low), (2, .int .i64 high)]) Try.func48 rfl (n := 11) rfl (.cons rfl (.cons rfl (.cons rfl .nil))) (fun w0 hro => ?_)
  refine G.seq ?_
  refine G.region ?_
  refine G.op rfl (G.box rfl rfl (cs := [_]) rfl ?_)
  intro b3
  refine G.op rfl (G.box rfl rfl (cs := [_]) rfl ?_)
  intro b4
  refine G.op rfl (G.box rfl rfl (cs := [_]) rfl ?_)
  intro b5
  refine G.op rfl (G.alloc (z := .int .i64 0) (cs := [.int .i64 0]) rfl (by kernel_rfl) rfl ?_)
  intro b6
  refine G.nil ?_
  refine G.nThen ?_
  refine G.seq ?_
  refine G.region ?_
  refine G.op rfl (G.val rfl rfl (pv_load Try.underlying75 rfl rfl (blk_cell (v := .pointer (some ⟨D, 0, none⟩)) (by repeat (first | with_reducible exact Sel.here | exact Sel.here | apply Sel.there)) rfl)) ?_)
  refine G.op rfl (G.val rfl rfl (pv_makeFunc rfl rfl) ?_)
  refine G.op rfl (G.cN rfl rfl rfl rfl Try.func65 rfl rfl (int_try D a b3 b4 b5 b6 v b p low high ha hb) (.cons (by repeat (first | with_reducible exact Sel.here | exact Sel.here | apply Sel.there)) (.cons (by repeat (first | with_reducible exact Sel.here | exact Sel.here | apply Sel.there)) (.cons (by repeat (first | with_reducible exact Sel.here | exact Sel.here | apply Sel.there)) (.cons (by repeat (first | with_reducible exact Sel.here | exact Sel.here | apply Sel.there)) (.cons (by repeat (first | with_reducible exact Sel.here | exact Sel.here | apply Sel.there)) (.cons (by repeat (first | with_reducible exact Sel.here | exact Sel.here | apply Sel.there)) .nil)))))) may0 ?_)
  rintro ⟨⟩ -
  simp only [List.cons_append, List.nil_append]
  refine G.nil ?_
  refine G.nThen ?_
  refine G.seq ?_
  refine G.region ?_
  refine G.op rfl (G.val rfl rfl (pv_load Try.underlying3 rfl rfl (blk_cell (v := .int .i64 (numN (bndM b a low high 5) : Int)) (by repeat (first | with_reducible exact Sel.here | exact Sel.here | apply Sel.there)) rfl)) ?_)
  refine G.op rfl (G.store (by kernel_rfl) rfl rfl rfl (by repeat (first | with_reducible exact Sel.here | exact Sel.here | apply Sel.there)) (by first | (simp; done) | exact Nat.le_of_ble_eq_true rfl) ?_)
  refine G.nil ?_
  refine G.nThen ?_
  refine G.ret ?_
  exact G.doneC (v := .int .i64 (numN (bndM b a low high 5) : Int)) rfl rfl Try.underlying3 rfl (blk_cell (by repeat (first | with_reducible exact Sel.here | exact Sel.here | apply Sel.there)) rfl) (.cons (by repeat (first | with_reducible exact Sel.here | exact Sel.here | apply Sel.there)) (.cons (by repeat (first | with_reducible exact Sel.here | exact Sel.here | apply Sel.there)) .nil)) ⟨(), trivial, rfl, rfl⟩
set_option maxRecDepth 20000 in

theorem count_tr (D a : Nat) (v : Value) (b : List UInt8) (p high : Int) (ha : a ≤ b.length) (hb : b.length ≤ 1000000000) : Tr Try.prog 68 #[.pointer (some ⟨D, 0, none⟩), .int .i64 high] [] [blk D 96 [.bool true, v, .int .i64 (a : Int), .int .i64 0, .int .i64 p], own 5 1 v b.length (b.map vByte)]
    (TX (fun _ : Unit => True) (fun _ => .int .i64 (numN (bndM b a 0 high 3) : Int)) (fun _ => [blk D 96 [.bool true, v, .int .i64 ((nextN a (bndM b a 0 high 3) : Nat) : Int), .int .i64 (errN (bndM b a 0 high 3) : Int), .int .i64 (posN p (bndM b a 0 high 3))], own 5 1 v b.length (b.map vByte)])) := by
  refine Tr.of (l := [(0, .pointer (some ⟨D, 0, none⟩)), (1, .int .i64 high)]) Try.func68 rfl (n := 9) rfl (.cons rfl (.cons rfl .nil)) (fun w0 hro => ?_)
  refine G.seq ?_
  refine G.region ?_
  refine G.op rfl (G.box rfl rfl (cs := [_]) rfl ?_)
  intro b2
  refine G.op rfl (G.box rfl rfl (cs := [_]) rfl ?_)
  intro b3
  refine G.op rfl (G.alloc (z := .int .i64 0) (cs := [.int .i64 0]) rfl (by kernel_rfl) rfl ?_)
  intro b4
  refine G.nil ?_
  refine G.nThen ?_
  refine G.seq ?_
  refine G.region ?_
  refine G.op rfl (G.val rfl rfl (pv_load Try.underlying75 rfl rfl (blk_cell (v := .pointer (some ⟨D, 0, none⟩)) (by repeat (first | with_reducible exact Sel.here | exact Sel.here | apply Sel.there)) rfl)) ?_)
  refine G.op rfl (G.val rfl rfl (pv_makeFunc rfl rfl) ?_)
  refine G.op rfl (G.cN rfl rfl rfl rfl Try.func65 rfl rfl (count_try D a b2 b3 b4 v b p high ha hb) (.cons (by repeat (first | with_reducible exact Sel.here | exact Sel.here | apply Sel.there)) (.cons (by repeat (first | with_reducible exact Sel.here | exact Sel.here | apply Sel.there)) (.cons (by repeat (first | with_reducible exact Sel.here | exact Sel.here | apply Sel.there)) (.cons (by repeat (first | with_reducible exact Sel.here | exact Sel.here | apply Sel.there)) (.cons (by repeat (first | with_reducible exact Sel.here | exact Sel.here | apply Sel.there)) .nil))))) may0 ?_)
  rintro ⟨⟩ -
  simp only [List.cons_append, List.nil_append]
  refine G.nil ?_
  refine G.nThen ?_
  refine G.seq ?_
  refine G.region ?_
  refine G.op rfl (G.val rfl rfl (pv_load Try.underlying3 rfl rfl (blk_cell (v := .int .i64 (numN (bndM b a 0 high 3) : Int)) (by repeat (first | with_reducible exact Sel.here | exact Sel.here | apply Sel.there)) rfl)) ?_)
  refine G.op rfl (G.store (by kernel_rfl) rfl rfl rfl (by repeat (first | with_reducible exact Sel.here | exact Sel.here | apply Sel.there)) (by first | (simp; done) | exact Nat.le_of_ble_eq_true rfl) ?_)
  refine G.nil ?_
  refine G.nThen ?_
  refine G.ret ?_
  exact G.doneC (v := .int .i64 (numN (bndM b a 0 high 3) : Int)) rfl rfl Try.underlying3 rfl (blk_cell (by repeat (first | with_reducible exact Sel.here | exact Sel.here | apply Sel.there)) rfl) (.cons (by repeat (first | with_reducible exact Sel.here | exact Sel.here | apply Sel.there)) (.cons (by repeat (first | with_reducible exact Sel.here | exact Sel.here | apply Sel.there)) .nil)) ⟨(), trivial, rfl, rfl⟩
set_option maxRecDepth 20000 in

theorem bytes_tr (D a : Nat) (v : Value) (b : List UInt8) (p high : Int) (ha : a ≤ b.length) (hb : b.length ≤ 1000000000) : Tr Try.prog 53 #[.pointer (some ⟨D, 0, none⟩), .int .i64 high] [] [blk D 96 [.bool true, v, .int .i64 (a : Int), .int .i64 0, .int .i64 p], own 5 1 v b.length (b.map vByte)]
    (TX (fun _ : Value => True) (fun x => x) (fun x => [blk D 96 [.bool true, v, .int .i64 ((endB a (bytR b a high) : Nat) : Int), .int .i64 (errN (bytR b a high) : Int), .int .i64 (posN p (bytR b a high))], own 5 1 v b.length (b.map vByte), own 5 1 x (outB b (bytR b a high)).length ((outB b (bytR b a high)).map vByte)])) := by
  refine Tr.of (l := [(0, .pointer (some ⟨D, 0, none⟩)), (1, .int .i64 high)]) Try.func53 rfl (n := 9) rfl (.cons rfl (.cons rfl .nil)) (fun w0 hro => ?_)
  refine G.seq ?_
  refine G.region ?_
  refine G.op rfl (G.box rfl rfl (cs := [_]) rfl ?_)
  intro b2
  refine G.op rfl (G.box rfl rfl (cs := [_]) rfl ?_)
  intro b3
  refine G.op rfl (G.alloc (z := .slice none 0 0) (cs := [.slice none 0 0]) rfl (by kernel_rfl) rfl ?_)
  intro b4
  refine G.nil ?_
  refine G.nThen ?_
  refine G.seq ?_
  refine G.region ?_
  refine G.op rfl (G.val rfl rfl (pv_load Try.underlying75 rfl rfl (blk_cell (v := .pointer (some ⟨D, 0, none⟩)) (by repeat (first | with_reducible exact Sel.here | exact Sel.here | apply Sel.there)) rfl)) ?_)
  refine G.op rfl (G.val rfl rfl (pv_makeFunc rfl rfl) ?_)
  refine G.op rfl (G.cN rfl rfl rfl rfl Try.func65 rfl rfl (bytes_try D a b2 b3 b4 v b p high ha hb) (.cons (by repeat (first | with_reducible exact Sel.here | exact Sel.here | apply Sel.there)) (.cons (by repeat (first | with_reducible exact Sel.here | exact Sel.here | apply Sel.there)) (.cons (by repeat (first | with_reducible exact Sel.here | exact Sel.here | apply Sel.there)) (.cons (by repeat (first | with_reducible exact Sel.here | exact Sel.here | apply Sel.there)) (.cons (by repeat (first | with_reducible exact Sel.here | exact Sel.here | apply Sel.there)) .nil))))) may0 ?_)
  rintro x -
  simp only [List.cons_append, List.nil_append]
  refine G.ownFact (v := x) (by repeat (first | with_reducible exact Sel.here | exact Sel.here | apply Sel.there)) (fun hv1 _ => ?_)
  refine G.nil ?_
  refine G.nThen ?_
  refine G.seq ?_
  refine G.region ?_
  refine G.op rfl (G.val rfl rfl (pv_load Try.underlying24 rfl rfl (blk_cell (v := x) (by repeat (first | with_reducible exact Sel.here | exact Sel.here | apply Sel.there)) rfl)) ?_)
  refine G.op rfl (G.store (by kernel_rfl) rfl rfl hv1 (by repeat (first | with_reducible exact Sel.here | exact Sel.here | apply Sel.there)) (by simp) ?_)
  refine G.nil ?_
  refine G.nThen ?_
  refine G.ret ?_
  exact G.doneC (v := x) rfl rfl Try.underlying24 rfl (blk_cell (by repeat (first | with_reducible exact Sel.here | exact Sel.here | apply Sel.there)) rfl) (.cons (by repeat (first | with_reducible exact Sel.here | exact Sel.here | apply Sel.there)) (.cons (by repeat (first | with_reducible exact Sel.here | exact Sel.here | apply Sel.there)) (.cons (by repeat (first | with_reducible exact Sel.here | exact Sel.here | apply Sel.there)) .nil))) ⟨x, trivial, rfl, rfl⟩
set_option maxRecDepth 20000 in

theorem id_tr (D a : Nat) (v : Value) (b : List UInt8) (p : Int) (ha : a ≤ b.length) (hb : b.length ≤ 1000000000) : Tr Try.prog 51 #[.pointer (some ⟨D, 0, none⟩)] [] [blk D 96 [.bool true, v, .int .i64 (a : Int), .int .i64 0, .int .i64 p], own 5 1 v b.length (b.map vByte)]
    (TX (fun _ : Unit => True) (fun _ => vID (outI b a)) (fun _ => [blk D 96 [.bool true, v, .int .i64 ((endB a (idR b a) : Nat) : Int), .int .i64 (errN (idR b a) : Int), .int .i64 (posN p (idR b a))], own 5 1 v b.length (b.map vByte)])) := by
  refine Tr.of (l := [(0, .pointer (some ⟨D, 0, none⟩))]) Try.func51 rfl (n := 7) rfl (.cons rfl .nil) (fun w0 hro => ?_)
  have hol : (outI b a).length = 16 := by unfold outI; split; (first | rfl | simp); exact subB_length (by omega)
  refine G.seq ?_
  refine G.region ?_
  refine G.op rfl (G.box rfl rfl (cs := [_]) rfl ?_)
  intro b1
  refine G.op rfl (G.alloc (z := .agg #[.int .u8 0, .int .u8 0, .int .u8 0, .int .u8 0, .int .u8 0, .int .u8 0, .int .u8 0, .int .u8 0, .int .u8 0, .int .u8 0, .int .u8 0, .int .u8 0, .int .u8 0, .int .u8 0, .int .u8 0, .int .u8 0]) (cs := [.int .u8 0, .int .u8 0, .int .u8 0, .int .u8 0, .int .u8 0, .int .u8 0, .int .u8 0, .int .u8 0, .int .u8 0, .int .u8 0, .int .u8 0, .int .u8 0, .int .u8 0, .int .u8 0, .int .u8 0, .int .u8 0]) rfl (by kernel_rfl) rfl ?_)
  intro b2
  refine G.nil ?_
  refine G.nThen ?_
  refine G.seq ?_
  refine G.region ?_
  refine G.op rfl (G.val rfl rfl (pv_load Try.underlying75 rfl rfl (blk_cell (v := .pointer (some ⟨D, 0, none⟩)) (by repeat (first | with_reducible exact Sel.here | exact Sel.here | apply Sel.there)) rfl)) ?_)
  refine G.op rfl (G.val rfl rfl (pv_makeFunc rfl rfl) ?_)
  refine G.op rfl (G.cN rfl rfl rfl rfl Try.func65 rfl rfl (id_try D a b1 b2 v b p ha hb) (.cons (by repeat (first | with_reducible exact Sel.here | exact Sel.here | apply Sel.there)) (.cons (by repeat (first | with_reducible exact Sel.here | exact Sel.here | apply Sel.there)) (.cons (by repeat (first | with_reducible exact Sel.here | exact Sel.here | apply Sel.there)) (.cons (by repeat (first | with_reducible exact Sel.here | exact Sel.here | apply Sel.there)) .nil)))) may0 ?_)
  rintro ⟨⟩ -
  simp only [List.cons_append, List.nil_append]
  refine G.nil ?_
  refine G.nThen ?_
  refine G.seq ?_
  refine G.region ?_
  refine G.op rfl (G.val rfl rfl (pv_loadN (cs := (outI b a).map vByte) Try.underlying49 rfl (by rw [List.length_map, hol]; kernel_rfl) rfl (blk_range (k := 16) (by repeat (first | with_reducible exact Sel.here | exact Sel.here | apply Sel.there)) (List.take_of_length_le (by rw [List.drop_zero, List.length_map, hol]; exact Nat.le_refl _)))) ?_)
  refine G.op rfl (G.storeN (by rw [List.length_map, hol]; kernel_rfl) rfl rfl (List.all_eq_true.2 (vByte_one _)) (by repeat (first | with_reducible exact Sel.here | exact Sel.here | apply Sel.there)) (by simp) ?_)
  refine G.nil ?_
  refine G.nThen ?_
  refine G.ret ?_
  exact G.doneCN (cs := (outI b a).map vByte) rfl rfl Try.underlying49 rfl (by rw [List.length_map, hol]; kernel_rfl) (blk_range (k := 16) (by repeat (first | with_reducible exact Sel.here | exact Sel.here | apply Sel.there)) (by rw [show putN ((outI b a).map vByte) 0 ((outI b a).map vByte) = (outI b a).map vByte from putN_all _ _ [] rfl]; exact List.take_of_length_le (by rw [List.drop_zero, List.length_map, hol]; exact Nat.le_refl _))) (.cons (by repeat (first | with_reducible exact Sel.here | exact Sel.here | apply Sel.there)) (.cons (by repeat (first | with_reducible exact Sel.here | exact Sel.here | apply Sel.there)) .nil)) ⟨(), trivial, rfl, rfl⟩
end Go.Proofs.Ytakcffhknnailaa
