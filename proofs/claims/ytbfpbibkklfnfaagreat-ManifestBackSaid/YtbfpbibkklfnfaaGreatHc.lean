/- Merged of FU, FL, FV, FK, NA, VC, PA, Shelf, PB, PC, PE, PF, PG, PH, PI, PJ, PL, PQ, TreeA, TA, TB, VD, VE, TC, TD. Conditions: none. -/
import Derived.Test.YtbfpbibkklfnfaaGreatHb
import Derived.Laws.BitsLemmas
import Derived.Shelf.Strings.Search1
import Derived.Shelf.Strings.Search2
import Derived.Shelf.Strings.Cut
import Derived.Shelf.LaysM
import Derived.Shelf.Strings.Shaped
import Derived.Test.YtbfpbibkklfnfaaGreatProg
namespace Go.Proofs.YtbfpbibkklfnfaaGreat
open Go.RowKit
set_option linter.unusedVariables false
set_option linter.unusedSimpArgs false
def numN : Rn → Nat
 | .ok n _ => n
 | .bad _ _ => 0
def nextN (a : Nat) : Rn → Nat
 | .ok _ nx => nx
 | .bad _ _ => a
def errN : Rn → Nat
 | .ok _ _ => 0
 | .bad e _ => e
def posN (p : Int) : Rn → Int
 | .ok _ _ => p
 | .bad _ q => q
def endB (a : Nat) : Rn → Nat
 | .ok n nx => nx + n
 | .bad _ _ => a
def outB (b : List UInt8) : Rn → List UInt8
 | .ok n nx => subB b nx n
 | .bad _ _ => []
def idR (b : List UInt8) (a : Nat) : Rn := if b.length < a + 16 then .bad 4 b.length else .ok 16 a
def outI (b : List UInt8) (a : Nat) : List UInt8 := if b.length < a + 16 then List.replicate 16 0 else subB b a 16
def Off (pv : Value) (ro : List Ck) : Prop := ∀ cl : Value, Tr Tryz.prog 87 #[pv, cl] ro [] (T0 (.tuple #[]))
set_option maxRecDepth 20000 in
theorem off_rd (D : Nat) (v : Value) (made : Bool) (a e p : Int) (h : made = false ∨ e ≠ 0) : Off (.pointer (some ⟨D, 0, none⟩)) [blk D 127 [.bool made, v, .int .i64 (a : Int), .int .i64 e, .int .i64 p]] := by
 intro cl
 refine Tr.ofD (l := [(0, .pointer (some ⟨D, 0, none⟩)), (1, cl)]) Tryz.func87 rfl (n := 14) rfl (.cons rfl (.cons rfl .nil)) (fun w0 hro => ?_)
 refine go [9,10,60,4] ?_
 intro b2
 refine go [7,8,9,9,10] ?_
 refine G.op rfl (G.val rfl rfl (pv_load Tryz.underlying86 rfl rfl (blk_cell (v := .pointer (some ⟨D, 0, none⟩)) selT rfl)) ?_)
 refine G.op rfl (G.call0 rfl rfl rfl rfl Tryz.func124 rfl rfl (none_tr D v made a e p) (may1 (.old (ro1 hro))) ?_)
 refine go [7,8] ?_
 refine G.condT rfl (by rcases h with rfl | h <;> simp [*]) ?_
 refine go [11,12] ?_
 exact G.noDefers rfl (fun w hw => ⟨_, [], rfl, ⟨rfl, rfl⟩, hw.sub (List.nil_sublist _)⟩)
set_option maxRecDepth 20000 in
theorem int_off {pv : Value} {ro : List Ck} (hoff : Off pv ro) (hpv : pv.oneCell' = true) (low high : Int) : Tr Tryz.prog 52 #[pv, .int .i64 low, .int .i64 high] ro [] (T0 (.int .i64 0)) := by
 refine Tr.of (l := [(0, pv), (1, .int .i64 low), (2, .int .i64 high)]) Tryz.func52 rfl (n := 11) rfl (.cons rfl (.cons rfl (.cons rfl .nil))) (fun w0 hro => ?_)
 refine go [9,10] ?_
 refine G.op rfl (G.box rfl rfl (cs := [pv]) (by cases pv <;> first | rfl | cases hpv) ?_)
 intro b3
 refine go [60,4] ?_
 intro b4
 refine go [60,4] ?_
 intro b5
 refine go [60,13] ?_
 intro b6
 refine go [7,8,9,10] ?_
 refine G.op rfl (G.val rfl rfl (pv_load Tryz.underlying86 rfl rfl (blk_cell (v := pv) selT rfl)) ?_)
 refine go [2,26] ?_
 refine G.op rfl (G.call0 rfl rfl rfl rfl Tryz.func87 rfl rfl (hoff _) (fun c hc => .old (hro c hc)) ?_)
 refine go [7,8,9,10] ?_
 refine G.op rfl (G.val rfl rfl (pv_load Tryz.underlying3 rfl rfl (blk_cell (v := .int .i64 0) selT rfl)) ?_)
 refine go [21,7,8,11] ?_
 exact G.doneC (v := .int .i64 0) rfl rfl Tryz.underlying3 rfl (blk_cell selT rfl) .nil ⟨rfl, rfl⟩
set_option maxRecDepth 20000 in
theorem count_off {pv : Value} {ro : List Ck} (hoff : Off pv ro) (hpv : pv.oneCell' = true) (high : Int) : Tr Tryz.prog 53 #[pv, .int .i64 high] ro [] (T0 (.int .i64 0)) := by
 refine Tr.of (l := [(0, pv), (1, .int .i64 high)]) Tryz.func53 rfl (n := 9) rfl (.cons rfl (.cons rfl .nil)) (fun w0 hro => ?_)
 refine go [9,10] ?_
 refine G.op rfl (G.box rfl rfl (cs := [pv]) (by cases pv <;> first | rfl | cases hpv) ?_)
 intro b2
 refine go [60,4] ?_
 intro b3
 refine go [60,13] ?_
 intro b4
 refine go [7,8,9,10] ?_
 refine G.op rfl (G.val rfl rfl (pv_load Tryz.underlying86 rfl rfl (blk_cell (v := pv) selT rfl)) ?_)
 refine go [2,26] ?_
 refine G.op rfl (G.call0 rfl rfl rfl rfl Tryz.func87 rfl rfl (hoff _) (fun c hc => .old (hro c hc)) ?_)
 refine go [7,8,9,10] ?_
 refine G.op rfl (G.val rfl rfl (pv_load Tryz.underlying3 rfl rfl (blk_cell (v := .int .i64 0) selT rfl)) ?_)
 refine go [21,7,8,11] ?_
 exact G.doneC (v := .int .i64 0) rfl rfl Tryz.underlying3 rfl (blk_cell selT rfl) .nil ⟨rfl, rfl⟩
set_option maxRecDepth 20000 in
theorem bytes_off {pv : Value} {ro : List Ck} (hoff : Off pv ro) (hpv : pv.oneCell' = true) (high : Int) : Tr Tryz.prog 128 #[pv, .int .i64 high] ro [] (T0 (.slice none 0 0)) := by
 refine Tr.of (l := [(0, pv), (1, .int .i64 high)]) Tryz.func128 rfl (n := 9) rfl (.cons rfl (.cons rfl .nil)) (fun w0 hro => ?_)
 refine go [9,10] ?_
 refine G.op rfl (G.box rfl rfl (cs := [pv]) (by cases pv <;> first | rfl | cases hpv) ?_)
 intro b2
 refine go [60,4] ?_
 intro b3
 refine go [60,20] ?_
 intro b4
 refine go [7,8,9,10] ?_
 refine G.op rfl (G.val rfl rfl (pv_load Tryz.underlying86 rfl rfl (blk_cell (v := pv) selT rfl)) ?_)
 refine go [2,26] ?_
 refine G.op rfl (G.call0 rfl rfl rfl rfl Tryz.func87 rfl rfl (hoff _) (fun c hc => .old (hro c hc)) ?_)
 refine go [7,8,9,10] ?_
 refine G.op rfl (G.val rfl rfl (pv_load Tryz.underlying39 rfl rfl (blk_cell (v := .slice none 0 0) selT rfl)) ?_)
 refine go [21,7,8,11] ?_
 exact G.doneC (v := .slice none 0 0) rfl rfl Tryz.underlying39 rfl (blk_cell selT rfl) .nil ⟨rfl, rfl⟩
set_option maxRecDepth 20000 in
theorem id_off {pv : Value} {ro : List Ck} (hoff : Off pv ro) (hpv : pv.oneCell' = true) : Tr Tryz.prog 92 #[pv] ro [] (T0 (.agg (List.replicate 16 (.int .u8 0)).toArray)) := by
 refine Tr.of (l := [(0, pv)]) Tryz.func92 rfl (n := 7) rfl (.cons rfl .nil) (fun w0 hro => ?_)
 refine go [9,10] ?_
 refine G.op rfl (G.box rfl rfl (cs := [pv]) (by cases pv <;> first | rfl | cases hpv) ?_)
 intro b1
 refine go [60,11] ?_
 intro b2
 refine go [7,8,9,10] ?_
 refine G.op rfl (G.val rfl rfl (pv_load Tryz.underlying86 rfl rfl (blk_cell (v := pv) selT rfl)) ?_)
 refine go [2,26] ?_
 refine G.op rfl (G.call0 rfl rfl rfl rfl Tryz.func87 rfl rfl (hoff _) (fun c hc => .old (hro c hc)) ?_)
 refine go [7,8,9,10] ?_
 refine G.op rfl (G.val rfl rfl (pv_loadN (cs := List.replicate 16 (.int .u8 0)) Tryz.underlying66 rfl kr rfl (blk_range (k := 16) selT rfl)) ?_)
 refine G.op rfl (G.storeN kr rfl rfl (by first | exact List.all_eq_true.2 (vByte_one _) | rfl) selT leT ?_)
 refine go [7,8,11] ?_
 exact G.doneCN (cs := List.replicate 16 (.int .u8 0)) rfl rfl Tryz.underlying66 rfl kr (blk_range (k := 16) selT rfl) .nil ⟨rfl, rfl⟩
theorem int_try (D a bR bL bH bN : Nat) (v : Value) (b : List UInt8) (p low high : Int) (ha : a ≤ b.length) (hb : b.length ≤ 1000000000) : Tr Tryz.prog 87 #[.pointer (some ⟨D, 0, none⟩), .func (.func 88) #[] #[.pointer (some ⟨bR, 0, none⟩), .pointer (some ⟨bL, 0, none⟩), .pointer (some ⟨bH, 0, none⟩), .pointer (some ⟨bN, 0, none⟩)]] [] [blk D 127 [.bool true, v, .int .i64 (a : Int), .int .i64 0, .int .i64 p], own 5 1 v b.length (b.map vByte), blk bR 86 [.pointer (some ⟨D, 0, none⟩)], blk bL 3 [.int .i64 low], blk bH 3 [.int .i64 high], blk bN 3 [.int .i64 0]]
 (TX (fun _ : Unit => True) (fun _ => .tuple #[]) (fun _ => [blk D 127 [.bool true, v, .int .i64 ((nextN a (bndM b a low high 5) : Nat) : Int), .int .i64 (errN (bndM b a low high 5) : Int), .int .i64 (posN p (bndM b a low high 5))], own 5 1 v b.length (b.map vByte), blk bR 86 [.pointer (some ⟨D, 0, none⟩)], blk bL 3 [.int .i64 low], blk bH 3 [.int .i64 high], blk bN 3 [.int .i64 (numN (bndM b a low high 5) : Int)]])) :=
 (try_tr D a _ v p (by simp) Tryz.func88 rfl rfl (int1_tr D a bR bL bH bN v b p low high ha hb)).imp fun u m ⟨hu, hm⟩ => by
  rcases hm with ⟨x, hJ, rfl⟩ | ⟨y, hJ, rfl⟩ <;> exact ⟨(), trivial, hu, by rw [hJ]; rfl⟩
theorem count_try (D a bR bH bN : Nat) (v : Value) (b : List UInt8) (p high : Int) (ha : a ≤ b.length) (hb : b.length ≤ 1000000000) : Tr Tryz.prog 87 #[.pointer (some ⟨D, 0, none⟩), .func (.func 90) #[] #[.pointer (some ⟨bR, 0, none⟩), .pointer (some ⟨bH, 0, none⟩), .pointer (some ⟨bN, 0, none⟩)]] [] [blk D 127 [.bool true, v, .int .i64 (a : Int), .int .i64 0, .int .i64 p], own 5 1 v b.length (b.map vByte), blk bR 86 [.pointer (some ⟨D, 0, none⟩)], blk bH 3 [.int .i64 high], blk bN 3 [.int .i64 0]]
 (TX (fun _ : Unit => True) (fun _ => .tuple #[]) (fun _ => [blk D 127 [.bool true, v, .int .i64 ((nextN a (bndM b a 0 high 3) : Nat) : Int), .int .i64 (errN (bndM b a 0 high 3) : Int), .int .i64 (posN p (bndM b a 0 high 3))], own 5 1 v b.length (b.map vByte), blk bR 86 [.pointer (some ⟨D, 0, none⟩)], blk bH 3 [.int .i64 high], blk bN 3 [.int .i64 (numN (bndM b a 0 high 3) : Int)]])) :=
 (try_tr D a _ v p (by simp) Tryz.func90 rfl rfl (count1_tr D a bR bH bN v b p high ha hb)).imp fun u m ⟨hu, hm⟩ => by
  rcases hm with ⟨x, hJ, rfl⟩ | ⟨y, hJ, rfl⟩ <;> exact ⟨(), trivial, hu, by rw [hJ]; rfl⟩
theorem bytes_try (D a bR bH bN : Nat) (v : Value) (b : List UInt8) (p high : Int) (ha : a ≤ b.length) (hb : b.length ≤ 1000000000) : Tr Tryz.prog 87 #[.pointer (some ⟨D, 0, none⟩), .func (.func 155) #[] #[.pointer (some ⟨bR, 0, none⟩), .pointer (some ⟨bH, 0, none⟩), .pointer (some ⟨bN, 0, none⟩)]] [] [blk D 127 [.bool true, v, .int .i64 (a : Int), .int .i64 0, .int .i64 p], own 5 1 v b.length (b.map vByte), blk bR 86 [.pointer (some ⟨D, 0, none⟩)], blk bH 3 [.int .i64 high], blk bN 39 [.slice none 0 0]]
 (TX (fun _ : Value => True) (fun _ => .tuple #[]) (fun x => [blk D 127 [.bool true, v, .int .i64 ((endB a (bytR b a high) : Nat) : Int), .int .i64 (errN (bytR b a high) : Int), .int .i64 (posN p (bytR b a high))], own 5 1 v b.length (b.map vByte), blk bR 86 [.pointer (some ⟨D, 0, none⟩)], blk bH 3 [.int .i64 high], blk bN 39 [x], own 5 1 x (outB b (bytR b a high)).length ((outB b (bytR b a high)).map vByte)])) :=
 (try_tr D a _ v p (by simp) Tryz.func155 rfl rfl (bytes1_tr D a bR bH bN v b p high ha hb)).impH fun u m ⟨hu, hm⟩ => by
  rcases hm with ⟨⟨n, nx, v'⟩, hJ, rfl⟩ | ⟨⟨e, q, aa⟩, hJ, rfl⟩
  ·exact ⟨_, ⟨v', trivial, hu, rfl⟩, fun w0 S w hw => by
    have hJ' : bytR b a high = .ok n nx := hJ
    rw [hJ']
    exact hw⟩
  exact ⟨_, ⟨.slice none 0 0, trivial, hu, rfl⟩, fun w0 S w hw => by
   have hJ' : bytR b a high = .bad e q := hJ
   rw [hJ']
   exact (hp_ownNil 5 1 hw).perm (List.perm_append_comm (l₁ := [own 5 1 (.slice none 0 0) 0 []]))⟩
theorem id_try (D a bR bI : Nat) (v : Value) (b : List UInt8) (p : Int) (ha : a ≤ b.length) (hb : b.length ≤ 1000000000) : Tr Tryz.prog 87 #[.pointer (some ⟨D, 0, none⟩), .func (.func 129) #[] #[.pointer (some ⟨bI, 0, none⟩), .pointer (some ⟨bR, 0, none⟩)]] [] [blk D 127 [.bool true, v, .int .i64 (a : Int), .int .i64 0, .int .i64 p], own 5 1 v b.length (b.map vByte), blk bR 86 [.pointer (some ⟨D, 0, none⟩)], blk bI 66 (List.replicate 16 (.int .u8 0))]
 (TX (fun _ : Unit => True) (fun _ => .tuple #[]) (fun _ => [blk D 127 [.bool true, v, .int .i64 ((endB a (idR b a) : Nat) : Int), .int .i64 (errN (idR b a) : Int), .int .i64 (posN p (idR b a))], own 5 1 v b.length (b.map vByte), blk bR 86 [.pointer (some ⟨D, 0, none⟩)], blk bI 66 ((outI b a).map vByte)])) :=
 (try_tr D a _ v p (by simp) Tryz.func129 rfl rfl (id1_tr D a bR bI v b p ha hb)).imp fun u m ⟨hu, hm⟩ => by
  rcases hm with ⟨x, hJ, rfl⟩ | ⟨y, hJ, rfl⟩
  ·have hJ' : a + 16 ≤ b.length := hJ
   exact ⟨(), trivial, hu, by unfold idR outI; rw [if_neg (by omega), if_neg (by omega)]; rfl⟩
  have hJ' : b.length < a + 16 := hJ
  exact ⟨(), trivial, hu, by unfold idR outI; rw [if_pos hJ', if_pos hJ']; rfl⟩
set_option maxRecDepth 20000 in
theorem int_tr (D a : Nat) (v : Value) (b : List UInt8) (p low high : Int) (ha : a ≤ b.length) (hb : b.length ≤ 1000000000) : Tr Tryz.prog 52 #[.pointer (some ⟨D, 0, none⟩), .int .i64 low, .int .i64 high] [] [blk D 127 [.bool true, v, .int .i64 (a : Int), .int .i64 0, .int .i64 p], own 5 1 v b.length (b.map vByte)]
 (TX (fun _ : Unit => True) (fun _ => .int .i64 (numN (bndM b a low high 5) : Int)) (fun _ => [blk D 127 [.bool true, v, .int .i64 ((nextN a (bndM b a low high 5) : Nat) : Int), .int .i64 (errN (bndM b a low high 5) : Int), .int .i64 (posN p (bndM b a low high 5))], own 5 1 v b.length (b.map vByte)])) := by
 refine Tr.of (l := [(0, .pointer (some ⟨D, 0, none⟩)), (1, .int .i64 low), (2, .int .i64 high)]) Tryz.func52 rfl (n := 11) rfl (.cons rfl (.cons rfl (.cons rfl .nil))) (fun w0 hro => ?_)
 refine go [9,10,60,4] ?_
 intro b3
 refine go [60,4] ?_
 intro b4
 refine go [60,4] ?_
 intro b5
 refine go [60,13] ?_
 intro b6
 refine go [7,8,9,10] ?_
 refine G.op rfl (G.val rfl rfl (pv_load Tryz.underlying86 rfl rfl (blk_cell (v := .pointer (some ⟨D, 0, none⟩)) selT rfl)) ?_)
 refine go [2,26] ?_
 refine G.op rfl (G.cN rfl rfl rfl rfl Tryz.func87 rfl rfl (int_try D a b3 b4 b5 b6 v b p low high ha hb) (.cons selT (.cons selT (.cons selT (.cons selT (.cons selT (.cons selT .nil)))))) may0 ?_)
 rintro ⟨⟩ -
 simp only [List.cons_append, List.nil_append]
 refine go [7,8,9,10] ?_
 refine G.op rfl (G.val rfl rfl (pv_load Tryz.underlying3 rfl rfl (blk_cell (v := .int .i64 (numN (bndM b a low high 5) : Int)) selT rfl)) ?_)
 refine go [21,7,8,11] ?_
 exact G.doneC (v := .int .i64 (numN (bndM b a low high 5) : Int)) rfl rfl Tryz.underlying3 rfl (blk_cell selT rfl) (.cons selT (.cons selT .nil)) ⟨(), trivial, rfl, rfl⟩
set_option maxRecDepth 20000 in
theorem count_tr (D a : Nat) (v : Value) (b : List UInt8) (p high : Int) (ha : a ≤ b.length) (hb : b.length ≤ 1000000000) : Tr Tryz.prog 53 #[.pointer (some ⟨D, 0, none⟩), .int .i64 high] [] [blk D 127 [.bool true, v, .int .i64 (a : Int), .int .i64 0, .int .i64 p], own 5 1 v b.length (b.map vByte)]
 (TX (fun _ : Unit => True) (fun _ => .int .i64 (numN (bndM b a 0 high 3) : Int)) (fun _ => [blk D 127 [.bool true, v, .int .i64 ((nextN a (bndM b a 0 high 3) : Nat) : Int), .int .i64 (errN (bndM b a 0 high 3) : Int), .int .i64 (posN p (bndM b a 0 high 3))], own 5 1 v b.length (b.map vByte)])) := by
 refine Tr.of (l := [(0, .pointer (some ⟨D, 0, none⟩)), (1, .int .i64 high)]) Tryz.func53 rfl (n := 9) rfl (.cons rfl (.cons rfl .nil)) (fun w0 hro => ?_)
 refine go [9,10,60,4] ?_
 intro b2
 refine go [60,4] ?_
 intro b3
 refine go [60,13] ?_
 intro b4
 refine go [7,8,9,10] ?_
 refine G.op rfl (G.val rfl rfl (pv_load Tryz.underlying86 rfl rfl (blk_cell (v := .pointer (some ⟨D, 0, none⟩)) selT rfl)) ?_)
 refine go [2,26] ?_
 refine G.op rfl (G.cN rfl rfl rfl rfl Tryz.func87 rfl rfl (count_try D a b2 b3 b4 v b p high ha hb) (.cons selT (.cons selT (.cons selT (.cons selT (.cons selT .nil))))) may0 ?_)
 rintro ⟨⟩ -
 simp only [List.cons_append, List.nil_append]
 refine go [7,8,9,10] ?_
 refine G.op rfl (G.val rfl rfl (pv_load Tryz.underlying3 rfl rfl (blk_cell (v := .int .i64 (numN (bndM b a 0 high 3) : Int)) selT rfl)) ?_)
 refine go [21,7,8,11] ?_
 exact G.doneC (v := .int .i64 (numN (bndM b a 0 high 3) : Int)) rfl rfl Tryz.underlying3 rfl (blk_cell selT rfl) (.cons selT (.cons selT .nil)) ⟨(), trivial, rfl, rfl⟩
set_option maxRecDepth 20000 in
theorem bytes_tr (D a : Nat) (v : Value) (b : List UInt8) (p high : Int) (ha : a ≤ b.length) (hb : b.length ≤ 1000000000) : Tr Tryz.prog 128 #[.pointer (some ⟨D, 0, none⟩), .int .i64 high] [] [blk D 127 [.bool true, v, .int .i64 (a : Int), .int .i64 0, .int .i64 p], own 5 1 v b.length (b.map vByte)]
 (TX (fun _ : Value => True) (fun x => x) (fun x => [blk D 127 [.bool true, v, .int .i64 ((endB a (bytR b a high) : Nat) : Int), .int .i64 (errN (bytR b a high) : Int), .int .i64 (posN p (bytR b a high))], own 5 1 v b.length (b.map vByte), own 5 1 x (outB b (bytR b a high)).length ((outB b (bytR b a high)).map vByte)])) := by
 refine Tr.of (l := [(0, .pointer (some ⟨D, 0, none⟩)), (1, .int .i64 high)]) Tryz.func128 rfl (n := 9) rfl (.cons rfl (.cons rfl .nil)) (fun w0 hro => ?_)
 refine go [9,10,60,4] ?_
 intro b2
 refine go [60,4] ?_
 intro b3
 refine go [60,20] ?_
 intro b4
 refine go [7,8,9,10] ?_
 refine G.op rfl (G.val rfl rfl (pv_load Tryz.underlying86 rfl rfl (blk_cell (v := .pointer (some ⟨D, 0, none⟩)) selT rfl)) ?_)
 refine go [2,26] ?_
 refine G.op rfl (G.cN rfl rfl rfl rfl Tryz.func87 rfl rfl (bytes_try D a b2 b3 b4 v b p high ha hb) (.cons selT (.cons selT (.cons selT (.cons selT (.cons selT .nil))))) may0 ?_)
 rintro x -
 simp only [List.cons_append, List.nil_append]
 refine G.ownFact (v := x) selT (fun hv1 _ => ?_)
 refine go [7,8,9,10] ?_
 refine G.op rfl (G.val rfl rfl (pv_load Tryz.underlying39 rfl rfl (blk_cell (v := x) selT rfl)) ?_)
 refine G.op rfl (G.store kr rfl rfl hv1 selT (by simp) ?_)
 refine go [7,8,11] ?_
 exact G.doneC (v := x) rfl rfl Tryz.underlying39 rfl (blk_cell selT rfl) (.cons selT (.cons selT (.cons selT .nil))) ⟨x, trivial, rfl, rfl⟩
set_option maxRecDepth 20000 in
theorem id_tr (D a : Nat) (v : Value) (b : List UInt8) (p : Int) (ha : a ≤ b.length) (hb : b.length ≤ 1000000000) : Tr Tryz.prog 92 #[.pointer (some ⟨D, 0, none⟩)] [] [blk D 127 [.bool true, v, .int .i64 (a : Int), .int .i64 0, .int .i64 p], own 5 1 v b.length (b.map vByte)]
 (TX (fun _ : Unit => True) (fun _ => vID (outI b a)) (fun _ => [blk D 127 [.bool true, v, .int .i64 ((endB a (idR b a) : Nat) : Int), .int .i64 (errN (idR b a) : Int), .int .i64 (posN p (idR b a))], own 5 1 v b.length (b.map vByte)])) := by
 refine Tr.of (l := [(0, .pointer (some ⟨D, 0, none⟩))]) Tryz.func92 rfl (n := 7) rfl (.cons rfl .nil) (fun w0 hro => ?_)
 have hol : (outI b a).length = 16 := by unfold outI; split; (first | rfl | simp); exact subB_length (by omega)
 refine go [9,10,60,4] ?_
 intro b1
 refine go [60,11] ?_
 intro b2
 refine go [7,8,9,10] ?_
 refine G.op rfl (G.val rfl rfl (pv_load Tryz.underlying86 rfl rfl (blk_cell (v := .pointer (some ⟨D, 0, none⟩)) selT rfl)) ?_)
 refine go [2,26] ?_
 refine G.op rfl (G.cN rfl rfl rfl rfl Tryz.func87 rfl rfl (id_try D a b1 b2 v b p ha hb) (.cons selT (.cons selT (.cons selT (.cons selT .nil)))) may0 ?_)
 rintro ⟨⟩ -
 simp only [List.cons_append, List.nil_append]
 refine go [7,8,9,10] ?_
 refine G.op rfl (G.val rfl rfl (pv_loadN (cs := (outI b a).map vByte) Tryz.underlying66 rfl (by rw [List.length_map, hol]; kernel_rfl) rfl (blk_range (k := 16) selT (List.take_of_length_le (by rw [List.drop_zero, List.length_map, hol]; exact Nat.le_refl _)))) ?_)
 refine G.op rfl (G.storeN (by rw [List.length_map, hol]; kernel_rfl) rfl rfl (List.all_eq_true.2 (vByte_one _)) selT (by simp) ?_)
 refine go [7,8,11] ?_
 exact G.doneCN (cs := (outI b a).map vByte) rfl rfl Tryz.underlying66 rfl (by rw [List.length_map, hol]; kernel_rfl) (blk_range (k := 16) selT (by rw [show putN ((outI b a).map vByte) 0 ((outI b a).map vByte) = (outI b a).map vByte from putN_all _ _ [] rfl]; exact List.take_of_length_le (by rw [List.drop_zero, List.length_map, hol]; exact Nat.le_refl _))) (.cons selT (.cons selT .nil)) ⟨(), trivial, rfl, rfl⟩
theorem qM_end {x : Int} : qM x (sizeM x) = 0 ∨ sizeM x = 0 := by
 unfold sizeM
 (repeat' split) <;> first | exact .inr rfl | (refine .inl ?_; unfold qM; omega)
theorem putM_get {x : Int} {i : Nat} (h : i < sizeM x) : (putM x)[i]? = some (byteAt x (sizeM x - 1 - i)) := by
 unfold putM putTo
 rw [List.getElem?_map, List.getElem?_range h]
 rfl
set_option maxRecDepth 20000 in
theorem fault_tr (D : Nat) (v : Value) (made : Bool) (a e p : Int) : Tr Tryz.prog 54 #[.pointer (some ⟨D, 0, none⟩)] [blk D 127 [.bool made, v, .int .i64 (a : Int), .int .i64 e, .int .i64 p]] [] (T0 (.agg #[.int .i64 (if made then e else 1), .int .i64 (if made then p else 0)])) := by
 refine Tr.of (l := [(0, .pointer (some ⟨D, 0, none⟩))]) Tryz.func54 rfl (n := 17) rfl (.cons rfl .nil) (fun w0 hro => ?_)
 have hr := ro1 hro
 refine go [9,10,60,8] ?_
 intro b2
 refine go [7,8,9,9,10,0] ?_
 refine G.op rfl (G.val rfl rfl (pv_eqlP0 Tryz.underlying86 rfl rfl) ?_)
 refine go [0,3,0,3,8,3,16] ?_
 refine G.want rfl rfl rfl (G.val rfl rfl (pv_load Tryz.underlying4 rfl rfl (ro_blk (v := .bool made) hr rfl)) ?_)
 refine go [3,25,2,2,7,8] ?_
 refine G.cond rfl (fun h11 => ?_) (fun h11 => ?_)
 ·obtain rfl : made = false := by cases made <;> first | rfl | cases h11
  refine go [9,10] ?_
  refine G.op rfl (G.val rfl rfl (pv_build (cells := #[.int .i64 1, .int .i64 0]) (fun a ha => ha.pevs rfl) kr) ?_)
  refine go [20,7,8,11,12] ?_
  first | exact G.doneCN (cs := [.int .i64 1, .int .i64 0]) rfl rfl Tryz.underlying42 rfl kr (blk_range (k := 2) selT rfl) .nil ⟨rfl, rfl⟩ | exact G.doneCN (cs := [.int .i64 e, .int .i64 p]) rfl rfl Tryz.underlying42 rfl kr (blk_range (k := 2) selT rfl) .nil ⟨rfl, rfl⟩
 obtain rfl : made = true := by cases made <;> first | rfl | cases h11
 refine go [13,8,9,10,0,2,8,2,16] ?_
 refine G.op rfl (G.val rfl rfl (pv_loadN (cs := [.int .i64 e, .int .i64 p]) Tryz.underlying42 rfl kr rfl (ro_range (k := 2) hr rfl)) ?_)
 refine go [20,7,8,11] ?_
 first | exact G.doneCN (cs := [.int .i64 1, .int .i64 0]) rfl rfl Tryz.underlying42 rfl kr (blk_range (k := 2) selT rfl) .nil ⟨rfl, rfl⟩ | exact G.doneCN (cs := [.int .i64 e, .int .i64 p]) rfl rfl Tryz.underlying42 rfl kr (blk_range (k := 2) selT rfl) .nil ⟨rfl, rfl⟩
set_option maxRecDepth 20000 in
theorem open_tr {Pu : Nat → Prop} (u : Value) (b : List UInt8) (hb : b.length ≤ 1000000000) : Tr Tryz.prog 51 #[u] [slc rByte Pu u b] []
 (TX (fun _ : Nat × Value => True) (fun x => .pointer (some ⟨x.1, 0, none⟩)) (fun x => [blk x.1 127 [.bool true, x.2, .int .i64 (0 : Int), .int .i64 0, .int .i64 0], own 5 1 x.2 b.length (b.map vByte)])) := by
 refine Tr.of (l := [(0, u)]) Tryz.func51 rfl (n := 7) rfl (.cons rfl .nil) (fun w0 hro => ?_)
 have hr := ro1 hro
 refine go [9,10,1,7,8,9,10,0] ?_
 refine G.ownNil 5 1 ?_
 refine G.op rfl (G.appendS (k := 0) (cs := []) (xs := b) (f := vByte) (p := fun _ => True) (Ps := Pu) rfl Tryz.underlying39 Tryz.infoByte' rfl rfl .here (ro_sl hr) (vByte_one _) (by omega) (by omega) ?_)
 intro v'
 rw [Nat.zero_add b.length, List.nil_append]
 refine G.ownFact .here (fun hv1 _ => ?_)
 refine G.op rfl (G.val rfl rfl (pv_build (cells := #[.bool true, v', .int .i64 0, .int .i64 0, .int .i64 0]) (fun a ha => ha.pevs rfl) (by cases v' <;> first | (cases hv1; done) | kernel_rfl)) ?_)
 refine G.op rfl (G.box rfl rfl (cs := [.bool true, v', .int .i64 0, .int .i64 0, .int .i64 0]) rfl ?_)
 intro b6
 refine go [1,7,8,11] ?_
 exact G.done1 (m' := [blk b6 127 [.bool true, v', .int .i64 (0 : Int), .int .i64 0, .int .i64 0], own 5 1 v' b.length (b.map vByte)]) rfl rfl (.cons selT (.cons selT .nil)) ⟨(b6, v'), trivial, rfl, rfl⟩
set_option maxRecDepth 20000 in
theorem new_tr : Tr Tryz.prog 65 #[] [] [] (TX (fun _ : Nat => True) (fun D => .pointer (some ⟨D, 0, none⟩)) (fun D => [blk D 134 [.bool true, .bool false, .slice none 0 0], own 5 1 (.slice none 0 0) ([] : List UInt8).length (([] : List UInt8).map vByte)])) := by
 refine Tr.of (l := []) Tryz.func65 rfl (n := 3) rfl Fa.nil (fun w0 hro => ?_)
 refine go [9,10,1,7,8,9,10] ?_
 refine G.op rfl (G.val rfl rfl (pv_build (cells := #[.bool true, .bool false, .slice none 0 0]) (fun a ha => ha.pevs rfl) kr) ?_)
 refine G.op rfl (G.box rfl rfl (cs := [.bool true, .bool false, .slice none 0 0]) rfl ?_)
 intro b2
 refine G.ownNil 5 1 ?_
 refine go [1,7,8,11] ?_
 exact G.done1 rfl rfl (.cons selT (.cons selT .nil)) ⟨b2, trivial, rfl, rfl⟩
theorem ro_own {w0 : World} {S : Nat → Prop} {m : List Ck} {e : TypeId} {v : Value} {xs : List UInt8} (h : Ro w0 S (own e 1 v xs.length (xs.map vByte))) : ∀ w, Hp w0 S w m → IsSl (r1 vByte fun _ => True) (fun b => v.ownBlock = some b) w v xs := fun w hw => own_isSl' (h.at hw) rfl fun _ _ => trivial
def preN (x : Int) (i : Nat) : Nat := (qM x (sizeM x - i)).toNat
theorem preN_zero {x : Int} (h : sizeM x ≠ 0) : preN x 0 = 0 := by
 unfold preN
 rw [Nat.sub_zero, qM_end.resolve_right h]
 rfl
theorem preN_step {x : Int} {i : Nat} (h : sizeM x ≠ 0) (hi : i < sizeM x) : preN x i * 128 + (byteAt x (sizeM x - 1 - i)).toNat % 128 = preN x (i + 1) := by
 have h0 := sizeM_pos h
 have hb := byteAt_val x (sizeM x - 1 - i)
 have h1 := qM_step x (sizeM x - 1 - i)
 rw [show sizeM x - 1 - i + 1 = sizeM x - i by omega] at h1
 have h2 := qM_nonneg h0.1 (sizeM x - i)
 have h3 := qM_nonneg h0.1 (sizeM x - 1 - i)
 unfold preN
 rw [show sizeM x - (i + 1) = sizeM x - 1 - i by omega]
 split at hb <;> omega
theorem preN_end {x : Int} (h : sizeM x ≠ 0) : (preN x (sizeM x) : Int) = x := by
 have h0 := sizeM_pos h
 unfold preN
 rw [Nat.sub_self]
 unfold qM
 rw [Int.pow_zero, Int.ediv_one, Int.toNat_of_nonneg h0.1]
theorem byteAt_hi {x : Int} {i : Nat} (h : i ≠ 0) : 128 ≤ (byteAt x i).toNat := by
 have := byteAt_val x i
 rw [if_neg h] at this
 have h0 := Int.emod_nonneg (qM x i) (show (128 : Int) ≠ 0 by omega)
 omega
theorem byteAt_lo {x : Int} : ¬ 128 ≤ (byteAt x 0).toNat := by
 have := byteAt_val x 0
 rw [if_pos rfl] at this
 omega
theorem top_ne {x : Int} (h : sizeM x ≠ 0) : byteAt x (sizeM x - 1) ≠ 128 := by
 intro he
 have hv := byteAt_val x (sizeM x - 1)
 rw [he] at hv
 have h0 := sizeM_pos h
 have : (128 : UInt8).toNat = 128 := rfl
 rw [this] at hv
 revert hv h
 unfold sizeM
 (repeat' split) <;> intro h hv <;> simp [qM] at * <;> omega
section
variable {x : Int} {b : List UInt8} {L : Nat}
theorem go_cut (h : sizeM x ≠ 0) (hb : ∀ i, i < L → b[i]? = some (byteAt x (sizeM x - 1 - i))) (hL : L < sizeM x) (hl : b.length = L) : ∀ j i, i + j = L → getGo b 0 (5 - i) i (preN x i) = .bad 4 L
 | 0, i, hi => by
  have := sizeM_le x
  rw [getGo_none (by omega) (by omega), hl]
 | j + 1, i, hi => by
  have h5 := sizeM_le x
  have hbi := hb i (by omega)
  have hlt : 0 + i < b.length := by omega
  have e : b[0 + i] = byteAt x (sizeM x - 1 - i) := by
   have h3 : b[0 + i]? = some (byteAt x (sizeM x - 1 - i)) := by rw [Nat.zero_add]; exact hbi
   exact Option.some.inj ((List.getElem?_eq_getElem hlt).symm.trans h3)
  rw [getGo_hi (by omega) hlt (by rw [e]; exact byteAt_hi (by omega)), e, preN_step h (by omega)]
  exact go_cut h hb hL hl j (i + 1) (by omega)
theorem go_all (h : sizeM x ≠ 0) (hb : ∀ i, i < sizeM x → b[i]? = some (byteAt x (sizeM x - 1 - i))) : ∀ j i, i + 1 + j = sizeM x → getGo b 0 (5 - i) i (preN x i) = .ok (preN x (sizeM x)) (sizeM x)
 | j, i, hi => by
  have h5 := sizeM_le x
  have h0 := sizeM_pos h
  have hbi := hb i (by omega)
  have hlt : 0 + i < b.length := by rw [Nat.zero_add]; exact (List.getElem?_eq_some_iff.1 hbi).1
  have e : b[0 + i] = byteAt x (sizeM x - 1 - i) := by
   have h3 : b[0 + i]? = some (byteAt x (sizeM x - 1 - i)) := by rw [Nat.zero_add]; exact hbi
   exact Option.some.inj ((List.getElem?_eq_getElem hlt).symm.trans h3)
  cases j with
  | zero =>
   have hi0 : sizeM x - 1 - i = 0 := by omega
   have he := preN_end h
   have hs := preN_step h (show i < sizeM x by omega)
   rw [show i + 1 = sizeM x by omega] at hs
   rw [getGo_ok (by omega) hlt (by rw [e, hi0]; exact byteAt_lo) (by rw [e, hs]; omega), e, hs]
   congr 1
   omega
  | succ j =>
   rw [getGo_hi (by omega) hlt (by rw [e]; exact byteAt_hi (by omega)), e, preN_step h (by omega)]
   exact go_all h hb j (i + 1) (by omega)
theorem getM_top (h : sizeM x ≠ 0) (h0 : b[0]? = some (byteAt x (sizeM x - 1)) ∨ b = []) : getM b 0 = getGo b 0 (5 - 0) 0 (preN x 0) := by
 rw [preN_zero h]
 unfold getM
 rw [if_neg]
 rcases h0 with h0 | rfl
 ·rw [h0]
  intro he
  exact top_ne h (Option.some.inj he)
 intro he
 cases he
end
theorem getM_all {x : Int} (h : sizeM x ≠ 0) (r : List UInt8) : getM (putM x ++ r) 0 = .ok (preN x (sizeM x)) (sizeM x) := by
 have hl := putM_length x
 have hb : ∀ i, i < sizeM x → (putM x ++ r)[i]? = some (byteAt x (sizeM x - 1 - i)) := fun i hi => by
  rw [List.getElem?_append_left (by omega), putM_get (by omega)]
 rw [getM_top h (.inl (hb 0 (by omega)))]
 exact go_all h hb (sizeM x - 1) 0 (by omega)
def rID : Rdr (List UInt8) := rArr 16 rByte
def flatI (ids : List (List UInt8)) : List Value := ids.flatMap fun x => x.map vByte
def all16 (ids : List (List UInt8)) : Prop := ∀ x ∈ ids, x.length = 16
theorem all16.cons {x : List UInt8} {ids : List (List UInt8)} (h : all16 (x :: ids)) : x.length = 16 ∧ all16 ids := ⟨h x (List.mem_cons_self ..), fun y hy => h y (List.mem_cons_of_mem _ hy)⟩
theorem all16.snoc {x : List UInt8} {ids : List (List UInt8)} (h : all16 ids) (hx : x.length = 16) : all16 (ids ++ [x]) := fun y hy => by
 rcases List.mem_append.1 hy with h1 | h1
 ·exact h y h1
 obtain rfl : y = x := by simpa using h1
 exact hx
theorem flatI_length : ∀ {ids : List (List UInt8)}, all16 ids → (flatI ids).length = ids.length * 16
 | [], _ => rfl
 | x :: ids, h => by
  have := flatI_length h.cons.2
  unfold flatI at this ⊢
  rw [List.flatMap_cons, List.length_append, List.length_map, this, h.cons.1, List.length_cons]
  omega
theorem flatI_get : ∀ {ids : List (List UInt8)}, all16 ids → ∀ (i j : Nat) (hi : i < ids.length), j < 16 → (flatI ids)[i * 16 + j]? = (ids[i].map vByte)[j]?
 | x :: ids, h, 0, j, hi, hj => by
  unfold flatI
  rw [List.flatMap_cons, List.getElem?_append_left (by rw [List.length_map, h.cons.1]; omega)]
  simp
 | x :: ids, h, i + 1, j, hi, hj => by
  have := flatI_get h.cons.2 i j (by simpa using hi) hj
  unfold flatI at this ⊢
  rw [List.flatMap_cons, List.getElem?_append_right (by rw [List.length_map, h.cons.1]; omega), List.length_map, h.cons.1, show (i + 1) * 16 + j - 16 = i * 16 + j by omega, this]
  rfl
theorem flatI_app (a b : List (List UInt8)) : flatI (a ++ b) = flatI a ++ flatI b := List.flatMap_append
theorem flatI_one (ids : List (List UInt8)) : ∀ u ∈ flatI ids, u.oneCell' = true := fun u hu => by
 obtain ⟨x, hx, hu⟩ := List.mem_flatMap.1 hu
 exact vByte_one x u hu
theorem flatI_at {ids : List (List UInt8)} (h : all16 ids) {q : Nat} {u : Value} (hq : (flatI ids)[q]? = some u) : ∃ (hi : q / 16 < ids.length), (ids[q / 16].map vByte)[q % 16]? = some u := by
 have hlt := (List.getElem?_eq_some_iff.1 hq).1
 rw [flatI_length h] at hlt
 have hi : q / 16 < ids.length := by omega
 refine ⟨hi, ?_⟩
 have := flatI_get h (q / 16) (q % 16) hi (by omega)
 rw [← this, show q / 16 * 16 + q % 16 = q by omega]
 exact hq
section
variable {P : Program} {n : Nat} {w0 : World} {S : Nat → Prop} {l : Fr} {m : List Ck} {Q : Exit → Act → World → Prop} {K : Act → World → Prop}
theorem IsSl.flat {Ps : Nat → Prop} {w : World} {v : Value} {ids : List (List UInt8)} (h : IsSl rID Ps w v ids) : all16 ids ∧ ∃ ad cap b off, v = .slice ad ids.length cap ∧ (0 < ids.length → ad = some ⟨b, off, none⟩) ∧ (ad = none → cap = 0) ∧ News w b off (flatI ids) := by
 obtain ⟨ad, cap, b, off, e, hs⟩ := h
 have h16 : all16 ids := fun x hx => by
  obtain ⟨i, hi, rfl⟩ := List.getElem_of_mem hx
  exact (hs.cell i hi).1
 refine ⟨h16, ad, cap, b, off, e, hs.had, hs.hnil, fun q u hq => ?_⟩
 obtain ⟨hi, hu⟩ := flatI_at h16 hq
 rw [List.getElem?_map] at hu
 obtain ⟨y, hy, rfl⟩ := Option.map_eq_some_iff.1 hu
 obtain ⟨hj, rfl⟩ := List.getElem?_eq_some_iff.1 hy
 have := ((hs.cell _ hi).2 _ hj).2.1
 have e1 : off + q / 16 * rID.sz + q % 16 * rByte.sz = off + q := by show off + q / 16 * 16 + q % 16 * 1 = off + q; omega
 rwa [e1] at this
theorem own_isI {e : TypeId} {v : Value} {ids : List (List UInt8)} {w : World} (h : w.ownsRow 0 e 16 v ids.length (flatI ids)) (h16 : all16 ids) : IsSl rID (fun b => v.ownBlock = some b) w v ids := by
 have h0 := h
 rcases h.2 with ⟨rfl, h2⟩ | ⟨g', cap, cur, rfl, _, hg, hc, hm, hs, ht⟩
 ·obtain rfl : ids = [] := List.length_eq_zero_iff.1 h2
  exact ⟨none, 0, 0, 0, rfl, Nat.le_refl _, by omega, fun _ => rfl, fun h => absurd h (by simp), fun i hi => absurd hi (by simp)⟩
 refine ⟨_, cap, g', 0, rfl, hc, by unfold maxLen at hm; omega, (fun h => by cases h), fun _ => rfl, fun i hi => ⟨h16 _ (List.getElem_mem hi), fun j hj => ⟨rfl, ?_, trivial⟩⟩⟩
 have hj' : j < 16 := by have := h16 _ (List.getElem_mem hi); omega
 have := h0.cells (g := g') rfl (i * 16 + j) (vByte ids[i][j]) (by rw [flatI_get h16 i j hi hj', List.getElem?_map, List.getElem?_eq_getElem hj]; rfl)
 rw [addr_mid] at this
 have e1 : 0 + i * rID.sz + j * rByte.sz = 0 + (i * 16 + j) := by show 0 + i * 16 + j * 1 = _; omega
 rw [e1]
 exact this
theorem may_ownI {e : TypeId} {v : Value} {ids : List (List UInt8)} {r : List Ck} (h : Sel m (own e 16 v ids.length (flatI ids)) r) (h16 : all16 ids) : May w0 S m (slc rID (fun b => v.ownBlock = some b) v ids) := .view h.mem (fun w hw => own_isI hw h16) fun b h => h
theorem may_ownN {e : TypeId} {v : Value} {xs : List Int} {r : List Ck} (h : Sel m (own e 1 v xs.length (xs.map vInt)) r) (h64 : ∀ x ∈ xs, I64 x) : May w0 S m (slc rInt (fun b => v.ownBlock = some b) v xs) := may_own h rfl h64
theorem Ro.all16 {Ps : Nat → Prop} {v : Value} {ids : List (List UInt8)} (h : Ro w0 S (slc rID Ps v ids)) : all16 ids := (IsSl.flat h.1).1
theorem G.appendI {ty : TypeId} {pos : String} {after : Array Edge} {g : Option (Nat × Bool)} {Ps : Nat → Prop} {t e d k : Nat} {s x : Operand} {v u : Value} {cs : List Value} {ids : List (List UInt8)} {r : List Ck} (hn : Nat.blt d n = true) (hu : P.underlying t = some (.slice e)) (hi : (P.info? e).map (fun i => (i.zero.map (·.cells.size), i.size, i.bytes)) = some (some 16, 16, 16))
 (hs : ev l s = some v) (hx : ev l x = some u) (hsel : Sel m (own e 16 v k cs) r) (hsl : ∀ w, Hp w0 S w m → IsSl rID Ps w u ids) (hbig : (k + ids.length) * 16 ≤ 140737488355328)
 (h : ∀ v', G n w0 S ((d, v') :: l) (own e 16 v' (k + ids.length) (cs ++ flatI ids) :: r) K) : G n w0 S l m (fun a w => Oper.wp P ⟨some d, .call ⟨.builtin .append, #[s, x], #[t, t]⟩, ty, pos, after, g⟩ a w K Q) := fun a w ha hw => by
 obtain ⟨h16, ad, cap, b, off, rfl, had, hnil, _⟩ := (hsl w hw).flat
 refine G.append (K := K) (Q := Q) (w0 := w0) (S := S) (m := m) (l := l) (off := off) (b := b) hn hu hi rfl hs hx hsel had hnil (flatI_length h16) (fun w2 hw2 => ?_) (flatI_one ids) hbig (by omega) h a w ha hw
 obtain ⟨_, ad2, cap2, b2, off2, e2, had2, _, hn2⟩ := (hsl w2 hw2).flat
 injection e2 with e3 e4 e5
 subst e3
 intro i y hy
 have hj : 0 < ids.length := by
  obtain ⟨hlt, _⟩ := flatI_at h16 hy
  omega
 have := (had hj).symm.trans (had2 hj)
 injection this with this
 injection this with e6 e7
 subst e6 e7
 exact hn2 i y hy
end
theorem takes_next {α : Type} {a b : List α} {k : Nat} (h : a.take k = b.take k) (ha : k < a.length) (hb : k < b.length) (e : a[k] = b[k]) : a.take (k + 1) = b.take (k + 1) := by
 rw [List.take_succ_eq_append_getElem ha, List.take_succ_eq_append_getElem hb, h, e]
theorem takes_off {α : Type} {a b : List α} {k : Nat} (ha : k < a.length) (hb : k < b.length) (e : ¬ a[k] = b[k]) : ¬ a = b := fun h => by
 subst h
 exact e rfl
theorem takes_all {α : Type} {a b : List α} {k : Nat} (h : a.take k = b.take k) (ha : a.length ≤ k) (hb : b.length ≤ k) : a = b := by
 rwa [List.take_of_length_le ha, List.take_of_length_le hb] at h
theorem Tryz.infoID' : (Tryz.prog.info? 66).map (fun i => (i.zero.map (·.cells.size), i.size, i.bytes)) = some (some 16, 16, 16) := by kernel_rfl
set_option maxRecDepth 20000 in
set_option maxHeartbeats 4000000 in
theorem sameIDs_tr {Pv Pu : Nat → Prop} (v u : Value) (a b : List (List UInt8)) : Tr Tryz.prog 37 #[v, u] [slc rID Pv v a, slc rID Pu u b] [] (T0 (.bool (decide (a = b)))) := by
 refine Tr.of (l := [(0, v), (1, u)]) Tryz.func37 rfl (n := 26) rfl (.cons rfl (.cons rfl .nil)) (fun w0 hro => ?_)
 obtain ⟨hv, hu⟩ := ro2 hro
 obtain ⟨ad, ca, ba, oa, rfl, hca, hma, -, had, hea⟩ := Ro.open hv
 obtain ⟨ad2, cb, bb, ob, rfl, hcb, hmb, -, hbd, heb⟩ := Ro.open hu
 refine go [9,10,1,7,8,9,9,10,0,2,5,0,2,5,2,14,7,8] ?_
 refine G.condP rfl (fun h10 => ?_) (fun h10 => ?_)
 ·refine go [9,10,1,7,8,11,12] ?_
  exact G.done1 rfl rfl .nil ⟨congrArg Value.bool ((decide_eq_false (fun e => by subst e; omega)).symm), rfl⟩
 refine go [13,8,9,9,10,1,7,8,15] ?_
 refine G.loopK (X := Nat) (ts := [0, 1]) (fun k => k ≤ a.length ∧ (a.take k = b.take k)) (fun k => [(5, .int .i64 (k : Int))]) (fun k => []) (fun k => a.length - k) (x0 := 0) (.cons rfl (.cons rfl .nil)) subT (.cons .nil) apT (by first | exact trivial | ((try dsimp only) <;> exact ⟨Nat.zero_le _, (by rw [List.take_zero, List.take_zero])⟩)) (.consE rfl veqT .nil) (fun k hJ => ?_)
 try dsimp only at hJ
 try dsimp only
 obtain ⟨hkk, hJ⟩ := hJ
 refine go [9,9,10,0,0,2,5,2,9,7,8] ?_
 refine G.condP rfl (fun h14 => ?_) (fun h14 => ?_)
 ·have hka : k < a.length := by omega
  have hkb : k < b.length := by omega
  have hA := hea k hka
  have hB := heb k hkb
  obtain ⟨la, ra⟩ := Ro.arr8 hA
  obtain ⟨lb, rb⟩ := Ro.arr8 hB
  refine go [13,8,9,15,9] ?_
  refine G.drawT (nn := 9) (p := []) (rem := 511) [0, 0, 3, 4, 0, 0, 48, 64, 136] [0, 0, 3, 4, 0, 0, 48, 64, 136] kr ⟨rfl, by kernel_rfl, by kernel_rfl⟩ subT kr (fun hT6 => ?_)
  refine go [22,0,510,0,22,1,508,0,22,2,504,20,16,22,4,488,0,22,5,456,0,22,6,392,20,16] ?_
  refine G.takeT hT6 (i := 3) (rem' := 384) rfl rfl rfl kr (fun _ _ _ h => h) rfl (pv_loadN (cs := a[k].map vByte) Tryz.underlying66 rfl (by rw [List.length_map, la]; kernel_rfl) rfl ra) subT ?_
  refine go [24,7,256] ?_
  refine G.turnOp rfl rfl (G.val rfl rfl (pv_loadN (cs := b[k].map vByte) Tryz.underlying66 rfl (by rw [List.length_map, lb]; kernel_rfl) rfl rb) ?_)
  refine go [26] ?_
  refine G.takeT hT6 (i := 8) (rem' := 0) rfl rfl rfl kr (fun _ _ _ h => h) rfl (pv_neqAr8 (a := a[k]) (b := b[k]) Tryz.underlying66 rfl kr Tryz.underlying5 kr rfl rfl la lb) subT ?_
  refine go [27,8] ?_
  refine G.cond rfl (fun h25 => ?_) (fun h25 => ?_)
  ·refine go [9,10,1,7,8,11,17,12,12,17,12] ?_
   exact G.done1 rfl rfl .nil ⟨congrArg Value.bool ((decide_eq_false (takes_off hka hkb (by simpa using h25))).symm), rfl⟩
  refine go [13,16,8,10,0,2,6,1,7] ?_
  exact G.next (k + 1) (by first | exact trivial | ((try dsimp only) <;> exact ⟨by omega, takes_next hJ hka hkb (by first | exact Decidable.of_not_not h25 | (simpa using h25))⟩)) (by (try dsimp only); omega) (.consE rfl veqT (.cons rfl (.cons rfl .nil))) subT
 refine go [18,14,14,19,8,9,10,1,7,8,11] ?_
 exact G.done1 rfl rfl .nil ⟨congrArg Value.bool ((decide_eq_true (takes_all hJ (by omega) (by omega))).symm), rfl⟩
end Go.Proofs.YtbfpbibkklfnfaaGreat
set_option linter.unusedVariables false
set_option linter.unusedSimpArgs false
namespace Go.Proofs.YtbfpbibkklfnfaaGreat
open Go.RowKit
def wtM (c : UInt8) : Int := ((c.toNat : Int) * 2 + 1) * 2654435761 % 4294967296
def rsum (b : List UInt8) : Int := b.foldl (fun n c => (n * 3 + wtM c) % 4294967296) 0
def lastW (m : List UInt8) : List UInt8 := m.drop (m.length - 16)
def rollM (s : Int) (o c : UInt8) : Int := ((s - wtM o * 14348907) * 3 + wtM c) % 4294967296
theorem wtM_rng (c : UInt8) : 0 ≤ wtM c ∧ wtM c < 4294967296 := by unfold wtM; omega
theorem rsum_snoc (b : List UInt8) (c : UInt8) : rsum (b ++ [c]) = (rsum b * 3 + wtM c) % 4294967296 := by simp [rsum, List.foldl_append]
theorem mod_ex (x M : Int) : ∃ k, x % M = x + M * k := ⟨-(x / M), by have := Int.emod_add_mul_ediv x M; grind⟩
theorem fold_lin : ∀ (b : List UInt8) (n : Int), ∃ k, b.foldl (fun n c => (n * 3 + wtM c) % 4294967296) n = n * 3 ^ b.length + b.foldl (fun n c => (n * 3 + wtM c) % 4294967296) 0 + 4294967296 * k
 | [], n => ⟨0, by simp⟩
 | c :: b, n => by
  obtain ⟨k1, h1⟩ := fold_lin b ((n * 3 + wtM c) % 4294967296)
  obtain ⟨k2, h2⟩ := fold_lin b ((0 * 3 + wtM c) % 4294967296)
  obtain ⟨k3, h3⟩ := mod_ex (n * 3 + wtM c) 4294967296
  obtain ⟨k4, h4⟩ := mod_ex (0 * 3 + wtM c) 4294967296
  refine ⟨k1 - k2 + (k3 - k4) * 3 ^ b.length, ?_⟩
  rw [List.foldl_cons, List.foldl_cons, h1, h2, h3, h4, List.length_cons, Int.pow_succ]
  grind
theorem rsum_cons (a : UInt8) (l : List UInt8) (h : l.length = 15) : ∃ k, rsum (a :: l) = wtM a * 14348907 + rsum l + 4294967296 * k := by
 unfold rsum
 obtain ⟨k1, h1⟩ := fold_lin l ((0 * 3 + wtM a) % 4294967296)
 have h2 : (0 * 3 + wtM a) % 4294967296 = wtM a := by have := wtM_rng a; omega
 rw [h2, h] at h1
 exact ⟨k1, by rw [List.foldl_cons, h2, h1]; rfl⟩
theorem roll_win (a c : UInt8) (l : List UInt8) (h : l.length = 15) : rollM (rsum (a :: l)) a c = rsum (l ++ [c]) := by
 obtain ⟨k, hk⟩ := rsum_cons a l h
 rw [rsum_snoc, hk]
 unfold rollM
 have : (wtM a * 14348907 + rsum l + 4294967296 * k - wtM a * 14348907) * 3 + wtM c = rsum l * 3 + wtM c + 4294967296 * (k * 3) := by omega
 rw [this, Int.add_mul_emod_self_left]
theorem lastW_small {m : List UInt8} (h : m.length ≤ 16) : lastW m = m := by
 unfold lastW
 rw [show m.length - 16 = 0 by omega, List.drop_zero]
theorem lastW_snoc {m : List UInt8} (h : m.length < 16) (c : UInt8) : rsum (lastW (m ++ [c])) = (rsum (lastW m) * 3 + wtM c) % 4294967296 := by
 rw [lastW_small (show (m ++ [c]).length ≤ 16 by simp; omega), lastW_small (by omega), rsum_snoc]
theorem lastW_roll {m : List UInt8} (h : 16 ≤ m.length) (c : UInt8) : rsum (lastW (m ++ [c])) = rollM (rsum (lastW m)) (m[m.length - 16]'(by omega)) c := by
 have e1 : lastW m = m[m.length - 16]'(by omega) :: m.drop (m.length - 15) := by
  unfold lastW
  rw [List.drop_eq_getElem_cons (by omega), show m.length - 16 + 1 = m.length - 15 by omega]
 have e2 : lastW (m ++ [c]) = m.drop (m.length - 15) ++ [c] := by
  unfold lastW
  rw [List.length_append, List.length_singleton, List.drop_append_of_le_length (by omega), show m.length + 1 - 16 = m.length - 15 by omega]
 rw [e1, e2, roll_win _ _ _ (by rw [List.length_drop]; omega)]
def rollC (ring : List UInt8) (n : Nat) (s : Int) (rest : List Value) : List Value := ring.map vByte ++ (.int .i64 (n : Int) :: .int .u32 s :: .bool true :: rest)
def rollN (k : Nat) : Nat := if k < 16 then k else 16 + k % 16
structure RollAt (ring : List UInt8) (n : Nat) (s : Int) (m : List UInt8) : Prop where
 len : ring.length = 16
 num : n = rollN m.length
 sum : s = rsum (lastW m)
 at' : ∀ j (h : j < m.length), m.length ≤ j + 16 → ring[j % 16]? = some m[j]
theorem roll_zero : RollAt (List.replicate 16 0) 0 0 [] := ⟨rfl, rfl, rfl, fun j h => absurd h (by simp)⟩
variable {ring : List UInt8} {n : Nat} {s : Int} {rest : List Value}
theorem roll_n (h : ring.length = 16) : (rollC ring n s rest)[0 + 16]? = some (.int .i64 (n : Int)) := by
 unfold rollC
 rw [List.getElem?_append_right (by rw [List.length_map]; omega), List.length_map, h]
 rfl
theorem roll_s (h : ring.length = 16) : (rollC ring n s rest)[0 + 17]? = some (.int .u32 s) := by
 unfold rollC
 rw [List.getElem?_append_right (by rw [List.length_map]; omega), List.length_map, h]
 rfl
theorem roll_m (h : ring.length = 16) : (rollC ring n s rest)[0 + 18]? = some (.bool true) := by
 unfold rollC
 rw [List.getElem?_append_right (by rw [List.length_map]; omega), List.length_map, h]
 rfl
theorem roll_x {v : Value} (h : ring.length = 16) : (rollC ring n s [v])[0 + 19]? = some v := by
 unfold rollC
 rw [List.getElem?_append_right (by rw [List.length_map]; omega), List.length_map, h]
 rfl
theorem roll_r (h : ring.length = 16) {i : Nat} {c : UInt8} (hc : ring[i]? = some c) : (rollC ring n s rest)[0 + 0 + i * 1]? = some (.int .u8 (c.toNat : Int)) := by
 have hi := (List.getElem?_eq_some_iff.1 hc).1
 unfold rollC
 rw [List.getElem?_append_left (by rw [List.length_map]; omega), List.getElem?_map, show 0 + 0 + i * 1 = i by omega, hc]
 rfl
theorem roll_len (h : ring.length = 16) : (rollC ring n s rest).length = 19 + rest.length := by
 unfold rollC
 simp [h]
 omega
theorem roll_setN (h : ring.length = 16) (n' : Nat) : (rollC ring n s rest).set (0 + 16) (.int .i64 (n' : Int)) = rollC ring n' s rest := by
 unfold rollC
 rw [List.set_append_right _ _ (by rw [List.length_map]; omega), List.length_map, h]
 rfl
theorem roll_setS (h : ring.length = 16) (s' : Int) : (rollC ring n s rest).set (0 + 17) (.int .u32 s') = rollC ring n s' rest := by
 unfold rollC
 rw [List.set_append_right _ _ (by rw [List.length_map]; omega), List.length_map, h]
 rfl
theorem roll_setX {v : Value} (h : ring.length = 16) (v' : Value) : (rollC ring n s [v]).set (0 + 19) v' = rollC ring n s [v'] := by
 unfold rollC
 rw [List.set_append_right _ _ (by rw [List.length_map]; omega), List.length_map, h]
 rfl
theorem roll_setR (h : ring.length = 16) {i : Nat} (hi : i < 16) (c : UInt8) : (rollC ring n s rest).set (0 + 0 + i * 1) (.int .u8 (c.toNat : Int)) = rollC (ring.set i c) n s rest := by
 unfold rollC
 rw [show 0 + 0 + i * 1 = i by omega, List.set_append_left _ _ (by rw [List.length_map]; omega), List.map_set]
 rfl
theorem RollAt.out {m : List UInt8} (h : RollAt ring n s m) (hm : ¬ n < 16) : ∃ hl : 16 ≤ m.length, ring[n % 16]? = some (m[m.length - 16]'(by omega)) ∧ n % 16 = m.length % 16 := by
 have hn := h.num
 unfold rollN at hn
 split at hn
 ·omega
 refine ⟨by omega, ?_, by omega⟩
 have := h.at' (m.length - 16) (by omega) (by omega)
 rw [← this]
 congr 1
 omega
theorem RollAt.mod {m : List UInt8} (h : RollAt ring n s m) : n % 16 = m.length % 16 ∧ n < 32 := by
 have hn := h.num
 unfold rollN at hn
 split at hn <;> omega
theorem RollAt.push {m : List UInt8} (h : RollAt ring n s m) (c : UInt8) : RollAt (ring.set (n % 16) c) (if n + 1 = 32 then 16 else n + 1) (rsum (lastW (m ++ [c]))) (m ++ [c]) := by
 obtain ⟨hm, hlt⟩ := h.mod
 refine ⟨by rw [List.length_set]; exact h.len, ?_, rfl, fun j hj hj2 => ?_⟩
 ·have hn := h.num
  unfold rollN at hn ⊢
  rw [List.length_append, List.length_singleton]
  split at hn <;> split <;> split <;> omega
 rw [List.length_append, List.length_singleton] at hj hj2
 rcases Nat.lt_or_ge j m.length with h1 | h1
 ·rw [List.getElem_append_left h1, List.getElem?_set_ne (by omega)]
  exact h.at' j h1 (by omega)
 obtain rfl : j = m.length := by omega
 rw [hm, List.getElem?_set_self (by rw [h.len]; omega)]
 simp
theorem or_one (c : UInt8) : bits .or .u32 ((c.toNat : Int) * 2) 1 = (c.toNat : Int) * 2 + 1 := by
 have : ∀ k : Fin 256, bits .or .u32 ((k.val : Int) * 2) 1 = (k.val : Int) * 2 + 1 := by decide +kernel
 exact this ⟨c.toNat, c.toNat_lt⟩
theorem u32_wt (c : UInt8) : IntKind.u32.wrap (((c.toNat : Int) * 2 + 1) * 2654435761) = wtM c := by rw [IntKind.wrap_u32]; rfl
theorem u32_small {x : Int} (h : 0 ≤ x ∧ x < 4294967296) : IntKind.u32.wrap x = x := by rw [IntKind.wrap_u32]; omega
theorem u32_roll (s : Int) (o c : UInt8) : IntKind.u32.wrap (IntKind.u32.wrap (IntKind.u32.wrap (s - IntKind.u32.wrap (wtM o * 14348907)) * 3) + wtM c) = rollM s o c := by
 simp only [IntKind.wrap_u32]
 unfold rollM
 omega
theorem u32_next (s : Int) (c : UInt8) : IntKind.u32.wrap (IntKind.u32.wrap (s * 3) + wtM c) = (s * 3 + wtM c) % 4294967296 := by
 simp only [IntKind.wrap_u32]
 omega
set_option maxRecDepth 20000 in
set_option maxHeartbeats 4000000 in
theorem weight_tr (c : UInt8) : Tr Tryz.prog 168 #[.int .u8 (c.toNat : Int)] [] [] (T0 (.int .u32 (wtM c))) := by
 refine Tr.of (l := [(0, .int .u8 (c.toNat : Int))]) Tryz.func168 rfl (n := 8) rfl (.cons rfl .nil) (fun w0 hro => ?_)
 have hc := c.toNat_lt
 refine go [9,10,1,7,8,9,10,0] ?_
 refine G.op rfl (G.val rfl rfl ((pv_conv (by rw [Tryz.underlying5]; rfl) Tryz.underlying151 rfl).int (b := (c.toNat : Int)) (u32_small ⟨by omega, by omega⟩)) ?_)
 refine G.op rfl (G.val rfl rfl ((pv_shl (s := 1) rfl rfl (by decide)).int (b := (c.toNat : Int) * 2) (u32_small (x := (c.toNat : Int) * 2 ^ 1) ⟨by omega, by omega⟩)) ?_)
 refine G.op rfl (G.val rfl rfl ((pv_or rfl rfl).int (or_one c)) ?_)
 refine G.op rfl (G.val rfl rfl ((pv_mulk rfl rfl).int (u32_wt c)) ?_)
 refine go [1,7,8,11] ?_
 exact G.done0G rfl (Rv.tmp rfl Rv.nil) Y6
set_option maxRecDepth 20000 in
set_option maxHeartbeats 4000000 in
theorem weightR_tr (c : UInt8) : Tr Tryz.prog 162 #[.int .u8 (c.toNat : Int)] [] [] (T0 (.int .u32 (wtM c))) := by
 refine Tr.of (l := [(0, .int .u8 (c.toNat : Int))]) Tryz.func162 rfl (n := 8) rfl (.cons rfl .nil) (fun w0 hro => ?_)
 have hc := c.toNat_lt
 refine go [9,10,1,7,8,9,10,0] ?_
 refine G.op rfl (G.val rfl rfl ((pv_conv (by rw [Tryz.underlying5]; rfl) Tryz.underlying151 rfl).int (b := (c.toNat : Int)) (u32_small ⟨by omega, by omega⟩)) ?_)
 refine G.op rfl (G.val rfl rfl ((pv_mulk rfl rfl).int (b := (c.toNat : Int) * 2) (by rw [Int.mul_comm]; exact u32_small ⟨by omega, by omega⟩)) ?_)
 refine G.op rfl (G.val rfl rfl ((pv_addk rfl rfl).int (b := (c.toNat : Int) * 2 + 1) (u32_small ⟨by omega, by omega⟩)) ?_)
 refine G.op rfl (G.val rfl rfl ((pv_mulk rfl rfl).int (u32_wt c)) ?_)
 refine go [1,7,8,11] ?_
 exact G.done0G rfl (Rv.tmp rfl Rv.nil) Y6
set_option maxRecDepth 20000 in
set_option maxHeartbeats 4000000 in
theorem rsumR_tr {Pv : Nat → Prop} (v : Value) (b : List UInt8) : Tr Tryz.prog 151 #[v] [slc rByte Pv v b] [] (T0 (.int .u32 (rsum b))) := by
 refine Tr.of (l := [(0, v)]) Tryz.func151 rfl (n := 20) rfl (.cons rfl .nil) (fun w0 hro => ?_)
 have hv := ro1 hro
 obtain ⟨ad, cap, bb, off, rfl, hcap, hmax, hnil, had, hel⟩ := Ro.open hv
 refine go [9,10,1,7,8,9,10,1,7,8,9,9,10,1,7,8,15] ?_
 refine G.loopK (X := Nat) (ts := [0, 2]) (fun i => i ≤ b.length ∧ (True)) (fun i => [(4, .int .i64 (i : Int)), (3, .int .u32 (rsum (b.take i)))]) (fun i => []) (fun i => b.length - i) (x0 := 0) (.cons rfl (.cons rfl .nil)) subT (.cons (.cons .nil)) apT (by first | exact trivial | ((try dsimp only) <;> exact ⟨Nat.zero_le _, trivial⟩)) (.consE rfl veqT (.consE rfl veqT .nil)) (fun i hJ => ?_)
 try dsimp only at hJ
 try dsimp only
 obtain ⟨hki, hJ⟩ := hJ
 refine go [9,9,10,0,0,2,5,2,9,7,8] ?_
 refine G.condP rfl (fun h8 => ?_) (fun h8 => ?_)
 ·have hlt : i < b.length := by omega
  have hE := hel i hlt
  have hsn : rsum (b.take (i + 1)) = (rsum (b.take i) * 3 + wtM b[i]) % 4294967296 := by rw [List.take_succ_eq_append_getElem hlt, rsum_snoc]
  refine go [13,8,9,15,10,0] ?_
  refine G.op rfl (G.val rfl rfl ((pv_mulk rfl rfl).int (b := IntKind.u32.wrap (rsum (b.take i) * 3)) (by rw [Int.mul_comm])) ?_)
  refine go [0,0,2,20,1,2,4] ?_
  refine G.op rfl (G.cR rfl rfl rfl rfl Tryz.func162 rfl rfl may0 (weightR_tr _) ?_)
  refine G.op rfl (G.val rfl rfl ((pv_addk rfl rfl).int ((u32_next _ _).trans hsn.symm)) ?_)
  refine go [1,7,16,8,10,0,2,6,1,7] ?_
  exact G.next (i + 1) (by first | exact trivial | ((try dsimp only) <;> exact ⟨by omega, trivial⟩)) (by (try dsimp only); omega) (.consE rfl veqT (.consE rfl veqT (.cons rfl (.cons rfl .nil)))) subT
 refine go [18,14,14,19,8,9,10,0,1,7,8,11] ?_
 obtain rfl : i = b.length := by omega
 rw [List.take_length]
 exact G.done0G rfl (Rv.tmp rfl Rv.nil) Y6
set_option maxRecDepth 20000 in
set_option maxHeartbeats 4000000 in
theorem rollF_tr (s : Int) (o c : UInt8) : Tr Tryz.prog 169 #[.int .u32 s, .int .u8 (o.toNat : Int), .int .u8 (c.toNat : Int)] [] [] (T0 (.int .u32 (rollM s o c))) := by
 refine Tr.of (l := [(0, .int .u32 s), (1, .int .u8 (o.toNat : Int)), (2, .int .u8 (c.toNat : Int))]) Tryz.func169 rfl (n := 16) rfl (.cons rfl (.cons rfl (.cons rfl .nil))) (fun w0 hro => ?_)
 refine go [9,10,1,7,8,9,10,0,0] ?_
 refine G.op rfl (G.cR rfl rfl rfl rfl Tryz.func168 rfl rfl may0 (weight_tr _) ?_)
 refine G.op rfl (G.val rfl rfl (pv_mulk rfl rfl) ?_)
 refine G.op rfl (G.val rfl rfl (pv_subk rfl rfl) ?_)
 refine G.op rfl (G.val rfl rfl (pv_mulk rfl rfl) ?_)
 refine go [0] ?_
 refine G.op rfl (G.cR rfl rfl rfl rfl Tryz.func168 rfl rfl may0 (weight_tr _) ?_)
 refine G.op rfl (G.val rfl rfl ((pv_addk rfl rfl).int (u32_roll s o c)) ?_)
 refine go [1,7,8,11] ?_
 exact G.done0G rfl (Rv.tmp rfl Rv.nil) Y6
set_option maxRecDepth 20000 in
set_option maxHeartbeats 4000000 in
theorem rnone_tr (D : Nat) (T : TypeId) (ring : List UInt8) (n : Nat) (s : Int) (rest : List Value) (hr : ring.length = 16) : Tr Tryz.prog 167 #[.pointer (some ⟨D, 0, none⟩)] [blk D T (rollC ring n s rest)] [] (T0 (.bool false)) := by
 refine Tr.of (l := [(0, .pointer (some ⟨D, 0, none⟩))]) Tryz.func167 rfl (n := 12) rfl (.cons rfl .nil) (fun w0 hro => ?_)
 have hb := ro1 hro
 refine go [9,10,1,7,8,9,10,0] ?_
 refine G.op rfl (G.val rfl rfl ((pv_eqlP0 Tryz.underlying181 rfl rfl).cast (v' := .bool false) rfl) ?_)
 refine go [0,3,0,3,8,3,3,18] ?_
 refine G.want rfl rfl rfl (G.val rfl rfl (pv_load Tryz.underlying4 rfl rfl (ro_blk hb (roll_m hr))) ?_)
 refine G.want rfl rfl rfl (G.val rfl rfl ((pv_not rfl).cast (v' := .bool false) rfl) ?_)
 refine go [2,2,1,7,8,11] ?_
 exact G.done0G rfl (Rv.tmp rfl Rv.nil) Y6
set_option maxRecDepth 20000 in
set_option maxHeartbeats 4000000 in
theorem push_tr (D : Nat) (T : TypeId) (ring : List UInt8) (n : Nat) (s : Int) (rest : List Value) (m : List UInt8) (c : UInt8) (h : RollAt ring n s m) : Tr Tryz.prog 161 #[.pointer (some ⟨D, 0, none⟩), .int .u8 (c.toNat : Int)] [] [blk D T (rollC ring n s rest)]
 (TX (fun z : List UInt8 × Nat × Int => RollAt z.1 z.2.1 z.2.2 (m ++ [c])) (fun _ => .int .u32 (rsum (lastW (m ++ [c])))) (fun z => [blk D T (rollC z.1 z.2.1 z.2.2 rest)])) := by
 refine Tr.of (l := [(0, .pointer (some ⟨D, 0, none⟩)), (1, .int .u8 (c.toNat : Int))]) Tryz.func161 rfl (n := 73) rfl (.cons rfl (.cons rfl .nil)) (fun w0 hro => ?_)
 have hr := h.len
 obtain ⟨hmod, hn32⟩ := h.mod
 have hpush := h.push c
 refine go [9,10,1,7,8,9] ?_
 refine G.cutK (X := Int) (ts := [0, 1]) (p := [blk D _ _]) (fun s' => s' = rsum (lastW (m ++ [c]))) (fun s' => []) (fun s' => [blk D T (rollC ring n s' rest)]) (.cons rfl (.cons rfl .nil)) subT Ap.nil apT ?_ ?_
 ·refine go [15,9,10,0] ?_
  refine G.op rfl (G.cR rfl rfl rfl rfl Tryz.func167 rfl rfl (may1 Y13) (rnone_tr _ _ _ _ _ _ (by assumption)) ?_)
  refine go [1,7,8,60,1,9,10,0,2,8,2,3,16,2,50,3,2,9,1,7,8] ?_
  refine G.condP rfl (fun h27 => ?_) (fun h27 => ?_)
  ·have hm16 : m.length < 16 := by have := h.num; unfold rollN at this; split at this <;> omega
   have hsn := lastW_snoc hm16 c
   rw [← h.sum] at hsn
   refine G.drawT (nn := 12) (p := [blk D _ _]) (rem := 4095) [0, 0, 2, 4, 8, 16, 0, 64, 160, 511, 1023, 1535] [0, 0, 2, 4, 8, 16, 0, 64, 160, 1, 512, 1280] kr ⟨rfl, by kernel_rfl, by kernel_rfl⟩ subT kr (fun hT5 => ?_)
   refine go [22,0,4094,0,22,1,4092,0,22,2,4088,8,22,3,4080,3,17,22,6,4016,0] ?_
   refine G.twoT hT5 (i := 4) (j := 7) (rem' := 4000) (rem'' := 3888) kr kr kr ?_ ?_
   ·refine go [25,50,3,26] ?_
    refine G.takeT hT5 (i := 5) (rem' := 3968) rfl rfl rfl kr (fun _ _ _ h => h) rfl (pv_mulk rfl rfl) subT ?_
    refine go [24,7,3840] ?_
    refine G.turnOp rfl rfl (G.cR rfl rfl rfl rfl Tryz.func168 rfl rfl may0 (weight_tr _) ?_)
    refine go [26] ?_
    refine G.takeT hT5 (i := 8) (rem' := 3584) rfl rfl rfl kr (fun _ _ _ h => h) rfl ((pv_addk rfl rfl).int ((u32_next _ _).trans hsn.symm)) subT ?_
    refine go [22,9,3072,8,22,10,2048,3,17,24,11,0,60,15] ?_
    rw [roll_setS hr]
    refine go [26,27,16] ?_
    exact G.meet (rsum (lastW (m ++ [c]))) Y16 (.cons rfl (.cons rfl .nil)) subT
   refine G.turnOp rfl rfl (G.cR rfl rfl rfl rfl Tryz.func168 rfl rfl may0 (weight_tr _) ?_)
   refine go [26,24,4,3872,25,50,3,26] ?_
   refine G.takeT hT5 (i := 5) (rem' := 3840) rfl rfl rfl kr (fun _ _ _ h => h) rfl (pv_mulk rfl rfl) subT ?_
   refine G.takeT hT5 (i := 8) (rem' := 3584) rfl rfl rfl kr (fun _ _ _ h => h) rfl ((pv_addk rfl rfl).int ((u32_next _ _).trans hsn.symm)) subT ?_
   refine go [22,9,3072,8,22,10,2048,3,17,24,11,0,60,15] ?_
   rw [roll_setS hr]
   refine go [26,27,16] ?_
   exact G.meet (rsum (lastW (m ++ [c]))) Y16 (.cons rfl (.cons rfl .nil)) subT
  obtain ⟨h16, hout, _⟩ := h.out (by omega)
  have hro2 := lastW_roll h16 c
  rw [← h.sum] at hro2
  refine G.drawT (nn := 20) (p := [blk D _ _]) (rem := 1048575) [0, 0, 2, 4, 8, 0, 0, 64, 128, 256, 512, 32, 2048, 5120, 8192, 0, 49168, 131071, 262143, 393215] [0, 0, 2, 4, 8, 0, 0, 64, 128, 256, 512, 32, 2048, 5120, 8192, 0, 49168, 1, 131072, 327680] kr ⟨rfl, by kernel_rfl, by kernel_rfl⟩ subT kr (fun hT1 => ?_)
  refine go [22,0,1048574,0,22,1,1048572,0,22,2,1048568,8,22,3,1048560,3,17,22,5,1048528,0,22,6,1048464,0,22,7,1048336,8,22,8,1048080,3,16,22,11,1046032,8,22,12,1041936,3,0,22,15,1009168,0] ?_
  refine G.twoT hT1 (i := 4) (j := 9) (rem' := 1009152) (rem'' := 1008656) kr kr kr ?_ ?_
  ·refine go [25,50,3,26,24,9,1008640,25,50,3,26,22,10,1007616,50,7] ?_
   refine G.takeT hT1 (i := 13) (rem' := 999424) rfl rfl rfl kr (fun _ _ _ h => h) rfl (pv_ixA (sz := 1) (k := n % 16) Tryz.underlying65 kr rfl rfl (by omega) (by omega)) subT ?_
   refine go [24,14,983040] ?_
   refine G.turnOp rfl rfl (G.val rfl rfl (pv_load Tryz.underlying5 rfl rfl (blk_cell selD (roll_r hr hout))) ?_)
   refine go [26,24,16,917504] ?_
   refine G.turnOp rfl rfl (G.cR rfl rfl rfl rfl Tryz.func169 rfl rfl may0 (rollF_tr _ _ _) ?_)
   rw [← hro2]
   refine go [26,22,17,786432,8,22,18,524288,3,17,24,19,0,60,15] ?_
   rw [roll_setS hr]
   refine go [26,27,16] ?_
   exact G.meet (rsum (lastW (m ++ [c]))) Y16 (.cons rfl (.cons rfl .nil)) subT
  refine go [25,50,3,26,22,10,1007632,50,7] ?_
  refine G.takeT hT1 (i := 13) (rem' := 999440) rfl rfl rfl kr (fun _ _ _ h => h) rfl (pv_ixA (sz := 1) (k := n % 16) Tryz.underlying65 kr rfl rfl (by omega) (by omega)) subT ?_
  refine G.twoT hT1 (i := 4) (j := 14) (rem' := 999424) (rem'' := 983056) kr kr kr ?_ ?_
  ·refine go [25,50,3,26,24,14,983040] ?_
   refine G.turnOp rfl rfl (G.val rfl rfl (pv_load Tryz.underlying5 rfl rfl (blk_cell selD (roll_r hr hout))) ?_)
   refine go [26,24,16,917504] ?_
   refine G.turnOp rfl rfl (G.cR rfl rfl rfl rfl Tryz.func169 rfl rfl may0 (rollF_tr _ _ _) ?_)
   rw [← hro2]
   refine go [26,22,17,786432,8,22,18,524288,3,17,24,19,0,60,15] ?_
   rw [roll_setS hr]
   refine go [26,27,16] ?_
   exact G.meet (rsum (lastW (m ++ [c]))) Y16 (.cons rfl (.cons rfl .nil)) subT
  refine G.turnOp rfl rfl (G.val rfl rfl (pv_load Tryz.underlying5 rfl rfl (blk_cell selD (roll_r hr hout))) ?_)
  refine go [26,24,4,983040,25,50,3,26,24,16,917504] ?_
  refine G.turnOp rfl rfl (G.cR rfl rfl rfl rfl Tryz.func169 rfl rfl may0 (rollF_tr _ _ _) ?_)
  rw [← hro2]
  refine go [26,22,17,786432,8,22,18,524288,3,17,24,19,0,60,15] ?_
  rw [roll_setS hr]
  refine go [26,27,16] ?_
  exact G.meet (rsum (lastW (m ++ [c]))) Y16 (.cons rfl (.cons rfl .nil)) subT
 intro s' hJ
 try dsimp only at hJ
 try dsimp only
 subst hJ
 refine G.seq ?_
 refine G.drawT (nn := 11) (p := [blk D _ _]) (rem := 2047) [0, 0, 2, 4, 8, 16, 0, 1, 128, 383, 639] [0, 0, 2, 4, 8, 16, 0, 1, 128, 288, 576] kr ⟨rfl, by kernel_rfl, by kernel_rfl⟩ subT kr (fun hT6 => ?_)
 refine go [22,0,2046,0,22,1,2044,0,22,2,2040,8,22,3,2032,3,16,22,6,1968,0,22,7,1840,8,22,8,1584,3,0,24,4,1568,25,50,3,26,22,5,1536,50,7] ?_
 refine G.takeT hT6 (i := 9) (rem' := 1024) rfl rfl rfl kr (fun _ _ _ h => h) rfl (pv_ixA (sz := 1) (k := n % 16) Tryz.underlying65 kr rfl rfl (by omega) (by omega)) subT ?_
 refine go [24,10,0,60,15] ?_
 rw [roll_setR hr (by omega)]
 have hr0 := hr
 have hr : (ring.set (n % 16) c).length = 16 := by rw [List.length_set]; exact hr0
 refine go [26,27,8,9,10,0,2,8,2,3,16,2,50,3] ?_
 refine G.op rfl (G.val rfl rfl ((pv_add64 rfl rfl (by omega)).int (b := ((n + 1 : Nat) : Int)) (by omega)) ?_)
 refine go [2,8,2,3,16] ?_
 refine G.op rfl (G.store kr rfl rfl (by rfl) selT Y49 ?_)
 rw [roll_setN hr]
 refine go [7,8,9,9,10,0,2,8,2,3,16,2,50,3,2,13,7,8] ?_
 refine G.condP rfl (fun h65 => ?_) (fun h65 => ?_)
 ·have h32 : n + 1 = 32 := by omega
  rw [if_pos h32] at hpush
  refine go [10,0,2,8,2,3,16] ?_
  refine G.op rfl (G.store kr rfl rfl (by rfl) selT Y49 ?_)
  rw [show (.int .i64 16 : Value) = .int .i64 ((16 : Nat) : Int) from rfl, roll_setN hr]
  refine go [7,8,9,10,0,2,8,2,3,17,2,50,3,1,7,8,11] ?_
  exact G.doneX1 ((ring.set (n % 16) c, 16, rsum (lastW (m ++ [c])))) (by first | exact trivial | ((try dsimp only) <;> exact hpush)) rfl rfl rfl subT
 have h32 : ¬ n + 1 = 32 := by omega
 rw [if_neg h32] at hpush
 refine go [13,8,9,10,0,2,8,2,3,17,2,50,3,1,7,8,11] ?_
 exact G.doneX1 ((ring.set (n % 16) c, n + 1, rsum (lastW (m ++ [c])))) (by first | exact trivial | ((try dsimp only) <;> exact hpush)) rfl rfl rfl subT
end Go.Proofs.YtbfpbibkklfnfaaGreat
namespace Go.Proofs.YtbfpbibkklfnfaaGreat
open Go.RowKit
set_option linter.unusedVariables false
set_option linter.unusedSimpArgs false
def badP (c : UInt8) : Bool := decide (c.toNat < 33) || decide (126 < c.toNat) || decide (c.toNat = 47)
def stepB (bad : UInt8 → Bool) (s : List UInt8) : Int × Int :=
 if s = [] ∨ s = [46] ∨ s = [46, 46] then (2, 0)
 else if s.findIdx bad < s.length then (4, s.findIdx bad)
 else if 60 < s.length then (3, 60) else (0, 0)
def badR (c : UInt8) : Bool := decide (c.toNat < 33) || decide (126 < c.toNat)
theorem stepJ {s : List UInt8} {k : Nat} (h : ∀ j, j < k → ∀ h : j < s.length, badP s[j] = false) (hk : k < s.length) (h1 : ¬ ((s[k].toNat : Int) < 33)) (h2 : ¬ ((126 : Int) < s[k].toNat)) (h3 : ¬ ((s[k].toNat : Int) = 47)) : ∀ j, j < k + 1 → ∀ h : j < s.length, badP s[j] = false := fun j hj hl => by
 rcases Nat.lt_or_ge j k with h4 | h4
 ·exact h j h4 hl
 obtain rfl : j = k := by omega
 unfold badP
 simp
 omega
theorem stepJR {s : List UInt8} {k : Nat} (h : ∀ j, j < k → ∀ h : j < s.length, badR s[j] = false) (hk : k < s.length) (h1 : ¬ ((s[k].toNat : Int) < 33)) (h2 : ¬ ((126 : Int) < s[k].toNat)) : ∀ j, j < k + 1 → ∀ h : j < s.length, badR s[j] = false := fun j hj hl => by
 rcases Nat.lt_or_ge j k with h4 | h4
 ·exact h j h4 hl
 obtain rfl : j = k := by omega
 unfold badR
 simp
 omega
theorem stepArg {bad : UInt8 → Bool} {s : List UInt8} (h : s = [] ∨ s = [46] ∨ s = [46, 46]) : stepB bad s = (2, 0) := if_pos h
theorem stepBad {bad : UInt8 → Bool} {s : List UInt8} {k : Nat} (h1 : ¬ s = []) (h2 : ¬ s = [46]) (h3 : ¬ s = [46, 46]) (h : ∀ j, j < k → ∀ h : j < s.length, bad s[j] = false) (hk : k < s.length) (hb : bad s[k] = true) : stepB bad s = (4, (k : Int)) := by
 have e : s.findIdx bad = k := (List.findIdx_eq hk).2 ⟨hb, fun j hj => h j hj (by omega)⟩
 unfold stepB
 rw [if_neg (by simp [h1, h2, h3]), e, if_pos hk]
theorem stepAll {bad : UInt8 → Bool} {s : List UInt8} {k : Nat} (h : ∀ j, j < k → ∀ h : j < s.length, bad s[j] = false) (hk : s.length ≤ k) : s.findIdx bad = s.length := List.findIdx_eq_length_of_false fun x hx => by
 obtain ⟨j, hj, rfl⟩ := List.getElem_of_mem hx
 exact h j (by omega) hj
theorem stepLong {bad : UInt8 → Bool} {s : List UInt8} {k : Nat} (h1 : ¬ s = []) (h2 : ¬ s = [46]) (h3 : ¬ s = [46, 46]) (h : ∀ j, j < k → ∀ h : j < s.length, bad s[j] = false) (hk : s.length ≤ k) (hl : 60 < s.length) : stepB bad s = (3, 60) := by
 unfold stepB
 rw [if_neg (by simp [h1, h2, h3]), stepAll h hk, if_neg (by omega), if_pos hl]
theorem stepOk {bad : UInt8 → Bool} {s : List UInt8} {k : Nat} (h1 : ¬ s = []) (h2 : ¬ s = [46]) (h3 : ¬ s = [46, 46]) (h : ∀ j, j < k → ∀ h : j < s.length, bad s[j] = false) (hk : s.length ≤ k) (hl : ¬ 60 < s.length) : stepB bad s = (0, 0) := by
 unfold stepB
 rw [if_neg (by simp [h1, h2, h3]), stepAll h hk, if_neg (by omega), if_neg hl]
theorem bad1 {c : UInt8} (h : (c.toNat : Int) < 33) : badP c = true := by unfold badP; simp; omega
theorem bad2 {c : UInt8} (h : (126 : Int) < c.toNat) : badP c = true := by unfold badP; simp; omega
theorem badR1 {c : UInt8} (h : (c.toNat : Int) < 33) : badR c = true := by unfold badR; simp; omega
theorem badR2 {c : UInt8} (h : (126 : Int) < c.toNat) : badR c = true := by unfold badR; simp; omega
theorem bad3 {c : UInt8} (h : (c.toNat : Int) = 47) : badP c = true := by unfold badP; simp; omega
set_option maxRecDepth 20000 in
set_option maxHeartbeats 4000000 in
theorem step_tr (s : List UInt8) (hs : s.length ≤ 1000000000) : Tr Tryz.prog 139 #[.string (sB s)] [] [] (T0 (.tuple #[.int .i64 (stepB badP s).1, .int .i64 (stepB badP s).2])) := by
 refine Tr.of (l := [(0, .string (sB s))]) Tryz.func139 rfl (n := 41) rfl (.cons rfl .nil) (fun w0 hro => ?_)
 refine go [9,10,1,1,7,8,9,9,10,0,2,24,0] ?_
 refine G.partP (t := 7) rfl (fun h7 => ?_) (fun h7 => ?_)
 ·refine go [4,4,2,2,0,4,4,2,2,7,8,60,5,9,10,1,1,7,8,11,12] ?_
  exact G.done0G rfl (Rv.tmp rfl (Rv.tmp rfl Rv.nil)) (by rw [stepArg (.inl (by assumption))]; rfl)
 refine go [3,0,3,24,2,2,0] ?_
 refine G.partP (t := 11) rfl (fun h11 => ?_) (fun h11 => ?_)
 ·refine go [4,4,2,2,7,8,60,5,9,10,1,1,7,8,11,12] ?_
  exact G.done0G rfl (Rv.tmp rfl (Rv.tmp rfl Rv.nil)) (by rw [stepArg (.inr (.inl (by assumption)))]; rfl)
 refine go [3,0,3,24,2,2,7,8] ?_
 refine G.condP rfl (fun h14 => ?_) (fun h14 => ?_)
 ·refine go [9,10,1,1,7,8,11,12] ?_
  exact G.done0G rfl (Rv.tmp rfl (Rv.tmp rfl Rv.nil)) (by rw [stepArg (.inr (.inr (by assumption)))]; rfl)
 refine go [13,8,9,9,10,0,2,21,0,7,8,15] ?_
 refine G.loopK (X := Nat) (ts := [0, 16]) (fun k => k ≤ s.length ∧ (∀ j, j < k → ∀ h : j < s.length, badP s[j] = false)) (fun k => [(17, .int .i64 (k : Int))]) (fun k => []) (fun k => s.length - k) (x0 := 0) (.cons rfl (.cons rfl .nil)) subT (.cons .nil) apT (by first | exact trivial | ((try dsimp only) <;> exact ⟨Nat.zero_le _, fun j h => absurd h (by omega)⟩)) (.consE rfl veqT .nil) (fun k hJ => ?_)
 try dsimp only at hJ
 try dsimp only
 obtain ⟨hkk, hJ⟩ := hJ
 refine go [9,10,2,9,7,8,9] ?_
 refine G.condP rfl (fun h18 => ?_) (fun h18 => ?_)
 ·refine go [13,8,9,15,9,10,0,1,7,8,9,10,0,0,2,22,2,9,0] ?_
  refine G.partP (t := 24) rfl (fun h24 => ?_) (fun h24 => ?_)
  ·refine go [4,4,4,4,2,2,0,4,4,4,4,2,2,7,8,60,5,9,10,0,1,1,7,8,11,17,12,12,17,12] ?_
   exact G.done0G rfl (Rv.tmp rfl (Rv.tmp rfl Rv.nil)) (by rw [stepBad (by assumption) (by assumption) (by assumption) hJ (by omega) (bad1 (by assumption))]; rfl)
  refine go [3,0,3,0,3,22,3,10,2,2,0] ?_
  refine G.partP (t := 30) rfl (fun h30 => ?_) (fun h30 => ?_)
  ·refine go [4,4,4,4,2,2,7,8,60,5,9,10,0,1,1,7,8,11,17,12,12,17,12] ?_
   exact G.done0G rfl (Rv.tmp rfl (Rv.tmp rfl Rv.nil)) (by rw [stepBad (by assumption) (by assumption) (by assumption) hJ (by omega) (bad2 (by assumption))]; rfl)
  refine go [3,0,3,0,3,22,3,13,2,2,7,8] ?_
  refine G.condP rfl (fun h35 => ?_) (fun h35 => ?_)
  ·refine go [9,10,0,1,1,7,8,11,17,12,12,17,12] ?_
   exact G.done0G rfl (Rv.tmp rfl (Rv.tmp rfl Rv.nil)) (by rw [stepBad (by assumption) (by assumption) (by assumption) hJ (by omega) (bad3 (by assumption))]; rfl)
  refine go [13,16,8,10,2,6,0,7] ?_
  exact G.next (k + 1) (by first | exact trivial | ((try dsimp only) <;> exact ⟨by omega, stepJ hJ (by omega) (by assumption) (by assumption) (by assumption)⟩)) (by (try dsimp only); omega) (.consE rfl veqT (.cons rfl (.cons rfl .nil))) subT
 refine go [18,14,14,19,8,9,9,10,0,2,21,2,10,7,8] ?_
 refine G.condP rfl (fun h40 => ?_) (fun h40 => ?_)
 ·refine go [9,10,1,1,7,8,11,12] ?_
  exact G.done0G rfl (Rv.tmp rfl (Rv.tmp rfl Rv.nil)) (by rw [stepLong (by assumption) (by assumption) (by assumption) hJ (by omega) (by omega)]; rfl)
 refine go [13,8,9,10,1,1,7,8,11] ?_
 exact G.done0G rfl (Rv.tmp rfl (Rv.tmp rfl Rv.nil)) (by rw [stepOk (by assumption) (by assumption) (by assumption) hJ (by omega) (by omega)]; rfl)
set_option maxRecDepth 20000 in
set_option maxHeartbeats 4000000 in
theorem part_tr (s : List UInt8) (hs : s.length ≤ 1000000000) : Tr Tryz.prog 160 #[.string (sB s)] [] [] (T0 (.tuple #[.int .i64 (stepB badR s).1, .int .i64 (stepB badR s).2])) := by
 refine Tr.of (l := [(0, .string (sB s))]) Tryz.func160 rfl (n := 35) rfl (.cons rfl .nil) (fun w0 hro => ?_)
 refine go [9,10,1,1,7,8,9,9,10,0,2,24,0] ?_
 refine G.partP (t := 7) rfl (fun h7 => ?_) (fun h7 => ?_)
 ·refine go [4,4,2,2,0,4,4,2,2,7,8,60,5,9,10,1,1,7,8,11,12] ?_
  exact G.done0G rfl (Rv.tmp rfl (Rv.tmp rfl Rv.nil)) (by rw [stepArg (.inl (by assumption))]; rfl)
 refine go [3,0,3,24,2,2,0] ?_
 refine G.partP (t := 11) rfl (fun h11 => ?_) (fun h11 => ?_)
 ·refine go [4,4,2,2,7,8,60,5,9,10,1,1,7,8,11,12] ?_
  exact G.done0G rfl (Rv.tmp rfl (Rv.tmp rfl Rv.nil)) (by rw [stepArg (.inr (.inl (by assumption)))]; rfl)
 refine go [3,0,3,24,2,2,7,8] ?_
 refine G.condP rfl (fun h14 => ?_) (fun h14 => ?_)
 ·refine go [9,10,1,1,7,8,11,12] ?_
  exact G.done0G rfl (Rv.tmp rfl (Rv.tmp rfl Rv.nil)) (by rw [stepArg (.inr (.inr (by assumption)))]; rfl)
 refine go [13,8,9,9,10,1,7,8,15] ?_
 refine G.loopK (X := Nat) (ts := [0]) (fun k => k ≤ s.length ∧ (∀ j, j < k → ∀ h : j < s.length, badR s[j] = false)) (fun k => [(4, .int .i64 (k : Int))]) (fun k => []) (fun k => s.length - k) (x0 := 0) (.cons rfl .nil) subT (.cons .nil) apT (by first | exact trivial | ((try dsimp only) <;> exact ⟨Nat.zero_le _, fun j h => absurd h (by omega)⟩)) (.consE rfl veqT .nil) (fun k hJ => ?_)
 try dsimp only at hJ
 try dsimp only
 obtain ⟨hkk, hJ⟩ := hJ
 refine go [9,9,10,0,0,2,21,2,9,7,8] ?_
 refine G.condP rfl (fun h18 => ?_) (fun h18 => ?_)
 ·refine go [13,8,9,15,9,10,0,0,2,22,2,9,0] ?_
  refine G.partP (t := 25) rfl (fun h25 => ?_) (fun h25 => ?_)
  ·refine go [4,4,4,4,2,2,7,8,60,5,9,10,0,1,1,7,8,11,17,12,12,17,12] ?_
   exact G.done0G rfl (Rv.tmp rfl (Rv.tmp rfl Rv.nil)) (by rw [stepBad (by assumption) (by assumption) (by assumption) hJ (by omega) (badR1 (by assumption))]; rfl)
  refine go [3,0,3,0,3,22,3,10,2,2,7,8] ?_
  refine G.condP rfl (fun h30 => ?_) (fun h30 => ?_)
  ·refine go [9,10,0,1,1,7,8,11,17,12,12,17,12] ?_
   exact G.done0G rfl (Rv.tmp rfl (Rv.tmp rfl Rv.nil)) (by rw [stepBad (by assumption) (by assumption) (by assumption) hJ (by omega) (badR2 (by assumption))]; rfl)
  refine go [13,16,8,10,0,2,6,1,7] ?_
  exact G.next (k + 1) (by first | exact trivial | ((try dsimp only) <;> exact ⟨by omega, stepJR hJ (by omega) (by assumption) (by assumption)⟩)) (by (try dsimp only); omega) (.consE rfl veqT (.cons rfl .nil)) subT
 refine go [18,14,14,19,8,9,9,10,0,2,21,2,10,7,8] ?_
 refine G.condP rfl (fun h34 => ?_) (fun h34 => ?_)
 ·refine go [9,10,1,1,7,8,11,12] ?_
  exact G.done0G rfl (Rv.tmp rfl (Rv.tmp rfl Rv.nil)) (by rw [stepLong (by assumption) (by assumption) (by assumption) hJ (by omega) (by omega)]; rfl)
 refine go [13,8,9,10,1,1,7,8,11] ?_
 exact G.done0G rfl (Rv.tmp rfl (Rv.tmp rfl Rv.nil)) (by rw [stepOk (by assumption) (by assumption) (by assumption) hJ (by omega) (by omega)]; rfl)
end Go.Proofs.YtbfpbibkklfnfaaGreat
namespace Go.Proofs
open Go.Shelf
def Tryz.lays219_ren : Go.Shelf.Ren := ⟨fun | 219 => 166 | 217 => 171 | 225 => 172 | 224 => 173 | 267 => 174 | 266 => 175 | 314 => 176 | n => n, fun | 9 => 9 | 3 => 3 | 4 => 4 | 5 => 5 | 46 => 174 | 146 => 199 | 51 => 151 | n => n, fun | 1 => 0 | n => n⟩
theorem Tryz.lays219 : Go.Proofs.Lays.n219 Tryz.prog Tryz.lays219_ren := {
  mixed := by kernel_rfl
  f217 := Tryz.func171.trans (congrArg some (by kernel_rfl))
  f219 := Tryz.func166.trans (congrArg some (by kernel_rfl))
  f224 := Tryz.func173.trans (congrArg some (by kernel_rfl))
  f225 := Tryz.func172.trans (congrArg some (by kernel_rfl))
  f266 := Tryz.func175.trans (congrArg some (by kernel_rfl))
  f267 := Tryz.func174.trans (congrArg some (by kernel_rfl))
  f314 := Tryz.func176.trans (congrArg some (by kernel_rfl))
  t3 := Tryz.underlying3
  a3 := Tryz.isAgg3
  z3 := Tryz.sizeOf3
  v3 := Tryz.zeroValue3
  t4 := Tryz.underlying4
  a4 := Tryz.isAgg4
  z4 := Tryz.sizeOf4
  v4 := Tryz.zeroValue4
  t5 := Tryz.underlying5
  a5 := Tryz.isAgg5
  z5 := Tryz.sizeOf5
  v5 := Tryz.zeroValue5
  t9 := Tryz.underlying9
  a9 := Tryz.isAgg9
  z9 := Tryz.sizeOf9
  v9 := Tryz.zeroValue9
  t46 := Tryz.underlying174
  a46 := Tryz.isAgg174
  z46 := Tryz.sizeOf174
  v46 := Tryz.zeroValue174
  t51 := Tryz.underlying151
  a51 := Tryz.isAgg151
  z51 := Tryz.sizeOf151
  v51 := Tryz.zeroValue151
  t146 := Tryz.underlying199
  a146 := Tryz.isAgg199
  z146 := Tryz.sizeOf199
  v146 := Tryz.zeroValue199
  g1 := by kernel_rfl }
open Go.RowKit Go.Lib in
/-- internal/stringslite.Index (what strings.Index calls) AT A substr OF ONE BYTE c: IT RETURNS 'Lib.indexByte s c'; the world is as it was. (LAID: no walk: one application.) -/
theorem Tryz.stringslite_Index_one (s : ByteArray) (c : UInt8) (w : World) :
    Calls Tryz.prog 166 #[.string s, .string ⟨#[c]⟩] w fun e w' => e = .returned (.int .i64 (Lib.indexByte s.data.toList c)) ∧ w' = w := Any.stringslite_Index_one Tryz.lays219 s c w
end Go.Proofs
namespace Go.Proofs.YtbfpbibkklfnfaaGreat
open Go.RowKit
set_option linter.unusedVariables false
set_option linter.unusedSimpArgs false
def at1 (s : List UInt8) : Nat := s.findIdx (· == 47)
def cutM (s : List UInt8) : List UInt8 × List UInt8 × Bool := if at1 s < s.length then (s.take (at1 s), s.drop (at1 s + 1), true) else (s, [], false)
theorem at1_le (s : List UInt8) : at1 s ≤ s.length := List.findIdx_le_length
theorem index1 : ∀ s : List UInt8, Lib.indexByte s 47 = if at1 s < s.length then (at1 s : Int) else -1
 | [] => rfl
 | b :: l => by
  have ih := index1 l
  have hle := at1_le l
  unfold Lib.indexByte
  by_cases h : b = 47
  ·subst h
   have e : at1 (47 :: l) = 0 := by simp [at1, List.findIdx_cons]
   rw [e]
   simp
  have hb : (b == 47) = false := by simpa using h
  have e : at1 (b :: l) = at1 l + 1 := by simp [at1, List.findIdx_cons, hb]
  rw [e, hb, ih]
  by_cases hlt : at1 l < l.length
  ·rw [if_pos hlt, if_pos (show at1 l + 1 < (b :: l).length by simp; omega), if_neg (by simp), if_neg (by rw [beq_iff_eq]; omega)]
   rfl
  rw [if_neg hlt, if_neg (show ¬ at1 l + 1 < (b :: l).length by simp; omega)]
  simp
theorem Tr.ofQ {P : Program} {f : FuncId} {args : Array Value} {v : Value} (h : ∀ w, Calls P f args w fun e w' => e = .returned v ∧ w' = w) : Tr P f args [] [] (T0 v) := fun w _ _ =>
 (h w).mono fun e w' ⟨he, hb⟩ => ⟨v, [], he, ⟨rfl, rfl⟩, ⟨(Chg.none_of_below (hb ▸ Below.refl _ _)).mono fun b hb => hb.elim, by simp, by simp, .nil⟩⟩
theorem index_tr (s : List UInt8) : Tr Tryz.prog 166 #[.string (sB s), .string (sB [47])] [] [] (T0 (.int .i64 (if at1 s < s.length then (at1 s : Int) else -1))) := Tr.ofQ fun w => by
 have h := Tryz.stringslite_Index_one (sB s) 47 w
 rw [show (sB s).data.toList = s by simp [sB], index1 s] at h
 exact h
theorem index_tr1 (s : List UInt8) (ha : at1 s < s.length) : Tr Tryz.prog 166 #[.string (sB s), .string (sB [47])] [] [] (T0 (.int .i64 (at1 s : Int))) := by
 have h := index_tr s
 rwa [if_pos ha] at h
theorem index_tr0 (s : List UInt8) (ha : ¬ at1 s < s.length) : Tr Tryz.prog 166 #[.string (sB s), .string (sB [47])] [] [] (T0 (.int .i64 (-1))) := by
 have h := index_tr s
 rwa [if_neg ha] at h
set_option maxRecDepth 20000 in
set_option maxHeartbeats 4000000 in
theorem scut1 (s : List UInt8) (hs : s.length ≤ 1000000000) (ha : at1 s < s.length) : Tr Tryz.prog 159 #[.string (sB s), .string (sB [47])] [] [] (T0 (.tuple #[.string (sB (s.take (at1 s))), .string (sB (s.drop (at1 s + 1))), .bool true])) := by
 refine Tr.of (l := [(0, .string (sB s)), (1, .string (sB [47]))]) Tryz.func159 rfl (n := 23) rfl (.cons rfl (.cons rfl .nil)) (fun w0 hro => ?_)
 have h47 : ([47] : List UInt8).length = 1 := rfl
 refine go [9,10,1,1,1,7,8,9,9,10,0,0] ?_
 refine G.op rfl (G.cR rfl rfl rfl rfl Tryz.func166 rfl rfl may0 (index_tr1 s ha) ?_)
 refine go [1,7,8,9,10,0,2,12,7,8] ?_
 refine G.condP rfl (fun h12 => ?_) (fun h12 => ?_)
 ·refine G.seq ?_
  refine G.drawT (nn := 12) (p := []) (rem := 4095) [0, 0, 3, 0, 0, 0, 32, 80, 136, 7, 1023, 2047] [0, 0, 3, 0, 0, 0, 32, 80, 136, 4, 256, 0] kr ⟨rfl, by kernel_rfl, by kernel_rfl⟩ subT kr (fun hT3 => ?_)
  refine go [22,0,4094,0,22,1,4092,0] ?_
  refine G.takeT hT3 (i := 2) (rem' := 4088) rfl rfl rfl kr (fun _ _ _ h => h) rfl (pv_strH Tryz.underlying9 rfl rfl rfl (by omega)) subT ?_
  refine go [22,3,4080,0,22,4,4064,0,22,5,4032,0,22,6,3968,21,22,7,3840,6] ?_
  refine G.takeT hT3 (i := 8) (rem' := 3584) rfl rfl rfl kr (fun _ _ _ h => h) rfl (pv_strL Tryz.underlying9 rfl rfl rfl (by omega)) subT ?_
  refine go [22,9,3072,1,22,10,2048,1,22,11,0,1,27,8,11,12] ?_
  exact G.done0G rfl (Rv.tmp rfl (Rv.tmp rfl (Rv.tmp rfl Rv.nil))) Y6
 exfalso; omega
set_option maxRecDepth 20000 in
set_option maxHeartbeats 4000000 in
theorem scut0 (s : List UInt8) (hs : s.length ≤ 1000000000) (ha : ¬ at1 s < s.length) : Tr Tryz.prog 159 #[.string (sB s), .string (sB [47])] [] [] (T0 (.tuple #[.string (sB s), .string (sB []), .bool false])) := by
 refine Tr.of (l := [(0, .string (sB s)), (1, .string (sB [47]))]) Tryz.func159 rfl (n := 23) rfl (.cons rfl (.cons rfl .nil)) (fun w0 hro => ?_)
 refine go [9,10,1,1,1,7,8,9,9,10,0,0] ?_
 refine G.op rfl (G.cR rfl rfl rfl rfl Tryz.func166 rfl rfl may0 (index_tr0 s ha) ?_)
 refine go [1,7,8,9,10,0,2,12,7,8] ?_
 refine G.condP rfl (fun h12 => ?_) (fun h12 => ?_)
 ·exfalso; omega
 refine go [13,8,9,10,0,1,1,1,7,8,11] ?_
 exact G.done0G rfl (Rv.tmp rfl (Rv.tmp rfl (Rv.tmp rfl Rv.nil))) Y6
theorem scut_tr (s : List UInt8) (hs : s.length ≤ 1000000000) : Tr Tryz.prog 159 #[.string (sB s), .string (sB [47])] [] [] (T0 (.tuple #[.string (sB (cutM s).1), .string (sB (cutM s).2.1), .bool (cutM s).2.2])) := by
 unfold cutM
 split
 ·exact scut1 s hs (by assumption)
 exact scut0 s hs (by assumption)
set_option maxRecDepth 20000 in
set_option maxHeartbeats 4000000 in
theorem cut_tr (s : List UInt8) (hs : s.length ≤ 1000000000) : Tr Tryz.prog 140 #[.string (sB s), .string (sB [47])] [] [] (T0 (.tuple #[.string (sB (cutM s).1), .string (sB (cutM s).2.1), .bool (cutM s).2.2])) := by
 refine Tr.of (l := [(0, .string (sB s)), (1, .string (sB [47]))]) Tryz.func140 rfl (n := 13) rfl (.cons rfl (.cons rfl .nil)) (fun w0 hro => ?_)
 refine go [9,10,1,1,1,7,8,9,10,0,0] ?_
 refine G.op rfl (G.cR rfl rfl rfl rfl Tryz.func159 rfl rfl may0 (scut_tr s (by omega)) ?_)
 refine go [2,7,2,7,2,7,1,1,1,7,8,11] ?_
 exact G.done0G rfl (Rv.tmp rfl (Rv.tmp rfl (Rv.tmp rfl Rv.nil))) Y6
set_option maxRecDepth 20000 in
set_option maxHeartbeats 4000000 in
theorem isNaN_tr (s : List UInt8) : Tr Tryz.prog 141 #[.string (sB s)] [] [] (T0 (.bool false)) := by
 refine Tr.of (l := [(0, .string (sB s))]) Tryz.func141 rfl (n := 6) rfl (.cons rfl .nil) (fun w0 hro => ?_)
 refine go [9,10,1,7,8,9,10,0,0,2,23,1,7,8,11] ?_
 exact G.done0G rfl (Rv.tmp rfl Rv.nil) (by simp; rfl)
def bytesC (a b : List UInt8) : Int := if Op.bytesLess a b then -1 else if !(Op.bytesLess a b || decide (a = b)) then 1 else 0
theorem bytes_lt {a b : List UInt8} (h : Op.bytesLess a b = true) : bytesC a b = -1 := if_pos h
theorem bytes_gt {a b : List UInt8} (h : Op.bytesLess a b = false) (h2 : (!(Op.bytesLess a b || decide (a = b))) = true) : bytesC a b = 1 := by
 unfold bytesC
 rw [if_neg (by rw [h]; decide), if_pos h2]
theorem bytes_eq {a b : List UInt8} (h : Op.bytesLess a b = false) (h2 : (!(Op.bytesLess a b || decide (a = b))) = false) : bytesC a b = 0 := by
 unfold bytesC
 rw [if_neg (by rw [h]; decide), if_neg (by rw [h2]; decide)]
set_option maxRecDepth 20000 in
set_option maxHeartbeats 4000000 in
theorem cmp_tr (a b : List UInt8) : Tr Tryz.prog 105 #[.string (sB a), .string (sB b)] [] [] (T0 (.int .i64 (bytesC a b))) := by
 refine Tr.of (l := [(0, .string (sB a)), (1, .string (sB b))]) Tryz.func105 rfl (n := 20) rfl (.cons rfl (.cons rfl .nil)) (fun w0 hro => ?_)
 refine go [9,10,1,7,8,9,10,0] ?_
 refine G.op rfl (G.cR rfl rfl rfl rfl Tryz.func141 rfl rfl may0 (isNaN_tr a) ?_)
 refine go [1,7,8,9,10,0] ?_
 refine G.op rfl (G.cR rfl rfl rfl rfl Tryz.func141 rfl rfl may0 (isNaN_tr b) ?_)
 refine go [1,7,8,9,9,10,0,7,8,60,1,13,8,9,9,10,0,7,8,60,1,13,8,9,9,10,0,0] ?_
 refine G.op rfl (G.val rfl rfl (pv_lssS rfl rfl) ?_)
 refine go [7,8] ?_
 refine G.cond rfl (fun h16 => ?_) (fun h16 => ?_)
 ·refine go [9,10,1,7,8,11,12] ?_
  exact G.done0G rfl (Rv.tmp rfl Rv.nil) (by rw [bytes_lt (by assumption)]; rfl)
 refine go [13,8,9,9,10,0,0] ?_
 refine G.op rfl (G.val rfl rfl (pv_gtrS rfl rfl) ?_)
 refine go [7,8] ?_
 refine G.cond rfl (fun h19 => ?_) (fun h19 => ?_)
 ·refine go [9,10,1,7,8,11,12] ?_
  exact G.done0G rfl (Rv.tmp rfl Rv.nil) (by rw [bytes_gt (by assumption) (by assumption)]; rfl)
 refine go [13,8,9,10,1,7,8,11] ?_
 exact G.done0G rfl (Rv.tmp rfl Rv.nil) (by rw [bytes_eq (by assumption) (by assumption)]; rfl)
set_option maxRecDepth 20000 in
set_option maxHeartbeats 4000000 in
theorem bytesC_tr (a b : List UInt8) : Tr Tryz.prog 109 #[.string (sB a), .string (sB b)] [] [] (T0 (.int .i64 (bytesC a b))) := by
 refine Tr.of (l := [(0, .string (sB a)), (1, .string (sB b))]) Tryz.func109 rfl (n := 11) rfl (.cons rfl (.cons rfl .nil)) (fun w0 hro => ?_)
 refine go [9,10,1,7,8,9,9,10,0,0] ?_
 refine G.op rfl (G.val rfl rfl (pv_lssS rfl rfl) ?_)
 refine go [7,8] ?_
 refine G.cond rfl (fun h7 => ?_) (fun h7 => ?_)
 ·refine go [9,10,1,7,8,11,12] ?_
  exact G.done0G rfl (Rv.tmp rfl Rv.nil) (by rw [bytes_lt (by assumption)]; rfl)
 refine go [13,8,9,9,10,0,0] ?_
 refine G.op rfl (G.val rfl rfl (pv_gtrS rfl rfl) ?_)
 refine go [7,8] ?_
 refine G.cond rfl (fun h10 => ?_) (fun h10 => ?_)
 ·refine go [9,10,1,7,8,11,12] ?_
  exact G.done0G rfl (Rv.tmp rfl Rv.nil) (by rw [bytes_gt (by assumption) (by assumption)]; rfl)
 refine go [13,8,9,10,1,7,8,11] ?_
 exact G.done0G rfl (Rv.tmp rfl Rv.nil) (by rw [bytes_eq (by assumption) (by assumption)]; rfl)
def lastM (s : List UInt8) : Nat → Nat
 | 0 => 0
 | k + 1 => if s[k]? = some 47 then k + 1 else lastM s k
theorem last_yes {s : List UInt8} {k : Nat} (h0 : 0 < k) (hk : k - 1 < s.length) (h : (s[k - 1].toNat : Int) = 47) : lastM s k = k := by
 obtain ⟨j, rfl⟩ : ∃ j, k = j + 1 := ⟨k - 1, by omega⟩
 have hj : j < s.length := hk
 have h' : (s[j].toNat : Int) = 47 := h
 have e : s[j] = 47 := UInt8.toNat_inj.1 (show s[j].toNat = 47 by omega)
 unfold lastM
 rw [if_pos (by rw [List.getElem?_eq_getElem hj, e])]
theorem last_no {s : List UInt8} {k : Nat} (h0 : 0 < k) (hk : k - 1 < s.length) (h : ¬ (s[k - 1].toNat : Int) = 47) : lastM s k = lastM s (k - 1) := by
 obtain ⟨j, rfl⟩ : ∃ j, k = j + 1 := ⟨k - 1, by omega⟩
 have hj : j < s.length := by omega
 rw [lastM.eq_2, if_neg]
 ·rfl
 rw [List.getElem?_eq_getElem hj]
 intro e
 injection e with e
 exact h (by show ((s[j].toNat : Nat) : Int) = 47; rw [e]; rfl)
set_option maxRecDepth 20000 in
set_option maxHeartbeats 4000000 in
theorem last0 (s : List UInt8) (hs : s.length ≤ 9223372036854775807) : Tr Tryz.prog 142 #[.string (sB s), .int .u8 47] [] [] (T0 (.int .i64 ((lastM s s.length : Int) - 1))) := by
 refine Tr.of (l := [(0, .string (sB s)), (1, .int .u8 47)]) Tryz.func142 rfl (n := 19) rfl (.cons rfl (.cons rfl .nil)) (fun w0 hro => ?_)
 refine go [9,10,1,7,8,9,9,10,0,2,21,2,19,1,7,8,15] ?_
 refine G.loopK (X := Nat) (ts := [0, 1]) (fun k => k ≤ s.length ∧ lastM s s.length = lastM s k) (fun k => [(5, .int .i64 ((k : Int) - 1))]) (fun k => []) (fun k => k) (x0 := s.length) (.cons rfl (.cons rfl .nil)) subT (.cons .nil) apT (by first | exact trivial | ((try dsimp only) <;> exact ⟨Nat.le_refl _, rfl⟩)) (.consE rfl veqT .nil) (fun k hJ => ?_)
 try dsimp only at hJ
 try dsimp only
 obtain ⟨hk1, hk2⟩ := hJ
 refine go [9,9,10,0,2,12,7,8] ?_
 refine G.condP rfl (fun h10 => ?_) (fun h10 => ?_)
 ·refine go [13,8,9,15,9,10,0,0] ?_
  refine G.op rfl (G.val rfl rfl (pv_ixS Tryz.underlying9 (k := k - 1) rfl rfl (by omega) (by omega)) ?_)
  refine go [0,2,13,7,8] ?_
  refine G.condP rfl (fun h17 => ?_) (fun h17 => ?_)
  ·refine go [9,10,0,1,7,8,11,17,12,12,17,12] ?_
   exact G.done0G rfl (Rv.tmp rfl Rv.nil) (by rw [hk2, last_yes (by omega) (by omega) (by assumption)]; rfl)
  refine go [13,16,8,10,0,2,19,1,7] ?_
  exact G.next (k - 1) (by first | exact trivial | ((try dsimp only) <;> exact ⟨by omega, by rw [hk2]; exact last_no (by omega) (by omega) (by assumption)⟩)) (by (try dsimp only); omega) (.consE rfl veqT (.cons rfl (.cons rfl .nil))) subT
 refine go [18,14,14,19,8,9,10,1,7,8,11] ?_
 exact G.done0G rfl (Rv.tmp rfl Rv.nil) (by rw [hk2, show k = 0 by omega]; rfl)
set_option maxRecDepth 20000 in
set_option maxHeartbeats 4000000 in
theorem last_tr (s : List UInt8) (hs : s.length ≤ 9223372036854775807) : Tr Tryz.prog 106 #[.string (sB s), .int .u8 47] [] [] (T0 (.int .i64 ((lastM s s.length : Int) - 1))) := by
 refine Tr.of (l := [(0, .string (sB s)), (1, .int .u8 47)]) Tryz.func106 rfl (n := 8) rfl (.cons rfl (.cons rfl .nil)) (fun w0 hro => ?_)
 refine go [9,10,1,7,8,9,10,0,0] ?_
 refine G.op rfl (G.cR rfl rfl rfl rfl Tryz.func142 rfl rfl may0 (last0 s hs) ?_)
 refine go [1,7,8,11] ?_
 exact G.done0G rfl (Rv.tmp rfl Rv.nil) Y6
def headP (c : UInt8) : List (List UInt8) → List (List UInt8)
 | [] => [[c]]
 | p :: r => (c :: p) :: r
def splitM : List UInt8 → List (List UInt8)
 | [] => [[]]
 | c :: s => if c = 47 then [] :: splitM s else headP c (splitM s)
theorem splitM_stroke (s : List UInt8) : splitM (47 :: s) = [] :: splitM s := if_pos rfl
theorem splitM_char {c : UInt8} (h : ¬ c = 47) (s : List UInt8) : splitM (c :: s) = headP c (splitM s) := if_neg h
theorem splitM_ne : ∀ s, splitM s ≠ []
 | [] => by unfold splitM; simp
 | c :: s => by
  unfold splitM
  split
  ·simp
  cases h : splitM s <;> simp [headP]
theorem splitM_cut : ∀ s, splitM s = if (cutM s).2.2 then (cutM s).1 :: splitM (cutM s).2.1 else [(cutM s).1]
 | [] => rfl
 | c :: s => by
  have ih := splitM_cut s
  by_cases hc : c = 47
  ·subst hc
   have e : at1 (47 :: s) = 0 := by simp [at1, List.findIdx_cons]
   have e2 : cutM (47 :: s) = ([], s, true) := by
    unfold cutM
    rw [e, if_pos (by simp)]
    rfl
   rw [e2, splitM_stroke]
   rfl
  have hb : (c == 47) = false := by simpa using hc
  have e : at1 (c :: s) = at1 s + 1 := by simp [at1, List.findIdx_cons, hb]
  have e2 : cutM (c :: s) = (c :: (cutM s).1, (cutM s).2.1, (cutM s).2.2) := by
   unfold cutM
   rw [e]
   by_cases h : at1 s < s.length
   ·rw [if_pos h, if_pos (show at1 s + 1 < (c :: s).length by simp; omega)]
    rfl
   rw [if_neg h, if_neg (show ¬ at1 s + 1 < (c :: s).length by simp; omega)]
  rw [e2, splitM_char hc, ih]
  cases h : (cutM s).2.2 <;> simp [headP]
def atL (ps : List (List UInt8)) (i : Nat) : Nat := ((ps.take i).map fun p => p.length + 1).sum
theorem atL_zero (ps : List (List UInt8)) : atL ps 0 = 0 := by simp [atL]
theorem atL_succ {ps : List (List UInt8)} {i : Nat} (h : i < ps.length) : atL ps (i + 1) = atL ps i + (ps[i].length + 1) := by
 unfold atL
 rw [List.take_succ_eq_append_getElem h, List.map_append, List.sum_append]
 simp
theorem splitM_sum : ∀ s, ((splitM s).map fun p => p.length + 1).sum = s.length + 1
 | [] => rfl
 | c :: s => by
  have ih := splitM_sum s
  unfold splitM
  split
  ·simp [ih]; omega
  cases h : splitM s with
  | nil => exact absurd h (splitM_ne s)
  | cons p r =>
   rw [h] at ih
   simp [headP] at ih ⊢
   omega
theorem sum_take_le (l : List Nat) (i : Nat) : (l.take i).sum ≤ l.sum := by
 have := congrArg List.sum (List.take_append_drop i l)
 rw [List.sum_append] at this
 omega
theorem atL_le (s : List UInt8) (i : Nat) : atL (splitM s) i ≤ s.length + 1 := by
 unfold atL
 rw [List.map_take, ← splitM_sum s]
 exact sum_take_le _ i
theorem part_le {s : List UInt8} {i : Nat} (h : i < (splitM s).length) : atL (splitM s) i + ((splitM s)[i].length + 1) ≤ s.length + 1 := by
 rw [← atL_succ h]
 exact atL_le s _
def getL (ps : List (List UInt8)) (i : Nat) : List UInt8 := ps.getD i []
theorem getL_eq {ps : List (List UInt8)} {i : Nat} (h : i < ps.length) : getL ps i = ps[i] := by
 unfold getL
 rw [List.getD_eq_getElem?_getD, List.getElem?_eq_getElem h]
 rfl
theorem cutM_len (t : List UInt8) : (cutM t).2.1.length ≤ t.length := by
 unfold cutM
 split
 ·simp
 simp
theorem cut_drop {ps : List (List UInt8)} {t : List UInt8} {i : Nat} (hi : i < ps.length) (h : splitM t = ps.drop i) : ∃ t', cutM t = (getL ps i, t', decide (i + 1 < ps.length)) ∧ t'.length ≤ t.length ∧ (i + 1 < ps.length → splitM t' = ps.drop (i + 1)) := by
 refine ⟨(cutM t).2.1, ?_, cutM_len t, ?_⟩
 ·rw [splitM_cut, List.drop_eq_getElem_cons hi] at h
  rw [getL_eq hi]
  cases hm : (cutM t).2.2 with
  | true =>
   rw [hm, if_pos rfl] at h
   injection h with h1 h2
   have : i + 1 < ps.length := by
    rcases Nat.lt_or_ge (i + 1) ps.length with h3 | h3
    ·exact h3
    rw [List.drop_eq_nil_of_le h3] at h2
    exact absurd h2 (splitM_ne _)
   rw [decide_eq_true this, ← h1, ← hm]
  | false =>
   rw [hm, if_neg (by simp)] at h
   injection h with h1 h2
   have : ¬ i + 1 < ps.length := fun h3 => by
    rw [List.drop_eq_getElem_cons h3] at h2
    cases h2
   rw [decide_eq_false this, ← h1, ← hm]
 intro h3
 rw [splitM_cut, List.drop_eq_getElem_cons hi] at h
 cases hm : (cutM t).2.2 with
 | true =>
  rw [hm, if_pos rfl] at h
  injection h
 | false =>
  rw [hm, if_neg (by simp)] at h
  injection h with h1 h2
  rw [List.drop_eq_getElem_cons h3] at h2
  cases h2
theorem cut_at (t p t' : List UInt8) (m : Bool) (ht : t.length ≤ 1000000000) (h : cutM t = (p, t', m)) : Tr Tryz.prog 140 #[.string (sB t), .string (sB [47])] [] [] (T0 (.tuple #[.string (sB p), .string (sB t'), .bool m])) := by
 have := cut_tr t ht
 rwa [h] at this
set_option maxRecDepth 20000 in
set_option maxHeartbeats 4000000 in
theorem steps_seq (s : List UInt8) (hs : s.length ≤ 1000000000) (b : Nat) : SeqT Tryz.prog 158 #[.pointer (some ⟨b, 0, none⟩)] [] [blk b 9 [.string (sB s)]] (splitM s).length (fun i => [.int .i64 (atL (splitM s) i : Int), .string (sB (getL (splitM s) i))]) := by
 intro lp X J C x0 h0 hY
 show Tr _ _ #[.func (.yield lp) #[] #[], .pointer (some ⟨b, 0, none⟩)] _ _ _
 refine Tr.ofI (l := [(0, .func (.yield lp) #[] #[]), (1, .pointer (some ⟨b, 0, none⟩))]) Tryz.func158 rfl (n := 23) rfl (.cons rfl (.cons rfl .nil)) (fun w0 hro => ?_)
 refine go [32,33,1,1,34,31,38] ?_
 have hpos : 0 < (splitM s).length := List.length_pos_iff.2 (splitM_ne s)
 refine I.loopK (X := Nat × (List UInt8) × X) (ts := [0, 1]) (fun st => st.1 ≤ (splitM s).length ∧ st.2.1.length ≤ s.length ∧ (st.1 < (splitM s).length → splitM st.2.1 = (splitM s).drop st.1) ∧ J true st.1 st.2.2) (fun st => [(3, .int .i64 (atL (splitM s) st.1 : Int)), (4, .bool (decide (st.1 < (splitM s).length)))]) (fun st => [blk b 9 [.string (sB st.2.1)], C true st.1 st.2.2]) (fun st => (splitM s).length - st.1) (x0 := (0, s, x0)) (.cons rfl (.cons rfl .nil)) subT (.cons (.cons .nil)) apT (by first | exact trivial | ((try dsimp only) <;> exact ⟨Nat.zero_le _, Nat.le_refl _, fun _ => rfl, h0⟩)) (.consE rfl (by first | rfl | exact int_eq (by rw [atL_zero]; rfl)) (.consE rfl (by rw [decide_eq_true hpos]) .nil)) (fun st hJ => ?_)
 obtain ⟨i, t, x⟩ := st
 try dsimp only at hJ
 try dsimp only
 obtain ⟨hi, ht, hsp, hJ0⟩ := hJ
 refine go [32,32,33,0,34,31] ?_
 refine I.condP rfl (fun h6 => ?_) (fun h6 => ?_)
 ·have hil : i < (splitM s).length := by assumption
  obtain ⟨t', hcut, ht', hsp'⟩ := cut_drop hil (hsp hil)
  refine go [39,31,38,32,33,1,34,31,32,33,2,4] ?_
  refine G.op rfl (G.cR rfl rfl rfl rfl Tryz.func140 rfl rfl may0 (cut_at t _ t' _ (by omega) hcut) ?_)
  refine go [0,2,7,2,7,2,7,1,21,1,34,31,32,32] ?_
  refine IL.region ?_
  refine go [60,12,60,12,60,12] ?_
  refine IL.op rfl (IL.yield rfl rfl rfl rfl rfl subT (hY i x hil hJ0) apT ?_)
  intro x16 hJ
  obtain ⟨v, y⟩ := x16
  try dsimp only at hJ
  try dsimp only
  have hJ2 := hJ
  refine go [60,21] ?_
  refine IL.nil ?_
  refine I.nThen ?_
  have hlen := part_le hil
  rw [← getL_eq hil] at hlen
  have hat := atL_succ hil
  rw [← getL_eq hil] at hat
  refine I.cond rfl (fun h17 => ?_) (fun h17 => ?_)
  ·obtain rfl : v = false := by cases v <;> simp_all
   refine go [37,35,36,35,36] ?_
   exact I.doneIr ((false, i + 1, y)) (by first | exact trivial | ((try dsimp only) <;> exact ⟨hJ2, hil, fun h => by cases h⟩)) rfl rfl subT
  obtain rfl : v = true := by cases v <;> simp_all
  refine go [39,31,33,0,0,2,21,2,6,2,6,1,34,40] ?_
  exact I.next ((i + 1, t', y)) (by first | exact trivial | ((try dsimp only) <;> exact ⟨by omega, by omega, hsp', hJ2⟩)) (by (try dsimp only); omega) (.consE rfl veqT (.consE rfl veqT (.cons rfl (.cons rfl .nil)))) subT
 refine go [42,41,41,43] ?_
 exact I.doneI ((true, i, x)) (by first | exact trivial | ((try dsimp only) <;> exact ⟨hJ0, hi, fun _ => by omega⟩)) rfl rfl subT
set_option maxRecDepth 20000 in
set_option maxHeartbeats 4000000 in
theorem steps_tr (s : List UInt8) : Tr Tryz.prog 138 #[.string (sB s)] [] [] (TX (fun _ : Nat => True) (fun b => .func (.func 158) #[] #[.pointer (some ⟨b, 0, none⟩)]) (fun b => [blk b 9 [.string (sB s)]])) := by
 refine Tr.of (l := [(0, .string (sB s))]) Tryz.func138 rfl (n := 4) rfl (.cons rfl .nil) (fun w0 hro => ?_)
 refine go [9,10,60,4] ?_
 intro b1
 refine go [1,7,8,9,10,2,26,1,7,8,11] ?_
 exact G.doneX1 (b1) trT rfl rfl rfl subT
theorem badR_of {c : UInt8} (h : ¬ c = 47) : badP c = badR c := by
 unfold badP badR
 have : c.toNat ≠ 47 := fun e => h (UInt8.toNat_inj.1 e)
 simp [this]
theorem findIdx_congr {p q : UInt8 → Bool} : ∀ {l : List UInt8}, (∀ x ∈ l, p x = q x) → l.findIdx p = l.findIdx q
 | [], _ => rfl
 | x :: l, h => by
  rw [List.findIdx_cons, List.findIdx_cons, h x (List.mem_cons_self ..), findIdx_congr fun y hy => h y (List.mem_cons_of_mem _ hy)]
theorem stepB_eq {s : List UInt8} (h : ∀ x ∈ s, ¬ x = 47) : stepB badP s = stepB badR s := by
 unfold stepB
 rw [findIdx_congr (p := badP) (q := badR) fun x hx => badR_of (h x hx)]
theorem step_at (s : List UInt8) (h : ∀ x ∈ s, ¬ x = 47) (hs : s.length ≤ 1000000000) : Tr Tryz.prog 139 #[.string (sB s)] [] [] (T0 (.tuple #[.int .i64 (stepB badR s).1, .int .i64 (stepB badR s).2])) := by
 have := step_tr s hs
 rwa [stepB_eq h] at this
theorem splitM_no : ∀ s, ∀ p ∈ splitM s, ∀ x ∈ p, ¬ x = 47
 | [], p, hp, x, hx => by
  have : p = [] := by simpa [splitM] using hp
  subst this
  cases hx
 | c :: s, p, hp, x, hx => by
  have ih := splitM_no s
  by_cases hc : c = 47
  ·subst hc
   rw [splitM_stroke] at hp
   rcases List.mem_cons.1 hp with rfl | hp
   ·cases hx
   exact ih p hp x hx
  rw [splitM_char hc] at hp
  cases h : splitM s with
  | nil => exact absurd h (splitM_ne s)
  | cons q r =>
   rw [h] at hp ih
   rcases List.mem_cons.1 hp with rfl | hp
   ·rcases List.mem_cons.1 hx with rfl | hx
    ·exact hc
    exact ih q (List.mem_cons_self ..) x hx
   exact ih p (List.mem_cons_of_mem _ hp) x hx
theorem stepB_pos (bad : UInt8 → Bool) (s : List UInt8) : 0 ≤ (stepB bad s).2 ∧ (stepB bad s).2 ≤ s.length + 60 ∧ 0 ≤ (stepB bad s).1 ∧ (stepB bad s).1 ≤ 4 := by
 unfold stepB
 have := @List.findIdx_le_length _ bad s
 split
 ·simp; omega
 split
 ·simp; omega
 split <;> simp <;> omega
def checkL : List (List UInt8) → Nat → Nat → Int × Int
 | [], _, _ => (0, 0)
 | p :: r, i, o => if i = 20 then (3, (o : Int)) else if (stepB badR p).1 = 0 then checkL r (i + 1) (o + (p.length + 1)) else ((stepB badR p).1, (o : Int) + (stepB badR p).2)
def checkM (s : List UInt8) : Int × Int := if s = [] then (2, 0) else if 200 < s.length then (3, 200) else checkL (splitM s) 0 0
theorem checkM_nil {s : List UInt8} (h : s = []) : checkM s = (2, 0) := if_pos h
theorem checkM_long {s : List UInt8} (h0 : ¬ s = []) (h : (200 : Int) < s.length) : checkM s = (3, 200) := by
 unfold checkM
 rw [if_neg h0, if_pos (by omega)]
theorem checkM_parts {s : List UInt8} (h0 : ¬ s = []) (h : ¬ (200 : Int) < s.length) : checkM s = checkL (splitM s) 0 0 := by
 unfold checkM
 rw [if_neg h0, if_neg (by omega)]
theorem checkL_many {ps : List (List UInt8)} {i : Nat} (hi : i < ps.length) (h : i = 20) : checkL (ps.drop i) i (atL ps i) = (3, (atL ps i : Int)) := by
 rw [List.drop_eq_getElem_cons hi]
 exact if_pos h
theorem checkL_next {ps : List (List UInt8)} {i : Nat} (hi : i < ps.length) (h : ¬ i = 20) (hs : (stepB badR (getL ps i)).1 = 0) : checkL (ps.drop i) i (atL ps i) = checkL (ps.drop (i + 1)) (i + 1) (atL ps (i + 1)) := by
 rw [getL_eq hi] at hs
 rw [List.drop_eq_getElem_cons hi, atL_succ hi]
 unfold checkL
 rw [if_neg h, if_pos hs]
 cases ps.drop (i + 1) <;> rfl
theorem checkL_bad {ps : List (List UInt8)} {i : Nat} (hi : i < ps.length) (h : ¬ i = 20) (hs : ¬ (stepB badR (getL ps i)).1 = 0) : checkL (ps.drop i) i (atL ps i) = ((stepB badR (getL ps i)).1, (atL ps i : Int) + (stepB badR (getL ps i)).2) := by
 rw [getL_eq hi] at hs ⊢
 rw [List.drop_eq_getElem_cons hi]
 unfold checkL
 rw [if_neg h, if_neg hs]
theorem okP_len {s : List UInt8} (h : (checkM s).1 = 0) : s.length ≤ 200 := by
 unfold checkM at h
 split at h
 ·cases h
 split at h
 ·cases h
 omega
set_option maxRecDepth 20000 in
set_option maxHeartbeats 4000000 in
theorem check_tr (s : List UInt8) (hs : s.length ≤ 9223372036854775807) : Tr Tryz.prog 101 #[.string (sB s)] [] [] (T0 (.agg #[.int .i64 (checkM s).1, .int .i64 (checkM s).2])) := by
 refine Tr.ofM (l := [(0, .string (sB s))]) Tryz.func101 rfl (n := 40) rfl (.cons rfl .nil) (fun w0 hro => ?_)
 refine go [32,33,60,8] ?_
 intro b2
 refine go [34,31,32,38,32,33,0,2,24,1,34,31] ?_
 refine I.condP rfl (fun h8 => ?_) (fun h8 => ?_)
 ·refine go [32,33,2,50,1,20,34,31,37,36,35] ?_
  exact I.doneT0 rfl (Rv.cellN (cs := [_, _]) rfl Tryz.underlying42 rfl kr Y20 Rv.nil) (by rw [checkM_nil (by assumption)]; rfl)
 refine go [32,33,0,2,21,2,10,1,34,31] ?_
 refine I.condP rfl (fun h12 => ?_) (fun h12 => ?_)
 ·refine go [32,33,2,50,1,20,34,31,37,36,35] ?_
  exact I.doneT0 rfl (Rv.cellN (cs := [_, _]) rfl Tryz.underlying42 rfl kr Y20 Rv.nil) (by rw [checkM_long (by assumption) (by assumption)]; rfl)
 refine go [39,40,31,32,33,60,13] ?_
 intro b3
 refine go [21,34,31,32,32,33,0] ?_
 refine G.op rfl (G.cS rfl rfl rfl rfl Tryz.func138 rfl rfl subT may0 (steps_tr _) apT ?_)
 intro x18 hJ
 try dsimp only at hJ
 try dsimp only
 refine go [34,31,38] ?_
 refine I.rangeK (X := Int × Int) (encs := fun i => (.int .i64 (atL (splitM s) i : Int), .string (sB (getL (splitM s) i)))) (ts := [2, 3]) (fun b i st => (b = true → st.1 = 0 ∧ st.2 = 0 ∧ i ≤ 20 ∧ checkL (splitM s) 0 0 = checkL ((splitM s).drop i) i (atL (splitM s) i)) ∧ (b = false → checkL (splitM s) 0 0 = (st.1, st.2))) (fun b i st => [blk b2 42 [.int .i64 st.1, .int .i64 st.2], blk b3 3 [.int .i64 (i : Int)]]) (fun st => .ret) (fun i => [(4, .int .i64 (atL (splitM s) i : Int)), (5, .string (sB (getL (splitM s) i)))]) (x0 := (0, 0)) rfl Tryz.func158 rfl rfl (steps_seq s (by omega) x18) (by show Sub _ [blk b2 42 [.int .i64 0, .int .i64 0], blk b3 3 [.int .i64 0], blk x18 9 [.string (sB s)]] _; repeat (first | exact Sub.nil | (apply Sub.cons; (repeat (first | with_reducible exact Sel.here | exact Sel.here | apply Sel.there))))) may0 (by first | exact trivial | (exact ⟨fun _ => ⟨rfl, rfl, by omega, rfl⟩, fun h => (by cases h)⟩)) rfl rfl (.cons rfl (.cons rfl .nil)) (.cons (.cons .nil)) ?_ ?_ ?_ ?_
 ·intro w1 S1 lp m1 i hi
  try dsimp only at hJ
  try dsimp only
  refine go [32,33,1,34,31,33,1,34] ?_
  exact I.asg (.consE rfl veqT (.consE rfl veqT (.cons rfl (.cons rfl .nil))))
 ·intro w1 S1 lp c i st hi hJ
  obtain ⟨x, y⟩ := st
  try dsimp only at hJ
  try dsimp only
  obtain ⟨hT, -⟩ := hJ
  obtain ⟨rfl, rfl, hi20, hck⟩ := hT rfl
  have hlen := part_le hi
  rw [← getL_eq hi] at hlen
  have hno : ∀ c ∈ getL (splitM s) i, ¬ c = 47 := by rw [getL_eq hi]; exact splitM_no s _ (List.getElem_mem hi)
  have hb := stepB_pos badR (getL (splitM s) i)
  refine go [38,32,33,2,4] ?_
  refine G.op rfl (G.val rfl rfl ((pv_add64 rfl rfl (by omega)).int (b := ((i + 1 : Nat) : Int)) (by omega)) ?_)
  refine go [21,34,31,32,32,33,2,4,2,10,34,31] ?_
  refine I.condP rfl (fun h24 => ?_) (fun h24 => ?_)
  ·refine go [32,33,0,2,50,1,20,34,31,37,35,36] ?_
   exact I.rR ((3, (atL (splitM s) i : Int))) (by first | exact trivial | ((try dsimp only) <;> exact ⟨fun h => (by cases h), fun _ => hck.trans (checkL_many hi (by omega))⟩)) rfl subT
  refine go [39,31,32,33,0] ?_
  refine G.op rfl (G.cR rfl rfl rfl rfl Tryz.func139 rfl rfl may0 (step_at (getL (splitM s) i) hno (by omega)) ?_)
  refine go [0,2,7,2,7,1,1,34,31,32,33,0,2,14,34,31] ?_
  refine I.condP rfl (fun h33 => ?_) (fun h33 => ?_)
  ·refine go [32,33,0,0,0,2,6,2,50,1,20,34,31,37,36] ?_
   exact I.rR (((stepB badR (getL (splitM s) i)).1, (atL (splitM s) i : Int) + (stepB badR (getL (splitM s) i)).2)) (by first | exact trivial | ((try dsimp only) <;> exact ⟨fun h => (by cases h), fun _ => hck.trans (checkL_bad hi (by omega) (by omega))⟩)) rfl subT
  refine go [39,40] ?_
  exact I.rN ((0, 0)) (by first | exact trivial | ((try dsimp only) <;> exact ⟨fun _ => ⟨rfl, rfl, by omega, hck.trans (checkL_next hi (by omega) (by omega))⟩, fun h => (by cases h)⟩)) subT
 ·intro D st hJ
  obtain ⟨x, y⟩ := st
  try dsimp only at hJ
  try dsimp only
  obtain ⟨hT, -⟩ := hJ
  obtain ⟨rfl, rfl, hi20, hck⟩ := hT rfl
  refine go [40,31,32,33,2,50,1,20,34,31,37] ?_
  exact I.doneT rfl Y23 (Rv.cellN (cs := [_, _]) rfl Tryz.underlying42 rfl kr Y20 Rv.nil) (by rw [checkM_parts (by assumption) (by assumption), hck, List.drop_length]; rfl)
 intro D i st hle hJ
 obtain ⟨x, y⟩ := st
 try dsimp only at hJ
 try dsimp only
 obtain ⟨-, hF⟩ := hJ
 have hxy := hF rfl
 refine go [37,36,35] ?_
 exact I.doneT rfl Y23 (Rv.cellN (cs := [_, _]) rfl Tryz.underlying42 rfl kr Y20 Rv.nil) (by rw [checkM_parts (by assumption) (by assumption), hxy]; rfl)
set_option maxRecDepth 20000 in
set_option maxHeartbeats 4000000 in
theorem valid_tr (s : List UInt8) (hs : s.length ≤ 9223372036854775807) : Tr Tryz.prog 103 #[.string (sB s)] [] [] (T0 (.bool (decide ((checkM s).1 = 0)))) := by
 refine Tr.of (l := [(0, .string (sB s))]) Tryz.func103 rfl (n := 7) rfl (.cons rfl .nil) (fun w0 hro => ?_)
 refine go [9,10,1,7,8,9,10,0] ?_
 refine G.op rfl (G.cR rfl rfl rfl rfl Tryz.func101 rfl rfl may0 (check_tr _ (by omega)) ?_)
 refine go [2,50,5,2,13,1,7,8,11] ?_
 exact G.done0G rfl (Rv.tmp rfl Rv.nil) Y6
theorem splitM_snoc47 : ∀ s, splitM (s ++ [47]) = splitM s ++ [[]]
 | [] => rfl
 | c :: s => by
  have ih := splitM_snoc47 s
  rw [List.cons_append]
  by_cases hc : c = 47
  ·subst hc
   rw [splitM_stroke, splitM_stroke, ih]
   rfl
  rw [splitM_char hc, splitM_char hc, ih]
  cases h : splitM s with
  | nil => exact absurd h (splitM_ne s)
  | cons p r => rfl
theorem splitM_snoc {c : UInt8} (hc : ¬ c = 47) : ∀ (s : List UInt8) (ini : List (List UInt8)) (p : List UInt8), splitM s = ini ++ [p] → splitM (s ++ [c]) = ini ++ [p ++ [c]]
 | [], ini, p, h => by
  have h : [[]] = ini ++ [p] := h
  have h1 : ini = [] := by
   cases ini with
   | nil => rfl
   | cons a l => simp at h
  subst h1
  have h2 : p = [] := by simpa using h.symm
  subst h2
  show splitM [c] = _
  rw [splitM_char hc]
  rfl
 | d :: s, ini, p, h => by
  rw [List.cons_append]
  by_cases hd : d = 47
  ·subst hd
   rw [splitM_stroke] at h ⊢
   cases ini with
   | nil =>
    have h2 : splitM s = [] := by
     have := congrArg List.tail h
     simpa using this
    exact absurd h2 (splitM_ne s)
   | cons a l =>
    rw [List.cons_append] at h
    injection h with h1 h2
    rw [splitM_snoc hc s l p h2, ← h1]
    rfl
  rw [splitM_char hd] at h ⊢
  obtain ⟨i2, q, hq⟩ : ∃ i2 q, splitM s = i2 ++ [q] := ⟨_, _, (List.dropLast_concat_getLast (splitM_ne s)).symm⟩
  rw [splitM_snoc hc s i2 q hq]
  rw [hq] at h
  cases i2 with
  | nil =>
   have h : [d :: q] = ini ++ [p] := h
   have h1 : ini = [] := by
    cases ini with
    | nil => rfl
    | cons a l => simp at h
   subst h1
   have h2 : p = d :: q := by simpa using h.symm
   subst h2
   rfl
  | cons a l =>
   have h : (d :: a) :: (l ++ [q]) = ini ++ [p] := h
   have e : ((d :: a) :: l) ++ [q] = ini ++ [p] := h
   have e1 := List.append_inj' e rfl
   have e2 : q = p := by simpa using e1.2
   rw [← e1.1, ← e2]
   rfl
theorem splitM_last (s : List UInt8) : ∃ ini p, splitM s = ini ++ [p] := ⟨_, _, (List.dropLast_concat_getLast (splitM_ne s)).symm⟩
theorem splitM_len (s : List UInt8) : (splitM s).length ≤ s.length + 1 := by
 have h := splitM_sum s
 have : ∀ l : List (List UInt8), l.length ≤ (l.map fun p => p.length + 1).sum := by
  intro l
  induction l with
  | nil => simp
  | cons a l ih => simp; omega
 have := this (splitM s)
 omega
theorem mem_len {s p : List UInt8} (h : p ∈ splitM s) : p.length ≤ s.length := by
 have h1 := splitM_sum s
 have : ∀ l : List (List UInt8), p ∈ l → p.length + 1 ≤ (l.map fun p => p.length + 1).sum := by
  intro l
  induction l with
  | nil => intro h; cases h
  | cons a l ih =>
   intro h
   rcases List.mem_cons.1 h with rfl | h
   ·simp
   have := ih h
   simp; omega
 have := this _ h
 omega
theorem Tryz.infoStr' : (Tryz.prog.info? 9).map (fun i => (i.zero.map (·.cells.size), i.size, i.bytes)) = some (some 1, 1, 16) := by kernel_rfl
theorem own_str {e : TypeId} {v : Value} {k : Nat} {ps qs : List (List UInt8)} (h : qs = ps) (hk : k = ps.length) : own e 1 v k (ps.map vStr) = own e 1 v qs.length (qs.map vStr) := by
 subst h
 rw [hk]
theorem own_str1 {e : TypeId} {v : Value} {ps qs : List (List UInt8)} {p : List UInt8} (h : qs = ps ++ [p]) : own e 1 v (ps.length + 1) (ps.map vStr ++ [vStr p]) = own e 1 v qs.length (qs.map vStr) := by
 subst h
 simp
theorem rdLast {ini : List (List UInt8)} {p : List UInt8} {sp : List Value} : ((ini ++ [p]).map vStr ++ sp)[0 + ini.length * 1]? = some (.string (sB p)) := by
 rw [Nat.zero_add, Nat.mul_one, List.map_append, List.append_assoc, List.getElem?_append_right (by simp)]
 simp
 rfl
theorem setLast {ini : List (List UInt8)} {p q : List UInt8} {sp : List Value} : ((ini ++ [p]).map vStr ++ sp).set (0 + ini.length * 1) (.string (sB q)) = (ini ++ [q]).map vStr ++ sp := by
 rw [Nat.zero_add, Nat.mul_one, List.map_append, List.append_assoc, List.set_append_right _ _ (by simp), List.map_append, List.append_assoc]
 simp
 rfl
theorem take_succ_app {s : List UInt8} {k : Nat} (h : k < s.length) : s.take (k + 1) = s.take k ++ [s[k]] := List.take_succ_eq_append_getElem h
theorem take_drop_one {s : List UInt8} {k : Nat} (h : k < s.length) : (s.take (k + 1)).drop k = [s[k]] := by
 rw [take_succ_app h, List.drop_append_of_le_length (by simp; omega), List.drop_of_length_le (by simp; omega), List.nil_append]
theorem split47 {s : List UInt8} {k : Nat} (hk : k < s.length) (h : (s[k].toNat : Int) = 47) : splitM (s.take (k + 1)) = splitM (s.take k) ++ [[]] := by
 have e : s[k] = 47 := UInt8.toNat_inj.1 (show s[k].toNat = 47 by omega)
 rw [take_succ_app hk, e, splitM_snoc47]
theorem splitC {s : List UInt8} {k : Nat} {ini : List (List UInt8)} {p : List UInt8} (hk : k < s.length) (h : ¬ (s[k].toNat : Int) = 47) (hi : splitM (s.take k) = ini ++ [p]) : splitM (s.take (k + 1)) = ini ++ [p ++ [s[k]]] := by
 have e : ¬ s[k] = 47 := fun e => h (by rw [e]; rfl)
 rw [take_succ_app hk]
 exact splitM_snoc e _ _ _ hi
set_option maxRecDepth 20000 in
set_option maxHeartbeats 4000000 in
theorem split_tr (s : List UInt8) (hs : s.length ≤ 1000000) : Tr Tryz.prog 110 #[.string (sB s)] [] [] (TX (fun _ : Value => True) (fun v => v) (fun v => [own 9 1 v (splitM s).length ((splitM s).map vStr)])) := by
 refine Tr.of (l := [(0, .string (sB s))]) Tryz.func110 rfl (n := 37) rfl (.cons rfl .nil) (fun w0 hro => ?_)
 refine go [9,10,1,7,8,9,10,60,19] ?_
 intro b5
 refine go [1,7,8,9,9,10,1,7,8,15] ?_
 refine G.ownBlk (b := b5) (k := 1) (sz := 1) selT rfl (by omega) ?_
 refine G.loopK (X := Nat × Value) (ts := [0, 2]) (fun st => st.1 ≤ s.length) (fun st => [(4, .int .i64 (st.1 : Int)), (3, st.2)]) (fun st => [own 9 1 st.2 (splitM (s.take st.1)).length ((splitM (s.take st.1)).map vStr)]) (fun st => s.length - st.1) (x0 := (0, .slice (some ⟨b5, 0, none⟩) 1 1)) (.cons rfl (.cons rfl .nil)) (by show Sub _ [own 9 1 (.slice (some ⟨b5, 0, none⟩) 1 1) 1 [vStr []]] _; repeat (first | exact Sub.nil | (apply Sub.cons; (repeat (first | with_reducible exact Sel.here | exact Sel.here | apply Sel.there))))) (.cons (.cons .nil)) apT Y25 (.consE rfl veqT (.consE rfl veqT .nil)) (fun st hJ => ?_)
 obtain ⟨k, v⟩ := st
 try dsimp only at hJ
 try dsimp only
 have hkk := hJ
 have hle := splitM_len (s.take k)
 have htk : (s.take k).length ≤ k := by simp; omega
 refine go [9,9,10,0,0,2,21,2,9,7,8] ?_
 refine G.condP rfl (fun h9 => ?_) (fun h9 => ?_)
 ·refine go [13,8,9,15,9,9,10,0,0,2,22,2,13,7,8] ?_
  have hkl : k < s.length := by omega
  refine G.condP rfl (fun h15 => ?_) (fun h15 => ?_)
  ·refine go [9,10,0,60,19] ?_
   intro b17
   refine G.op rfl (G.append (k := (splitM (s.take k)).length) (j := 1) (cs := (splitM (s.take k)).map vStr) (news := [vStr []]) (b := b17) (off := 0) rfl Tryz.underlying142 Tryz.infoStr' rfl rfl rfl selT (fun _ => rfl) (fun h => by cases h) rfl (blk_news (k := 1) selT rfl) (by intro u hu; obtain rfl : u = _ := (by simpa using hu); rfl) (by omega) (by omega) ?_)
   intro vn
   rw [own_str1 (split47 hkl (by assumption))]
   refine go [1,7,8,18,14,19,8,10,0,2,6,1,7] ?_
   exact G.next ((k + 1, vn)) Y17 (by (try dsimp only); omega) (.consE rfl veqT (.consE rfl veqT (.cons rfl (.cons rfl .nil)))) subT
  refine go [13,8] ?_
  obtain ⟨ini, p, hip⟩ := splitM_last (s.take k)
  have hpl : p.length ≤ (s.take k).length := mem_len (by rw [hip]; simp)
  rw [hip] at hle
  rw [hip]
  have hn : (ini ++ [p]).length = ini.length + 1 := by simp
  refine G.ownTo selT (by omega) (fun g cap sp hv hkc hmx hl hlen => ?_)
  subst hv
  rw [hn] at hkc ⊢
  refine G.drawT (nn := 18) (p := [blk g _ _]) (rem := 262143) [0, 0, 2, 4, 0, 0, 32, 64, 144, 256, 0, 0, 0, 4096, 11264, 16896, 65535, 131071] [0, 0, 2, 4, 0, 0, 32, 64, 144, 256, 0, 0, 0, 4096, 11264, 16896, 9, 98304] kr ⟨rfl, by kernel_rfl, by kernel_rfl⟩ subT kr (fun hT7 => ?_)
  refine go [22,0,262142,0,22,1,262140,0,22,2,262136,5,22,3,262128,19,22,4,262112,0,22,5,262080,0,22,6,262016,5,22,7,261888,19] ?_
  refine G.takeT hT7 (i := 8) (rem' := 261632) rfl rfl rfl kr (fun _ _ _ h => h) rfl (pv_ixSl (sz := 1) (k := ini.length) Tryz.underlying142 kr rfl rfl (fun _ => rfl) (by omega) (by omega)) subT ?_
  refine go [22,10,260608,0,22,11,258560,0,22,12,254464,0,22,13,246272,6] ?_
  refine G.takeT hT7 (i := 14) (rem' := 229888) rfl rfl rfl kr (fun _ _ _ h => h) rfl ((pv_strLH (k := k) (k' := k + 1) Tryz.underlying9 rfl rfl rfl rfl (by omega) (by omega) (by omega)).cast (congrArg (fun x => Value.string (sB x)) (take_drop_one hkl))) subT ?_
  refine go [24,9,229376] ?_
  refine G.turnOp rfl rfl (G.val rfl rfl (pv_load (v := .string (sB p)) Tryz.underlying9 rfl rfl (blk_cell selD rdLast)) ?_)
  refine go [26] ?_
  refine G.takeT hT7 (i := 15) (rem' := 196608) rfl rfl rfl kr (fun _ _ _ h => h) rfl (pv_addS rfl rfl (by simp; omega)) subT ?_
  refine G.takeT hT7 (i := 16) (rem' := 131072) rfl rfl rfl kr (fun _ _ _ h => h) rfl (pv_ixSl (sz := 1) (k := ini.length) Tryz.underlying142 kr rfl rfl (fun _ => rfl) (by omega) (by omega)) subT ?_
  refine go [24,17,0] ?_
  refine G.turnOp rfl rfl (G.store kr rfl rfl rfl selT (by simp) ?_)
  rw [setLast]
  refine go [26,27,16,8,10,0,2,6,1,7] ?_
  refine G.ownOf (sz := 1) (k := ini.length + 1) (cs := (ini ++ [p ++ [s[k]]]).map vStr) (sp := sp) selT (by simp) hkc hmx (by simpa using hl) ?_
  rw [own_str (splitC hkl (by assumption) hip) (by simp)]
  exact G.next ((k + 1, .slice (some ⟨g, 0, none⟩) (ini.length + 1) cap)) Y17 (by (try dsimp only); omega) (.consE rfl veqT (.consE rfl veqT (.cons rfl (.cons rfl .nil)))) subT
 refine go [18,14,14,19,8,9,10,0,1,7,8,11] ?_
 obtain rfl : k = s.length := by omega
 rw [List.take_length]
 exact G.doneX1 (v) trT rfl rfl rfl subT
theorem splitM_pos (s : List UInt8) : 0 < (splitM s).length := List.length_pos_iff.2 (splitM_ne s)
set_option maxRecDepth 20000 in
set_option maxHeartbeats 4000000 in
theorem checkR_tr (s : List UInt8) (hs : s.length ≤ 9223372036854775807) : Tr Tryz.prog 143 #[.string (sB s)] [] [] (T0 (.agg #[.int .i64 (checkM s).1, .int .i64 (checkM s).2])) := by
 refine Tr.of (l := [(0, .string (sB s))]) Tryz.func143 rfl (n := 51) rfl (.cons rfl .nil) (fun w0 hro => ?_)
 refine go [9,10,60,8] ?_
 intro b2
 refine go [7,8,9,9,10,0,2,24,7,8] ?_
 refine G.condP rfl (fun h9 => ?_) (fun h9 => ?_)
 ·refine go [9,10,2,50,1,20,7,8,11,12] ?_
  exact G.done0G rfl (Rv.cellN (cs := [_, _]) rfl Tryz.underlying42 rfl kr Y20 Rv.nil) (by rw [checkM_nil (by assumption)]; rfl)
 refine go [13,8,9,9,10,0,2,21,2,10,7,8] ?_
 refine G.condP rfl (fun h13 => ?_) (fun h13 => ?_)
 ·refine go [9,10,2,50,1,20,7,8,11,12] ?_
  exact G.done0G rfl (Rv.cellN (cs := [_, _]) rfl Tryz.underlying42 rfl kr Y20 Rv.nil) (by rw [checkM_long (by assumption) (by assumption)]; rfl)
 refine go [13,8,9,10,0] ?_
 refine G.op rfl (G.cS rfl rfl rfl rfl Tryz.func110 rfl rfl subT may0 (split_tr s (by omega)) apT ?_)
 intro x16 hJ
 try dsimp only at hJ
 try dsimp only
 have hpos := splitM_pos s
 have hlen := splitM_len s
 refine G.ownTo selT hpos (fun g cap sp hv hkc hmx hl hlen2 => ?_)
 subst hv
 refine go [1,7,8,9,10,1,7,8,9,9,10,1,7,8,15] ?_
 refine G.loopK (X := Nat) (ts := [2, 3]) (fun i => i ≤ (splitM s).length ∧ (i ≤ 20 ∧ checkL (splitM s) 0 0 = checkL ((splitM s).drop i) i (atL (splitM s) i))) (fun i => [(5, .int .i64 (i : Int)), (4, .int .i64 (atL (splitM s) i : Int))]) (fun i => []) (fun i => (splitM s).length - i) (x0 := 0) (.cons rfl (.cons rfl .nil)) subT (.cons (.cons .nil)) apT (by first | exact trivial | ((try dsimp only) <;> exact ⟨Nat.zero_le _, ⟨by omega, rfl⟩⟩)) (.consE rfl veqT (.consE rfl veqT .nil)) (fun i hJ => ?_)
 try dsimp only at hJ
 try dsimp only
 obtain ⟨hki, hJ⟩ := hJ
 refine go [9,9,10,0,0,2,5,2,9,7,8] ?_
 refine G.condP rfl (fun h20 => ?_) (fun h20 => ?_)
 ·obtain ⟨hi20, hck⟩ := hJ
  have hil : i < (splitM s).length := by omega
  have hpl := part_le hil
  have hge := getL_eq hil
  have hb := stepB_pos badR (getL (splitM s) i)
  have hat := atL_succ hil
  rw [← hge] at hpl hat
  refine go [13,8,9,15,9,9,10,0,2,13,7,8] ?_
  refine G.condP rfl (fun h24 => ?_) (fun h24 => ?_)
  ·refine go [9,10,0,2,50,1,20,7,8,11,12,17,12,12,17,12] ?_
   exact G.done0G rfl (Rv.cellN (cs := [_, _]) rfl Tryz.underlying42 rfl kr Y20 Rv.nil) (by rw [checkM_parts (by assumption) (by assumption), hck, checkL_many hil (by omega)]; rfl)
  refine go [13,8,9,10,0,0,2,20,1] ?_
  refine G.op rfl (G.val rfl rfl (pv_load (v := .string (sB (getL (splitM s) i))) Tryz.underlying9 rfl rfl (blk_cell selD (by rw [hge]; exact rd1 hil))) ?_)
  refine G.op rfl (G.cR rfl rfl rfl rfl Tryz.func160 rfl rfl may0 (part_tr _ (by omega)) ?_)
  refine go [0,2,7,2,7,1,1,7,8,9,9,10,0,2,14,7,8] ?_
  refine G.condP rfl (fun h36 => ?_) (fun h36 => ?_)
  ·refine go [9,10,0,0,0,2,6,2,50,1,20,7,8,11,12,17,12,12,17,12] ?_
   exact G.done0G rfl (Rv.cellN (cs := [_, _]) rfl Tryz.underlying42 rfl kr Y20 Rv.nil) (by rw [checkM_parts (by assumption) (by assumption), hck, checkL_bad hil (by omega) (by omega)]; rfl)
  refine go [13,8,10,0,0,0,2,20,1] ?_
  refine G.op rfl (G.val rfl rfl (pv_load (v := .string (sB (getL (splitM s) i))) Tryz.underlying9 rfl rfl (blk_cell selD (by rw [hge]; exact rd1 hil))) ?_)
  refine go [2,21,2,6,2,6,1,7,16,8,10,0,2,6,1,7] ?_
  exact G.next (i + 1) (by first | exact trivial | ((try dsimp only) <;> exact ⟨by omega, ⟨by omega, hck.trans (checkL_next hil (by omega) (by omega))⟩⟩)) (by (try dsimp only); omega) (.consE rfl veqT (.consE rfl veqT (.cons rfl (.cons rfl .nil)))) subT
 refine go [18,14,14,19,8,9,10,2,50,1,20,7,8,11] ?_
 obtain ⟨hi20, hck⟩ := hJ
 obtain rfl : i = (splitM s).length := by omega
 exact G.done0G rfl (Rv.cellN (cs := [_, _]) rfl Tryz.underlying42 rfl kr Y20 Rv.nil) (by rw [checkM_parts (by assumption) (by assumption), hck, List.drop_length]; rfl)
set_option maxRecDepth 20000 in
set_option maxHeartbeats 4000000 in
theorem validR_tr (s : List UInt8) (hs : s.length ≤ 9223372036854775807) : Tr Tryz.prog 107 #[.string (sB s)] [] [] (T0 (.bool (decide ((checkM s).1 = 0)))) := by
 refine Tr.of (l := [(0, .string (sB s))]) Tryz.func107 rfl (n := 7) rfl (.cons rfl .nil) (fun w0 hro => ?_)
 refine go [9,10,1,7,8,9,10,0] ?_
 refine G.op rfl (G.cR rfl rfl rfl rfl Tryz.func143 rfl rfl may0 (checkR_tr s hs) ?_)
 refine go [2,50,5,2,13,1,7,8,11] ?_
 exact G.done0G rfl (Rv.tmp rfl Rv.nil) Y6
theorem retV1 (v : Value) : retV [v] = v := rfl
theorem retV2 (a b : Value) : retV [a, b] = .tuple #[a, b] := rfl
def okP (s : List UInt8) : Prop := (checkM s).1 = 0
instance (s : List UInt8) : Decidable (okP s) := inferInstanceAs (Decidable (_ = _))
def cmpL : List (List UInt8) → List (List UInt8) → Int
 | [], [] => 0
 | [], _ :: _ => -1
 | _ :: _, [] => 1
 | x :: xs, y :: ys => if x = y then cmpL xs ys else bytesC x y
theorem cut_split {t p t' : List UInt8} {m : Bool} (h : cutM t = (p, t', m)) : splitM t = if m then p :: splitM t' else [p] := by
 rw [splitM_cut, h]
theorem cutM_lt {t p t' : List UInt8} (h : cutM t = (p, t', true)) : t'.length < t.length ∧ p.length ≤ t.length := by
 unfold cutM at h
 split at h
 ·injection h with h1 h2
  injection h2 with h2 h3
  rw [← h1, ← h2]
  simp
  omega
 injection h with h1 h2
 injection h2 with h2 h3
 cases h3
theorem ord_ne {x y a b : List UInt8} {m k : Bool} {s t : List UInt8} (hs : cutM s = (x, a, m)) (ht : cutM t = (y, b, k)) (h : x ≠ y) : cmpL (splitM s) (splitM t) = bytesC x y := by
 rw [cut_split hs, cut_split ht]
 cases m <;> cases k <;> exact if_neg h
theorem ord_eq {x y a b : List UInt8} {m k : Bool} {s t : List UInt8} (hs : cutM s = (x, a, m)) (ht : cutM t = (y, b, k)) (h : ¬ x ≠ y) : cmpL (splitM s) (splitM t) = if m then (if k then cmpL (splitM a) (splitM b) else 1) else if k then -1 else 0 := by
 have h : x = y := Decidable.of_not_not h
 rw [cut_split hs, cut_split ht]
 have e : ∀ xs ys, cmpL (x :: xs) (y :: ys) = cmpL xs ys := fun xs ys => if_pos h
 cases m <;> cases k <;> simp [e]
 ·rfl
 ·cases h2 : splitM b with
  | nil => exact absurd h2 (splitM_ne b)
  | cons p r => rfl
 cases h2 : splitM a with
 | nil => exact absurd h2 (splitM_ne a)
 | cons p r => rfl
set_option maxRecDepth 20000 in
set_option maxHeartbeats 4000000 in
theorem order_all (k : Nat) : ∀ a b : List UInt8, a.length = k → a.length ≤ 1000000 → b.length ≤ 1000000 → Tr Tryz.prog 104 #[.string (sB a), .string (sB b)] [] [] (T0 (.int .i64 (cmpL (splitM a) (splitM b)))) := by
 induction k using Nat.strongRecOn
 rename_i k ih
 intro a b hk ha hb
 obtain ⟨x, a', m, hx⟩ : ∃ x a' m, cutM a = (x, a', m) := ⟨_, _, _, rfl⟩
 obtain ⟨y, b', j, hy⟩ : ∃ y b' j, cutM b = (y, b', j) := ⟨_, _, _, rfl⟩
 have hbl := cutM_len b
 rw [hy] at hbl
 have hbl : b'.length ≤ b.length := hbl
 refine Tr.of (l := [(0, .string (sB a)), (1, .string (sB b))]) Tryz.func104 rfl (n := 40) rfl (.cons rfl (.cons rfl .nil)) (fun w0 hro => ?_)
 refine go [9,10,1,7,8,9,10,0] ?_
 refine G.op rfl (G.cR rfl rfl rfl rfl Tryz.func140 rfl rfl may0 (cut_at a _ _ _ (by omega) hx) ?_)
 refine go [0,2,7,2,7,2,7,1,1,1,7,8,9,10,0] ?_
 refine G.op rfl (G.cR rfl rfl rfl rfl Tryz.func140 rfl rfl may0 (cut_at b _ _ _ (by omega) hy) ?_)
 refine go [0,2,7,2,7,2,7,1,1,1,7,8,9,15,9,10,0,0,2,23,1,7,8] ?_
 refine G.condP rfl (fun h21 => ?_) (fun h21 => ?_)
 ·refine go [9,10,0,0] ?_
  refine G.op rfl (G.cR rfl rfl rfl rfl Tryz.func105 rfl rfl may0 (cmp_tr _ _) ?_)
  refine go [1,7,8,11,17,12] ?_
  exact G.done0G rfl (Rv.tmp rfl Rv.nil) (by rw [ord_ne hx hy (by assumption)]; rfl)
 refine go [9,10,0,0] ?_
 refine G.part (t := 30) rfl (fun h30 => ?_) (fun h30 => ?_)
 ·refine go [3,0,2,2,1,7,8] ?_
  refine G.cond rfl (fun h28 => ?_) (fun h28 => ?_)
  ·refine go [9,10,0,0] ?_
   have hm : m = true := by simp_all
   subst hm
   have hal := (cutM_lt hx).1
   refine G.op rfl (G.cR rfl rfl rfl rfl Tryz.func104 rfl rfl may0 (ih a'.length (by have := (cutM_lt (by assumption)).1; omega) a' b' rfl (by have := (cutM_lt (by assumption)).1; omega) (by omega)) ?_)
   refine go [1,7,8,11,17,12] ?_
   exact G.done0G rfl (Rv.tmp rfl Rv.nil) Y45
  refine go [9,10,0,1,7,8] ?_
  refine G.cond rfl (fun h36 => ?_) (fun h36 => ?_)
  ·refine go [9,10,1,7,8,11,17,12] ?_
   exact G.done0G rfl (Rv.tmp rfl Rv.nil) Y45
  refine go [9,10,0,1,7,8] ?_
  refine G.cond rfl (fun h38 => ?_) (fun h38 => ?_)
  ·refine go [9,10,1,7,8,11,17,12] ?_
   exact G.done0G rfl (Rv.tmp rfl Rv.nil) Y45
  refine go [13,16,8,9,10,1,7,8,11] ?_
  exact G.done0G rfl (Rv.tmp rfl Rv.nil) Y45
 refine go [4,2,2,1,7,8,60,1,9,10,0,1,7,8] ?_
 refine G.cond rfl (fun h36 => ?_) (fun h36 => ?_)
 ·refine go [9,10,1,7,8,11,17,12] ?_
  exact G.done0G rfl (Rv.tmp rfl Rv.nil) Y45
 refine go [9,10,0,1,7,8] ?_
 refine G.cond rfl (fun h38 => ?_) (fun h38 => ?_)
 ·refine go [9,10,1,7,8,11,17,12] ?_
  exact G.done0G rfl (Rv.tmp rfl Rv.nil) Y45
 refine go [13,16,8,9,10,1,7,8,11] ?_
 exact G.done0G rfl (Rv.tmp rfl Rv.nil) Y45
theorem order_tr (a b : List UInt8) (ha : a.length ≤ 1000000) (hb : b.length ≤ 1000000) : Tr Tryz.prog 104 #[.string (sB a), .string (sB b)] [] [] (T0 (.int .i64 (cmpL (splitM a) (splitM b)))) := order_all _ a b rfl ha hb
def compareM (a b : List UInt8) : Int := if okP a then (if okP b then cmpL (splitM a) (splitM b) else 1) else if okP b then -1 else bytesC a b
def parentM (s : List UInt8) : List UInt8 × Bool := if 0 < lastM s s.length ∧ okP s then (s.take (lastM s s.length - 1), true) else ([], false)
theorem lastM_le (s : List UInt8) : ∀ k, lastM s k ≤ k
 | 0 => Nat.le_refl _
 | k + 1 => by
  unfold lastM
  split
  ·exact Nat.le_refl _
  have := lastM_le s k
  omega
set_option maxRecDepth 20000 in
set_option maxHeartbeats 4000000 in
theorem compare_tr (a b : List UInt8) (ha : a.length ≤ 9223372036854775807) (hb : b.length ≤ 9223372036854775807) : Tr Tryz.prog 71 #[.string (sB a), .string (sB b)] [] [] (T0 (.int .i64 (compareM a b))) := by
 refine Tr.of (l := [(0, .string (sB a)), (1, .string (sB b))]) Tryz.func71 rfl (n := 26) rfl (.cons rfl (.cons rfl .nil)) (fun w0 hro => ?_)
 refine go [9,10,1,7,8,9,10,0] ?_
 refine G.op rfl (G.cR rfl rfl rfl rfl Tryz.func103 rfl rfl may0 (valid_tr _ (by omega)) ?_)
 refine go [0] ?_
 refine G.op rfl (G.cR rfl rfl rfl rfl Tryz.func103 rfl rfl may0 (valid_tr _ (by omega)) ?_)
 refine go [1,1,7,8,9,15,9,10,0,0] ?_
 refine G.partP (t := 13) rfl (fun h13 => ?_) (fun h13 => ?_)
 ·refine go [3,0,2,2,1,7,8] ?_
  refine G.condP rfl (fun h11 => ?_) (fun h11 => ?_)
  ·refine go [9,10,0,0] ?_
   refine G.op rfl (G.cR rfl rfl rfl rfl Tryz.func104 rfl rfl may0 (order_tr _ _ (by have := okP_len (s := a) (by assumption); omega) (by have := okP_len (s := b) (by assumption); omega)) ?_)
   refine go [1,7,8,11,17,12] ?_
   exact G.done0G rfl (Rv.tmp rfl Rv.nil) Y47
  refine go [9,10,0,1,7,8] ?_
  refine G.condP rfl (fun h19 => ?_) (fun h19 => ?_)
  ·refine go [9,10,1,7,8,11,17,12] ?_
   exact G.done0G rfl (Rv.tmp rfl Rv.nil) Y47
  refine go [9,10,0,1,7,8] ?_
  refine G.condP rfl (fun h21 => ?_) (fun h21 => ?_)
  ·refine go [9,10,1,7,8,11,17,12] ?_
   exact G.done0G rfl (Rv.tmp rfl Rv.nil) Y47
  refine go [13,16,8,9,10,0,0] ?_
  refine G.op rfl (G.cR rfl rfl rfl rfl Tryz.func105 rfl rfl may0 (cmp_tr _ _) ?_)
  refine go [1,7,8,11] ?_
  exact G.done0G rfl (Rv.tmp rfl Rv.nil) Y47
 refine go [4,2,2,1,7,8,60,1,9,10,0,1,7,8] ?_
 refine G.condP rfl (fun h19 => ?_) (fun h19 => ?_)
 ·refine go [9,10,1,7,8,11,17,12] ?_
  exact G.done0G rfl (Rv.tmp rfl Rv.nil) Y47
 refine go [9,10,0,1,7,8] ?_
 refine G.condP rfl (fun h21 => ?_) (fun h21 => ?_)
 ·refine go [9,10,1,7,8,11,17,12] ?_
  exact G.done0G rfl (Rv.tmp rfl Rv.nil) Y47
 refine go [13,16,8,9,10,0,0] ?_
 refine G.op rfl (G.cR rfl rfl rfl rfl Tryz.func105 rfl rfl may0 (cmp_tr _ _) ?_)
 refine go [1,7,8,11] ?_
 exact G.done0G rfl (Rv.tmp rfl Rv.nil) Y47
set_option maxRecDepth 20000 in
set_option maxHeartbeats 4000000 in
theorem parent_tr (s : List UInt8) (hs : s.length ≤ 9223372036854775807) : Tr Tryz.prog 72 #[.string (sB s)] [] [] (T0 (.tuple #[.string (sB (parentM s).1), .bool (parentM s).2])) := by
 refine Tr.of (l := [(0, .string (sB s))]) Tryz.func72 rfl (n := 17) rfl (.cons rfl .nil) (fun w0 hro => ?_)
 have hlast := lastM_le s s.length
 refine go [9,10,1,1,7,8,9,10,0] ?_
 refine G.op rfl (G.cR rfl rfl rfl rfl Tryz.func106 rfl rfl may0 (last_tr _ (by omega)) ?_)
 refine go [1,7,8,9,9,10,0,2,9,0] ?_
 refine G.partP (t := 9) rfl (fun h9 => ?_) (fun h9 => ?_)
 ·refine go [4,4,4,2,2,7,8,60,5,9,10,1,1,7,8,11,12] ?_
  exact G.done0G rfl (Rv.tmp rfl (Rv.tmp rfl Rv.nil)) (by unfold parentM; rw [if_neg (show ¬ (0 < lastM s s.length ∧ okP s) from fun h => by first | omega | exact absurd h.2 (by assumption))]; rfl)
 refine go [3,0] ?_
 refine G.want rfl rfl rfl (G.cR rfl rfl rfl rfl Tryz.func103 rfl rfl may0 (valid_tr _ (by omega)) ?_)
 refine go [3,15,2,2,7,8] ?_
 refine G.condP rfl (fun h13 => ?_) (fun h13 => ?_)
 ·refine go [9,10,1,1,7,8,11,12] ?_
  exact G.done0G rfl (Rv.tmp rfl (Rv.tmp rfl Rv.nil)) (by unfold parentM; rw [if_neg (show ¬ (0 < lastM s s.length ∧ okP s) from fun h => by first | omega | exact absurd h.2 (by assumption))]; rfl)
 refine go [13,8,9,10,0,0] ?_
 refine G.op rfl (G.val rfl rfl (pv_strH (k := lastM s s.length - 1) Tryz.underlying9 rfl rfl (by omega) (by omega)) ?_)
 refine go [1,1,7,8,11] ?_
 exact G.done0G rfl (Rv.tmp rfl (Rv.tmp rfl Rv.nil)) (by unfold parentM; rw [if_pos (show 0 < lastM s s.length ∧ okP s from ⟨by omega, Decidable.of_not_not (by assumption)⟩)]; rfl)
theorem cmp_ne {xs ys : List (List UInt8)} {i : Nat} (hx : i < xs.length) (hy : i < ys.length) (h : xs[i] ≠ ys[i]) : cmpL (xs.drop i) (ys.drop i) = bytesC xs[i] ys[i] := by
 rw [List.drop_eq_getElem_cons hx, List.drop_eq_getElem_cons hy]
 exact if_neg h
theorem cmp_next {xs ys : List (List UInt8)} {i : Nat} (hx : i < xs.length) (hy : i < ys.length) (h : ¬ xs[i] ≠ ys[i]) : cmpL (xs.drop i) (ys.drop i) = cmpL (xs.drop (i + 1)) (ys.drop (i + 1)) := by
 rw [List.drop_eq_getElem_cons hx, List.drop_eq_getElem_cons hy]
 exact if_pos (Decidable.of_not_not h)
theorem cmp_end {xs ys : List (List UInt8)} {i : Nat} (hx : i ≤ xs.length) (hy : i ≤ ys.length) (h : ¬ (i < xs.length ∧ i < ys.length)) : cmpL (xs.drop i) (ys.drop i) = if xs.length < ys.length then -1 else if ys.length < xs.length then 1 else 0 := by
 rcases Nat.lt_or_ge i xs.length with h1 | h1
 ·have h2 : ys.length ≤ i := by omega
  rw [List.drop_of_length_le h2, if_neg (by omega), if_pos (by omega), List.drop_eq_getElem_cons h1]
  rfl
 rw [List.drop_of_length_le h1]
 rcases Nat.lt_or_ge i ys.length with h2 | h2
 ·rw [if_pos (by omega), List.drop_eq_getElem_cons h2]
  rfl
 rw [List.drop_of_length_le h2, if_neg (by omega), if_neg (by omega)]
 rfl
theorem split_one {p : List UInt8} (h : ∀ x ∈ p, ¬ x = 47) : splitM p = [p] := by
 induction p with
 | nil => rfl
 | cons c s ih =>
  rw [splitM_char (h c (List.mem_cons_self ..)), ih fun x hx => h x (List.mem_cons_of_mem _ hx)]
  rfl
theorem headP_len {c : UInt8} {ps : List (List UInt8)} (h : ps ≠ []) : (headP c ps).length = ps.length := by
 cases ps with
 | nil => exact absurd rfl h
 | cons p r => rfl
theorem split_one' : ∀ {p : List UInt8}, (splitM p).length = 1 → ∀ x ∈ p, ¬ x = 47
 | [], _, x, hx => by cases hx
 | c :: s, h, x, hx => by
  by_cases hc : c = 47
  ·subst hc
   rw [splitM_stroke] at h
   have := splitM_pos s
   have h : (splitM s).length + 1 = 1 := h
   omega
  rw [splitM_char hc, headP_len (splitM_ne s)] at h
  rcases List.mem_cons.1 hx with rfl | hx
  ·exact hc
  exact split_one' h x hx
set_option maxRecDepth 20000 in
set_option maxHeartbeats 4000000 in
theorem compareR_tr (a b : List UInt8) (ha : a.length ≤ 9223372036854775807) (hb : b.length ≤ 9223372036854775807) : Tr Tryz.prog 75 #[.string (sB a), .string (sB b)] [] [] (T0 (.int .i64 (compareM a b))) := by
 refine Tr.of (l := [(0, .string (sB a)), (1, .string (sB b))]) Tryz.func75 rfl (n := 71) rfl (.cons rfl (.cons rfl .nil)) (fun w0 hro => ?_)
 have hla := splitM_len a
 have hlb := splitM_len b
 refine go [9,10,1,7,8,9,10,0] ?_
 refine G.op rfl (G.cR rfl rfl rfl rfl Tryz.func107 rfl rfl may0 (validR_tr _ (by omega)) ?_)
 refine go [0] ?_
 refine G.op rfl (G.cR rfl rfl rfl rfl Tryz.func107 rfl rfl may0 (validR_tr _ (by omega)) ?_)
 refine go [1,1,7,8,9,9] ?_
 refine G.cutK (X := Unit) (ts := [0, 1, 4, 5, 6]) (p := []) (fun _ => True) (fun _ => [(19, .bool (decide (¬ (checkM a).1 = 0 ∧ ¬ (checkM b).1 = 0)))]) (fun _ => []) (.cons rfl (.cons rfl (.cons rfl (.cons rfl (.cons rfl .nil))))) subT (.cons .nil) apT ?_ ?_
 ·refine go [10,0,2,15,0] ?_
  refine G.partP (t := 16) rfl (fun h16 => ?_) (fun h16 => ?_)
  ·refine go [3,0,3,15,2,2,7] ?_
   exact G.meet (()) trT (.consE rfl (congrArg Value.bool (by simp_all)) (.cons rfl (.cons rfl (.cons rfl (.cons rfl (.cons rfl .nil)))))) subT
  refine go [4,4,2,2,7] ?_
  exact G.meet (()) trT (.consE rfl (congrArg Value.bool (by simp_all)) (.cons rfl (.cons rfl (.cons rfl (.cons rfl (.cons rfl .nil)))))) subT
 intro _ hJ
 try dsimp only at hJ
 try dsimp only
 refine G.condP rfl (fun h19 => ?_) (fun h19 => ?_)
 ·refine go [9,10,0,0] ?_
  refine G.op rfl (G.cR rfl rfl rfl rfl Tryz.func109 rfl rfl may0 (bytesC_tr _ _) ?_)
  refine go [1,7,8,11,12] ?_
  exact G.done0G rfl (Rv.tmp rfl Rv.nil) Y47
 refine go [13,8,9,9,10,0,2,15,7,8] ?_
 refine G.condP rfl (fun h24 => ?_) (fun h24 => ?_)
 ·refine go [9,10,1,7,8,11,12] ?_
  exact G.done0G rfl (Rv.tmp rfl Rv.nil) Y47
 refine go [13,8,9,9,10,0,2,15,7,8] ?_
 refine G.condP rfl (fun h26 => ?_) (fun h26 => ?_)
 ·refine go [9,10,1,7,8,11,12] ?_
  exact G.done0G rfl (Rv.tmp rfl Rv.nil) Y47
 refine go [13,8,9,10] ?_
 have hal := okP_len (s := a) (by first | assumption | exact Decidable.of_not_not (by assumption))
 have hbl := okP_len (s := b) (by first | assumption | exact Decidable.of_not_not (by assumption))
 refine go [0] ?_
 refine G.op rfl (G.cS rfl rfl rfl rfl Tryz.func110 rfl rfl subT may0 (split_tr _ (by omega)) apT ?_)
 intro x28 hJ
 try dsimp only at hJ
 try dsimp only
 refine G.ownTo selT (splitM_pos _) (fun g1 cap1 sp1 hv1 hkc1 hmx1 hl1 hlen1 => ?_)
 subst hv1
 refine go [0] ?_
 refine G.op rfl (G.cS rfl rfl rfl rfl Tryz.func110 rfl rfl subT may0 (split_tr _ (by omega)) apT ?_)
 intro x30 hJ
 try dsimp only at hJ
 try dsimp only
 refine G.ownTo selT (splitM_pos _) (fun g2 cap2 sp2 hv2 hkc2 hmx2 hl2 hlen2 => ?_)
 subst hv2
 refine go [1,1,7,8,9,9,10,1,7,8,15] ?_
 have hcmp : compareM a b = cmpL (splitM a) (splitM b) := (if_pos (show okP a from by first | assumption | exact Decidable.of_not_not (by assumption))).trans (if_pos (show okP b from by first | assumption | exact Decidable.of_not_not (by assumption)))
 refine G.loopK (X := Nat) (ts := [7, 8]) (fun i => i ≤ (splitM a).length ∧ i ≤ (splitM b).length ∧ cmpL (splitM a) (splitM b) = cmpL ((splitM a).drop i) ((splitM b).drop i)) (fun i => [(9, .int .i64 (i : Int))]) (fun i => []) (fun i => (splitM a).length - i) (x0 := 0) (.cons rfl (.cons rfl .nil)) subT (.cons .nil) apT (by first | exact trivial | ((try dsimp only) <;> exact ⟨Nat.zero_le _, Nat.zero_le _, rfl⟩)) (.consE rfl veqT .nil) (fun i hJ => ?_)
 try dsimp only at hJ
 try dsimp only
 refine go [9,9] ?_
 have hJ9 := hJ
 refine G.cutK (X := Unit) (ts := [7, 8, 9]) (p := []) (fun _ => True) (fun _ => [(40, .bool (decide (i < (splitM a).length ∧ i < (splitM b).length)))]) (fun _ => []) (.cons rfl (.cons rfl (.cons rfl .nil))) subT (.cons .nil) apT ?_ ?_
 ·refine go [10,0,0,2,5,2,9,0] ?_
  refine G.partP (t := 35) rfl (fun h35 => ?_) (fun h35 => ?_)
  ·refine go [3,0,3,0,3,5,3,9,2,2,7] ?_
   exact G.meet (()) trT (.consE rfl (congrArg Value.bool (by simp_all; try omega)) (.cons rfl (.cons rfl (.cons rfl .nil)))) subT
  refine go [4,4,4,4,2,2,7] ?_
  exact G.meet (()) trT (.consE rfl (congrArg Value.bool (by simp_all; try omega)) (.cons rfl (.cons rfl (.cons rfl .nil)))) subT
 intro _ hJ
 try dsimp only at hJ
 try dsimp only
 have hJ := hJ9
 refine G.condP rfl (fun h40 => ?_) (fun h40 => ?_)
 ·refine go [13,8,9,15,9] ?_
  refine G.drawT (nn := 9) (p := []) (rem := 511) [0, 0, 3, 4, 0, 0, 48, 64, 136] [0, 0, 3, 4, 0, 0, 48, 64, 136] kr ⟨rfl, by kernel_rfl, by kernel_rfl⟩ subT kr (fun hT12 => ?_)
  refine go [22,0,510,0,22,1,508,0,22,2,504,20,1,22,4,488,0,22,5,456,0,22,6,392,20,1] ?_
  refine G.takeT hT12 (i := 3) (rem' := 384) rfl rfl rfl kr (fun _ _ _ h => h) rfl (pv_load (v := .string (sB (splitM a)[i])) Tryz.underlying9 rfl rfl (blk_cell selD (by exact rd1 (by omega)))) subT ?_
  refine go [24,7,256] ?_
  refine G.turnOp rfl rfl (G.val rfl rfl (pv_load (v := .string (sB (splitM b)[i])) Tryz.underlying9 rfl rfl (blk_cell selD (by exact rd1 (by omega)))) ?_)
  refine go [26,22,8,0,23,27,8] ?_
  refine G.condP rfl (fun h51 => ?_) (fun h51 => ?_)
  ·refine G.seq ?_
   refine G.drawT (nn := 10) (p := []) (rem := 1023) [0, 0, 3, 4, 0, 0, 48, 64, 136, 511] [0, 0, 3, 4, 0, 0, 48, 64, 136, 256] kr ⟨rfl, by kernel_rfl, by kernel_rfl⟩ subT kr (fun hT13 => ?_)
   refine go [22,0,1022,0,22,1,1020,0,22,2,1016,20,1,22,4,1000,0,22,5,968,0,22,6,904,20,1] ?_
   refine G.takeT hT13 (i := 3) (rem' := 896) rfl rfl rfl kr (fun _ _ _ h => h) rfl (pv_load (v := .string (sB (splitM a)[i])) Tryz.underlying9 rfl rfl (blk_cell selD (by exact rd1 (by omega)))) subT ?_
   refine go [24,7,768] ?_
   refine G.turnOp rfl rfl (G.val rfl rfl (pv_load (v := .string (sB (splitM b)[i])) Tryz.underlying9 rfl rfl (blk_cell selD (by exact rd1 (by omega)))) ?_)
   refine go [26,24,8,512] ?_
   refine G.turnOp rfl rfl (G.cR rfl rfl rfl rfl Tryz.func109 rfl rfl may0 (bytesC_tr _ _) ?_)
   refine go [26,22,9,0,1,27,8,11,17,12,12,17,12] ?_
   obtain ⟨hi1, hi2, hck⟩ := hJ
   exact G.done0G rfl (Rv.tmp rfl Rv.nil) (by rw [hcmp, hck, cmp_ne (by omega) (by omega) (by assumption)]; rfl)
  refine go [13,16,8,10,0,2,6,1,7] ?_
  obtain ⟨hi1, hi2, hck⟩ := hJ
  exact G.next (i + 1) (by first | exact trivial | ((try dsimp only) <;> exact ⟨by omega, by omega, hck.trans (cmp_next (by omega) (by omega) (by assumption))⟩)) (by (try dsimp only); omega) (.consE rfl veqT (.cons rfl (.cons rfl .nil))) subT
 refine go [18,14,14,19,8,9,9,10,0,2,5,0,2,5,2,9,7,8] ?_
 refine G.condP rfl (fun h65 => ?_) (fun h65 => ?_)
 ·refine go [9,10,1,7,8,11,12] ?_
  obtain ⟨hi1, hi2, hck⟩ := hJ
  have hend := cmp_end (xs := splitM a) (ys := splitM b) (i := i) hi1 hi2 (by assumption)
  exact G.done0G rfl (Rv.tmp rfl Rv.nil) (by rw [hcmp, hck, hend, if_pos (by omega)]; rfl)
 refine go [13,8,9,9,10,0,2,5,0,2,5,2,10,7,8] ?_
 refine G.condP rfl (fun h70 => ?_) (fun h70 => ?_)
 ·refine go [9,10,1,7,8,11,12] ?_
  obtain ⟨hi1, hi2, hck⟩ := hJ
  have hend := cmp_end (xs := splitM a) (ys := splitM b) (i := i) hi1 hi2 (by assumption)
  exact G.done0G rfl (Rv.tmp rfl Rv.nil) (by rw [hcmp, hck, hend, if_neg (by omega), if_pos (by omega)]; rfl)
 refine go [13,8,9,10,1,7,8,11] ?_
 obtain ⟨hi1, hi2, hck⟩ := hJ
 have hend := cmp_end (xs := splitM a) (ys := splitM b) (i := i) hi1 hi2 (by assumption)
 exact G.done0G rfl (Rv.tmp rfl Rv.nil) (by rw [hcmp, hck, hend, if_neg (by omega), if_neg (by omega)]; rfl)
theorem bl_irrefl : ∀ a, Op.bytesLess a a = false
 | [] => rfl
 | a :: x => by
  have h := bl_irrefl x
  simp [Op.bytesLess, h]
theorem bl_cons {a b : UInt8} {x y : List UInt8} : Op.bytesLess (a :: x) (b :: y) = true ↔ a.toNat < b.toNat ∨ (a = b ∧ Op.bytesLess x y = true) := by
 simp only [Op.bytesLess, Bool.or_eq_true, decide_eq_true_eq, Bool.and_eq_true, beq_iff_eq, UInt8.lt_iff_toNat_lt]
theorem bl_asymm : ∀ a b, Op.bytesLess a b = true → Op.bytesLess b a = true → False
 | a, [], h, _ => by cases a <;> cases h
 | [], b :: y, _, h => by cases h
 | a :: x, b :: y, h, k => by
  rcases bl_cons.1 h with h | ⟨rfl, h2⟩
  ·rcases bl_cons.1 k with k | ⟨rfl, k⟩
   ·omega
   omega
  rcases bl_cons.1 k with k | ⟨_, k2⟩
  ·omega
  exact bl_asymm x y h2 k2
theorem bl_trans : ∀ a b c, Op.bytesLess a b = true → Op.bytesLess b c = true → Op.bytesLess a c = true
 | a, [], c, h, _ => by cases a <;> cases h
 | a, b :: y, [], _, k => by cases k
 | [], b :: y, c :: z, _, _ => rfl
 | a :: x, b :: y, c :: z, h, k => by
  refine bl_cons.2 ?_
  rcases bl_cons.1 h with h1 | ⟨rfl, h2⟩
  ·rcases bl_cons.1 k with k1 | ⟨rfl, k2⟩
   ·exact .inl (by omega)
   exact .inl h1
  rcases bl_cons.1 k with k1 | ⟨rfl, k2⟩
  ·exact .inl k1
  exact .inr ⟨rfl, bl_trans x y z h2 k2⟩
theorem bl_total : ∀ a b, Op.bytesLess a b = false → Op.bytesLess b a = false → a = b
 | [], [], _, _ => rfl
 | [], b :: y, h, _ => by cases h
 | a :: x, [], _, h => by cases h
 | a :: x, b :: y, h, k => by
  have h' : ¬ (a.toNat < b.toNat ∨ (a = b ∧ Op.bytesLess x y = true)) := fun e => by rw [bl_cons.2 e] at h; cases h
  have k' : ¬ (b.toNat < a.toNat ∨ (b = a ∧ Op.bytesLess y x = true)) := fun e => by rw [bl_cons.2 e] at k; cases k
  have e : a = b := UInt8.toNat_inj.1 (by omega)
  subst e
  have h2 : Op.bytesLess x y = false := by
   cases hh : Op.bytesLess x y with
   | false => rfl
   | true => exact absurd (.inr ⟨rfl, hh⟩) h'
  have k2 : Op.bytesLess y x = false := by
   cases hh : Op.bytesLess y x with
   | false => rfl
   | true => exact absurd (.inr ⟨rfl, hh⟩) k'
  rw [bl_total x y h2 k2]
structure OrdF {α : Type} (f : α → α → Int) : Prop where
 rng : ∀ a b, f a b = -1 ∨ f a b = 0 ∨ f a b = 1
 zero : ∀ a b, f a b = 0 ↔ a = b
 anti : ∀ a b, f b a = - f a b
 trans : ∀ a b c, f a b = -1 → f b c = -1 → f a c = -1
theorem bytesM_neg {a b : List UInt8} : bytesC a b = -1 ↔ Op.bytesLess a b = true := by
 unfold bytesC
 cases h : Op.bytesLess a b <;> simp
 by_cases e : a = b <;> simp [e]
theorem bytesM_eq {a b : List UInt8} (h : Op.bytesLess a b = false) : bytesC a b = if a = b then 0 else 1 := by
 unfold bytesC
 rw [h]
 by_cases e : a = b <;> simp [e]
theorem bytesM_ord : OrdF bytesC where
 rng a b := by
  cases h : Op.bytesLess a b with
  | true => exact .inl (bytesM_neg.2 h)
  | false =>
   rw [bytesM_eq h]
   by_cases e : a = b <;> simp [e]
 zero a b := by
  cases h : Op.bytesLess a b with
  | true =>
   rw [bytesM_neg.2 h]
   constructor
   ·intro h; cases h
   rintro rfl
   rw [bl_irrefl] at h
   cases h
  | false =>
   rw [bytesM_eq h]
   by_cases e : a = b <;> simp [e]
 anti a b := by
  cases h : Op.bytesLess a b with
  | true =>
   have h2 : Op.bytesLess b a = false := by
    cases k : Op.bytesLess b a with
    | false => rfl
    | true => exact (bl_asymm _ _ h k).elim
   have h3 : ¬ b = a := fun e => by
    subst e
    rw [bl_irrefl] at h
    cases h
   rw [bytesM_neg.2 h, bytesM_eq h2, if_neg h3]
   rfl
  | false =>
   cases k : Op.bytesLess b a with
   | true =>
    have h3 : ¬ a = b := fun e => by
     subst e
     rw [bl_irrefl] at k
     cases k
    rw [bytesM_neg.2 k, bytesM_eq h, if_neg h3]
   | false =>
    have := bl_total _ _ h k
    subst this
    rw [bytesM_eq h, if_pos rfl]
    rfl
 trans a b c h k := bytesM_neg.2 (bl_trans _ _ _ (bytesM_neg.1 h) (bytesM_neg.1 k))
theorem OrdF.self {α : Type} {f : α → α → Int} (h : OrdF f) (a : α) : f a a = 0 := (h.zero a a).2 rfl
theorem cmpL_cons_eq {x : List UInt8} {xs ys : List (List UInt8)} : cmpL (x :: xs) (x :: ys) = cmpL xs ys := if_pos rfl
theorem cmpL_cons_ne {x y : List UInt8} {xs ys : List (List UInt8)} (h : ¬ x = y) : cmpL (x :: xs) (y :: ys) = bytesC x y := if_neg h
theorem cmpL_rng : ∀ a b, cmpL a b = -1 ∨ cmpL a b = 0 ∨ cmpL a b = 1
 | [], [] => .inr (.inl rfl)
 | [], _ :: _ => .inl rfl
 | _ :: _, [] => .inr (.inr rfl)
 | x :: xs, y :: ys => by
  by_cases h : x = y
  ·subst h
   rw [cmpL_cons_eq]
   exact cmpL_rng xs ys
  rw [cmpL_cons_ne h]
  exact bytesM_ord.rng x y
theorem cmpL_zero : ∀ a b, cmpL a b = 0 ↔ a = b
 | [], [] => ⟨fun _ => rfl, fun _ => rfl⟩
 | [], _ :: _ => ⟨fun h => (by cases h), fun h => (by cases h)⟩
 | _ :: _, [] => ⟨fun h => (by cases h), fun h => (by cases h)⟩
 | x :: xs, y :: ys => by
  by_cases h : x = y
  ·subst h
   rw [cmpL_cons_eq, cmpL_zero xs ys]
   simp
  rw [cmpL_cons_ne h, bytesM_ord.zero]
  simp [h]
theorem cmpL_anti : ∀ a b, cmpL b a = - cmpL a b
 | [], [] => rfl
 | [], _ :: _ => rfl
 | _ :: _, [] => rfl
 | x :: xs, y :: ys => by
  by_cases h : x = y
  ·subst h
   rw [cmpL_cons_eq, cmpL_cons_eq]
   exact cmpL_anti xs ys
  rw [cmpL_cons_ne h, cmpL_cons_ne (fun e => h e.symm)]
  exact bytesM_ord.anti x y
theorem cmpL_trans : ∀ a b c, cmpL a b = -1 → cmpL b c = -1 → cmpL a c = -1
 | [], [], _, h, _ => by cases h
 | _ :: _, [], _, h, _ => by cases h
 | _, _ :: _, [], _, k => by cases k
 | [], _ :: _, _ :: _, _, _ => rfl
 | x :: xs, y :: ys, z :: zs, h, k => by
  by_cases e : x = y
  ·subst e
   rw [cmpL_cons_eq] at h
   by_cases e2 : x = z
   ·subst e2
    rw [cmpL_cons_eq] at k ⊢
    exact cmpL_trans xs ys zs h k
   rw [cmpL_cons_ne e2] at k ⊢
   exact k
  rw [cmpL_cons_ne e] at h
  by_cases e2 : y = z
  ·subst e2
   rw [cmpL_cons_ne e]
   exact h
  rw [cmpL_cons_ne e2] at k
  have h3 := bytesM_ord.trans x y z h k
  have e3 : ¬ x = z := fun e => by
   subst e
   rw [bytesM_ord.self] at h3
   cases h3
  rw [cmpL_cons_ne e3]
  exact h3
def joinL : List (List UInt8) → List UInt8
 | [] => []
 | [p] => p
 | p :: q :: r => p ++ 47 :: joinL (q :: r)
theorem joinL_cons {p : List UInt8} {r : List (List UInt8)} (h : r ≠ []) : joinL (p :: r) = p ++ 47 :: joinL r := by
 cases r with
 | nil => exact absurd rfl h
 | cons q r => rfl
theorem joinL_head {c : UInt8} {ps : List (List UInt8)} (h : ps ≠ []) : joinL (headP c ps) = c :: joinL ps := by
 cases ps with
 | nil => exact absurd rfl h
 | cons p r => cases r <;> rfl
theorem joinL_split : ∀ s, joinL (splitM s) = s
 | [] => rfl
 | c :: s => by
  have ih := joinL_split s
  by_cases h : c = 47
  ·subst h
   rw [splitM_stroke, joinL_cons (splitM_ne s), ih]
   rfl
  rw [splitM_char h, joinL_head (splitM_ne s), ih]
theorem split_inj {a b : List UInt8} (h : splitM a = splitM b) : a = b := by
 rw [← joinL_split a, h, joinL_split]
theorem split_app : ∀ d t, splitM (d ++ 47 :: t) = splitM d ++ splitM t
 | [], t => splitM_stroke t
 | c :: d, t => by
  have ih := split_app d t
  rw [List.cons_append]
  by_cases h : c = 47
  ·subst h
   rw [splitM_stroke, splitM_stroke, ih]
   rfl
  rw [splitM_char h, splitM_char h, ih]
  cases e : splitM d with
  | nil => exact absurd e (splitM_ne d)
  | cons p r => rfl
theorem joinL_app : ∀ {a b : List (List UInt8)}, a ≠ [] → b ≠ [] → joinL (a ++ b) = joinL a ++ 47 :: joinL b
 | [], _, h, _ => absurd rfl h
 | [p], b, _, hb => joinL_cons hb
 | p :: q :: r, b, _, hb => by
  have ih := joinL_app (a := q :: r) (b := b) (by simp) hb
  show p ++ 47 :: joinL (q :: r ++ b) = _
  rw [ih]
  show _ = (p ++ 47 :: joinL (q :: r)) ++ 47 :: joinL b
  simp
theorem last_at {a p : List UInt8} (hp : ∀ x ∈ p, ¬ x = 47) (ha : a = [] ∨ ∃ a', a = a' ++ [47]) : ∀ k, a.length ≤ k → k ≤ (a ++ p).length → lastM (a ++ p) k = a.length
 | 0, h, _ => by
  unfold lastM
  omega
 | k + 1, h, h2 => by
  rw [lastM.eq_2]
  by_cases e : a.length = k + 1
  ·rcases ha with rfl | ⟨a', rfl⟩
   ·simp at e
   have e2 : a'.length = k := by simpa using e
   rw [if_pos]
   ·exact e.symm
   rw [List.getElem?_append_left (by omega), List.getElem?_append_right (by omega), e2]
   simp
  have hk : k - a.length < p.length := by
   simp at h2
   omega
  rw [if_neg, last_at hp ha k (by omega) (by omega)]
  rw [List.getElem?_append_right (by omega), List.getElem?_eq_getElem hk]
  intro e3
  injection e3 with e3
  exact hp _ (List.getElem_mem hk) e3
theorem last_none {s p : List UInt8} (h : splitM s = [p]) : lastM s s.length = 0 ∧ s = p := by
 have e : s = p := by
  have := joinL_split s
  rw [h] at this
  exact this.symm
 subst e
 exact ⟨last_at (a := []) (split_one' (by rw [h]; rfl)) (.inl rfl) s.length (Nat.zero_le _) (Nat.le_refl _), rfl⟩
theorem last_some {s p : List UInt8} {ini : List (List UInt8)} (h : splitM s = ini ++ [p]) (hi : ini ≠ []) : s = joinL ini ++ 47 :: p ∧ lastM s s.length = (joinL ini).length + 1 ∧ splitM (joinL ini) = ini := by
 have e : s = joinL ini ++ 47 :: p := by
  have := joinL_app hi (b := [p]) (by simp)
  rw [← h, joinL_split] at this
  exact this
 have hno : ∀ x ∈ p, ¬ x = 47 := splitM_no s p (by rw [h]; simp)
 refine ⟨e, ?_, ?_⟩
 ·have := last_at (a := joinL ini ++ [47]) hno (.inr ⟨_, rfl⟩) (joinL ini ++ [47] ++ p).length (by simp) (Nat.le_refl _)
  have e2 : joinL ini ++ [47] ++ p = s := by rw [e]; simp
  rw [e2] at this
  rw [this]
  simp
 have e3 := split_app (joinL ini) p
 rw [← e, split_one hno, h] at e3
 exact (List.append_inj' e3 rfl).1.symm
theorem parent_some {s p : List UInt8} {ini : List (List UInt8)} (hs : okP s) (h : splitM s = ini ++ [p]) (hi : ini ≠ []) : parentM s = (joinL ini, true) := by
 obtain ⟨e, e2, _⟩ := last_some h hi
 unfold parentM
 rw [if_pos ⟨by omega, hs⟩, e2, Nat.add_sub_cancel]
 congr 1
 conv => lhs; rw [e]
 simp
theorem parent_none {s p : List UInt8} (h : splitM s = [p]) : parentM s = ([], false) := by
 unfold parentM
 rw [if_neg (fun h2 => by rw [(last_none h).1] at h2; omega)]
theorem parentM_len (s : List UInt8) : (parentM s).1.length ≤ s.length := by
 unfold parentM
 split
 ·simp
  omega
 simp
theorem compareM_ok {a b : List UInt8} (ha : okP a) (hb : okP b) : compareM a b = cmpL (splitM a) (splitM b) := (if_pos ha).trans (if_pos hb)
theorem compareM_l {a b : List UInt8} (ha : okP a) (hb : ¬ okP b) : compareM a b = 1 := (if_pos ha).trans (if_neg hb)
theorem compareM_r {a b : List UInt8} (ha : ¬ okP a) (hb : okP b) : compareM a b = -1 := (if_neg ha).trans (if_pos hb)
theorem compareM_no {a b : List UInt8} (ha : ¬ okP a) (hb : ¬ okP b) : compareM a b = bytesC a b := (if_neg ha).trans (if_neg hb)
theorem compareM_ord : OrdF compareM where
 rng a b := by
  by_cases ha : okP a <;> by_cases hb : okP b
  ·rw [compareM_ok ha hb]; exact cmpL_rng _ _
  ·rw [compareM_l ha hb]; simp
  ·rw [compareM_r ha hb]; simp
  rw [compareM_no ha hb]; exact bytesM_ord.rng _ _
 zero a b := by
  by_cases ha : okP a <;> by_cases hb : okP b
  ·rw [compareM_ok ha hb, cmpL_zero]
   exact ⟨split_inj, fun h => by rw [h]⟩
  ·rw [compareM_l ha hb]
   exact ⟨fun h => (by cases h), fun h => absurd (h ▸ ha) hb⟩
  ·rw [compareM_r ha hb]
   exact ⟨fun h => (by cases h), fun h => absurd (h ▸ hb) ha⟩
  rw [compareM_no ha hb]; exact bytesM_ord.zero _ _
 anti a b := by
  by_cases ha : okP a <;> by_cases hb : okP b
  ·rw [compareM_ok ha hb, compareM_ok hb ha]; exact cmpL_anti _ _
  ·rw [compareM_l ha hb, compareM_r hb ha]
  ·rw [compareM_r ha hb, compareM_l hb ha]; rfl
  rw [compareM_no ha hb, compareM_no hb ha]; exact bytesM_ord.anti _ _
 trans a b c h k := by
  by_cases ha : okP a
  ·by_cases hb : okP b
   ·rw [compareM_ok ha hb] at h
    by_cases hc : okP c
    ·rw [compareM_ok hb hc] at k
     rw [compareM_ok ha hc]
     exact cmpL_trans _ _ _ h k
    rw [compareM_l hb hc] at k
    cases k
   rw [compareM_l ha hb] at h
   cases h
  by_cases hc : okP c
  ·exact compareM_r ha hc
  by_cases hb : okP b
  ·rw [compareM_l hb hc] at k
   cases k
  rw [compareM_no ha hb] at h
  rw [compareM_no hb hc] at k
  rw [compareM_no ha hc]
  exact bytesM_ord.trans _ _ _ h k
def partsM (s : List UInt8) : List (List UInt8) := if okP s then splitM s else []
theorem parent_ref {s : List UInt8} (hs : okP s) (h : 1 < (splitM s).length) : parentM s = (s.take (s.length - ((splitM s)[(splitM s).length - 1]'(by omega)).length - 1), true) ∧ ((splitM s)[(splitM s).length - 1]'(by omega)).length + 1 ≤ s.length := by
 obtain ⟨ini, p, e⟩ := splitM_last s
 have hi : ini ≠ [] := fun h0 => by
  subst h0
  rw [e] at h
  simp at h
 have e2 : (splitM s)[(splitM s).length - 1]'(by omega) = p := by
  have : ∀ (l : List (List UInt8)) (h : l = ini ++ [p]) (hl : l.length - 1 < l.length), l[l.length - 1] = p := by
   rintro l rfl hl
   simp
  exact this _ e (by omega)
 obtain ⟨h1, h2, h3⟩ := last_some e hi
 have hlen : s.length = (joinL ini).length + 1 + p.length := by
  conv => lhs; rw [h1]
  simp
  omega
 refine ⟨?_, by rw [e2]; omega⟩
 rw [parent_some hs e hi]
 congr 1
 rw [e2, show s.length - p.length - 1 = (joinL ini).length by omega]
 conv => rhs; rw [h1]
 simp
theorem parent_one {s : List UInt8} (h : ¬ (1 < (partsM s).length)) : parentM s = ([], false) := by
 unfold partsM at h
 by_cases hs : okP s
 ·rw [if_pos hs] at h
  have := splitM_pos s
  obtain ⟨ini, p, e⟩ := splitM_last s
  have hi : ini = [] := by
   rw [e] at h
   simp at h
   exact h
  subst hi
  exact parent_none e
 unfold parentM
 rw [if_neg (fun h => hs h.2)]
set_option maxRecDepth 20000 in
set_option maxHeartbeats 4000000 in
theorem partsR_tr (s : List UInt8) (hs : s.length ≤ 9223372036854775807) : Tr Tryz.prog 144 #[.string (sB s)] [] [] (TX (fun _ : Value => True) (fun v => v) (fun v => [own 9 1 v (partsM s).length ((partsM s).map vStr)])) := by
 refine Tr.of (l := [(0, .string (sB s))]) Tryz.func144 rfl (n := 8) rfl (.cons rfl .nil) (fun w0 hro => ?_)
 refine go [9,10,1,7,8,9,9,10,0] ?_
 refine G.op rfl (G.cR rfl rfl rfl rfl Tryz.func107 rfl rfl may0 (validR_tr _ (by omega)) ?_)
 refine go [2,15,7,8] ?_
 refine G.condP rfl (fun h5 => ?_) (fun h5 => ?_)
 ·refine go [9,10,1,7,8,11,12] ?_
  rw [show partsM s = [] from if_neg (show ¬ okP s from by assumption)]
  refine G.ownNil 9 1 ?_
  exact G.doneX1 (.slice none 0 0) trT rfl rfl rfl subT
 refine go [13,8,9,10,0] ?_
 refine G.op rfl (G.cS rfl rfl rfl rfl Tryz.func110 rfl rfl subT may0 (split_tr s (by have := okP_len (s := s) (Decidable.of_not_not (by assumption)); omega)) apT ?_)
 intro x7 hJ
 try dsimp only at hJ
 try dsimp only
 refine go [1,7,8,11] ?_
 rw [show partsM s = splitM s from if_pos (show okP s from Decidable.of_not_not (by assumption))]
 exact G.doneX1 (x7) trT rfl rfl rfl subT
set_option maxRecDepth 20000 in
set_option maxHeartbeats 4000000 in
theorem parentR_tr (s : List UInt8) (hs : s.length ≤ 9223372036854775807) : Tr Tryz.prog 111 #[.string (sB s)] [] [] (T0 (.tuple #[.string (sB (parentM s).1), .bool (parentM s).2])) := by
 refine Tr.of (l := [(0, .string (sB s))]) Tryz.func111 rfl (n := 23) rfl (.cons rfl .nil) (fun w0 hro => ?_)
 refine go [9,10,1,1,7,8,9,10,0] ?_
 refine G.op rfl (G.cS rfl rfl rfl rfl Tryz.func144 rfl rfl subT may0 (partsR_tr _ (by omega)) apT ?_)
 intro x6 hJ
 try dsimp only at hJ
 try dsimp only
 refine G.ownOpen (v := x6) selT (fun ad cap hv hk hm => ?_)
 have hv' := hv
 refine go [1,7,8,9,9,10,0] ?_
 rw [hv]
 refine go [2,5,2,9,7,8] ?_
 refine G.condP rfl (fun h9 => ?_) (fun h9 => ?_)
 ·refine go [9,10,1,1,7,8,11,12] ?_
  exact G.done0G rfl (Rv.tmp rfl (Rv.tmp rfl Rv.nil)) (by rw [parent_one (by omega)]; rfl)
 have h1 : 1 < (partsM s).length := by omega
 have hok : okP s := Decidable.of_not_not fun h => by rw [show partsM s = [] from if_neg h] at h1; simp at h1
 have hps : partsM s = splitM s := if_pos hok
 rw [hps] at h1 hk ⊢
 rw [hps] at hv
 rw [← hv]
 obtain ⟨hpr, hpl⟩ := parent_ref hok h1
 have hlen := splitM_len s
 have hs2 := okP_len hok
 refine G.ownTo selT (by omega) (fun g cap2 sp hv2 hkc hmx hl hlen2 => ?_)
 rw [hv2]
 refine go [13,8,9,10,0,0,2,21,0,0,2,5,2,19] ?_
 refine G.op rfl (G.val rfl rfl (pv_ixSl (sz := 1) (k := (splitM s).length - 1) Tryz.underlying142 kr rfl rfl (fun _ => rfl) (by omega) (by omega)) ?_)
 refine G.op rfl (G.val rfl rfl (pv_load (v := .string (sB ((splitM s)[(splitM s).length - 1]'(by omega)))) Tryz.underlying9 rfl rfl (blk_cell selD (by exact rd1 (by omega)))) ?_)
 refine go [2,21,2,19,2,19] ?_
 refine G.op rfl (G.val rfl rfl (pv_strH (k := s.length - ((splitM s)[(splitM s).length - 1]'(by omega)).length - 1) Tryz.underlying9 rfl rfl (by omega) (by omega)) ?_)
 refine go [1,1,7,8,11] ?_
 exact G.done0G rfl (Rv.tmp rfl (Rv.tmp rfl Rv.nil)) (by rw [hpr]; rfl)
set_option maxRecDepth 100000
structure En where
 path : List UInt8
 kind : Int
 mode : Int
 data : List UInt8
 to : List UInt8
abbrev ET := En × Value
def evC (x : ET) : List Value := [vStr x.1.path, vInt x.1.kind, vInt x.1.mode, x.2, vStr x.1.to]
def EnOk (e : En) : Prop := I64 e.kind ∧ I64 e.mode ∧ e.path.length ≤ 140737488355328 ∧ e.data.length ≤ 140737488355328 ∧ e.to.length ≤ 140737488355328
theorem rangeAt_loc {w w' : World} {b o : Nat} {cs : List Value} (h : w'.heap[b]? = w.heap[b]?) (hw : w.rangeAt b o cs) : w'.rangeAt b o cs := fun j v hj => (World.cell?_of_block h).trans (hw j v hj)
def rEV : Rdr ET where
 sz := 5
 R := fun Ps w b o x => Ps b ∧ w.rangeAt b o (evC x) ∧ IsSl rByte Ps w x.2 x.1.data ∧ EnOk x.1
 loc := fun h ⟨h1, h2, h3, h4⟩ => ⟨h1, rangeAt_loc (h _ h1) h2, h3.loc h, h4⟩
 mono := fun h ⟨h1, h2, h3, h4⟩ => ⟨h _ h1, h2, h3.mono h, h4⟩
def flatT (xs : List ET) : List Value := xs.flatMap evC
theorem evC_length (x : ET) : (evC x).length = 5 := rfl
theorem flatT_length (xs : List ET) : (flatT xs).length = xs.length * 5 := flatMap_length evC 5 evC_length xs
theorem flatT_get {xs : List ET} {i j : Nat} (hi : i < xs.length) (hj : j < 5) : (flatT xs)[i * 5 + j]? = (evC xs[i])[j]? := flatMap_get evC 5 evC_length xs i j hi hj
theorem flatT_app (xs ys : List ET) : flatT (xs ++ ys) = flatT xs ++ flatT ys := List.flatMap_append ..
theorem flatT_one (x : ET) : flatT [x] = evC x := by simp [flatT]
def ens (xs : List ET) : List En := xs.map (·.1)
theorem ens_length (xs : List ET) : (ens xs).length = xs.length := List.length_map ..
theorem ens_get {xs : List ET} {i : Nat} (h : i < xs.length) : (ens xs)[i]'(by rw [ens_length]; exact h) = xs[i].1 := List.getElem_map ..
theorem flat_at {xs : List ET} {sp : List Value} {i : Nat} (h : i < xs.length) (j : Nat) (hj : j < 5) : (flatT xs ++ sp)[0 + i * 5 + j]? = (evC xs[i])[j]? := by
 rw [List.getElem?_append_left (by rw [flatT_length]; omega), show 0 + i * 5 + j = i * 5 + j by omega]
 exact flatT_get h hj
theorem flat_set {xs : List ET} {sp : List Value} {i : Nat} (h : i < xs.length) (d : Value) : (flatT xs ++ sp).set (0 + i * 5 + 3) d = flatT (xs.set i (xs[i].1, d)) ++ sp := by
 have hl : (flatT (xs.set i (xs[i].1, d))).length = xs.length * 5 := by rw [flatT_length, List.length_set]
 apply List.ext_getElem?
 intro j
 rcases Nat.lt_or_ge j (xs.length * 5) with hj | hj
 ·obtain ⟨q, r, rfl, hr, hq⟩ : ∃ q r, j = q * 5 + r ∧ r < 5 ∧ q < xs.length := ⟨j / 5, j % 5, by omega, by omega, by omega⟩
  rw [List.getElem?_append_left (by rw [hl]; omega), flatT_get (by rw [List.length_set]; exact hq) hr]
  by_cases hiq : i = q
  ·subst hiq
   rw [List.getElem_set_self]
   by_cases hr3 : r = 3
   ·subst hr3
    rw [show 0 + i * 5 + 3 = i * 5 + 3 by omega, List.getElem?_set_self (by rw [List.length_append, flatT_length]; omega)]
    rfl
   rw [List.getElem?_set_ne (by omega), List.getElem?_append_left (by rw [flatT_length]; omega), flatT_get hq hr]
   have : r = 0 ∨ r = 1 ∨ r = 2 ∨ r = 4 := by omega
   rcases this with rfl | rfl | rfl | rfl <;> rfl
  rw [List.getElem_set_ne hiq, List.getElem?_set_ne (by omega), List.getElem?_append_left (by rw [flatT_length]; omega), flatT_get hq hr]
 rw [List.getElem?_set_ne (by omega), List.getElem?_append_right (by rw [flatT_length]; omega), List.getElem?_append_right (by rw [hl]; omega), flatT_length, hl]
def ownT (e : TypeId) (v : Value) (xs : List ET) : Ck := own e 5 v xs.length (flatT xs)
def datC (e : TypeId) (xs : List ET) : Ck := star (xs.map fun x => ownB e x.2 x.1.data)
section
variable {P : Program} {n : Nat} {w0 : World} {S : Nat → Prop} {l : Fr} {m : List Ck} {Q : Exit → Act → World → Prop} {K : Act → World → Prop}
theorem Ro.openT {Ps : Nat → Prop} {v : Value} {xs : List ET} (h : Ro w0 S (slc rEV Ps v xs)) : ∃ ad cap b off, v = .slice ad xs.length cap ∧ xs.length ≤ cap ∧ cap ≤ 9223372036854775807 ∧ (ad = none → cap = 0) ∧ (0 < xs.length → ad = some ⟨b, off, none⟩) ∧ ∀ i (hi : i < xs.length), Ro w0 S (elc rEV Ps b (off + i * 5) xs[i]) := h.open
theorem Ro.evRng {Ps : Nat → Prop} {b o : Nat} {x : ET} (h : Ro w0 S (elc rEV Ps b o x)) : Ro w0 S (rng b o [.string (sB x.1.path), .int .i64 x.1.kind, .int .i64 x.1.mode, x.2, .string (sB x.1.to)]) :=
 ⟨h.1.2.1, fun k hk => h.2 k (by obtain rfl : k = b := hk; exact h.1.1)⟩
theorem Ro.evDat {Ps : Nat → Prop} {b o : Nat} {x : ET} (h : Ro w0 S (elc rEV Ps b o x)) : Ro w0 S (slc rByte Ps x.2 x.1.data) := ⟨h.1.2.2.1, h.2⟩
theorem Ro.evOk {Ps : Nat → Prop} {b o : Nat} {x : ET} (h : Ro w0 S (elc rEV Ps b o x)) : EnOk x.1 := h.1.2.2.2
theorem Ro.slv {α : Type} {E : Rdr α} {Ps : Nat → Prop} {v : Value} {xs : List α} (h : Ro w0 S (slc E Ps v xs)) : ∃ ad cap, v = .slice ad xs.length cap := by
 obtain ⟨⟨ad, cap, b, off, e, _⟩, _⟩ := h
 exact ⟨ad, cap, e⟩
theorem ownT_sl {e : TypeId} {v : Value} {xs : List ET} {w : World} {Ps : Nat → Prop} (h : w.ownsRow 0 e 5 v xs.length (flatT xs)) (hP : ∀ b, v.ownBlock = some b → Ps b) (hok : ∀ x ∈ xs, EnOk x.1) (hd : ∀ x ∈ xs, IsSl rByte Ps w x.2 x.1.data) : IsSl rEV Ps w v xs := by
 obtain ⟨ad, cap, b, hv, had, hnil, hnw⟩ := own_news h
 obtain ⟨h1, h2⟩ := h
 have hb : xs.length ≤ cap ∧ cap ≤ 9223372036854775807 := by
  rcases h2 with ⟨rfl, h0⟩ | ⟨g, cap', cur, rfl, _, _, hc, hm, _⟩
  ·injection hv with e1 e2 e3
   subst e3
   omega
  injection hv with e1 e2 e3
  subst e3
  exact ⟨hc, by unfold maxLen at hm; omega⟩
 refine ⟨ad, cap, b, 0, hv, hb.1, hb.2, hnil, had, fun i hi => ⟨hP b ?_, fun j u hj => ?_, hd _ (List.getElem_mem hi), hok _ (List.getElem_mem hi)⟩⟩
 ·rw [hv, had (by omega)]
  rfl
 have hj5 : j < 5 := (List.getElem?_eq_some_iff.1 hj).1
 have := hnw (i * 5 + j) u (by rw [flatT_get hi hj5]; exact hj)
 rw [show 0 + i * rEV.sz + j = 0 + (i * 5 + j) from by show 0 + i * 5 + j = _; omega]
 exact this
theorem datC_dat {w : World} {e : TypeId} {xs : List ET} (h : (datC e xs).φ w) : ∀ x ∈ xs, IsSl rByte (datC e xs).S w x.2 x.1.data := fun x hx => by
 have h1 : (ownB e x.2 x.1.data).φ w := h.1 _ (List.mem_map.2 ⟨x, hx, rfl⟩)
 exact (own_isSl' (p := fun _ => True) (OwnB.own h1) rfl (fun _ _ => trivial)).mono fun k hk => ⟨_, List.mem_map.2 ⟨x, hx, rfl⟩, hk⟩
theorem may_tree {e e2 : TypeId} {v : Value} {xs : List ET} {r r' : List Ck} (h : Sel m (ownT e v xs) r) (h' : Sel m (datC e2 xs) r') (hok : ∀ x ∈ xs, EnOk x.1) : May w0 S m (slc rEV (fun b => v.ownBlock = some b ∨ (datC e2 xs).S b) v xs) :=
 .mix (fun w hw => ownT_sl (hw.holds _ h.mem) (fun b hb => .inl hb) hok fun x hx => (datC_dat (hw.holds _ h'.mem) x hx).mono fun k hk => .inr hk) fun b hb => .inr (by
  rcases hb with hb | hb
  ·exact ⟨_, h.mem, hb⟩
  exact ⟨_, h'.mem, hb⟩)
end
theorem U_eq {c d : Ck} (h : ∀ b, c.S b ↔ d.S b) : U [c] = U [d] := by
 funext b
 simp [U, h]
theorem G.blkOwnB {n : Nat} {w0 : World} {S : Nat → Prop} {l : Fr} {m : List Ck} {K : Act → World → Prop} {b e : Nat} {xs : List UInt8} {r : List Ck} (hs : Sel m (blk b e (xs.map vByte)) r) (hm : xs.length ≤ 9223372036854775807) (h : G n w0 S l (ownB e (.slice (some ⟨b, 0, none⟩) xs.length xs.length) xs :: r) K) : G n w0 S l m K := fun a w ha hw =>
 h a w ha (hp_view (c := blk b e (xs.map vByte)) (d := ownB e (.slice (some ⟨b, 0, none⟩) xs.length xs.length) xs) (hw.sel hs) (fun hg => .inr ⟨b, [], by simp, by simpa using hm, by rw [List.append_nil]; exact hg⟩) fun k hk => by
  have : some b = some k := hk
  exact (Option.some.inj this).symm)
set_option maxRecDepth 20000 in
set_option maxHeartbeats 4000000 in
theorem over_nil : Tr Tryz.prog 40 #[.slice none 0 0] [] [] (TX (fun _ : Unit => True) (fun _ => .tuple #[]) (fun _ => [])) := by
 refine Tr.of (l := [(0, .slice none 0 0)]) Tryz.func40 rfl (n := 22) rfl (.cons rfl .nil) (fun w0 hro => ?_)
 refine go [9,10,0,0] ?_
 refine G.op rfl (G.val rfl rfl (pv_capSl Tryz.underlying39 rfl) ?_)
 refine G.op rfl (G.val rfl rfl (pv_subH (sz := 1) (k := 0) Tryz.underlying39 Tryz.sizeByte rfl rfl rfl (Nat.le_refl _)) ?_)
 refine go [1,7,8,9,10,1,7,8,15] ?_
 refine G.loopK (X := Unit) (ts := [2]) (fun _ => True) (fun _ => [(3, .int .i64 0)]) (fun _ => []) (fun _ => 0) (x0 := ()) (.cons rfl .nil) subT (.cons .nil) apT trT (.consE rfl veqT .nil) (fun _ hJ => ?_)
 try dsimp only at hJ
 try dsimp only
 refine go [9,9,10,0,0,2,5,2,9,7,8] ?_
 refine G.condF rfl (decide_eq_false (by omega)) ?_
 refine go [18,14,14,19] ?_
 exact G.doneXE (()) trT rfl Y6 subT
theorem overB_tr (v : Value) (xs : List UInt8) : Tr Tryz.prog 40 #[v] [] [ownB 5 v xs] (TX (fun _ : Unit => True) (fun _ => .tuple #[]) (fun _ => [])) := fun w hro hw => by
 rcases hw.holds _ (List.mem_cons_self ..) with ⟨rfl, rfl⟩ | ⟨b, sp, rfl, hm, hg⟩
 ·refine (over_nil w (by simp) ⟨Chg.refl _ _, by simp, by simp, .nil⟩).mono ?_
  rintro e w' ⟨u, m', he, ⟨x, hJ, hu, hm⟩, hw'⟩
  subst hm
  exact ⟨u, [], he, ⟨(), trivial, hu, rfl⟩, ⟨hw'.chg.mono fun b hb => by rw [U_nil] at hb; exact hb.elim, by simp, by simp, .nil⟩⟩
 have hU : U [ownB 5 (.slice (some ⟨b, 0, none⟩) xs.length (xs.length + sp.length)) xs] = U [blk b 5 ((xs ++ sp).map vByte)] := U_eq fun k => by
  show some b = some k ↔ k = b
  constructor <;> intro h
  ·exact (Option.some.inj h).symm
  rw [h]
 have hw2 : Hp w (U [blk b 5 ((xs ++ sp).map vByte)]) w [blk b 5 ((xs ++ sp).map vByte)] := by
  rw [hU] at hw
  exact hp_view hw (fun _ => hg) fun k hk => by obtain rfl : k = b := hk; rfl
 refine (over_tr b xs.length (xs.length + sp.length) (xs ++ sp) (by simp) hm (by omega) w (by simp) hw2).mono ?_
 rintro e w' ⟨u, m', he, ⟨x, hJ, hu, hm'⟩, hw'⟩
 refine ⟨u, [], he, ⟨(), trivial, hu, rfl⟩, ?_⟩
 rw [hU]
 exact hw'.sub (List.nil_sublist _)
set_option maxRecDepth 20000 in
set_option maxHeartbeats 4000000 in
theorem copyB_tr {Pv : Nat → Prop} (v : Value) (a : List UInt8) (ha : a.length ≤ 140737488355328) : Tr Tryz.prog 44 #[v] [slc rByte Pv v a] [] (TX (fun _ : Value => True) (fun x => x) (fun x => [ownB 5 x a])) := by
 refine Tr.of (l := [(0, v)]) Tryz.func44 rfl (n := 6) rfl (.cons rfl .nil) (fun w0 hro => ?_)
 have hv := ro1 hro
 obtain ⟨av, cv, qv, ov, rfl, hcv, hmv, hnil, hadv, -⟩ := Ro.open hv
 refine go [9,10,1,7,8,9,10,60,14] ?_
 intro b3
 refine G.blkOwnB (b := b3) (xs := []) selT (by decide) ?_
 refine go [0] ?_
 refine G.op rfl (G.appendB (xs := []) (ys := a) (Ps := Pv) rfl Tryz.underlying39 Tryz.infoByte rfl rfl selT (ro_sl hv) (by simp; omega) (by simp; omega) ?_)
 intro v'
 rw [List.nil_append a]
 refine go [1,7,8,11] ?_
 exact G.doneX1 (v') trT rfl rfl rfl subT
def argP (e : En) : Prop := e.kind < 1 ∨ 3 < e.kind ∨ e.mode < 0 ∨ 511 < e.mode ∨ (0 < e.data.length ∧ e.kind ≠ 2) ∨ (e.kind = 3 ∧ e.to.length = 0) ∨ (e.kind ≠ 3 ∧ 0 < e.to.length) ∨ 200 < e.to.length
instance (e : En) : Decidable (argP e) := inferInstanceAs (Decidable (_ ∨ _))
def oneM (e : En) : Int := if ¬ okP e.path then 4 else if argP e then 2 else if 1048576 < e.data.length then 3 else 0
theorem one_bytes {e : En} (h : ¬ okP e.path) : oneM e = 4 := if_pos h
theorem one_arg {e : En} (h : okP e.path) (h2 : argP e) : oneM e = 2 := (if_neg (fun k => k h)).trans (if_pos h2)
theorem one_long {e : En} (h : okP e.path) (h2 : ¬ argP e) (h3 : 1048576 < e.data.length) : oneM e = 3 := (if_neg (fun k => k h)).trans ((if_neg h2).trans (if_pos h3))
theorem one_ok {e : En} (h : okP e.path) (h2 : ¬ argP e) (h3 : ¬ 1048576 < e.data.length) : oneM e = 0 := (if_neg (fun k => k h)).trans ((if_neg h2).trans (if_neg h3))
theorem nil_len {s : List UInt8} : s = [] ↔ s.length = 0 := List.length_eq_zero_iff.symm
theorem dec_t {p : Prop} [Decidable p] (h : p) : Value.bool true = .bool (decide p) := by rw [decide_eq_true h]
theorem dec_f {p : Prop} [Decidable p] (h : ¬ p) : Value.bool false = .bool (decide p) := by rw [decide_eq_false h]
theorem dec_e {p q : Prop} [Decidable p] [Decidable q] (h : p ↔ q) : Value.bool (decide p) = .bool (decide q) := by rw [decide_eq_decide.2 h]
theorem dec_n {p : Prop} [Decidable p] {a b : Bool} (h : (!(a == b)) = true ↔ p) : Value.bool (!(a == b)) = .bool (decide p) := by
 congr 1
 cases hh : (!(a == b)) with
 | true => exact (decide_eq_true (h.1 hh)).symm
 | false => exact (decide_eq_false fun k => by rw [h.2 k] at hh; cases hh).symm
theorem bne_dec {p q : Prop} [Decidable p] [Decidable q] : (!(decide p == decide q)) = true ↔ ¬ (p ↔ q) := by
 by_cases hp : p <;> by_cases hq : q <;> simp [hp, hq]
set_option maxRecDepth 20000 in
set_option maxHeartbeats 4000000 in
theorem one_tr {Pd : Nat → Prop} (e : En) (d : Value) (hl : e.path.length ≤ 9223372036854775807) : Tr Tryz.prog 79 #[.agg #[.string (sB e.path), .int .i64 e.kind, .int .i64 e.mode, d, .string (sB e.to)]] [slc rByte Pd d e.data] [] (T0 (.int .i64 (oneM e))) := by
 refine Tr.of (l := [(0, .agg #[.string (sB e.path), .int .i64 e.kind, .int .i64 e.mode, d, .string (sB e.to)])]) Tryz.func79 rfl (n := 58) rfl (.cons rfl .nil) (fun w0 hro => ?_)
 have hd := ro1 hro
 obtain ⟨ad, cap, rfl⟩ := Ro.slv hd
 have hto := nil_len (s := e.to)
 refine go [9,10,60,0] ?_
 intro b1
 refine go [1,7,8,9] ?_
 refine G.drawT (nn := 8) (p := []) (rem := 255) [0, 1, 2, 0, 8, 16, 7, 127] [0, 1, 2, 0, 8, 16, 4, 32] kr ⟨rfl, by kernel_rfl, by kernel_rfl⟩ subT kr (fun hT1 => ?_)
 refine go [22,0,254,3,1,22,3,246,3,1,22,1,244,4,22,2,240,13,22,6,176,1,24,4,160,25,4,26,22,5,128,13,22,7,0,1,27,8,9,15,9,10,2,3,0,2,4] ?_
 refine G.op rfl (G.cR rfl rfl rfl rfl Tryz.func101 rfl rfl may0 (check_tr _ (by omega)) ?_)
 refine go [2,50,5,2,14,1,7,8] ?_
 refine G.condP rfl (fun h11 => ?_) (fun h11 => ?_)
 ·refine go [9,10,1,7,8,11,17,12] ?_
  exact G.done0G rfl (Rv.tmp rfl Rv.nil) (by rw [one_bytes (by assumption)]; rfl)
 have hok : okP e.path := Decidable.of_not_not (by assumption)
 refine G.seq ?_
 refine G.cutK (X := Unit) (ts := [1, 2]) (p := []) (fun _ => True) (fun _ => [(17, .bool (decide (argP e)))]) (fun _ => []) (.cons rfl (.cons rfl .nil)) subT (.cons .nil) apT ?_ ?_
 ·refine go [9,10,2,3,1,2,4,2,9,0] ?_
  refine G.partP (t := 21) rfl (fun h21 => ?_) (fun h21 => ?_)
  ·refine go [4,4,4,2,2,1,7,8,60,5,13] ?_
   exact G.meet (()) trT (.consE rfl Y7 (.cons rfl (.cons rfl .nil))) subT
  refine go [3,3,1,3,4,3,10,2,2,1,7,8] ?_
  refine G.condP rfl (fun h17 => ?_) (fun h17 => ?_)
  ·refine G.skip ?_
   exact G.meet (()) trT (.consE rfl Y7 (.cons rfl (.cons rfl .nil))) subT
  refine go [9,10,2,3,2,2,4,2,9,0] ?_
  refine G.partP (t := 29) rfl (fun h29 => ?_) (fun h29 => ?_)
  ·refine go [4,4,4,2,2,1,7,8,60,5,13] ?_
   exact G.meet (()) trT (.consE rfl Y7 (.cons rfl (.cons rfl .nil))) subT
  refine go [3,3,2,3,4,3,10,2,2,1,7,8] ?_
  refine G.condP rfl (fun h17 => ?_) (fun h17 => ?_)
  ·refine G.skip ?_
   exact G.meet (()) trT (.consE rfl Y7 (.cons rfl (.cons rfl .nil))) subT
  refine go [9,10,2,3,3,2,4,2,5,2,10,0] ?_
  refine G.partP (t := 38) rfl (fun h38 => ?_) (fun h38 => ?_)
  ·refine go [3,0,3,15,2,2,1,7,8] ?_
   refine G.condP rfl (fun h17 => ?_) (fun h17 => ?_)
   ·refine G.skip ?_
    exact G.meet (()) trT (.consE rfl Y7 (.cons rfl (.cons rfl .nil))) subT
   refine go [10,0,2,3,4,2,4,2,23] ?_
   refine G.op rfl (G.val rfl rfl (pv_neqB Tryz.underlying4 rfl rfl) ?_)
   refine go [0] ?_
   refine G.part (t := 47) rfl (fun h47 => ?_) (fun h47 => ?_)
   ·have hb := bne_dec.1 h47
    rw [ne_eq, hto] at hb
    refine go [4,4,4,4,2,2,1,7] ?_
    exact G.meet (()) trT (.consE rfl Y7 (.cons rfl (.cons rfl .nil))) subT
   have hb : ¬ ¬ (e.kind = 3 ↔ ¬ e.to.length = 0) := fun h => by have := bne_dec.2 (show ¬ (e.kind = 3 ↔ e.to ≠ []) by rw [ne_eq, hto]; exact h); rw [h47] at this; cases this
   refine go [3,3,4,3,4,3,21,3,10,2,2,1,7] ?_
   exact G.meet (()) trT (.consE rfl Y7 (.cons rfl (.cons rfl .nil))) subT
  refine go [4,4,2,2,1,7,8,60,1,10,0,2,3,4,2,4,2,23] ?_
  refine G.op rfl (G.val rfl rfl (pv_neqB Tryz.underlying4 rfl rfl) ?_)
  refine go [0] ?_
  refine G.part (t := 47) rfl (fun h47 => ?_) (fun h47 => ?_)
  ·have hb := bne_dec.1 h47
   rw [ne_eq, hto] at hb
   refine go [4,4,4,4,2,2,1,7] ?_
   exact G.meet (()) trT (.consE rfl Y7 (.cons rfl (.cons rfl .nil))) subT
  have hb : ¬ ¬ (e.kind = 3 ↔ ¬ e.to.length = 0) := fun h => by have := bne_dec.2 (show ¬ (e.kind = 3 ↔ e.to ≠ []) by rw [ne_eq, hto]; exact h); rw [h47] at this; cases this
  refine go [3,3,4,3,4,3,21,3,10,2,2,1,7] ?_
  exact G.meet (()) trT (.consE rfl Y7 (.cons rfl (.cons rfl .nil))) subT
 intro _ hJ
 try dsimp only at hJ
 try dsimp only
 refine G.condP rfl (fun h17 => ?_) (fun h17 => ?_)
 ·refine go [9,10,1,7,8,11,17,12] ?_
  exact G.done0G rfl (Rv.tmp rfl Rv.nil) (by rw [one_arg hok (by assumption)]; rfl)
 refine go [9,10,2,3,3,2,4,2,5,2,10,1,7,8] ?_
 refine G.condP rfl (fun h53 => ?_) (fun h53 => ?_)
 ·refine go [9,10,1,7,8,11,17,12] ?_
  exact G.done0G rfl (Rv.tmp rfl Rv.nil) (by rw [one_long hok (by assumption) (by omega)]; rfl)
 refine go [13,16,8,9,10,1,7,8,11] ?_
 exact G.done0G rfl (Rv.tmp rfl Rv.nil) (by rw [one_ok hok (by assumption) (by omega)]; rfl)
def endsP (b : List UInt8) : Prop := b.length = 1024 ∨ (64 ≤ b.length ∧ rsum (lastW b) / 2 ^ 24 = 0)
instance (b : List UInt8) : Decidable (endsP b) := inferInstanceAs (Decidable (_ ∨ _))
def cutTo (b : List UInt8) : Nat → List Nat
 | 0 => []
 | i + 1 => if endsP ((b.take (i + 1)).drop ((cutTo b i).getLastD 0)) then cutTo b i ++ [i + 1] else cutTo b i
def curB (b : List UInt8) (i : Nat) : List UInt8 := (b.take i).drop ((cutTo b i).getLastD 0)
def cutL (b : List UInt8) : List Nat := cutTo b b.length
theorem cut_le (b : List UInt8) : ∀ i, ∀ x ∈ cutTo b i, x ≤ i
 | 0, x, h => by cases h
 | i + 1, x, h => by
  unfold cutTo at h
  split at h
  ·rcases List.mem_append.1 h with h | h
   ·exact Nat.le_succ_of_le (cut_le b i x h)
   obtain rfl : x = i + 1 := by simpa using h
   exact Nat.le_refl _
  exact Nat.le_succ_of_le (cut_le b i x h)
theorem last_le (b : List UInt8) : ∀ i, (cutTo b i).getLastD 0 ≤ i
 | 0 => Nat.le_refl _
 | i + 1 => by
  have ih := last_le b i
  unfold cutTo
  split
  ·rw [List.getLastD_concat]
   exact Nat.le_refl _
  omega
theorem cur_step {b : List UInt8} {i : Nat} (hi : i < b.length) : (b.take (i + 1)).drop ((cutTo b i).getLastD 0) = curB b i ++ [b[i]] := by
 unfold curB
 rw [List.take_succ_eq_append_getElem hi, List.drop_append_of_le_length]
 rw [List.length_take]
 have := last_le b i
 omega
theorem cut_yes {b : List UInt8} {i : Nat} (hi : i < b.length) (h : endsP (curB b i ++ [b[i]])) : cutTo b (i + 1) = cutTo b i ++ [i + 1] ∧ curB b (i + 1) = [] := by
 have e : cutTo b (i + 1) = cutTo b i ++ [i + 1] := by
  show (if _ then _ else _) = _
  rw [if_pos (by rw [cur_step hi]; exact h)]
 refine ⟨e, ?_⟩
 unfold curB
 rw [e, List.getLastD_concat]
 exact List.drop_of_length_le (by rw [List.length_take]; omega)
theorem cut_no {b : List UInt8} {i : Nat} (hi : i < b.length) (h : ¬ endsP (curB b i ++ [b[i]])) : cutTo b (i + 1) = cutTo b i ∧ curB b (i + 1) = curB b i ++ [b[i]] := by
 have e : cutTo b (i + 1) = cutTo b i := by
  show (if _ then _ else _) = _
  rw [if_neg (by rw [cur_step hi]; exact h)]
 refine ⟨e, ?_⟩
 rw [← cur_step hi]
 show (b.take (i + 1)).drop ((cutTo b (i + 1)).getLastD 0) = _
 rw [e]
theorem cut_pre (b : List UInt8) (i : Nat) : ∀ k, cutTo b i <+: cutTo b (i + k)
 | 0 => List.prefix_refl _
 | k + 1 => by
  refine (cut_pre b i k).trans ?_
  show cutTo b (i + k) <+: (if _ then _ else _)
  split
  ·exact List.prefix_append _ _
  exact List.prefix_refl _
theorem cut_at' {b : List UInt8} {i : Nat} (hi : i < b.length) (h : cutTo b (i + 1) = cutTo b i ++ [i + 1]) : (cutTo b i).length < (cutL b).length ∧ (cutL b).getD (cutTo b i).length 0 = i + 1 := by
 obtain ⟨t, ht⟩ := cut_pre b (i + 1) (b.length - (i + 1))
 rw [show i + 1 + (b.length - (i + 1)) = b.length by omega, h] at ht
 have ht : cutTo b i ++ [i + 1] ++ t = cutL b := ht
 rw [← ht]
 refine ⟨by simp, ?_⟩
 rw [List.getD_eq_getElem?_getD, List.getElem?_append_left (by simp), List.getElem?_append_right (by simp)]
 simp
theorem cur_len (b : List UInt8) (i : Nat) : (curB b i).length ≤ b.length := by
 unfold curB
 rw [List.length_drop, List.length_take]
 omega
def edge0 : List Value := (rollC (List.replicate 16 0) 0 0 [.int .i64 0])
set_option maxRecDepth 20000 in
set_option maxHeartbeats 4000000 in
theorem rnew_tr : Tr Tryz.prog 148 #[] [] [] (TX (fun _ : Nat => True) (fun D => .pointer (some ⟨D, 0, none⟩)) (fun D => [blk D 153 (rollC (List.replicate 16 0) 0 0 [])])) := by
 refine Tr.of (l := []) Tryz.func148 rfl (n := 3) rfl Fa.nil (fun w0 hro => ?_)
 refine go [9,10,1,7,8,9,10] ?_
 refine G.op rfl (G.val rfl rfl (pv_buildSt (z := [.int .u8 0, .int .u8 0, .int .u8 0, .int .u8 0, .int .u8 0, .int .u8 0, .int .u8 0, .int .u8 0, .int .u8 0, .int .u8 0, .int .u8 0, .int .u8 0, .int .u8 0, .int .u8 0, .int .u8 0, .int .u8 0, .int .i64 0, .int .u32 0, .bool false]) (pl := [(0, 16), (16, 1), (17, 1), (18, 1)]) Tryz.underlying153 kr kr rfl flT) ?_)
 refine G.op rfl (G.box rfl rfl (cs := [_, _, _, _, _, _, _, _, _, _, _, _, _, _, _, _, _, _, _]) rfl ?_)
 intro b2
 refine go [1,7,8,11] ?_
 exact G.doneX1 (b2) trT rfl rfl rfl subT
set_option maxRecDepth 20000 in
set_option maxHeartbeats 4000000 in
theorem fresh_tr : Tr Tryz.prog 119 #[] [] [] (T0 (.agg edge0.toArray)) := by
 refine Tr.of (l := []) Tryz.func119 rfl (n := 5) rfl Fa.nil (fun w0 hro => ?_)
 refine go [9,10] ?_
 refine G.op rfl (G.alloc (z := .agg #[.int .u8 0, .int .u8 0, .int .u8 0, .int .u8 0, .int .u8 0, .int .u8 0, .int .u8 0, .int .u8 0, .int .u8 0, .int .u8 0, .int .u8 0, .int .u8 0, .int .u8 0, .int .u8 0, .int .u8 0, .int .u8 0, .int .i64 0, .int .u32 0, .bool false, .int .i64 0]) (cs := [.int .u8 0, .int .u8 0, .int .u8 0, .int .u8 0, .int .u8 0, .int .u8 0, .int .u8 0, .int .u8 0, .int .u8 0, .int .u8 0, .int .u8 0, .int .u8 0, .int .u8 0, .int .u8 0, .int .u8 0, .int .u8 0, .int .i64 0, .int .u32 0, .bool false, .int .i64 0]) rfl kr rfl ?_)
 intro b0
 refine go [7,8,9,10] ?_
 refine G.op rfl (G.cS rfl rfl rfl rfl Tryz.func148 rfl rfl subT may0 (rnew_tr) apT ?_)
 intro x1 hJ
 try dsimp only at hJ
 try dsimp only
 refine go [2,8] ?_
 refine G.op rfl (G.val rfl rfl (pv_loadN (cs := [_, _, _, _, _, _, _, _, _, _, _, _, _, _, _, _, _, _, _]) Tryz.underlying153 rfl kr rfl (by first | exact blk_range (k := 19) selD (by rfl) | exact rng_range (k := 19) selD (by rfl) | exact ro_range (k := 19) (by assumption) (by rfl) | exact ro_rngR (k := 19) (by assumption) (by rfl))) ?_)
 refine G.op rfl (G.val rfl rfl (pv_buildSt (z := [.int .u8 0, .int .u8 0, .int .u8 0, .int .u8 0, .int .u8 0, .int .u8 0, .int .u8 0, .int .u8 0, .int .u8 0, .int .u8 0, .int .u8 0, .int .u8 0, .int .u8 0, .int .u8 0, .int .u8 0, .int .u8 0, .int .i64 0, .int .u32 0, .bool false, .int .i64 0]) (pl := [(0, 19), (19, 1)]) Tryz.underlying155 kr kr rfl flT) ?_)
 refine G.op rfl (G.storeN kr rfl rfl (by first | exact List.all_eq_true.2 (vByte_one _) | rfl) selT leT ?_)
 refine go [7,8,11] ?_
 exact G.done0G rfl (Rv.cellN (cs := [_, _, _, _, _, _, _, _, _, _, _, _, _, _, _, _, _, _, _, _]) rfl Tryz.underlying155 rfl kr (by first | exact blk_range (k := 20) selD (by rfl)) Rv.nil) Y6
set_option maxRecDepth 20000 in
set_option maxHeartbeats 4000000 in
theorem ends_tr (E : Nat) (ring : List UInt8) (n : Nat) (s : Int) (m : List UInt8) (c : UInt8) (h : RollAt ring n s m) (hm : m.length ≤ 1000000000) : Tr Tryz.prog 150 #[.pointer (some ⟨E, 0, none⟩), .int .u8 (c.toNat : Int)] [] [blk E 155 (rollC ring n s [.int .i64 (m.length : Int)])]
 (TX (fun z : List UInt8 × Nat × Int => RollAt z.1 z.2.1 z.2.2 (m ++ [c])) (fun _ => .bool (decide (endsP (m ++ [c])))) (fun z => [blk E 155 (rollC z.1 z.2.1 z.2.2 [.int .i64 ((m ++ [c]).length : Int)])])) := by
 refine Tr.of (l := [(0, .pointer (some ⟨E, 0, none⟩)), (1, .int .u8 (c.toNat : Int))]) Tryz.func150 rfl (n := 35) rfl (.cons rfl (.cons rfl .nil)) (fun w0 hro => ?_)
 have hr := h.len
 have hlen : (m ++ [c]).length = m.length + 1 := by simp
 refine go [9,10,1,7,8,9,10,0,2,8,2,3,19] ?_
 refine G.op rfl (G.val rfl rfl (pv_load Tryz.underlying3 rfl rfl Y27) ?_)
 refine G.op rfl (G.val rfl rfl ((pv_add64 rfl rfl (by omega)).int (b := ((m ++ [c]).length : Int)) (by omega)) ?_)
 refine go [2,8,2,3,19] ?_
 refine G.op rfl (G.store kr rfl rfl (by rfl) selT (by rw [roll_len hr]; first | done | simp) ?_)
 rw [roll_setX hr]
 refine go [7,8,9,10,0,2,8,2,3,0,0] ?_
 refine G.op rfl (G.cS rfl rfl rfl rfl Tryz.func161 rfl rfl subT may0 (push_tr _ _ _ _ _ _ m c h) apT ?_)
 intro x17 hJ
 obtain ⟨ring', n', s'⟩ := x17
 try dsimp only at hJ
 try dsimp only
 have hr : ring'.length = 16 := hJ.len
 refine go [1,7,8,9,10,0,2,8,2,3,19] ?_
 refine G.op rfl (G.val rfl rfl (pv_load Tryz.underlying3 rfl rfl Y27) ?_)
 refine go [2,13,0] ?_
 refine G.partP (t := 23) rfl (fun h23 => ?_) (fun h23 => ?_)
 ·refine go [4,4,4,4,4,4,6,6,6,4,2,2,1,7,8,11] ?_
  exact G.doneX1 ((ring', n', s')) (by first | exact trivial | ((try dsimp only) <;> exact hJ)) rfl rfl Y15 subT
 refine go [3,0,3,8,3,3,19] ?_
 refine G.want rfl rfl rfl (G.val rfl rfl (pv_load Tryz.underlying3 rfl rfl Y27) ?_)
 refine go [3,12,3,0] ?_
 refine G.partP (t := 29) rfl (fun h29 => ?_) (fun h29 => ?_)
 ·refine go [3,0] ?_
  refine G.want rfl rfl rfl (G.val rfl rfl (pv_shr (s := 24) rfl rfl (by decide)) ?_)
  refine go [3,13,3,2,2,2,1,7,8,11] ?_
  exact G.doneX1 ((ring', n', s')) (by first | exact trivial | ((try dsimp only) <;> exact hJ)) rfl rfl Y15 subT
 refine go [4,4,4,3,2,2,2,1,7,8,11] ?_
 exact G.doneX1 ((ring', n', s')) (by first | exact trivial | ((try dsimp only) <;> exact hJ)) rfl rfl Y15 subT
set_option maxRecDepth 20000 in
set_option maxHeartbeats 4000000 in
theorem cuts_tr (p : Value) (v : Value) (hp : p.oneCell' = true) (hv : v.oneCell' = true) : Tr Tryz.prog 120 #[p, v] [] [] (TX (fun _ : Nat × Nat => True) (fun z => .func (.func 149) #[] #[.pointer (some ⟨z.1, 0, none⟩), .pointer (some ⟨z.2, 0, none⟩)]) (fun z => [blk z.1 39 [v], blk z.2 160 [p]])) := by
 refine Tr.of (l := [(0, p), (1, v)]) Tryz.func120 rfl (n := 6) rfl (.cons rfl (.cons rfl .nil)) (fun w0 hro => ?_)
 refine go [9,10] ?_
 refine G.op rfl (G.box rfl rfl (cs := [p]) (cells_of hp) ?_)
 intro b2
 refine G.op rfl (G.box rfl rfl (cs := [v]) (cells_of hv) ?_)
 intro b3
 refine go [1,7,8,9,10,2,26,1,7,8,11] ?_
 exact G.doneX1 ((b3, b2)) trT rfl rfl rfl subT
set_option maxRecDepth 20000 in
set_option maxHeartbeats 4000000 in
theorem cut_seq {Pv : Nat → Prop} (v : Value) (b : List UInt8) (hb : b.length ≤ 1000000) (bb be E : Nat) : SeqR Tryz.prog 149 #[.pointer (some ⟨bb, 0, none⟩), .pointer (some ⟨be, 0, none⟩)] [slc rByte Pv v b] [blk bb 39 [v], blk be 160 [.pointer (some ⟨E, 0, none⟩)], blk E 155 edge0] (cutL b).length (fun k => [.int .i64 ((cutL b).getD k 0 : Int)]) := by
 intro rr lp X J C x0 h0 hY
 show Tr _ _ #[.func (.yield lp) #[] #[], .pointer (some ⟨bb, 0, none⟩), .pointer (some ⟨be, 0, none⟩)] _ _ _
 refine Tr.ofI (l := [(0, .func (.yield lp) #[] #[]), (1, .pointer (some ⟨bb, 0, none⟩)), (2, .pointer (some ⟨be, 0, none⟩))]) Tryz.func149 rfl (n := 26) rfl (.cons rfl (.cons rfl (.cons rfl .nil))) (fun w0 hro => ?_)
 have hv := hro _ (List.mem_append_right _ (List.mem_cons_self ..))
 have hrr : ∀ c ∈ rr, Ro w0 _ c := fun c hc => hro c (List.mem_append_left _ hc)
 obtain ⟨ad, cap, bs, off, rfl, hcap, hmax, hnil, had, hel⟩ := Ro.open hv
 refine go [32,33,2,4,2,5,0,34,31,38] ?_
 refine I.loopK (X := Nat × (List UInt8) × Nat × Int × X) (ts := [0, 2, 6, 7]) (fun st => st.1 ≤ b.length ∧ (RollAt st.2.1 st.2.2.1 st.2.2.2.1 (curB b st.1) ∧ J true (cutTo b st.1).length st.2.2.2.2)) (fun st => [(8, .int .i64 (st.1 : Int))]) (fun st => [blk E 155 (rollC st.2.1 st.2.2.1 st.2.2.2.1 [.int .i64 ((curB b st.1).length : Int)]), C true (cutTo b st.1).length st.2.2.2.2]) (fun st => b.length - st.1) (x0 := (0, List.replicate 16 0, 0, 0, x0)) (.cons rfl (.cons rfl (.cons rfl (.cons rfl .nil)))) subT (.cons .nil) apT (by first | exact trivial | ((try dsimp only) <;> exact ⟨Nat.zero_le _, ⟨roll_zero, h0⟩⟩)) (.consE rfl veqT .nil) (fun st hJ => ?_)
 obtain ⟨i, ring, rn, s, x⟩ := st
 try dsimp only at hJ
 try dsimp only
 obtain ⟨hki, hJ⟩ := hJ
 obtain ⟨hR, hJx⟩ := hJ
 have hcl := cur_len b i
 refine go [32,33,2,9,34,31,32] ?_
 refine I.condP rfl (fun h9 => ?_) (fun h9 => ?_)
 ·have hlt : i < b.length := by omega
  have hE := hel i hlt
  refine go [39,31,32,38,32,33,0,2,20,1,2,4,1,1,34,31,32,32,33,2,4,0] ?_
  refine G.op rfl (G.cS rfl rfl rfl rfl Tryz.func150 rfl rfl subT may0 (ends_tr E ring rn s (curB b i) b[i] hR (by omega)) apT ?_)
  intro x15 hJ
  obtain ⟨ring', rn', s'⟩ := x15
  try dsimp only at hJ
  try dsimp only
  have hR' := hJ
  refine go [2,15,34,31] ?_
  refine I.condP rfl (fun h16 => ?_) (fun h16 => ?_)
  ·obtain ⟨hc1, hc2⟩ := cut_no hlt h16
   refine go [42,41,43,31,33,2,6,0,34] ?_
   rw [show (curB b i ++ [b[i]]) = curB b (i + 1) from hc2.symm, show C true (cutTo b i).length x = C true (cutTo b (i + 1)).length x from by rw [hc1]]
   exact I.next ((i + 1, ring', rn', s', x)) (by first | exact trivial | ((try dsimp only) <;> exact ⟨by omega, (by rw [hc1, hc2]; exact ⟨hR', hJx⟩)⟩)) (by (try dsimp only); omega) (.consE rfl veqT (.cons rfl (.cons rfl (.cons rfl (.cons rfl .nil))))) subT
  obtain ⟨hc1, hc2⟩ := cut_yes hlt (Decidable.of_not_not h16)
  obtain ⟨hk, hgd⟩ := cut_at' hlt hc1
  refine go [39,31,32] ?_
  refine I.drawT (nn := 4) (p := [blk E _ _]) (rem := 15) [0, 0, 3, 7] [0, 0, 1, 6] kr noT kr ⟨rfl, by kernel_rfl, by kernel_rfl⟩ subT kr (fun hT4 => ?_)
  refine go [22,0,14,4,24,1,12] ?_
  refine G.turnOp rfl rfl (G.cR rfl rfl rfl rfl Tryz.func119 rfl rfl may0 (fresh_tr) ?_)
  refine go [26,22,2,8,8,24,3,0] ?_
  refine G.turnOp rfl rfl (G.storeN (vs := edge0) kr rfl rfl (by rfl) selT (by rw [roll_len hR'.len]; exact Nat.le_of_ble_eq_true rfl) ?_)
  rw [putN_whole _ _ (by rw [roll_len hR'.len]; rfl)]
  refine go [26] ?_
  refine I.over hT4 kr ?_
  refine go [31,32] ?_
  refine IL.region ?_
  refine go [60,12,60,12] ?_
  refine IL.op rfl (IL.lift kr (G.val rfl rfl ((pv_add64 rfl rfl (by omega)).int (b := (((cutL b).getD (cutTo b i).length 0 : Nat) : Int)) (by rw [hgd]; omega)) ?_))
  refine IL.op rfl (IL.yieldR rfl rfl rfl rfl rfl subT (fun c hc => .old (hrr c hc)) (hY (cutTo b i).length x hk hJx) apT ?_)
  intro x23 hJ
  obtain ⟨v, y⟩ := x23
  try dsimp only at hJ
  try dsimp only
  have hJ2 := hJ
  refine go [60,21] ?_
  refine IL.nil ?_
  refine I.nThen ?_
  refine I.cond rfl (fun h24 => ?_) (fun h24 => ?_)
  ·obtain rfl : v = false := by cases v <;> simp_all
   refine go [37,36,35,35,36] ?_
   exact I.doneIr ((false, (cutTo b i).length + 1, y)) (by first | exact trivial | ((try dsimp only) <;> exact ⟨hJ2, by omega, fun h => by cases h⟩)) rfl rfl subT
  obtain rfl : v = true := by cases v <;> simp_all
  refine go [39,40,31,33,2,6,0,34] ?_
  rw [show edge0 = rollC (List.replicate 16 0) 0 0 [.int .i64 ((curB b (i + 1)).length : Int)] from by rw [hc2]; rfl, show C true ((cutTo b i).length + 1) y = C true (cutTo b (i + 1)).length y from by rw [hc1, List.length_append]; rfl]
  exact I.next ((i + 1, List.replicate 16 0, 0, 0, y)) (by first | exact trivial | ((try dsimp only) <;> exact ⟨by omega, (by rw [hc1, hc2, List.length_append, List.length_singleton]; exact ⟨roll_zero, hJ2⟩)⟩)) (by (try dsimp only); omega) (.consE rfl veqT (.cons rfl (.cons rfl (.cons rfl (.cons rfl .nil))))) subT
 obtain rfl : i = b.length := by omega
 refine go [42,41,41,43] ?_
 exact I.doneI ((true, (cutTo b b.length).length, x)) (by first | exact trivial | ((try dsimp only) <;> exact ⟨hJx, Nat.le_refl _, fun _ => rfl⟩)) rfl rfl subT
abbrev LT := List (List UInt8 × Value)
def datB (e : TypeId) (l : LT) : Ck := star (l.map fun x => ownB e x.2 x.1)
section
variable {P : Program} {n : Nat} {w0 : World} {S : Nat → Prop} {l : Fr} {m : List Ck} {K : Act → World → Prop}
theorem G.datBNil (e : TypeId) (h : G n w0 S l (datB e [] :: m) K) : G n w0 S l m K := G.mem (fun w hw => Hp.star (m := []) hw) h
theorem G.datBSnoc {e : TypeId} {ys : LT} {x : List UInt8} {u : Value} {r r' : List Ck} (h1 : Sel m (datB e ys) r) (h2 : Sel r (ownB e u x) r') (h : G n w0 S l (datB e (ys ++ [(x, u)]) :: r') K) : G n w0 S l m K := G.mem (fun w hw => by
 have h3 := Hp.unstar (hw.sel h1)
 have p : (ys.map (fun x : List UInt8 × Value => ownB e x.2 x.1) ++ r).Perm (((ys ++ [(x, u)]).map fun x : List UInt8 × Value => ownB e x.2 x.1) ++ r') := by
  rw [List.map_append, List.append_assoc]
  exact List.Perm.append_left _ h2.perm
 exact Hp.star (h3.perm p)) h
theorem G.datBCons {e : TypeId} {x : List UInt8} {u : Value} {xs : LT} {r : List Ck} (h1 : Sel m (datB e ((x, u) :: xs)) r) (h : G n w0 S l (ownB e u x :: datB e xs :: r) K) : G n w0 S l m K := G.mem (fun w hw => by
 have h2 : Hp w0 S w ((ownB e u x :: xs.map fun x => ownB e x.2 x.1) ++ r) := Hp.unstar (hw.sel h1)
 have h3 : Hp w0 S w ((xs.map fun x => ownB e x.2 x.1) ++ (ownB e u x :: r)) := h2.perm (by
  rw [List.cons_append]
  exact List.perm_middle.symm)
 exact (Hp.star h3).perm (List.Perm.swap ..)) h
theorem datB_sl {w : World} {e : TypeId} {xs : LT} (h : (datB e xs).φ w) : ∀ x ∈ xs, IsSl rByte (datB e xs).S w x.2 x.1 := fun x hx => by
 have h1 : (ownB e x.2 x.1).φ w := h.1 _ (List.mem_map.2 ⟨x, hx, rfl⟩)
 exact (own_isSl' (p := fun _ => True) (OwnB.own h1) rfl (fun _ _ => trivial)).mono fun k hk => ⟨_, List.mem_map.2 ⟨x, hx, rfl⟩, hk⟩
theorem may_datB {e : TypeId} {xs : LT} {r : List Ck} (h : Sel m (datB e xs) r) {x : List UInt8} {u : Value} (hx : (x, u) ∈ xs) : May w0 S m (slc rByte (datB e xs).S u x) :=
 .view h.mem (fun w hw => datB_sl hw _ hx) fun b hb => hb
end
def atC (b : List UInt8) (k : Nat) : Nat := (0 :: cutL b).getD k 0
def pieceC (b : List UInt8) (k : Nat) : List UInt8 := (b.take (atC b (k + 1))).drop (atC b k)
def piecesC (b : List UInt8) (k : Nat) : List (List UInt8) := (List.range k).map (pieceC b)
def chunksC (b : List UInt8) : List (List UInt8) := piecesC b (cutL b).length ++ (if atC b (cutL b).length < b.length then [b.drop (atC b (cutL b).length)] else [])
theorem piecesC_succ (b : List UInt8) (k : Nat) : piecesC b (k + 1) = piecesC b k ++ [pieceC b k] := by
 unfold piecesC
 rw [List.range_succ, List.map_append]
 rfl
theorem atC_succ (b : List UInt8) (k : Nat) : atC b (k + 1) = (cutL b).getD k 0 := by
 unfold atC
 rw [List.getD_cons_succ]
theorem cutTo_mono (b : List UInt8) : ∀ i, (cutTo b i).Pairwise (· < ·)
 | 0 => .nil
 | i + 1 => by
  unfold cutTo
  split
  ·refine List.pairwise_append.2 ⟨cutTo_mono b i, by simp, fun x hx y hy => ?_⟩
   obtain rfl : y = i + 1 := by simpa using hy
   exact Nat.lt_succ_of_le (cut_le b i x hx)
  exact cutTo_mono b i
theorem atC_le (b : List UInt8) (k : Nat) : atC b k ≤ b.length := by
 cases k with
 | zero => exact Nat.zero_le _
 | succ k =>
  rw [atC_succ]
  rcases Nat.lt_or_ge k (cutL b).length with h | h
  ·rw [List.getD_eq_getElem?_getD, List.getElem?_eq_getElem h]
   exact cut_le b _ _ (List.getElem_mem h)
  rw [List.getD_eq_getElem?_getD, List.getElem?_eq_none h]
  exact Nat.zero_le _
theorem atC_mono {b : List UInt8} {k : Nat} (h : k < (cutL b).length) : atC b k ≤ atC b (k + 1) := by
 cases k with
 | zero => exact Nat.zero_le _
 | succ k =>
  rw [atC_succ, atC_succ, List.getD_eq_getElem?_getD, List.getD_eq_getElem?_getD, List.getElem?_eq_getElem h, List.getElem?_eq_getElem (show k < (cutL b).length by omega)]
  exact Nat.le_of_lt ((List.pairwise_iff_getElem.1 (cutTo_mono b _)) k (k + 1) (by show k < (cutL b).length; omega) h (by omega))
theorem cutL_len (b : List UInt8) : ∀ i, (cutTo b i).length ≤ i
 | 0 => Nat.le_refl _
 | i + 1 => by
  unfold cutTo
  have := cutL_len b i
  split
  ·rw [List.length_append, List.length_singleton]; omega
  omega
theorem Tryz.infoSlB : (Tryz.prog.info? 39).map (fun i => (i.zero.map (·.cells.size), i.size, i.bytes)) = some (some 1, 1, 24) := by kernel_rfl
set_option maxRecDepth 20000 in
set_option maxHeartbeats 4000000 in
theorem csplit_tr {Pv : Nat → Prop} (v : Value) (bs : List UInt8) (hb : bs.length ≤ 1000000) : Tr Tryz.prog 81 #[v] [slc rByte Pv v bs] []
 (TX (fun z : Value × LT => z.2.map (·.1) = chunksC bs) (fun z => z.1) (fun z => [own 39 1 z.1 z.2.length (z.2.map (·.2)), datB 5 z.2])) := by
 refine Tr.ofM (l := [(0, v)]) Tryz.func81 rfl (n := 32) rfl (.cons rfl .nil) (fun w0 hro => ?_)
 have hv0 := ro1 hro
 obtain ⟨ad, cap, b0, off, rfl, hcap, hmax, hnil, had, hel⟩ := Ro.open hv0
 have hv1 : (Value.slice ad bs.length cap).oneCell' = true := rfl
 have hcl : (cutL bs).length ≤ bs.length := cutL_len bs bs.length
 refine go [32,33,60,4] ?_
 intro b1
 refine go [1,34,31,32,33,60,20] ?_
 intro b3
 refine go [34,31,32,33] ?_
 refine G.op rfl (G.cR rfl rfl rfl rfl Tryz.func119 rfl rfl may0 (fresh_tr) ?_)
 refine G.op rfl (G.alloc (z := .agg #[.int .u8 0, .int .u8 0, .int .u8 0, .int .u8 0, .int .u8 0, .int .u8 0, .int .u8 0, .int .u8 0, .int .u8 0, .int .u8 0, .int .u8 0, .int .u8 0, .int .u8 0, .int .u8 0, .int .u8 0, .int .u8 0, .int .i64 0, .int .u32 0, .bool false, .int .i64 0]) (cs := [.int .u8 0, .int .u8 0, .int .u8 0, .int .u8 0, .int .u8 0, .int .u8 0, .int .u8 0, .int .u8 0, .int .u8 0, .int .u8 0, .int .u8 0, .int .u8 0, .int .u8 0, .int .u8 0, .int .u8 0, .int .u8 0, .int .i64 0, .int .u32 0, .bool false, .int .i64 0]) rfl kr rfl ?_)
 intro b4
 refine go [60,13] ?_
 intro b5
 refine G.op rfl (G.storeN (vs := edge0) kr rfl rfl (by rfl) selT (by simp [edge0, rollC]) ?_)
 rw [putN_whole _ _ (by rfl)]
 refine go [21,34,31,32,32,33,2,4] ?_
 refine G.op rfl (G.cS rfl rfl rfl rfl Tryz.func120 rfl rfl subT may0 (cuts_tr _ _ rfl hv1) apT ?_)
 intro x9 hJ
 obtain ⟨bb, be⟩ := x9
 try dsimp only at hJ
 try dsimp only
 refine go [34,31,38] ?_
 refine G.datBNil 5 ?_
 refine G.ownNil 39 1 ?_
 refine I.rangeK1 (X := Value × LT) (rr := [slc rByte Pv (.slice ad bs.length cap) bs]) (encs := fun i => .int .i64 ((cutL bs).getD i 0 : Int)) (ts := [1, 3, 5]) (fun b i st => b = true ∧ st.2.map (·.1) = piecesC bs i) (fun b i st => [blk b3 82 [st.1], own 39 1 st.1 st.2.length (st.2.map (·.2)), datB 5 st.2, blk b5 3 [.int .i64 (atC bs i : Int)], blk b1 39 [.slice ad bs.length cap]]) (fun st => .ret) (fun i => [(6, .int .i64 ((cutL bs).getD i 0 : Int))]) (x0 := (.slice none 0 0, [])) rfl Tryz.func149 rfl rfl (cut_seq (Pv := Pv) (.slice ad bs.length cap) bs hb bb be b4) (by show Sub _ [blk b3 82 [.slice none 0 0], own 39 1 (.slice none 0 0) 0 [], datB 5 [], blk b5 3 [.int .i64 0], blk b1 39 [.slice ad bs.length cap], blk bb 39 [.slice ad bs.length cap], blk be 160 [.pointer (some ⟨b4, 0, none⟩)], blk b4 155 edge0] _; repeat (first | exact Sub.nil | (apply Sub.cons; (repeat (first | with_reducible exact Sel.here | exact Sel.here | apply Sel.there))))) (may2 (.old hv0) (.old hv0)) (by first | exact trivial | (exact ⟨rfl, rfl⟩)) rfl (.cons rfl (.cons rfl (.cons rfl .nil))) (.cons .nil) ?_ ?_ ?_ ?_
 ·intro w1 S1 lp m1 i hi
  try dsimp only at hJ
  try dsimp only
  refine go [33,1,34] ?_
  exact I.asg (.consE rfl veqT (.cons rfl (.cons rfl (.cons rfl .nil))))
 ·intro w1 S1 lp c i st hi hJ hrr
  obtain ⟨ov, l⟩ := st
  try dsimp only at hJ
  try dsimp only
  obtain ⟨hct, hl⟩ := hJ
  have hlen : l.length = i := by have := congrArg List.length hl; simpa [piecesC] using this
  have hlm : (l.map (fun z : List UInt8 × Value => z.2)).length = l.length := List.length_map _
  have hvb := hrr _ (List.mem_cons_self ..)
  have hle1 := atC_mono hi
  have hle2 := atC_le bs (i + 1)
  rw [atC_succ] at hle1 hle2
  refine G.ownFact (v := ov) selT (fun hov _ => ?_)
  have hsub := Ro.sub hvb hle1 hle2
  rw [← atC_succ] at hsub
  have hpl : (pieceC bs i).length ≤ bs.length := by unfold pieceC; rw [List.length_drop, List.length_take]; omega
  refine I.block ?_
  refine I.drawT (nn := 11) (p := [blk b3 _ _, blk b5 _ _, own 39 1 ov _ _]) (rem := 2047) [0, 0, 0, 0, 14, 16, 32, 97, 0, 255, 1023] [0, 0, 0, 0, 14, 16, 32, 65, 0, 128, 256] kr noT kr ⟨rfl, by kernel_rfl, by kernel_rfl⟩ subT kr (fun hT5 => ?_)
  refine go [22,3,2039,0,22,8,1783,0,22,1,1781,4] ?_
  refine G.twoT hT5 (i := 0) (j := 2) (rem' := 1780) (rem'' := 1777) kr kr kr ?_ ?_
  ·refine go [25,4,26,24,2,1776,25,4,26] ?_
   refine G.takeT hT5 (i := 4) (rem' := 1760) rfl rfl rfl kr (fun _ _ _ h => h) rfl (pv_subLH (sz := 1) (k := atC bs i) (k' := (cutL bs).getD i 0) Tryz.underlying39 kr rfl rfl rfl rfl rfl hle1 (Nat.le_trans hle2 hcap)) subT ?_
   refine go [24,5,1728] ?_
   refine G.ownBNil 5 ?_
   refine G.turnOp rfl rfl (G.appendB (xs := []) (ys := pieceC bs i) (Ps := Pv) rfl Tryz.underlying39 Tryz.infoByte rfl rfl selT (ro_sl hsub) (by simp; omega) (by simp; omega) ?_)
   intro v16
   rw [List.nil_append (pieceC bs i)]
   refine go [26,24,6,1664] ?_
   refine G.ownBFact (v := v16) selT (fun hv16 => ?_)
   refine G.turnOp rfl rfl (G.lit1 (vs := [v16]) rfl Tryz.underlying82 kr rfl (by decide) (by decide) rfl (all1_cons hv16 all1_nil) ?_)
   intro b17
   refine go [26,24,7,1536] ?_
   refine G.turnOp rfl rfl (G.append (k := l.length) (j := 1) (cs := l.map (·.2)) (news := [v16]) (b := b17) (off := 0) rfl Tryz.underlying82 Tryz.infoSlB rfl rfl rfl selT (fun _ => rfl) (fun h => by cases h) rfl (blk_news (k := 1) selT rfl) Y55 (by omega) (by omega) ?_)
   intro v18
   refine G.ownFact (v := v18) selT (fun hv18 _ => ?_)
   refine go [26,24,9,1024,30,26,24,10,0,30] ?_
   rw [← atC_succ]
   refine go [26] ?_
   refine I.over hT5 kr ?_
   refine go [40] ?_
   refine G.datBSnoc (ys := l) (x := pieceC bs i) (u := v16) selT selT ?_
   rw [show l.map (fun z : List UInt8 × Value => z.2) ++ [v16] = (l ++ [(pieceC bs i, v16)]).map (·.2) from by rw [List.map_append]; rfl, show l.length + 1 = (l ++ [(pieceC bs i, v16)]).length from by rw [List.length_append]; rfl]
   exact I.rN ((v18, l ++ [(pieceC bs i, v16)])) Y44 subT
  refine go [25,4,26] ?_
  refine G.takeT hT5 (i := 4) (rem' := 1761) rfl rfl rfl kr (fun _ _ _ h => h) rfl (pv_subLH (sz := 1) (k := atC bs i) (k' := (cutL bs).getD i 0) Tryz.underlying39 kr rfl rfl rfl rfl rfl hle1 (Nat.le_trans hle2 hcap)) subT ?_
  refine G.twoT hT5 (i := 0) (j := 5) (rem' := 1760) (rem'' := 1729) kr kr kr ?_ ?_
  ·refine go [25,4,26,24,5,1728] ?_
   refine G.ownBNil 5 ?_
   refine G.turnOp rfl rfl (G.appendB (xs := []) (ys := pieceC bs i) (Ps := Pv) rfl Tryz.underlying39 Tryz.infoByte rfl rfl selT (ro_sl hsub) (by simp; omega) (by simp; omega) ?_)
   intro v16
   rw [List.nil_append (pieceC bs i)]
   refine go [26,24,6,1664] ?_
   refine G.ownBFact (v := v16) selT (fun hv16 => ?_)
   refine G.turnOp rfl rfl (G.lit1 (vs := [v16]) rfl Tryz.underlying82 kr rfl (by decide) (by decide) rfl (all1_cons hv16 all1_nil) ?_)
   intro b17
   refine go [26,24,7,1536] ?_
   refine G.turnOp rfl rfl (G.append (k := l.length) (j := 1) (cs := l.map (·.2)) (news := [v16]) (b := b17) (off := 0) rfl Tryz.underlying82 Tryz.infoSlB rfl rfl rfl selT (fun _ => rfl) (fun h => by cases h) rfl (blk_news (k := 1) selT rfl) Y55 (by omega) (by omega) ?_)
   intro v18
   refine G.ownFact (v := v18) selT (fun hv18 _ => ?_)
   refine go [26,24,9,1024,30,26,24,10,0,30] ?_
   rw [← atC_succ]
   refine go [26] ?_
   refine I.over hT5 kr ?_
   refine go [40] ?_
   refine G.datBSnoc (ys := l) (x := pieceC bs i) (u := v16) selT selT ?_
   rw [show l.map (fun z : List UInt8 × Value => z.2) ++ [v16] = (l ++ [(pieceC bs i, v16)]).map (·.2) from by rw [List.map_append]; rfl, show l.length + 1 = (l ++ [(pieceC bs i, v16)]).length from by rw [List.length_append]; rfl]
   exact I.rN ((v18, l ++ [(pieceC bs i, v16)])) Y44 subT
  refine G.ownBNil 5 ?_
  refine G.turnOp rfl rfl (G.appendB (xs := []) (ys := pieceC bs i) (Ps := Pv) rfl Tryz.underlying39 Tryz.infoByte rfl rfl selT (ro_sl hsub) (by simp; omega) (by simp; omega) ?_)
  intro v16
  rw [List.nil_append (pieceC bs i)]
  refine go [26] ?_
  refine G.twoT hT5 (i := 0) (j := 6) (rem' := 1728) (rem'' := 1665) kr kr kr ?_ ?_
  ·refine go [25,4,26,24,6,1664] ?_
   refine G.ownBFact (v := v16) selT (fun hv16 => ?_)
   refine G.turnOp rfl rfl (G.lit1 (vs := [v16]) rfl Tryz.underlying82 kr rfl (by decide) (by decide) rfl (all1_cons hv16 all1_nil) ?_)
   intro b17
   refine go [26,24,7,1536] ?_
   refine G.turnOp rfl rfl (G.append (k := l.length) (j := 1) (cs := l.map (·.2)) (news := [v16]) (b := b17) (off := 0) rfl Tryz.underlying82 Tryz.infoSlB rfl rfl rfl selT (fun _ => rfl) (fun h => by cases h) rfl (blk_news (k := 1) selT rfl) Y55 (by omega) (by omega) ?_)
   intro v18
   refine G.ownFact (v := v18) selT (fun hv18 _ => ?_)
   refine go [26,24,9,1024,30,26,24,10,0,30] ?_
   rw [← atC_succ]
   refine go [26] ?_
   refine I.over hT5 kr ?_
   refine go [40] ?_
   refine G.datBSnoc (ys := l) (x := pieceC bs i) (u := v16) selT selT ?_
   rw [show l.map (fun z : List UInt8 × Value => z.2) ++ [v16] = (l ++ [(pieceC bs i, v16)]).map (·.2) from by rw [List.map_append]; rfl, show l.length + 1 = (l ++ [(pieceC bs i, v16)]).length from by rw [List.length_append]; rfl]
   exact I.rN ((v18, l ++ [(pieceC bs i, v16)])) Y44 subT
  refine G.ownBFact (v := v16) selT (fun hv16 => ?_)
  refine G.turnOp rfl rfl (G.lit1 (vs := [v16]) rfl Tryz.underlying82 kr rfl (by decide) (by decide) rfl (all1_cons hv16 all1_nil) ?_)
  intro b17
  refine go [26,24,0,1664,25,4,26,24,7,1536] ?_
  refine G.turnOp rfl rfl (G.append (k := l.length) (j := 1) (cs := l.map (·.2)) (news := [v16]) (b := b17) (off := 0) rfl Tryz.underlying82 Tryz.infoSlB rfl rfl rfl selT (fun _ => rfl) (fun h => by cases h) rfl (blk_news (k := 1) selT rfl) Y55 (by omega) (by omega) ?_)
  intro v18
  refine G.ownFact (v := v18) selT (fun hv18 _ => ?_)
  refine go [26,24,9,1024,30,26,24,10,0,30] ?_
  rw [← atC_succ]
  refine go [26] ?_
  refine I.over hT5 kr ?_
  refine go [40] ?_
  refine G.datBSnoc (ys := l) (x := pieceC bs i) (u := v16) selT selT ?_
  rw [show l.map (fun z : List UInt8 × Value => z.2) ++ [v16] = (l ++ [(pieceC bs i, v16)]).map (·.2) from by rw [List.map_append]; rfl, show l.length + 1 = (l ++ [(pieceC bs i, v16)]).length from by rw [List.length_append]; rfl]
  exact I.rN ((v18, l ++ [(pieceC bs i, v16)])) Y44 subT
 ·intro D st hJ
  obtain ⟨ov, l⟩ := st
  try dsimp only at hJ
  try dsimp only
  obtain ⟨hct, hl⟩ := hJ
  have hlen : l.length = (cutL bs).length := by have := congrArg List.length hl; simpa [piecesC] using this
  have hlm : (l.map (fun z : List UInt8 × Value => z.2)).length = l.length := List.length_map _
  refine go [40,31,32,32,33,2,4,2,4,2,5,2,9,34,31] ?_
  refine I.condP rfl (fun h23 => ?_) (fun h23 => ?_)
  ·have hsub2 := Ro.sub hv0 (show atC bs (cutL bs).length ≤ bs.length by omega) (Nat.le_refl _)
   rw [List.take_length] at hsub2
   refine G.ownFact (v := ov) selT (fun hov _ => ?_)
   refine I.drawN (nn := 8) (p := [blk b3 _ _, own 39 1 ov _ _]) (rem := 255) [0, 0, 0, 6, 8, 16, 49, 127] [0, 0, 0, 6, 8, 16, 33, 64] kr kr ⟨rfl, by kernel_rfl, by kernel_rfl⟩ subT kr (fun hT7 => ?_)
   refine go [22,1,253,4,22,2,249,4] ?_
   refine G.takeT hT7 (i := 3) (rem' := 241) rfl rfl rfl kr (fun _ _ _ h => h) rfl (pv_subL (sz := 1) (k := atC bs (cutL bs).length) Tryz.underlying39 kr rfl rfl rfl (by omega)) subT ?_
   refine G.twoT hT7 (i := 0) (j := 4) (rem' := 240) (rem'' := 225) kr kr kr ?_ ?_
   ·refine go [25,4,26,24,4,224] ?_
    refine G.ownBNil 5 ?_
    refine G.turnOp rfl rfl (G.appendB (xs := []) (ys := bs.drop (atC bs (cutL bs).length)) (Ps := Pv) rfl Tryz.underlying39 Tryz.infoByte rfl rfl selT (ro_sl hsub2) (by simp; omega) (by simp; omega) ?_)
    intro v28
    rw [List.nil_append (bs.drop (atC bs (cutL bs).length))]
    refine go [26,24,5,192] ?_
    refine G.ownBFact (v := v28) selT (fun hv28 => ?_)
    refine G.turnOp rfl rfl (G.lit1 (vs := [v28]) rfl Tryz.underlying82 kr rfl (by decide) (by decide) rfl (all1_cons hv28 all1_nil) ?_)
    intro b29
    refine go [26,24,6,128] ?_
    refine G.turnOp rfl rfl (G.append (k := l.length) (j := 1) (cs := l.map (·.2)) (news := [v28]) (b := b29) (off := 0) rfl Tryz.underlying82 Tryz.infoSlB rfl rfl rfl selT (fun _ => rfl) (fun h => by cases h) rfl (blk_news (k := 1) selT rfl) (by intro u hu; obtain rfl : u = v28 := (by simpa using hu); exact hv28) (by omega) (by omega) ?_)
    intro v30
    refine G.ownFact (v := v30) selT (fun hv30 _ => ?_)
    refine go [26,24,7,0,30,26] ?_
    refine I.overN hT7 kr ?_
    refine go [31,32,33,2,4,1,34,31,37] ?_
    refine G.datBSnoc (ys := l) (x := bs.drop (atC bs (cutL bs).length)) (u := v28) selT selT ?_
    rw [show l.map (fun z : List UInt8 × Value => z.2) ++ [v28] = (l ++ [(bs.drop (atC bs (cutL bs).length), v28)]).map (·.2) from by rw [List.map_append]; rfl, show l.length + 1 = (l ++ [(bs.drop (atC bs (cutL bs).length), v28)]).length from by rw [List.length_append]; rfl]
    exact I.doneM ((v30, l ++ [(bs.drop (atC bs (cutL bs).length), v28)])) Y51 rfl Y23 (Rv.tmp rfl Rv.nil) rfl subT
   refine G.ownBNil 5 ?_
   refine G.turnOp rfl rfl (G.appendB (xs := []) (ys := bs.drop (atC bs (cutL bs).length)) (Ps := Pv) rfl Tryz.underlying39 Tryz.infoByte rfl rfl selT (ro_sl hsub2) (by simp; omega) (by simp; omega) ?_)
   intro v28
   rw [List.nil_append (bs.drop (atC bs (cutL bs).length))]
   refine go [26] ?_
   refine G.twoT hT7 (i := 0) (j := 5) (rem' := 224) (rem'' := 193) kr kr kr ?_ ?_
   ·refine go [25,4,26,24,5,192] ?_
    refine G.ownBFact (v := v28) selT (fun hv28 => ?_)
    refine G.turnOp rfl rfl (G.lit1 (vs := [v28]) rfl Tryz.underlying82 kr rfl (by decide) (by decide) rfl (all1_cons hv28 all1_nil) ?_)
    intro b29
    refine go [26,24,6,128] ?_
    refine G.turnOp rfl rfl (G.append (k := l.length) (j := 1) (cs := l.map (·.2)) (news := [v28]) (b := b29) (off := 0) rfl Tryz.underlying82 Tryz.infoSlB rfl rfl rfl selT (fun _ => rfl) (fun h => by cases h) rfl (blk_news (k := 1) selT rfl) (by intro u hu; obtain rfl : u = v28 := (by simpa using hu); exact hv28) (by omega) (by omega) ?_)
    intro v30
    refine G.ownFact (v := v30) selT (fun hv30 _ => ?_)
    refine go [26,24,7,0,30,26] ?_
    refine I.overN hT7 kr ?_
    refine go [31,32,33,2,4,1,34,31,37] ?_
    refine G.datBSnoc (ys := l) (x := bs.drop (atC bs (cutL bs).length)) (u := v28) selT selT ?_
    rw [show l.map (fun z : List UInt8 × Value => z.2) ++ [v28] = (l ++ [(bs.drop (atC bs (cutL bs).length), v28)]).map (·.2) from by rw [List.map_append]; rfl, show l.length + 1 = (l ++ [(bs.drop (atC bs (cutL bs).length), v28)]).length from by rw [List.length_append]; rfl]
    exact I.doneM ((v30, l ++ [(bs.drop (atC bs (cutL bs).length), v28)])) Y51 rfl Y23 (Rv.tmp rfl Rv.nil) rfl subT
   refine G.ownBFact (v := v28) selT (fun hv28 => ?_)
   refine G.turnOp rfl rfl (G.lit1 (vs := [v28]) rfl Tryz.underlying82 kr rfl (by decide) (by decide) rfl (all1_cons hv28 all1_nil) ?_)
   intro b29
   refine go [26,24,0,192,25,4,26,24,6,128] ?_
   refine G.turnOp rfl rfl (G.append (k := l.length) (j := 1) (cs := l.map (·.2)) (news := [v28]) (b := b29) (off := 0) rfl Tryz.underlying82 Tryz.infoSlB rfl rfl rfl selT (fun _ => rfl) (fun h => by cases h) rfl (blk_news (k := 1) selT rfl) (by intro u hu; obtain rfl : u = v28 := (by simpa using hu); exact hv28) (by omega) (by omega) ?_)
   intro v30
   refine G.ownFact (v := v30) selT (fun hv30 _ => ?_)
   refine go [26,24,7,0,30,26] ?_
   refine I.overN hT7 kr ?_
   refine go [31,32,33,2,4,1,34,31,37] ?_
   refine G.datBSnoc (ys := l) (x := bs.drop (atC bs (cutL bs).length)) (u := v28) selT selT ?_
   rw [show l.map (fun z : List UInt8 × Value => z.2) ++ [v28] = (l ++ [(bs.drop (atC bs (cutL bs).length), v28)]).map (·.2) from by rw [List.map_append]; rfl, show l.length + 1 = (l ++ [(bs.drop (atC bs (cutL bs).length), v28)]).length from by rw [List.length_append]; rfl]
   exact I.doneM ((v30, l ++ [(bs.drop (atC bs (cutL bs).length), v28)])) Y51 rfl Y23 (Rv.tmp rfl Rv.nil) rfl subT
  refine G.ownFact (v := ov) selT (fun hov _ => ?_)
  refine go [39,31,32,33,2,4,1,34,31,37] ?_
  exact I.doneM ((ov, l)) (by first | exact trivial | ((try dsimp only) <;> exact (by unfold chunksC; rw [if_neg (by omega), List.append_nil, hl]))) rfl Y23 (Rv.tmp rfl Rv.nil) rfl subT
 intro D i st hle hJ
 obtain ⟨ov, l⟩ := st
 try dsimp only at hJ
 try dsimp only
 obtain ⟨h, _⟩ := hJ
 cases h
def linkP (e : En) : Prop := e.kind = 3 ∧ 1 ≤ e.to.length ∧ e.to.length ≤ 200
instance (e : En) : Decidable (linkP e) := inferInstanceAs (Decidable (_ ∧ _))
def numP (e : En) : Prop := e.kind < 1 ∨ 3 < e.kind ∨ e.mode < 0 ∨ 511 < e.mode
instance (e : En) : Decidable (numP e) := inferInstanceAs (Decidable (_ ∨ _))
def badP2 (e : En) : Prop := (0 < e.data.length ∧ e.kind ≠ 2) ∨ (0 < e.to.length ∧ e.kind ≠ 3) ∨ (e.kind = 3 ∧ ¬ linkP e)
instance (e : En) : Decidable (badP2 e) := inferInstanceAs (Decidable (_ ∨ _))
theorem argP_iff (e : En) : argP e ↔ numP e ∨ badP2 e := by
 unfold argP numP badP2 linkP
 omega
instance : DecidableEq En := fun a b => decidable_of_iff (a.path = b.path ∧ a.kind = b.kind ∧ a.mode = b.mode ∧ a.data = b.data ∧ a.to = b.to) (by
 cases a
 cases b
 simp)
theorem en_eq {a b : En} : a = b ↔ a.path = b.path ∧ a.kind = b.kind ∧ a.mode = b.mode ∧ a.data = b.data ∧ a.to = b.to := by
 cases a
 cases b
 simp
set_option maxRecDepth 20000 in
set_option maxHeartbeats 4000000 in
theorem oneR_tr {Pd : Nat → Prop} (e : En) (d : Value) (hl : e.path.length ≤ 9223372036854775807) : Tr Tryz.prog 83 #[.agg #[.string (sB e.path), .int .i64 e.kind, .int .i64 e.mode, d, .string (sB e.to)]] [slc rByte Pd d e.data] [] (T0 (.int .i64 (oneM e))) := by
 refine Tr.of (l := [(0, .agg #[.string (sB e.path), .int .i64 e.kind, .int .i64 e.mode, d, .string (sB e.to)])]) Tryz.func83 rfl (n := 74) rfl (.cons rfl .nil) (fun w0 hro => ?_)
 have hd := ro1 hro
 obtain ⟨ad, cap, rfl⟩ := Ro.slv hd
 have hto := nil_len (s := e.to)
 refine go [9,10,60,0] ?_
 intro b1
 refine go [1,7,8,9,9,10,2,3,0,2,4] ?_
 refine G.op rfl (G.cR rfl rfl rfl rfl Tryz.func107 rfl rfl may0 (validR_tr _ (by omega)) ?_)
 refine go [2,15,7,8] ?_
 refine G.condP rfl (fun h7 => ?_) (fun h7 => ?_)
 ·refine go [9,10,1,7,8,11,12] ?_
  exact G.done0G rfl (Rv.tmp rfl Rv.nil) (by rw [one_bytes (by assumption)]; rfl)
 have hok : okP e.path := Decidable.of_not_not (by assumption)
 refine go [13,8,9,9] ?_
 refine G.cutK (X := Unit) (ts := [1, 2]) (p := []) (fun _ => True) (fun _ => [(25, .bool (decide (numP e)))]) (fun _ => []) (.cons rfl (.cons rfl .nil)) subT (.cons .nil) apT ?_ ?_
 ·refine go [10,2,3,1,2,4,2,9,0] ?_
  refine G.partP (t := 11) rfl (fun h11 => ?_) (fun h11 => ?_)
  ·refine go [4,4,4,2,2,0,4,4,4,2,2,0,4,4,4,2,2,7] ?_
   exact G.meet (()) trT (.consE rfl Y40 (.cons rfl (.cons rfl .nil))) subT
  refine go [3,3,1,3,4,3,10,2,2,0] ?_
  refine G.partP (t := 16) rfl (fun h16 => ?_) (fun h16 => ?_)
  ·refine go [4,4,4,2,2,0,4,4,4,2,2,7] ?_
   exact G.meet (()) trT (.consE rfl Y40 (.cons rfl (.cons rfl .nil))) subT
  refine go [3,3,2,3,4,3,9,2,2,0] ?_
  refine G.partP (t := 21) rfl (fun h21 => ?_) (fun h21 => ?_)
  ·refine go [4,4,4,2,2,7] ?_
   exact G.meet (()) trT (.consE rfl Y40 (.cons rfl (.cons rfl .nil))) subT
  refine go [3,3,2,3,4,3,10,2,2,7] ?_
  exact G.meet (()) trT (.consE rfl Y40 (.cons rfl (.cons rfl .nil))) subT
 intro _ hJ
 try dsimp only at hJ
 try dsimp only
 refine G.condP rfl (fun h25 => ?_) (fun h25 => ?_)
 ·refine go [9,10,1,7,8,11,12] ?_
  exact G.done0G rfl (Rv.tmp rfl Rv.nil) (by rw [one_arg hok ((argP_iff e).2 (.inl (by assumption)))]; rfl)
 refine go [13,8,9] ?_
 refine G.cutK (X := Unit) (ts := [1, 2]) (p := []) (fun _ => True) (fun _ => [(3, .bool (decide (linkP e)))]) (fun _ => []) (.cons rfl (.cons rfl .nil)) subT (.cons .nil) apT ?_ ?_
 ·refine go [10,2,3,1,2,4,2,13,0] ?_
  refine G.partP (t := 29) rfl (fun h29 => ?_) (fun h29 => ?_)
  ·refine go [3,3,4,3,4,3,21,3,12,2,2,0] ?_
   refine G.partP (t := 35) rfl (fun h35 => ?_) (fun h35 => ?_)
   ·refine go [3,3,4,3,4,3,21,3,11,2,2,1,7] ?_
    exact G.meet (()) trT (.consE rfl Y52 (.cons rfl (.cons rfl .nil))) subT
   refine go [4,4,4,4,2,2,1,7] ?_
   exact G.meet (()) trT (.consE rfl Y52 (.cons rfl (.cons rfl .nil))) subT
  refine go [4,4,4,4,2,2,0,4,4,4,4,2,2,1,7] ?_
  exact G.meet (()) trT (.consE rfl Y52 (.cons rfl (.cons rfl .nil))) subT
 intro _ hJ
 try dsimp only at hJ
 try dsimp only
 refine go [9,9] ?_
 refine G.cutK (X := Unit) (ts := [1, 2]) (p := []) (fun _ => True) (fun _ => [(69, .bool (decide (badP2 e)))]) (fun _ => []) (.cons rfl (.cons rfl .nil)) subT (.cons .nil) apT ?_ ?_
 ·refine go [10,2,3,3,2,4,2,5,2,10,0] ?_
  refine G.partP (t := 45) rfl (fun h45 => ?_) (fun h45 => ?_)
  ·refine go [3,3,1,3,4,3,14,2,2,0] ?_
   refine G.partP (t := 50) rfl (fun h50 => ?_) (fun h50 => ?_)
   ·refine go [4,4,4,4,4,6,6,6,4,2,2,0,4,4,4,4,6,6,4,2,2,7] ?_
    exact G.meet (()) trT (.consE rfl Y11 (.cons rfl (.cons rfl .nil))) subT
   refine go [3,3,4,3,4,3,21,3,10,3,0] ?_
   refine G.partP (t := 55) rfl (fun h55 => ?_) (fun h55 => ?_)
   ·refine go [3,3,1,3,4,3,14,3,2,2,2,0] ?_
    refine G.partP (t := 61) rfl (fun h61 => ?_) (fun h61 => ?_)
    ·refine go [4,4,4,4,6,6,4,2,2,7] ?_
     exact G.meet (()) trT (.consE rfl Y11 (.cons rfl (.cons rfl .nil))) subT
    refine go [3,3,1,3,4,3,13,3,0] ?_
    refine G.partP (t := 65) rfl (fun h65 => ?_) (fun h65 => ?_)
    ·refine go [3,0,3,15,3,2,2,2,7] ?_
     exact G.meet (()) trT (.consE rfl Y11 (.cons rfl (.cons rfl .nil))) subT
    refine go [4,4,3,2,2,2,7] ?_
    exact G.meet (()) trT (.consE rfl Y11 (.cons rfl (.cons rfl .nil))) subT
   refine go [4,4,4,3,2,2,2,0,3,3,1,3,4,3,13,3,0] ?_
   refine G.partP (t := 65) rfl (fun h65 => ?_) (fun h65 => ?_)
   ·refine go [3,0,3,15,3,2,2,2,7] ?_
    exact G.meet (()) trT (.consE rfl Y11 (.cons rfl (.cons rfl .nil))) subT
   refine go [4,4,3,2,2,2,7] ?_
   exact G.meet (()) trT (.consE rfl Y11 (.cons rfl (.cons rfl .nil))) subT
  refine go [4,4,4,2,2,0,3,3,4,3,4,3,21,3,10,3,0] ?_
  refine G.partP (t := 55) rfl (fun h55 => ?_) (fun h55 => ?_)
  ·refine go [3,3,1,3,4,3,14,3,2,2,2,0] ?_
   refine G.partP (t := 61) rfl (fun h61 => ?_) (fun h61 => ?_)
   ·refine go [4,4,4,4,6,6,4,2,2,7] ?_
    exact G.meet (()) trT (.consE rfl Y11 (.cons rfl (.cons rfl .nil))) subT
   refine go [3,3,1,3,4,3,13,3,0] ?_
   refine G.partP (t := 65) rfl (fun h65 => ?_) (fun h65 => ?_)
   ·refine go [3,0,3,15,3,2,2,2,7] ?_
    exact G.meet (()) trT (.consE rfl Y11 (.cons rfl (.cons rfl .nil))) subT
   refine go [4,4,3,2,2,2,7] ?_
   exact G.meet (()) trT (.consE rfl Y11 (.cons rfl (.cons rfl .nil))) subT
  refine go [4,4,4,3,2,2,2,0,3,3,1,3,4,3,13,3,0] ?_
  refine G.partP (t := 65) rfl (fun h65 => ?_) (fun h65 => ?_)
  ·refine go [3,0,3,15,3,2,2,2,7] ?_
   exact G.meet (()) trT (.consE rfl Y11 (.cons rfl (.cons rfl .nil))) subT
  refine go [4,4,3,2,2,2,7] ?_
  exact G.meet (()) trT (.consE rfl Y11 (.cons rfl (.cons rfl .nil))) subT
 intro _ hJ
 try dsimp only at hJ
 try dsimp only
 refine G.condP rfl (fun h69 => ?_) (fun h69 => ?_)
 ·refine go [9,10,1,7,8,11,12] ?_
  exact G.done0G rfl (Rv.tmp rfl Rv.nil) (by rw [one_arg hok ((argP_iff e).2 (.inr (by assumption)))]; rfl)
 have hna : ¬ argP e := fun h => ((argP_iff e).1 h).elim (by assumption) (by assumption)
 refine go [13,8,9,9,10,2,3,3,2,4,2,5,2,10,7,8] ?_
 refine G.condP rfl (fun h73 => ?_) (fun h73 => ?_)
 ·refine go [9,10,1,7,8,11,12] ?_
  exact G.done0G rfl (Rv.tmp rfl Rv.nil) (by rw [one_long hok hna (by omega)]; rfl)
 refine go [13,8,9,10,1,7,8,11] ?_
 exact G.done0G rfl (Rv.tmp rfl Rv.nil) (by rw [one_ok hok hna (by omega)]; rfl)
theorem Ro.one1 {w0 : World} {S Ps : Nat → Prop} {v : Value} {a : List UInt8} (h : Ro w0 S (slc rByte Ps v a)) : v.oneCell' = true := by
 obtain ⟨ad, cap, rfl⟩ := Ro.slv h
 rfl
def SortT (es : List En) : Prop := es.Pairwise fun a b => compareM a.path b.path = -1
def placeK (es : List En) (s : List UInt8) : Nat := es.findIdx fun e => ! decide (compareM e.path s < 0)
def isAt (es : List En) (s : List UInt8) : Prop := ∃ e ∈ es, e.path = s
instance (es : List En) (s : List UInt8) : Decidable (isAt es s) := inferInstanceAs (Decidable (∃ e ∈ es, e.path = s))
theorem cmp_lt_iff (a b : List UInt8) : compareM a b < 0 ↔ compareM a b = -1 := by
 have := compareM_ord.rng a b
 omega
theorem sort_mono {es : List En} (h : SortT es) {s : List UInt8} {q r : Nat} (hr : r < es.length) (hq : q ≤ r) (hc : compareM es[r].path s < 0) : compareM (es[q]'(by omega)).path s < 0 := by
 rcases Nat.lt_or_ge q r with h1 | h1
 ·have h2 := (List.pairwise_iff_getElem.1 h) q r (by omega) hr h1
  rw [cmp_lt_iff] at hc ⊢
  exact compareM_ord.trans _ _ _ h2 hc
 obtain rfl : q = r := by omega
 exact hc
theorem placeK_at {es : List En} {s : List UInt8} {k : Nat} (hk : k ≤ es.length) (h1 : ∀ q (hq : q < es.length), q < k → compareM es[q].path s < 0) (h2 : ∀ q (hq : q < es.length), k ≤ q → ¬ compareM es[q].path s < 0) : placeK es s = k := by
 unfold placeK
 rcases Nat.lt_or_ge k es.length with h | h
 ·refine (List.findIdx_eq h).2 ⟨by simpa using h2 k h (Nat.le_refl _), fun j hj => ?_⟩
  simpa using h1 j (by omega) hj
 obtain rfl : k = es.length := by omega
 exact List.findIdx_eq_length_of_false fun x hx => by
  obtain ⟨j, hj, rfl⟩ := List.getElem_of_mem hx
  simpa using h1 j hj hj
theorem isAt_iff {es : List En} (hs : SortT es) {s : List UInt8} {k : Nat} (h1 : ∀ q (hq : q < es.length), q < k → compareM es[q].path s < 0) (hk : k < es.length) (h2 : ¬ compareM es[k].path s < 0) : isAt es s ↔ compareM es[k].path s = 0 := by
 constructor
 ·rintro ⟨e, he, rfl⟩
  obtain ⟨j, hj, rfl⟩ := List.getElem_of_mem he
  have hjj : compareM es[j].path es[j].path = 0 := (compareM_ord.zero _ _).2 rfl
  rcases Nat.lt_or_ge j k with h | h
  ·have := h1 j hj h
   omega
  rcases Nat.lt_or_ge k j with h3 | h3
  ·have := (List.pairwise_iff_getElem.1 hs) k j hk hj h3
   omega
  obtain rfl : j = k := by omega
  exact hjj
 intro h
 exact ⟨es[k], List.getElem_mem hk, (compareM_ord.zero _ _).1 h⟩
theorem isAt_none {es : List En} {s : List UInt8} (h1 : ∀ q (hq : q < es.length), compareM es[q].path s < 0) : ¬ isAt es s := by
 rintro ⟨e, he, rfl⟩
 obtain ⟨j, hj, rfl⟩ := List.getElem_of_mem he
 have := h1 j hj
 have : compareM es[j].path es[j].path = 0 := (compareM_ord.zero _ _).2 rfl
 omega
theorem search_end {xs : List ET} {s : List UInt8} {i : Nat} (hso : SortT (ens xs)) (hlt : i < xs.length) (hlo : ∀ q (hq : q < xs.length), q < i → compareM xs[q].1.path s < 0) (hhi : ∀ q (hq : q < xs.length), i ≤ q → ¬ compareM xs[q].1.path s < 0) : placeK (ens xs) s = i ∧ (isAt (ens xs) s ↔ compareM xs[i].1.path s = 0) := by
 have hl := ens_length xs
 have g1 : ∀ q (hq : q < (ens xs).length), q < i → compareM (ens xs)[q].path s < 0 := fun q hq hqi => by
  rw [ens_get (by omega)]
  exact hlo q (by omega) hqi
 have g2 : ∀ q (hq : q < (ens xs).length), i ≤ q → ¬ compareM (ens xs)[q].path s < 0 := fun q hq hqi => by
  rw [ens_get (by omega)]
  exact hhi q (by omega) hqi
 have h := isAt_iff hso g1 (show i < (ens xs).length by omega) (g2 i (by omega) (Nat.le_refl _))
 rw [ens_get hlt] at h
 exact ⟨placeK_at (by omega) g1 g2, h⟩
theorem search_none {xs : List ET} {s : List UInt8} (hlo : ∀ q (hq : q < xs.length), q < xs.length → compareM xs[q].1.path s < 0) : placeK (ens xs) s = xs.length ∧ ¬ isAt (ens xs) s := by
 have hl := ens_length xs
 have g1 : ∀ q (hq : q < (ens xs).length), compareM (ens xs)[q].path s < 0 := fun q hq => by
  rw [ens_get (by omega)]
  exact hlo q (by omega) (by omega)
 exact ⟨placeK_at (by omega) (fun q hq _ => g1 q hq) (fun q hq h => by omega), isAt_none g1⟩
set_option maxRecDepth 20000 in
set_option maxHeartbeats 4000000 in
theorem place1_tr (e : En) (d : Value) (s : List UInt8) (hl : e.path.length ≤ 9223372036854775807) (hs : s.length ≤ 9223372036854775807) : Tr Tryz.prog 118 #[.agg #[.string (sB e.path), .int .i64 e.kind, .int .i64 e.mode, d, .string (sB e.to)], .string (sB s)] [] [] (T0 (.int .i64 (compareM e.path s))) := by
 refine Tr.of (l := [(0, .agg #[.string (sB e.path), .int .i64 e.kind, .int .i64 e.mode, d, .string (sB e.to)]), (1, .string (sB s))]) Tryz.func118 rfl (n := 9) rfl (.cons rfl (.cons rfl .nil)) (fun w0 hro => ?_)
 refine go [9,10,60,0] ?_
 intro b2
 refine go [1,7,8,9,10,2,3,0,2,4,0] ?_
 refine G.op rfl (G.cR rfl rfl rfl rfl Tryz.func71 rfl rfl may0 (compare_tr _ _ (by omega) (by omega)) ?_)
 refine go [1,7,8,11] ?_
 exact G.done0G rfl (Rv.tmp rfl Rv.nil) Y6
set_option maxRecDepth 20000 in
set_option maxHeartbeats 4000000 in
theorem search_tr {Ps : Nat → Prop} (v : Value) (xs : List ET) (s : List UInt8) (hs : s.length ≤ 9223372036854775807) (hn : xs.length ≤ 1000000) (hso : SortT (ens xs)) : Tr Tryz.prog 117 #[v, .string (sB s), .func (.func 118) #[] #[]] [slc rEV Ps v xs] [] (T0 (.tuple #[.int .i64 (placeK (ens xs) s : Int), .bool (decide (isAt (ens xs) s))])) := by
 refine Tr.of (l := [(0, v), (1, .string (sB s)), (2, .func (.func 118) #[] #[])]) Tryz.func117 rfl (n := 49) rfl (.cons rfl (.cons rfl (.cons rfl .nil))) (fun w0 hro => ?_)
 have hv := ro1 hro
 have hv' := hv
 obtain ⟨av, cv, bv, fv, rfl, hcapv, hmaxv, hnilv, hadv, helv⟩ := Ro.openT hv
 have hel' := ens_length xs
 refine go [9,10,1,1,7,8,9,10,0,2,5,1,7,8,9,10,0,1,1,7,8,9,15] ?_
 refine G.loopK (X := Nat × Nat) (ts := [0, 1, 2, 6, 7, 8]) (fun st => st.1 ≤ st.2 ∧ st.2 ≤ xs.length ∧ (∀ q (hq : q < xs.length), q < st.1 → compareM xs[q].1.path s < 0) ∧ (∀ q (hq : q < xs.length), st.2 ≤ q → ¬ compareM xs[q].1.path s < 0)) (fun st => [(9, .int .i64 (st.1 : Int)), (10, .int .i64 (st.2 : Int))]) (fun st => []) (fun st => st.2 - st.1) (x0 := (0, xs.length)) (.cons rfl (.cons rfl (.cons rfl (.cons rfl (.cons rfl (.cons rfl .nil)))))) subT (.cons (.cons .nil)) apT (by first | exact trivial | ((try dsimp only) <;> exact ⟨Nat.zero_le _, Nat.le_refl _, fun q _ h => absurd h (by omega), fun q h1 h2 => absurd h1 (by omega)⟩)) (.consE rfl veqT (.consE rfl veqT .nil)) (fun st hJ => ?_)
 obtain ⟨i, j⟩ := st
 try dsimp only at hJ
 try dsimp only
 obtain ⟨hij, hj, hlo, hhi⟩ := hJ
 refine go [9,9,10,0,0,2,9,7,8] ?_
 refine G.condP rfl (fun h17 => ?_) (fun h17 => ?_)
 ·have hlt : (i + j) / 2 < xs.length := by omega
  have hEv := helv ((i + j) / 2) hlt
  have hRv := Ro.evRng hEv
  have hDv := Ro.evDat hEv
  obtain ⟨hk1v, hk2v, hlpv, hldv, hltv⟩ := Ro.evOk hEv
  have hCv := Ro.one1 hDv
  refine go [13,8,15,9,10,0,0,2,6] ?_
  refine G.op rfl (G.val rfl rfl ((pv_conv (by rw [Tryz.underlying3]; rfl) Tryz.underlying174 rfl).int (b := ((i + j : Nat) : Int)) (by rw [IntWalk.u64_in _ (by omega)]; omega)) ?_)
  refine G.op rfl (G.val rfl rfl ((pv_shr (s := 1) rfl rfl (by decide)).int (b := (((i + j) / 2 : Nat) : Int)) (by omega)) ?_)
  refine G.op rfl (G.val rfl rfl ((pv_conv (by rw [Tryz.underlying174]; rfl) Tryz.underlying3 rfl).int (b := (((i + j) / 2 : Nat) : Int)) (by rw [IntWalk.i64_in _ (by omega)])) ?_)
  refine go [1,7,8,9,10,0,0,0,2,20,5,2,50,0,0] ?_
  refine G.op rfl (G.cRv rfl rfl rfl rfl rfl Tryz.func118 rfl rfl (by rfl) may0 (place1_tr xs[(i + j) / 2].1 _ s (by omega) hs) ?_)
  refine go [2,9,7,8] ?_
  refine G.condP rfl (fun h31 => ?_) (fun h31 => ?_)
  ·have hneg := h31
   refine go [10,0,2,6,1,7,16] ?_
   exact G.next (((i + j) / 2 + 1, j)) (by first | exact trivial | ((try dsimp only) <;> exact ⟨by omega, hj, fun q hq hqi => by have := sort_mono hso (r := (i + j) / 2) (q := q) (s := s) (by omega) (by omega) (by rw [ens_get hlt]; exact hneg); rwa [ens_get hq] at this, hhi⟩)) (by (try dsimp only); omega) (.consE rfl veqT (.consE rfl veqT (.cons rfl (.cons rfl (.cons rfl (.cons rfl (.cons rfl (.cons rfl .nil)))))))) subT
  have hneg := h31
  refine go [10,0,1,7,16] ?_
  exact G.next ((i, (i + j) / 2)) (by first | exact trivial | ((try dsimp only) <;> exact ⟨by omega, by omega, hlo, fun q hq hqi h => hneg (by have := sort_mono hso (r := q) (q := (i + j) / 2) (s := s) (by omega) hqi (by rw [ens_get hq]; exact h); rwa [ens_get hlt] at this)⟩)) (by (try dsimp only); omega) (.consE rfl veqT (.consE rfl veqT (.cons rfl (.cons rfl (.cons rfl (.cons rfl (.cons rfl (.cons rfl .nil)))))))) subT
 refine go [18,14,14,19,8,9,10,0,0,0,2,9,0] ?_
 refine G.partP (t := 39) rfl (fun h39 => ?_) (fun h39 => ?_)
 ·obtain rfl : i = j := by omega
  have hlt : i < xs.length := by omega
  have hEv := helv i hlt
  have hRv := Ro.evRng hEv
  have hDv := Ro.evDat hEv
  obtain ⟨hk1v, hk2v, hlpv, hldv, hltv⟩ := Ro.evOk hEv
  have hCv := Ro.one1 hDv
  refine go [3,0,3,0,3,0,3,20,5,3,50,0,3,0] ?_
  refine G.want rfl rfl rfl (G.cRv rfl rfl rfl rfl rfl Tryz.func118 rfl rfl (by rfl) may0 (place1_tr xs[i].1 _ s (by omega) hs) ?_)
  refine go [3,13,2,2,1,1,7,8,11] ?_
  obtain ⟨hp, hi⟩ := search_end hso hlt hlo hhi
  exact G.done0G rfl (Rv.tmp rfl (Rv.tmp rfl Rv.nil)) (by rw [hp]; simp [retV2, hi])
 refine go [4,4,4,4,4,4,4,4,2,2,1,1,7,8,11] ?_
 obtain rfl : i = xs.length := by omega
 obtain ⟨hp, hi⟩ := search_none (s := s) hlo
 exact G.done0G rfl (Rv.tmp rfl (Rv.tmp rfl Rv.nil)) (by rw [hp, decide_eq_false hi]; rfl)
set_option maxRecDepth 20000 in
set_option maxHeartbeats 4000000 in
theorem place_tr {Ps : Nat → Prop} (v : Value) (xs : List ET) (s : List UInt8) (hn : xs.length ≤ 1000000) (hso : SortT (ens xs)) (hs : s.length ≤ 9223372036854775807) : Tr Tryz.prog 80 #[v, .string (sB s)] [slc rEV Ps v xs] [] (T0 (.tuple #[.int .i64 (placeK (ens xs) s : Int), .bool (decide (isAt (ens xs) s))])) := by
 refine Tr.of (l := [(0, v), (1, .string (sB s))]) Tryz.func80 rfl (n := 11) rfl (.cons rfl (.cons rfl .nil)) (fun w0 hro => ?_)
 have hv := ro1 hro
 refine go [9,10,1,1,7,8,9,10,0,0] ?_
 refine G.op rfl (G.cR rfl rfl rfl rfl Tryz.func117 rfl rfl (may1 Y3) (search_tr _ xs s hs hn hso) ?_)
 refine go [2,7,2,7,1,1,7,8,11] ?_
 exact G.done0G rfl (Rv.tmp rfl (Rv.tmp rfl Rv.nil)) Y6
end Go.Proofs.YtbfpbibkklfnfaaGreat
