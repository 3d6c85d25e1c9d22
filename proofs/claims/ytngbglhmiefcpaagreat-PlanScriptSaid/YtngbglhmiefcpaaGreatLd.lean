/- Merged of NC, NF, ZA, ZB, ZC, TV, VI, VJ, VA, VK, VL, VM, VP, DigM, DigA, DigB, DigC, DigD. Conditions: none. -/
import Derived.Test.YtngbglhmiefcpaaGreatLc
import Derived.DeepKeys4
import Derived.Laws.BitsLemmas
import Derived.Deep.OwnRows
import Derived.Laws.Rows
import Derived.Laws.Tables
import Derived.Laws.CopyOwn
import Derived.StillTailTactics
import Derived.Test.YtngbglhmiefcpaaGreatProg
import Derived.Deep.RegionHeld3
import Derived.Deep.Cut
import Derived.Deep.DeepCutAuto
set_option maxRecDepth 20000
set_option linter.unusedVariables false
set_option linter.unusedSimpArgs false
namespace Go.Proofs.YtngbglhmiefcpaaGreat
open Go.RowKit
structure Sh where
 name : List UInt8
 n : Int
 ns : Int
 i : Int
 is : Int
 b : Int
 bs : Int
def shTab : List Sh := [⟨[98, 101, 103, 105, 110], 3, 3, 0, 0, 0, 0⟩, ⟨[112, 97, 114, 116], 1, 1, 0, 0, 1, 1000⟩, ⟨[113, 117, 101, 114, 121], 0, 0, 1, 16, 0, 0⟩, ⟨[103, 105, 118, 101], 0, 0, 1, 1, 1, 1024⟩, ⟨[99, 111, 109, 109, 105, 116], 0, 0, 0, 0, 0, 0⟩, ⟨[97, 98, 111, 114, 116], 0, 0, 0, 0, 0, 0⟩, ⟨[108, 105, 115, 116], 0, 0, 0, 0, 0, 0⟩, ⟨[114, 101, 115, 116, 111, 114, 101], 1, 1, 0, 0, 0, 0⟩, ⟨[109, 111, 114, 101], 1, 1, 0, 0, 0, 0⟩, ⟨[102, 101, 116, 99, 104], 0, 0, 1, 16, 0, 0⟩, ⟨[118, 101, 114, 105, 102, 121], 1, 1, 0, 0, 0, 0⟩, ⟨[102, 111, 114, 103, 101, 116], 1, 1, 0, 0, 0, 0⟩, ⟨[112, 114, 117, 110, 101], 0, 0, 0, 0, 0, 0⟩, ⟨[117, 115, 97, 103, 101], 0, 0, 0, 0, 0, 0⟩, ⟨[112, 105, 110, 103], 1, 1, 0, 0, 0, 0⟩, ⟨[114, 101, 97, 100, 121], 1, 1, 0, 0, 0, 0⟩, ⟨[104, 97, 118, 101], 1, 16, 0, 0, 0, 0⟩, ⟨[116, 111, 111, 107], 0, 0, 1, 1, 0, 0⟩, ⟨[100, 111, 110, 101], 1, 1, 0, 0, 0, 0⟩, ⟨[102, 97, 105, 108], 2, 2, 0, 0, 0, 0⟩, ⟨[115, 110, 97, 112, 115], 0, 128, 0, 0, 0, 0⟩, ⟨[112, 105, 101, 99, 101], 2, 2, 0, 0, 0, 1000⟩, ⟨[99, 104, 117, 110, 107], 0, 0, 1, 1, 1, 1024⟩, ⟨[99, 111, 117, 110, 116], 2, 2, 0, 0, 0, 0⟩]
def shM (k : Int) : Option Sh := if 1 ≤ k ∧ k ≤ 24 then shTab[(k - 1).toNat]? else none
def rowS (s : Sh) : List Value := [.string (sB s.name), .int .i64 s.n, .int .i64 s.ns, .int .i64 s.i, .int .i64 s.is, .int .i64 s.b, .int .i64 s.bs]
def sh0 : Sh := ⟨[], 0, 0, 0, 0, 0, 0⟩
def shCells : List Value := [.string ⟨#[]⟩, .int .i64 0, .int .i64 0, .int .i64 0, .int .i64 0, .int .i64 0, .int .i64 0, .string ⟨#[98, 101, 103, 105, 110]⟩, .int .i64 3, .int .i64 3, .int .i64 0, .int .i64 0, .int .i64 0, .int .i64 0, .string ⟨#[112, 97, 114, 116]⟩, .int .i64 1, .int .i64 1, .int .i64 0, .int .i64 0, .int .i64 1, .int .i64 1000, .string ⟨#[113, 117, 101, 114, 121]⟩, .int .i64 0, .int .i64 0, .int .i64 1, .int .i64 16, .int .i64 0, .int .i64 0, .string ⟨#[103, 105, 118, 101]⟩, .int .i64 0, .int .i64 0, .int .i64 1, .int .i64 1, .int .i64 1, .int .i64 1024, .string ⟨#[99, 111, 109, 109, 105, 116]⟩, .int .i64 0, .int .i64 0, .int .i64 0, .int .i64 0, .int .i64 0, .int .i64 0, .string ⟨#[97, 98, 111, 114, 116]⟩, .int .i64 0, .int .i64 0, .int .i64 0, .int .i64 0, .int .i64 0, .int .i64 0, .string ⟨#[108, 105, 115, 116]⟩, .int .i64 0, .int .i64 0, .int .i64 0, .int .i64 0, .int .i64 0, .int .i64 0, .string ⟨#[114, 101, 115, 116, 111, 114, 101]⟩, .int .i64 1, .int .i64 1, .int .i64 0, .int .i64 0, .int .i64 0, .int .i64 0, .string ⟨#[109, 111, 114, 101]⟩, .int .i64 1, .int .i64 1, .int .i64 0, .int .i64 0, .int .i64 0, .int .i64 0, .string ⟨#[102, 101, 116, 99, 104]⟩, .int .i64 0, .int .i64 0, .int .i64 1, .int .i64 16, .int .i64 0, .int .i64 0, .string ⟨#[118, 101, 114, 105, 102, 121]⟩, .int .i64 1, .int .i64 1, .int .i64 0, .int .i64 0, .int .i64 0, .int .i64 0, .string ⟨#[102, 111, 114, 103, 101, 116]⟩, .int .i64 1, .int .i64 1, .int .i64 0, .int .i64 0, .int .i64 0, .int .i64 0, .string ⟨#[112, 114, 117, 110, 101]⟩, .int .i64 0, .int .i64 0, .int .i64 0, .int .i64 0, .int .i64 0, .int .i64 0, .string ⟨#[117, 115, 97, 103, 101]⟩, .int .i64 0, .int .i64 0, .int .i64 0, .int .i64 0, .int .i64 0, .int .i64 0, .string ⟨#[112, 105, 110, 103]⟩, .int .i64 1, .int .i64 1, .int .i64 0, .int .i64 0, .int .i64 0, .int .i64 0, .string ⟨#[114, 101, 97, 100, 121]⟩, .int .i64 1, .int .i64 1, .int .i64 0, .int .i64 0, .int .i64 0, .int .i64 0, .string ⟨#[104, 97, 118, 101]⟩, .int .i64 1, .int .i64 16, .int .i64 0, .int .i64 0, .int .i64 0, .int .i64 0, .string ⟨#[116, 111, 111, 107]⟩, .int .i64 0, .int .i64 0, .int .i64 1, .int .i64 1, .int .i64 0, .int .i64 0, .string ⟨#[100, 111, 110, 101]⟩, .int .i64 1, .int .i64 1, .int .i64 0, .int .i64 0, .int .i64 0, .int .i64 0, .string ⟨#[102, 97, 105, 108]⟩, .int .i64 2, .int .i64 2, .int .i64 0, .int .i64 0, .int .i64 0, .int .i64 0, .string ⟨#[115, 110, 97, 112, 115]⟩, .int .i64 0, .int .i64 128, .int .i64 0, .int .i64 0, .int .i64 0, .int .i64 0, .string ⟨#[112, 105, 101, 99, 101]⟩, .int .i64 2, .int .i64 2, .int .i64 0, .int .i64 0, .int .i64 0, .int .i64 1000, .string ⟨#[99, 104, 117, 110, 107]⟩, .int .i64 0, .int .i64 0, .int .i64 1, .int .i64 1, .int .i64 1, .int .i64 1024, .string ⟨#[99, 111, 117, 110, 116]⟩, .int .i64 2, .int .i64 2, .int .i64 0, .int .i64 0, .int .i64 0, .int .i64 0]
def refCells : List Value := [.string ⟨#[98, 101, 103, 105, 110]⟩, .int .i64 3, .int .i64 3, .int .i64 0, .int .i64 0, .int .i64 0, .int .i64 0, .string ⟨#[112, 97, 114, 116]⟩, .int .i64 1, .int .i64 1, .int .i64 0, .int .i64 0, .int .i64 1, .int .i64 1000, .string ⟨#[113, 117, 101, 114, 121]⟩, .int .i64 0, .int .i64 0, .int .i64 1, .int .i64 16, .int .i64 0, .int .i64 0, .string ⟨#[103, 105, 118, 101]⟩, .int .i64 0, .int .i64 0, .int .i64 1, .int .i64 1, .int .i64 1, .int .i64 1024, .string ⟨#[99, 111, 109, 109, 105, 116]⟩, .int .i64 0, .int .i64 0, .int .i64 0, .int .i64 0, .int .i64 0, .int .i64 0, .string ⟨#[97, 98, 111, 114, 116]⟩, .int .i64 0, .int .i64 0, .int .i64 0, .int .i64 0, .int .i64 0, .int .i64 0, .string ⟨#[108, 105, 115, 116]⟩, .int .i64 0, .int .i64 0, .int .i64 0, .int .i64 0, .int .i64 0, .int .i64 0, .string ⟨#[114, 101, 115, 116, 111, 114, 101]⟩, .int .i64 1, .int .i64 1, .int .i64 0, .int .i64 0, .int .i64 0, .int .i64 0, .string ⟨#[109, 111, 114, 101]⟩, .int .i64 1, .int .i64 1, .int .i64 0, .int .i64 0, .int .i64 0, .int .i64 0, .string ⟨#[102, 101, 116, 99, 104]⟩, .int .i64 0, .int .i64 0, .int .i64 1, .int .i64 16, .int .i64 0, .int .i64 0, .string ⟨#[118, 101, 114, 105, 102, 121]⟩, .int .i64 1, .int .i64 1, .int .i64 0, .int .i64 0, .int .i64 0, .int .i64 0, .string ⟨#[102, 111, 114, 103, 101, 116]⟩, .int .i64 1, .int .i64 1, .int .i64 0, .int .i64 0, .int .i64 0, .int .i64 0, .string ⟨#[112, 114, 117, 110, 101]⟩, .int .i64 0, .int .i64 0, .int .i64 0, .int .i64 0, .int .i64 0, .int .i64 0, .string ⟨#[117, 115, 97, 103, 101]⟩, .int .i64 0, .int .i64 0, .int .i64 0, .int .i64 0, .int .i64 0, .int .i64 0, .string ⟨#[112, 105, 110, 103]⟩, .int .i64 1, .int .i64 1, .int .i64 0, .int .i64 0, .int .i64 0, .int .i64 0, .string ⟨#[114, 101, 97, 100, 121]⟩, .int .i64 1, .int .i64 1, .int .i64 0, .int .i64 0, .int .i64 0, .int .i64 0, .string ⟨#[104, 97, 118, 101]⟩, .int .i64 1, .int .i64 16, .int .i64 0, .int .i64 0, .int .i64 0, .int .i64 0, .string ⟨#[116, 111, 111, 107]⟩, .int .i64 0, .int .i64 0, .int .i64 1, .int .i64 1, .int .i64 0, .int .i64 0, .string ⟨#[100, 111, 110, 101]⟩, .int .i64 1, .int .i64 1, .int .i64 0, .int .i64 0, .int .i64 0, .int .i64 0, .string ⟨#[102, 97, 105, 108]⟩, .int .i64 2, .int .i64 2, .int .i64 0, .int .i64 0, .int .i64 0, .int .i64 0, .string ⟨#[115, 110, 97, 112, 115]⟩, .int .i64 0, .int .i64 128, .int .i64 0, .int .i64 0, .int .i64 0, .int .i64 0, .string ⟨#[112, 105, 101, 99, 101]⟩, .int .i64 2, .int .i64 2, .int .i64 0, .int .i64 0, .int .i64 0, .int .i64 1000, .string ⟨#[99, 104, 117, 110, 107]⟩, .int .i64 0, .int .i64 0, .int .i64 1, .int .i64 1, .int .i64 1, .int .i64 1024, .string ⟨#[99, 111, 117, 110, 116]⟩, .int .i64 2, .int .i64 2, .int .i64 0, .int .i64 0, .int .i64 0, .int .i64 0]
theorem shM_in {k : Int} {s : Sh} (h : shM k = some s) : 1 ≤ k ∧ k ≤ 24 ∧ shTab[(k - 1).toNat]? = some s := by
 unfold shM at h
 split at h
 ·rename_i h1
  exact ⟨h1.1, h1.2, h⟩
 cases h
theorem shM_out {k : Int} (h : shM k = none) : k < 1 ∨ 24 < k := by
 unfold shM at h
 split at h
 ·rename_i h1
  have : (k - 1).toNat < shTab.length := by show _ < 24; omega
  rw [List.getElem?_eq_getElem this] at h
  cases h
 omega
theorem shRow {j : Nat} {s : Sh} (h : shTab[j]? = some s) : (shCells.drop ((j + 1) * 7)).take 7 = rowS s ∧ (refCells.drop (j * 7)).take 7 = rowS s := by
 have hj : j < 24 := (List.getElem?_eq_some_iff.1 h).1
 have : j = 0 ∨ j = 1 ∨ j = 2 ∨ j = 3 ∨ j = 4 ∨ j = 5 ∨ j = 6 ∨ j = 7 ∨ j = 8 ∨ j = 9 ∨ j = 10 ∨ j = 11 ∨ j = 12 ∨ j = 13 ∨ j = 14 ∨ j = 15 ∨ j = 16 ∨ j = 17 ∨ j = 18 ∨ j = 19 ∨ j = 20 ∨ j = 21 ∨ j = 22 ∨ j = 23 := by omega
 rcases this with rfl | rfl | rfl | rfl | rfl | rfl | rfl | rfl | rfl | rfl | rfl | rfl | rfl | rfl | rfl | rfl | rfl | rfl | rfl | rfl | rfl | rfl | rfl | rfl <;> (injection h with h; subst h; exact ⟨rfl, rfl⟩)
theorem shOk {j : Nat} {s : Sh} (h : shTab[j]? = some s) : 0 ≤ s.n ∧ s.n ≤ s.ns ∧ s.ns ≤ 128 ∧ 0 ≤ s.i ∧ s.i ≤ s.is ∧ s.is ≤ 16 ∧ 0 ≤ s.b ∧ s.b ≤ s.bs ∧ s.bs ≤ 1024 ∧ s.name ≠ [] := by
 have hj : j < 24 := (List.getElem?_eq_some_iff.1 h).1
 have : j = 0 ∨ j = 1 ∨ j = 2 ∨ j = 3 ∨ j = 4 ∨ j = 5 ∨ j = 6 ∨ j = 7 ∨ j = 8 ∨ j = 9 ∨ j = 10 ∨ j = 11 ∨ j = 12 ∨ j = 13 ∨ j = 14 ∨ j = 15 ∨ j = 16 ∨ j = 17 ∨ j = 18 ∨ j = 19 ∨ j = 20 ∨ j = 21 ∨ j = 22 ∨ j = 23 := by omega
 rcases this with rfl | rfl | rfl | rfl | rfl | rfl | rfl | rfl | rfl | rfl | rfl | rfl | rfl | rfl | rfl | rfl | rfl | rfl | rfl | rfl | rfl | rfl | rfl | rfl <;> (injection h with h; subst h; decide)
set_option maxHeartbeats 4000000 in
theorem of_tr (k : Int) : Tr Tryz.prog 134 #[.int .i64 k] [] [] (T0 (.agg #[.int .i64 k, .int .i64 k])) := by
 refine Tr.of (l := [(0, .int .i64 k)]) Tryz.func134 rfl (n := 6) rfl (.cons rfl .nil) (fun w0 hro => ?_)
 refine go [9,10,60,20] ?_
 intro b2
 refine go [7,8,9,10,0,0,2,50,6,20,7,8,11] ?_
 exact G.done0G rfl (Rv.cellN (cs := [_, _]) rfl Tryz.underlying120 rfl kr Y36 Rv.nil) Y7
set_option maxHeartbeats 4000000 in
theorem has_tr (a b k : Int) : Tr Tryz.prog 66 #[.agg #[.int .i64 a, .int .i64 b], .int .i64 k] [] [] (T0 (.bool (decide (a ≤ k ∧ k ≤ b)))) := by
 refine Tr.of (l := [(0, .agg #[.int .i64 a, .int .i64 b]), (1, .int .i64 k)]) Tryz.func66 rfl (n := 15) rfl (.cons rfl (.cons rfl .nil)) (fun w0 hro => ?_)
 refine go [9,10] ?_
 refine G.op rfl (G.box rfl rfl (cs := [_, _]) rfl ?_)
 intro b2
 refine go [1,7,8,9,10,2,3,0,2,4,0,2,11,0] ?_
 refine G.partP (t := 9) rfl (fun h9 => ?_) (fun h9 => ?_)
 ·refine go [3,0,3,3,1,3,4,3,11,2,2,1,7,8,11] ?_
  exact G.done1 rfl rfl .nil ⟨congrArg Value.bool (by simp [*]), rfl⟩
 refine go [4,4,4,4,2,2,1,7,8,11] ?_
 exact G.done1 rfl rfl .nil ⟨congrArg Value.bool (by simp [*]), rfl⟩
set_option maxHeartbeats 4000000 in
theorem within_tr (k a b : Int) : Tr Tryz.prog 130 #[.int .i64 k, .int .i64 a, .int .i64 b] [] [] (T0 (.bool (decide (a ≤ k ∧ k ≤ b)))) := by
 refine Tr.of (l := [(0, .int .i64 k), (1, .int .i64 a), (2, .int .i64 b)]) Tryz.func130 rfl (n := 15) rfl (.cons rfl (.cons rfl (.cons rfl .nil))) (fun w0 hro => ?_)
 refine go [9,10,1,7,8,9,10,0,0,2,12,0] ?_
 refine G.partP (t := 10) rfl (fun h10 => ?_) (fun h10 => ?_)
 ·refine go [3,0,3,0,3,11,2,2,1,7,8,11] ?_
  exact G.done1 rfl rfl .nil ⟨congrArg Value.bool (by simp [*]), rfl⟩
 refine go [4,4,4,2,2,1,7,8,11] ?_
 exact G.done1 rfl rfl .nil ⟨congrArg Value.bool (by simp [*]), rfl⟩
set_option maxRecDepth 100000 in
set_option maxHeartbeats 4000000 in
theorem shapes_tr : Tr Tryz.prog 96 #[] [] [] (TX (fun _ : Nat => True) (fun b => .pointer (some ⟨b, 0, none⟩)) (fun b => [blk b 195 shCells])) := by
 refine Tr.of (l := []) Tryz.func96 rfl (n := 101) rfl Fa.nil (fun w0 hro => ?_)
 refine go [9,10,1,7,8,9,10,2,50,6,60,20] ?_
 intro b1
 refine go [20,7,8,9] ?_
 refine G.drawT (nn := 99) (p := []) (rem := 633825300114114700748351602687) [0, 1, 2, 7, 4, 16, 0, 112, 32, 0, 256, 1792, 1024, 4096, 0, 28672, 8192, 65536, 131072, 458752, 262144, 1048576, 2097152, 7340032, 4194304, 16777216, 33554432, 117440512, 67108864, 268435456, 536870912, 1879048192, 1073741824, 4294967296, 8589934592, 30064771072, 17179869184, 0, 68719476736, 481036337152, 274877906944, 1099511627776, 2199023255552, 7696581394432, 4398046511104, 17592186044416, 35184372088832, 123145302310912, 70368744177664, 281474976710656, 562949953421312, 1970324836974592, 1125899906842624, 4503599627370496, 9007199254740992, 31525197391593472, 18014398509481984, 72057594037927936, 144115188075855872, 504403158265495552, 288230376151711744, 1152921504606846976, 2305843009213693952, 8070450532247928832, 0, 4611686018427387904, 36893488147419103232, 129127208515966861312, 73786976294838206464, 295147905179352825856, 590295810358705651712, 2066035336255469780992, 1180591620717411303424, 4722366482869645213696, 9444732965739290427392, 33056565380087516495872, 18889465931478580854784, 75557863725914323419136, 151115727451828646838272, 528905046081400263933952, 0, 302231454903657293676544, 2417851639229258349412352, 8462480737302404222943232, 4835703278458516698824704, 19342813113834066795298816, 0, 135399691796838467567091712, 38685626227668133590597632, 309485009821345068724781056, 0, 2166395068749415481073467392, 618970019642690137449562112, 4951760157141521099596496896, 9903520314283042199192993792, 34662321099990647697175478272, 42255020007607646716556773512, 79228162514264337593543950336, 316912650057057350374175801343] [0, 0, 0, 7, 0, 0, 0, 112, 0, 0, 0, 1792, 0, 0, 0, 28672, 0, 0, 0, 458752, 0, 0, 0, 7340032, 0, 0, 0, 117440512, 0, 0, 0, 1879048192, 0, 0, 0, 30064771072, 0, 0, 0, 481036337152, 0, 0, 0, 7696581394432, 0, 0, 0, 123145302310912, 0, 0, 0, 1970324836974592, 0, 0, 0, 31525197391593472, 0, 0, 0, 504403158265495552, 0, 0, 0, 8070450532247928832, 0, 0, 0, 129127208515966861312, 0, 0, 0, 2066035336255469780992, 0, 0, 0, 33056565380087516495872, 0, 0, 0, 528905046081400263933952, 0, 0, 0, 8462480737302404222943232, 0, 0, 0, 135399691796838467567091712, 0, 0, 0, 2166395068749415481073467392, 0, 0, 0, 34662321099990647697175478272, 42255020007607646716556773512, 79228162514264337593543950336, 158456325028528675187087900672] kr ⟨rfl, by kernel_rfl, by kernel_rfl⟩ subT kr (fun hT2 => ?_)
 refine go [22,6,633825300114114700748351602623,50,6,22,14,633825300114114700748351586239,50,6,22,80,633824091188295086119176880063,50,6,22,86,633746719935839749851995684799,50,6,22,90,632508779896554369577096560575,50,6,22,9,632508779896554369577096560063,50,14,22,37,632508779896554369439657606591,50,14,22,64,632508779878107625365948054975,50,14,24,0,632508779878107625365948054974] ?_
 refine G.turnOp rfl rfl (G.cR rfl rfl rfl rfl Tryz.func134 rfl rfl may0 (of_tr _) ?_)
 refine go [26,24,1,632508779878107625365948054972] ?_
 refine G.turnOp rfl rfl (G.cR rfl rfl rfl rfl Tryz.func134 rfl rfl may0 (of_tr _) ?_)
 refine go [26,24,2,632508779878107625365948054968] ?_
 refine G.turnOp rfl rfl (G.cR rfl rfl rfl rfl Tryz.func134 rfl rfl may0 (of_tr _) ?_)
 refine go [26,22,3,632508779878107625365948054960,50,3,24,4,632508779878107625365948054944] ?_
 refine G.turnOp rfl rfl (G.cR rfl rfl rfl rfl Tryz.func134 rfl rfl may0 (of_tr _) ?_)
 refine go [26,24,5,632508779878107625365948054912] ?_
 refine G.turnOp rfl rfl (G.cR rfl rfl rfl rfl Tryz.func134 rfl rfl may0 (of_tr _) ?_)
 refine go [26,22,7,632508779878107625365948054784,50,3,24,8,632508779878107625365948054528] ?_
 refine G.turnOp rfl rfl (G.cR rfl rfl rfl rfl Tryz.func134 rfl rfl may0 (of_tr _) ?_)
 refine go [26,24,10,632508779878107625365948053504] ?_
 refine G.turnOp rfl rfl (G.cR rfl rfl rfl rfl Tryz.func134 rfl rfl may0 (of_tr _) ?_)
 refine go [26,22,11,632508779878107625365948051456,50,3,24,12,632508779878107625365948047360] ?_
 refine G.turnOp rfl rfl (G.cR rfl rfl rfl rfl Tryz.func134 rfl rfl may0 (of_tr _) ?_)
 refine go [26,24,13,632508779878107625365948039168] ?_
 refine G.turnOp rfl rfl (G.cR rfl rfl rfl rfl Tryz.func134 rfl rfl may0 (of_tr _) ?_)
 refine go [26,22,15,632508779878107625365948006400,50,3,24,16,632508779878107625365947940864] ?_
 refine G.turnOp rfl rfl (G.cR rfl rfl rfl rfl Tryz.func134 rfl rfl may0 (of_tr _) ?_)
 refine go [26,24,17,632508779878107625365947809792] ?_
 refine G.turnOp rfl rfl (G.cR rfl rfl rfl rfl Tryz.func134 rfl rfl may0 (of_tr _) ?_)
 refine go [26,24,18,632508779878107625365947547648] ?_
 refine G.turnOp rfl rfl (G.cR rfl rfl rfl rfl Tryz.func134 rfl rfl may0 (of_tr _) ?_)
 refine go [26,22,19,632508779878107625365947023360,50,3,24,20,632508779878107625365945974784] ?_
 refine G.turnOp rfl rfl (G.cR rfl rfl rfl rfl Tryz.func134 rfl rfl may0 (of_tr _) ?_)
 refine go [26,24,21,632508779878107625365943877632] ?_
 refine G.turnOp rfl rfl (G.cR rfl rfl rfl rfl Tryz.func134 rfl rfl may0 (of_tr _) ?_)
 refine go [26,24,22,632508779878107625365939683328] ?_
 refine G.turnOp rfl rfl (G.cR rfl rfl rfl rfl Tryz.func134 rfl rfl may0 (of_tr _) ?_)
 refine go [26,22,23,632508779878107625365931294720,50,3,24,24,632508779878107625365914517504] ?_
 refine G.turnOp rfl rfl (G.cR rfl rfl rfl rfl Tryz.func134 rfl rfl may0 (of_tr _) ?_)
 refine go [26,24,25,632508779878107625365880963072] ?_
 refine G.turnOp rfl rfl (G.cR rfl rfl rfl rfl Tryz.func134 rfl rfl may0 (of_tr _) ?_)
 refine go [26,24,26,632508779878107625365813854208] ?_
 refine G.turnOp rfl rfl (G.cR rfl rfl rfl rfl Tryz.func134 rfl rfl may0 (of_tr _) ?_)
 refine go [26,22,27,632508779878107625365679636480,50,3,24,28,632508779878107625365411201024] ?_
 refine G.turnOp rfl rfl (G.cR rfl rfl rfl rfl Tryz.func134 rfl rfl may0 (of_tr _) ?_)
 refine go [26,24,29,632508779878107625364874330112] ?_
 refine G.turnOp rfl rfl (G.cR rfl rfl rfl rfl Tryz.func134 rfl rfl may0 (of_tr _) ?_)
 refine go [26,24,30,632508779878107625363800588288] ?_
 refine G.turnOp rfl rfl (G.cR rfl rfl rfl rfl Tryz.func134 rfl rfl may0 (of_tr _) ?_)
 refine go [26,22,31,632508779878107625361653104640,50,3,24,32,632508779878107625357358137344] ?_
 refine G.turnOp rfl rfl (G.cR rfl rfl rfl rfl Tryz.func134 rfl rfl may0 (of_tr _) ?_)
 refine go [26,24,33,632508779878107625348768202752] ?_
 refine G.turnOp rfl rfl (G.cR rfl rfl rfl rfl Tryz.func134 rfl rfl may0 (of_tr _) ?_)
 refine go [26,24,34,632508779878107625331588333568] ?_
 refine G.turnOp rfl rfl (G.cR rfl rfl rfl rfl Tryz.func134 rfl rfl may0 (of_tr _) ?_)
 refine go [26,22,35,632508779878107625297228595200,50,3,24,36,632508779878107625228509118464] ?_
 refine G.turnOp rfl rfl (G.cR rfl rfl rfl rfl Tryz.func134 rfl rfl may0 (of_tr _) ?_)
 refine go [26,24,38,632508779878107624953631211520] ?_
 refine G.turnOp rfl rfl (G.cR rfl rfl rfl rfl Tryz.func134 rfl rfl may0 (of_tr _) ?_)
 refine go [26,22,39,632508779878107624403875397632,50,3,24,40,632508779878107623304363769856] ?_
 refine G.turnOp rfl rfl (G.cR rfl rfl rfl rfl Tryz.func134 rfl rfl may0 (of_tr _) ?_)
 refine go [26,24,41,632508779878107621105340514304] ?_
 refine G.turnOp rfl rfl (G.cR rfl rfl rfl rfl Tryz.func134 rfl rfl may0 (of_tr _) ?_)
 refine go [26,24,42,632508779878107616707294003200] ?_
 refine G.turnOp rfl rfl (G.cR rfl rfl rfl rfl Tryz.func134 rfl rfl may0 (of_tr _) ?_)
 refine go [26,22,43,632508779878107607911200980992,50,3,24,44,632508779878107590319014936576] ?_
 refine G.turnOp rfl rfl (G.cR rfl rfl rfl rfl Tryz.func134 rfl rfl may0 (of_tr _) ?_)
 refine go [26,24,45,632508779878107555134642847744] ?_
 refine G.turnOp rfl rfl (G.cR rfl rfl rfl rfl Tryz.func134 rfl rfl may0 (of_tr _) ?_)
 refine go [26,24,46,632508779878107484765898670080] ?_
 refine G.turnOp rfl rfl (G.cR rfl rfl rfl rfl Tryz.func134 rfl rfl may0 (of_tr _) ?_)
 refine go [26,22,47,632508779878107344028410314752,50,3,24,48,632508779878107062553433604096] ?_
 refine G.turnOp rfl rfl (G.cR rfl rfl rfl rfl Tryz.func134 rfl rfl may0 (of_tr _) ?_)
 refine go [26,24,49,632508779878106499603480182784] ?_
 refine G.turnOp rfl rfl (G.cR rfl rfl rfl rfl Tryz.func134 rfl rfl may0 (of_tr _) ?_)
 refine go [26,24,50,632508779878105373703573340160] ?_
 refine G.turnOp rfl rfl (G.cR rfl rfl rfl rfl Tryz.func134 rfl rfl may0 (of_tr _) ?_)
 refine go [26,22,51,632508779878103121903759654912,50,3,24,52,632508779878098618304132284416] ?_
 refine G.turnOp rfl rfl (G.cR rfl rfl rfl rfl Tryz.func134 rfl rfl may0 (of_tr _) ?_)
 refine go [26,24,53,632508779878089611104877543424] ?_
 refine G.turnOp rfl rfl (G.cR rfl rfl rfl rfl Tryz.func134 rfl rfl may0 (of_tr _) ?_)
 refine go [26,24,54,632508779878071596706368061440] ?_
 refine G.turnOp rfl rfl (G.cR rfl rfl rfl rfl Tryz.func134 rfl rfl may0 (of_tr _) ?_)
 refine go [26,22,55,632508779878035567909349097472,50,3,24,56,632508779877963510315311169536] ?_
 refine G.turnOp rfl rfl (G.cR rfl rfl rfl rfl Tryz.func134 rfl rfl may0 (of_tr _) ?_)
 refine go [26,24,57,632508779877819395127235313664] ?_
 refine G.turnOp rfl rfl (G.cR rfl rfl rfl rfl Tryz.func134 rfl rfl may0 (of_tr _) ?_)
 refine go [26,24,58,632508779877531164751083601920] ?_
 refine G.turnOp rfl rfl (G.cR rfl rfl rfl rfl Tryz.func134 rfl rfl may0 (of_tr _) ?_)
 refine go [26,22,59,632508779876954703998780178432,50,3,24,60,632508779875801782494173331456] ?_
 refine G.turnOp rfl rfl (G.cR rfl rfl rfl rfl Tryz.func134 rfl rfl may0 (of_tr _) ?_)
 refine go [26,24,61,632508779873495939484959637504] ?_
 refine G.turnOp rfl rfl (G.cR rfl rfl rfl rfl Tryz.func134 rfl rfl may0 (of_tr _) ?_)
 refine go [26,24,62,632508779868884253466532249600] ?_
 refine G.turnOp rfl rfl (G.cR rfl rfl rfl rfl Tryz.func134 rfl rfl may0 (of_tr _) ?_)
 refine go [26,22,63,632508779859660881429677473792,50,3,24,65,632508779822767393282258370560] ?_
 refine G.turnOp rfl rfl (G.cR rfl rfl rfl rfl Tryz.func134 rfl rfl may0 (of_tr _) ?_)
 refine go [26,24,66,632508779748980416987420164096] ?_
 refine G.turnOp rfl rfl (G.cR rfl rfl rfl rfl Tryz.func134 rfl rfl may0 (of_tr _) ?_)
 refine go [26,22,67,632508779601406464397743751168,50,3,24,68,632508779306258559218390925312] ?_
 refine G.turnOp rfl rfl (G.cR rfl rfl rfl rfl Tryz.func134 rfl rfl may0 (of_tr _) ?_)
 refine go [26,24,69,632508778715962748859685273600] ?_
 refine G.turnOp rfl rfl (G.cR rfl rfl rfl rfl Tryz.func134 rfl rfl may0 (of_tr _) ?_)
 refine go [26,24,70,632508777535371128142273970176] ?_
 refine G.turnOp rfl rfl (G.cR rfl rfl rfl rfl Tryz.func134 rfl rfl may0 (of_tr _) ?_)
 refine go [26,22,71,632508775174187886707451363328,50,3,24,72,632508770451821403837806149632] ?_
 refine G.turnOp rfl rfl (G.cR rfl rfl rfl rfl Tryz.func134 rfl rfl may0 (of_tr _) ?_)
 refine go [26,24,73,632508761007088438098515722240] ?_
 refine G.turnOp rfl rfl (G.cR rfl rfl rfl rfl Tryz.func134 rfl rfl may0 (of_tr _) ?_)
 refine go [26,24,74,632508742117622506619934867456] ?_
 refine G.turnOp rfl rfl (G.cR rfl rfl rfl rfl Tryz.func134 rfl rfl may0 (of_tr _) ?_)
 refine go [26,22,75,632508704338690643662773157888,50,3,24,76,632508628780826917748449738752] ?_
 refine G.turnOp rfl rfl (G.cR rfl rfl rfl rfl Tryz.func134 rfl rfl may0 (of_tr _) ?_)
 refine go [26,24,77,632508477665099465919802900480] ?_
 refine G.turnOp rfl rfl (G.cR rfl rfl rfl rfl Tryz.func134 rfl rfl may0 (of_tr _) ?_)
 refine go [26,24,78,632508175433644562262509223936] ?_
 refine G.turnOp rfl rfl (G.cR rfl rfl rfl rfl Tryz.func134 rfl rfl may0 (of_tr _) ?_)
 refine go [26,22,79,632507570970734754947921870848,50,3,24,81,632505153119095525689572458496] ?_
 refine G.turnOp rfl rfl (G.cR rfl rfl rfl rfl Tryz.func134 rfl rfl may0 (of_tr _) ?_)
 refine go [26,24,82,632500317415817067172873633792] ?_
 refine G.turnOp rfl rfl (G.cR rfl rfl rfl rfl Tryz.func134 rfl rfl may0 (of_tr _) ?_)
 refine go [26,22,83,632490646009260150139475984384,50,3,24,84,632471303196146316072680685568] ?_
 refine G.turnOp rfl rfl (G.cR rfl rfl rfl rfl Tryz.func134 rfl rfl may0 (of_tr _) ?_)
 refine go [26,24,85,632432617569918647939090087936] ?_
 refine G.turnOp rfl rfl (G.cR rfl rfl rfl rfl Tryz.func134 rfl rfl may0 (of_tr _) ?_)
 refine go [26,22,87,632277875065007975404727697408,50,3,24,88,631968390055186630336002916352] ?_
 refine G.turnOp rfl rfl (G.cR rfl rfl rfl rfl Tryz.func134 rfl rfl may0 (of_tr _) ?_)
 refine go [26,24,89,631349420035543940198553354240] ?_
 refine G.turnOp rfl rfl (G.cR rfl rfl rfl rfl Tryz.func134 rfl rfl may0 (of_tr _) ?_)
 refine go [26,22,91,628873539956973179648755105792,50,3,24,92,623921779799831658549158608896] ?_
 refine G.turnOp rfl rfl (G.cR rfl rfl rfl rfl Tryz.func134 rfl rfl may0 (of_tr _) ?_)
 refine go [26,24,93,614018259485548616349965615104] ?_
 refine G.turnOp rfl rfl (G.cR rfl rfl rfl rfl Tryz.func134 rfl rfl may0 (of_tr _) ?_)
 refine go [26,24,94,594211218856982531951579627520] ?_
 refine G.turnOp rfl rfl (G.cR rfl rfl rfl rfl Tryz.func134 rfl rfl may0 (of_tr _) ?_)
 refine go [26,22,95,554597137599850363154807652352,50,3] ?_
 refine G.takeT hT2 (i := 96) (rem' := 475368975085586025561263702016) rfl rfl rfl kr (fun _ _ _ h => h) rfl (pv_build (cells := shCells.toArray) (fun a ha => ha.pevs rfl) kr) subT ?_
 refine go [24,97,316912650057057350374175801344] ?_
 refine G.turnOp rfl rfl (G.box rfl rfl (cs := shCells) rfl ?_)
 intro b100
 refine go [26,22,98,0,1,27,8,11] ?_
 exact G.doneX1 (b100) trT rfl rfl Y7 subT
set_option maxHeartbeats 4000000 in
theorem shaped_none (k : Int) (h : shM k = none) : Tr Tryz.prog 65 #[.int .i64 k] [] [] (T0 (.pointer none)) := by
 refine Tr.of (l := [(0, .int .i64 k)]) Tryz.func65 rfl (n := 15) rfl (.cons rfl .nil) (fun w0 hro => ?_)
 have hk := shM_out h
 refine go [9,10,1,7,8,9,10] ?_
 refine G.op rfl (G.cS rfl rfl rfl rfl Tryz.func96 rfl rfl subT may0 (shapes_tr) apT ?_)
 intro x4 hJ
 try dsimp only at hJ
 try dsimp only
 refine go [1,7,8,9,9,10,0,2,9,0] ?_
 refine G.partP (t := 7) rfl (fun h7 => ?_) (fun h7 => ?_)
 ·refine go [4,4,2,2,7,8] ?_
  refine G.condT rfl (by first | rfl | exact decide_eq_true (by omega)) ?_
  refine go [9,10,1,7,8,11,12] ?_
  exact G.done0G rfl (Rv.tmp rfl Rv.nil) Y7
 skip
 refine go [3,0,3,12,2,2,7,8] ?_
 refine G.condT rfl (by first | rfl | exact decide_eq_true (by omega)) ?_
 refine go [9,10,1,7,8,11,12] ?_
 exact G.done0G rfl (Rv.tmp rfl Rv.nil) Y7
set_option maxHeartbeats 4000000 in
theorem shaped_some (k : Int) (s : Sh) (h : shM k = some s) : Tr Tryz.prog 65 #[.int .i64 k] [] [] (TX (fun _ : Nat × Nat => True) (fun x => .pointer (some ⟨x.1, x.2, none⟩)) (fun x => [rng x.1 x.2 (rowS s)])) := by
 refine Tr.of (l := [(0, .int .i64 k)]) Tryz.func65 rfl (n := 15) rfl (.cons rfl .nil) (fun w0 hro => ?_)
 obtain ⟨hk1, hk2, hs⟩ := shM_in h
 obtain ⟨j, hj⟩ : ∃ j : Nat, j = (k - 1).toNat := ⟨_, rfl⟩
 rw [← hj] at hs
 have hrow := (shRow hs).1
 refine go [9,10,1,7,8,9,10] ?_
 refine G.op rfl (G.cS rfl rfl rfl rfl Tryz.func96 rfl rfl subT may0 (shapes_tr) apT ?_)
 intro x4 hJ
 try dsimp only at hJ
 try dsimp only
 refine go [1,7,8,9,9,10,0,2,9,0] ?_
 refine G.partP (t := 7) rfl (fun h7 => ?_) (fun h7 => ?_)
 ·exfalso; omega
 refine go [3,0,3,12,2,2,7,8] ?_
 refine G.condF rfl (decide_eq_false (by omega)) ?_
 refine go [13,8,9,10,0,0,2,8] ?_
 refine G.op rfl (G.val rfl rfl (pv_ixA (sz := 7) (k := j + 1) Tryz.underlying195 kr rfl rfl (by omega) (by omega)) ?_)
 refine go [1,7,8,11] ?_
 refine G.blkRng (k := 7) (xs := rowS s) (b := x4) (o := (j + 1) * 7) selT hrow ?_
 exact G.doneX1 ((x4, (j + 1) * 7)) trT rfl rfl (by rw [Nat.zero_add]) subT
theorem Tryz.infoShape : (Tryz.prog.info? 183).map (fun i => (i.zero, i.size)) = some (some (.agg #[.string ⟨#[]⟩, .int .i64 0, .int .i64 0, .int .i64 0, .int .i64 0, .int .i64 0, .int .i64 0]), 7) := by kernel_rfl
set_option maxHeartbeats 4000000 in
set_option maxRecDepth 100000 in
theorem ofR_none (k : Int) (h : shM k = none) : Tr Tryz.prog 129 #[.int .i64 k] [] [] (T0 (.tuple #[.agg (rowS sh0).toArray, .bool false])) := by
 refine Tr.of (l := [(0, .int .i64 k)]) Tryz.func129 rfl (n := 44) rfl (.cons rfl .nil) (fun w0 hro => ?_)
 have hk := shM_out h
 refine go [9,10,60,21] ?_
 intro b2
 refine go [1,7,8,9,10,2,50,1,2,50,1,2,50,1,2,50,1,2,50,1,2,50,1,2,50,1,2,50,1,2,50,1,2,50,1,2,50,1,2,50,1,2,50,1,2,50,1,2,50,1,2,50,1,2,50,1,2,50,1,2,50,1,2,50,1,2,50,1,2,50,1,2,50,1,2,50,1] ?_
 refine G.op rfl (G.buildSlice (sz := 7) (cs := refCells) rfl Tryz.underlying213 Tryz.infoShape (by decide) (by decide) rfl kr ?_)
 intro b29
 refine go [1,7,8,9,9,10,0,2,9,0] ?_
 refine G.partP (t := 32) rfl (fun h32 => ?_) (fun h32 => ?_)
 ·refine go [4,4,4,4,2,2,7,8] ?_
  refine G.condT rfl (by first | rfl | exact decide_eq_true (by omega)) ?_
  refine go [9,10,2,50,1,20,1,7,8,11,12] ?_
  exact G.done0G rfl (Rv.cellN (cs := [_, _, _, _, _, _, _]) rfl Tryz.underlying183 rfl kr (by first | exact blk_range (k := 7) selD (by rfl)) (Rv.tmp rfl Rv.nil)) Y7
 refine go [3,0,3,0,3,5,3,10,2,2,7,8] ?_
 refine G.condT rfl (by first | rfl | exact decide_eq_true (by omega)) ?_
 refine go [9,10,2,50,1,20,1,7,8,11,12] ?_
 exact G.done0G rfl (Rv.cellN (cs := [_, _, _, _, _, _, _]) rfl Tryz.underlying183 rfl kr (by first | exact blk_range (k := 7) selD (by rfl)) (Rv.tmp rfl Rv.nil)) Y7
set_option maxHeartbeats 4000000 in
set_option maxRecDepth 100000 in
theorem ofR_some (k : Int) (s : Sh) (h : shM k = some s) : Tr Tryz.prog 129 #[.int .i64 k] [] [] (T0 (.tuple #[.agg (rowS s).toArray, .bool true])) := by
 refine Tr.of (l := [(0, .int .i64 k)]) Tryz.func129 rfl (n := 44) rfl (.cons rfl .nil) (fun w0 hro => ?_)
 obtain ⟨hk1, hk2, hs⟩ := shM_in h
 obtain ⟨j, hj⟩ : ∃ j : Nat, j = (k - 1).toNat := ⟨_, rfl⟩
 rw [← hj] at hs
 have hrow := (shRow hs).2
 refine go [9,10,60,21] ?_
 intro b2
 refine go [1,7,8,9,10,2,50,1,2,50,1,2,50,1,2,50,1,2,50,1,2,50,1,2,50,1,2,50,1,2,50,1,2,50,1,2,50,1,2,50,1,2,50,1,2,50,1,2,50,1,2,50,1,2,50,1,2,50,1,2,50,1,2,50,1,2,50,1,2,50,1,2,50,1,2,50,1] ?_
 refine G.op rfl (G.buildSlice (sz := 7) (cs := refCells) rfl Tryz.underlying213 Tryz.infoShape (by decide) (by decide) rfl kr ?_)
 intro b29
 refine go [1,7,8,9,9,10,0,2,9,0] ?_
 refine G.partP (t := 32) rfl (fun h32 => ?_) (fun h32 => ?_)
 ·exfalso; omega
 refine go [3,0,3,0,3,5,3,10,2,2,7,8] ?_
 refine G.condF rfl (decide_eq_false (by omega)) ?_
 refine go [13,8,9,10,0,0,2,19] ?_
 refine G.op rfl (G.val rfl rfl (pv_ixSl (sz := 7) (k := j) Tryz.underlying213 kr rfl rfl (fun _ => rfl) (by omega) (by omega)) ?_)
 refine G.op rfl (G.val rfl rfl (pv_loadN (cs := rowS s) Tryz.underlying183 rfl kr rfl (blk_range (k := 7) (o := 0 + j * 7) (b := b29) selT (by rw [Nat.zero_add]; exact hrow))) ?_)
 refine go [20,1,7,8,11] ?_
 exact G.done0G rfl (Rv.cellN (cs := rowS s) rfl Tryz.underlying183 rfl kr (by first | exact blk_range (k := 7) selD (by rfl)) (Rv.tmp rfl Rv.nil)) Y7
def okN (x : Int) : Bool := decide (0 ≤ x ∧ x ≤ 2147483647)
def checkS (s : Sh) (ns : List Int) (il bl : Nat) : Int := if (¬ (s.n ≤ (ns.length : Int) ∧ (ns.length : Int) ≤ s.ns) ∨ ¬ (s.i ≤ (il : Int) ∧ (il : Int) ≤ s.is)) ∨ ¬ (s.b ≤ (bl : Int) ∧ (bl : Int) ≤ s.bs) then 5 else if ns.all okN = true then 0 else 5
def ncheckM (k : Int) (ns : List Int) (il bl : Nat) : Int := match shM k with
 | none => 2
 | some s => checkS s ns il bl
theorem checkS_bad {s : Sh} {ns : List Int} {il bl : Nat} (h : (¬ (s.n ≤ (ns.length : Int) ∧ (ns.length : Int) ≤ s.ns) ∨ ¬ (s.i ≤ (il : Int) ∧ (il : Int) ≤ s.is)) ∨ ¬ (s.b ≤ (bl : Int) ∧ (bl : Int) ≤ s.bs)) : Value.int .i64 5 = .int .i64 (checkS s ns il bl) := congrArg _ (if_pos h).symm
theorem checkS_num {s : Sh} {ns : List Int} {il bl : Nat} (h : ¬ ((¬ (s.n ≤ (ns.length : Int) ∧ (ns.length : Int) ≤ s.ns) ∨ ¬ (s.i ≤ (il : Int) ∧ (il : Int) ≤ s.is)) ∨ ¬ (s.b ≤ (bl : Int) ∧ (bl : Int) ≤ s.bs))) {k : Nat} (hk : k < ns.length) (hb : ns[k] < 0 ∨ 2147483647 < ns[k]) : Value.int .i64 5 = .int .i64 (checkS s ns il bl) := by
 unfold checkS
 rw [if_neg h, if_neg]
 intro ha
 have := List.all_eq_true.1 ha ns[k] (List.getElem_mem hk)
 have := of_decide_eq_true this
 omega
theorem checkS_ok {s : Sh} {ns : List Int} {il bl : Nat} (h : ¬ ((¬ (s.n ≤ (ns.length : Int) ∧ (ns.length : Int) ≤ s.ns) ∨ ¬ (s.i ≤ (il : Int) ∧ (il : Int) ≤ s.is)) ∨ ¬ (s.b ≤ (bl : Int) ∧ (bl : Int) ≤ s.bs))) {k : Nat} (ha : (ns.take k).all okN = true) (hk : ns.length ≤ k) : Value.int .i64 0 = .int .i64 (checkS s ns il bl) := by
 unfold checkS
 rw [List.take_of_length_le hk] at ha
 rw [if_neg h, if_pos ha]
theorem all_next {ns : List Int} {k : Nat} (ha : (ns.take k).all okN = true) (hk : k < ns.length) (h0 : ¬ ns[k] < 0) (h1 : ¬ 2147483647 < ns[k]) : (ns.take (k + 1)).all okN = true := by
 rw [List.take_succ_eq_append_getElem hk, List.all_append, ha]
 have : okN ns[k] = true := decide_eq_true ⟨by omega, by omega⟩
 simp [this]
def fN (ns : List Int) (k : Nat) : List UInt8 := (ns.take k).flatMap putM
def fI (ids : List (List UInt8)) (k : Nat) : List UInt8 := (ids.take k).flatten
theorem good0 {x : Int} (h : 0 ≤ x ∧ x ≤ 2147483647) : (false || decide (sizeM x = 0)) = false := by
 have := sizeM_ok h.1 h.2
 rw [Bool.false_or]
 exact decide_eq_false (by omega)
theorem wintF (D : Nat) (v : Value) (bs : List UInt8) (x : Int) (hx : 0 ≤ x ∧ x ≤ 2147483647) (hb : bs.length ≤ 1000000000) : Tr Tryz.prog 54 #[.pointer (some ⟨D, 0, none⟩), .int .i64 x] [] [blk D 142 [.bool true, .bool false, v], own 5 1 v bs.length (bs.map vByte)]
 (TX (fun _ : Value => True) (fun _ => .tuple #[]) (fun v => [blk D 142 [.bool true, .bool false, v], own 5 1 v (bs ++ putM x).length ((bs ++ putM x).map vByte)])) := by
 have := wint_any D false v bs x hb
 rwa [good0 hx] at this
theorem wintR (D : Nat) (v : Value) (bs : List UInt8) (x : Int) (hx : 0 ≤ x ∧ x ≤ 2147483647) (hb : bs.length ≤ 1000000000) : Tr Tryz.prog 126 #[.pointer (some ⟨D, 0, none⟩), .int .i64 x] [] [blk D 181 [v, .bool false], own 5 1 v bs.length (bs.map vByte)]
 (TX (fun _ : Value => True) (fun _ => .tuple #[]) (fun v => [blk D 181 [v, .bool false], own 5 1 v (bs ++ putM x).length ((bs ++ putM x).map vByte)])) := by
 have := wintR_any D false v bs x hb
 rwa [good0 hx] at this
set_option maxHeartbeats 4000000 in
theorem checkNF {Pv1 Pv2 Pv3 : Nat → Prop} (k : Int) (v1 v2 v3 : Value) (ns : List Int) (ids : List (List UInt8)) (bs : List UInt8) (h : shM k = none) : Tr Tryz.prog 46 #[.agg #[.int .i64 k, v1, v2, v3]] [slc rInt Pv1 v1 ns, slc rID Pv2 v2 ids, slc rByte Pv3 v3 bs] [] (T0 (.int .i64 2)) := by
 refine Tr.of (l := [(0, .agg #[.int .i64 k, v1, v2, v3])]) Tryz.func46 rfl (n := 56) rfl (.cons rfl .nil) (fun w0 hro => ?_)
 obtain ⟨hA, hB, hC⟩ := ro3 hro
 have oa := Ro.open hA
 have ob := Ro.open hB
 have oc := Ro.open hC
 obtain ⟨aa, ca, qa, oa', rfl, hca, hma, -, had, hel⟩ := oa
 obtain ⟨ab, cb, qb, ob', rfl, hcb, hmb, -, hbd, hbl⟩ := ob
 obtain ⟨ac, cc, qc, oc', rfl, -⟩ := oc
 refine go [9,10,60,2] ?_
 intro b1
 refine go [1,7,8,9,10,2,3,0,2,4] ?_
 refine G.op rfl (G.cR rfl rfl rfl rfl Tryz.func65 rfl rfl may0 (shaped_none _ h) ?_)
 refine go [1,7,8,9,9,10,0,2,50,4,7,8,60,1,9,10,1,7,8,11,12] ?_
 exact G.done0G rfl (Rv.tmp rfl Rv.nil) Y7
set_option maxHeartbeats 4000000 in
theorem checkNR {Pv1 Pv2 Pv3 : Nat → Prop} (k : Int) (v1 v2 v3 : Value) (ns : List Int) (ids : List (List UInt8)) (bs : List UInt8) (h : shM k = none) : Tr Tryz.prog 90 #[.agg #[.int .i64 k, v1, v2, v3]] [slc rInt Pv1 v1 ns, slc rID Pv2 v2 ids, slc rByte Pv3 v3 bs] [] (T0 (.int .i64 2)) := by
 refine Tr.of (l := [(0, .agg #[.int .i64 k, v1, v2, v3])]) Tryz.func90 rfl (n := 59) rfl (.cons rfl .nil) (fun w0 hro => ?_)
 obtain ⟨hA, hB, hC⟩ := ro3 hro
 have oa := Ro.open hA
 have ob := Ro.open hB
 have oc := Ro.open hC
 obtain ⟨aa, ca, qa, oa', rfl, hca, hma, -, had, hel⟩ := oa
 obtain ⟨ab, cb, qb, ob', rfl, hcb, hmb, -, hbd, hbl⟩ := ob
 obtain ⟨ac, cc, qc, oc', rfl, -⟩ := oc
 refine go [9,10,60,2] ?_
 intro b1
 refine go [1,7,8,9,10,2,3,0,2,4] ?_
 refine G.op rfl (G.cR rfl rfl rfl rfl Tryz.func129 rfl rfl may0 (ofR_none _ h) ?_)
 refine go [0,2,7,2,7,60,21] ?_
 intro b3
 refine go [20,1,7,8,9,9,10,0,2,25,7,8,60,1,9,10,1,7,8,11,12] ?_
 exact G.done0G rfl (Rv.tmp rfl Rv.nil) Y7
set_option maxHeartbeats 4000000 in
theorem checkSF {Pv1 Pv2 Pv3 : Nat → Prop} (k : Int) (v1 v2 v3 : Value) (ns : List Int) (ids : List (List UInt8)) (bs : List UInt8) (s : Sh) (h : shM k = some s) : Tr Tryz.prog 46 #[.agg #[.int .i64 k, v1, v2, v3]] [slc rInt Pv1 v1 ns, slc rID Pv2 v2 ids, slc rByte Pv3 v3 bs] [] (T0 (.int .i64 (checkS s ns ids.length bs.length))) := by
 refine Tr.of (l := [(0, .agg #[.int .i64 k, v1, v2, v3])]) Tryz.func46 rfl (n := 56) rfl (.cons rfl .nil) (fun w0 hro => ?_)
 obtain ⟨hA, hB, hC⟩ := ro3 hro
 have oa := Ro.open hA
 have ob := Ro.open hB
 have oc := Ro.open hC
 obtain ⟨aa, ca, qa, oa', rfl, hca, hma, -, had, hel⟩ := oa
 obtain ⟨ab, cb, qb, ob', rfl, hcb, hmb, -, hbd, hbl⟩ := ob
 obtain ⟨ac, cc, qc, oc', rfl, -⟩ := oc
 refine go [9,10,60,2] ?_
 intro b1
 refine go [1,7,8,9,10,2,3,0,2,4] ?_
 refine G.op rfl (G.cS rfl rfl rfl rfl Tryz.func65 rfl rfl subT may0 (shaped_some _ _ h) apT ?_)
 intro x8 hJ
 obtain ⟨bS, oS⟩ := x8
 try dsimp only at hJ
 try dsimp only
 refine go [1,7,8,9,9,10,0,2,50,4,7,8,60,0,13,8,9,9] ?_
 refine G.drawT (nn := 31) (p := []) (rem := 2147483647) [0, 1, 2, 4, 0, 16, 32, 72, 128, 384, 512, 1536, 2560, 4608, 512, 16896, 33280, 74240, 131584, 262656, 655360, 1048576, 3145728, 5242880, 9437184, 1048576, 34603008, 68157440, 152043520, 269484032, 537919488] [0, 1, 2, 4, 0, 16, 32, 72, 128, 256, 512, 1536, 2560, 4608, 512, 16896, 33280, 74240, 131584, 262656, 524288, 1048576, 3145728, 5242880, 9437184, 1048576, 34603008, 68157440, 152043520, 269484032, 537919488] kr ⟨rfl, by kernel_rfl, by kernel_rfl⟩ subT kr (fun hT4 => ?_)
 refine go [22,0,2147483646,0,22,1,2147483644,8,22,2,2147483640,3,1,22,4,2147483624,3,1,22,3,2147483616,50,14,24,5,2147483584,25,4,26,22,6,2147483520,5,24,7,2147483392] ?_
 refine G.turnOp rfl rfl (G.cR rfl rfl rfl rfl Tryz.func66 rfl rfl may0 (has_tr _ _ _) ?_)
 refine go [26,22,8,2147483136,15,22,9,2147482624,0] ?_
 refine G.partP (t := 20) rfl (fun h20 => ?_) (fun h20 => ?_)
 ·refine go [23,10,2147481600,23,11,2147479552,23,12,2147475456,23,13,2147467264,23,14,2147450880,23,15,2147418112,23,16,2147352576,23,17,2147221504,23,18,2146959360,22,19,2146435072,2,22,20,2145386496,0,23,21,2143289344,23,22,2139095040,23,23,2130706432,23,24,2113929216,23,25,2080374784,23,26,2013265920,23,27,1879048192,23,28,1610612736,23,29,1073741824,22,30,0,2,27,8,60,1,9,10,1,7,8,11,12] ?_
  exact G.done0G rfl (Rv.tmp rfl Rv.nil) (checkS_bad (by omega))
 refine go [22,10,2147481600,0,22,11,2147479552,8,22,12,2147475456,3,3,22,13,2147467264,50,14,22,14,2147450880,3,2,24,15,2147418112,25,4,26,22,16,2147352576,5,24,17,2147221504] ?_
 refine G.turnOp rfl rfl (G.cR rfl rfl rfl rfl Tryz.func66 rfl rfl may0 (has_tr _ _ _) ?_)
 refine go [26,22,18,2146959360,15,22,19,2146435072,2,22,20,2145386496,0] ?_
 refine G.partP (t := 31) rfl (fun h31 => ?_) (fun h31 => ?_)
 ·refine go [23,21,2143289344,23,22,2139095040,23,23,2130706432,23,24,2113929216,23,25,2080374784,23,26,2013265920,23,27,1879048192,23,28,1610612736,23,29,1073741824,22,30,0,2,27,8,60,1,9,10,1,7,8,11,12] ?_
  exact G.done0G rfl (Rv.tmp rfl Rv.nil) (checkS_bad (by omega))
 refine go [22,21,2143289344,0,22,22,2139095040,8,22,23,2130706432,3,5,22,24,2113929216,50,14,22,25,2080374784,3,3,24,26,2013265920,25,4,26,22,27,1879048192,5,24,28,1610612736] ?_
 refine G.turnOp rfl rfl (G.cR rfl rfl rfl rfl Tryz.func66 rfl rfl may0 (has_tr _ _ _) ?_)
 refine go [26,22,29,1073741824,15,22,30,0,2,27,8] ?_
 refine G.condP rfl (fun h41 => ?_) (fun h41 => ?_)
 ·refine go [9,10,1,7,8,11,12] ?_
  exact G.done0G rfl (Rv.tmp rfl Rv.nil) (checkS_bad (by omega))
 refine go [13,8,9,9,10,2,3,1,2,4,2,5,0,7,8,15] ?_
 refine G.loopK (X := Nat) (ts := [43, 44]) (fun j => j ≤ ns.length ∧ ((ns.take j).all okN = true)) (fun j => [(45, .int .i64 (j : Int))]) (fun j => []) (fun j => ns.length - j) (x0 := 0) (.cons rfl (.cons rfl .nil)) subT (.cons .nil) apT (by first | exact trivial | ((try dsimp only) <;> exact ⟨Nat.zero_le _, rfl⟩)) (.consE rfl veqT .nil) (fun j hJ => ?_)
 try dsimp only at hJ
 try dsimp only
 obtain ⟨hkj, hJ⟩ := hJ
 refine go [9,10,2,9,7,8,9] ?_
 refine G.condP rfl (fun h46 => ?_) (fun h46 => ?_)
 ·have hlt : j < ns.length := by omega
  have hE := hel j hlt
  refine go [13,8,9,15,9,10,2,20,1,2,4,1,7,8,9,10,0,2,9,0] ?_
  refine G.partP (t := 51) rfl (fun h51 => ?_) (fun h51 => ?_)
  ·refine go [4,4,2,2,7,8,60,1,9,10,1,7,8,11,17,12,12,17,12] ?_
   exact G.done0G rfl (Rv.tmp rfl Rv.nil) (checkS_num (by omega) hlt (by omega))
  refine go [3,0,3,10,2,2,7,8] ?_
  refine G.condP rfl (fun h54 => ?_) (fun h54 => ?_)
  ·refine go [9,10,1,7,8,11,17,12,12,17,12] ?_
   exact G.done0G rfl (Rv.tmp rfl Rv.nil) (checkS_num (by omega) hlt (by omega))
  refine go [13,16,8,10,2,6,0,7] ?_
  exact G.next (j + 1) (by first | exact trivial | ((try dsimp only) <;> exact ⟨by omega, all_next hJ hlt (by omega) (by omega)⟩)) (by (try dsimp only); omega) (.consE rfl veqT (.cons rfl (.cons rfl .nil))) subT
 refine go [18,14,14,19,8,9,10,1,7,8,11] ?_
 exact G.done0G rfl (Rv.tmp rfl Rv.nil) (checkS_ok (by omega) hJ (by omega))
set_option maxHeartbeats 4000000 in
theorem checkSR {Pv1 Pv2 Pv3 : Nat → Prop} (k : Int) (v1 v2 v3 : Value) (ns : List Int) (ids : List (List UInt8)) (bs : List UInt8) (s : Sh) (h : shM k = some s) : Tr Tryz.prog 90 #[.agg #[.int .i64 k, v1, v2, v3]] [slc rInt Pv1 v1 ns, slc rID Pv2 v2 ids, slc rByte Pv3 v3 bs] [] (T0 (.int .i64 (checkS s ns ids.length bs.length))) := by
 refine Tr.of (l := [(0, .agg #[.int .i64 k, v1, v2, v3])]) Tryz.func90 rfl (n := 59) rfl (.cons rfl .nil) (fun w0 hro => ?_)
 obtain ⟨hA, hB, hC⟩ := ro3 hro
 have oa := Ro.open hA
 have ob := Ro.open hB
 have oc := Ro.open hC
 obtain ⟨aa, ca, qa, oa', rfl, hca, hma, -, had, hel⟩ := oa
 obtain ⟨ab, cb, qb, ob', rfl, hcb, hmb, -, hbd, hbl⟩ := ob
 obtain ⟨ac, cc, qc, oc', rfl, -⟩ := oc
 refine go [9,10,60,2] ?_
 intro b1
 refine go [1,7,8,9,10,2,3,0,2,4] ?_
 refine G.op rfl (G.cR rfl rfl rfl rfl Tryz.func129 rfl rfl may0 (ofR_some _ _ h) ?_)
 refine go [0,2,7,2,7,60,21] ?_
 intro b3
 refine go [20,1,7,8,9,9,10,0,2,25,7,8,60,0,13,8,9,9,10,2,3,1,2,4,2,5,2,3,1,2,4,2,3,2,2,4] ?_
 refine G.op rfl (G.cR rfl rfl rfl rfl Tryz.func130 rfl rfl may0 (within_tr _ _ _) ?_)
 refine go [2,15,0] ?_
 refine G.partP (t := 23) rfl (fun h23 => ?_) (fun h23 => ?_)
 ·refine go [4,4,4,4,4,4,4,4,4,2,2,0,4,4,4,4,4,4,4,4,4,2,2,7,8,60,1,9,10,1,7,8,11,12] ?_
  exact G.done0G rfl (Rv.tmp rfl Rv.nil) (checkS_bad (by omega))
 refine go [3,3,2,3,4,3,5,3,3,3,3,4,3,3,4,3,4] ?_
 refine G.want rfl rfl rfl (G.cR rfl rfl rfl rfl Tryz.func130 rfl rfl may0 (within_tr _ _ _) ?_)
 refine go [3,15,2,2,0] ?_
 refine G.partP (t := 34) rfl (fun h34 => ?_) (fun h34 => ?_)
 ·refine go [4,4,4,4,4,4,4,4,4,2,2,7,8,60,1,9,10,1,7,8,11,12] ?_
  exact G.done0G rfl (Rv.tmp rfl Rv.nil) (checkS_bad (by omega))
 refine go [3,3,3,3,4,3,5,3,3,5,3,4,3,3,6,3,4] ?_
 refine G.want rfl rfl rfl (G.cR rfl rfl rfl rfl Tryz.func130 rfl rfl may0 (within_tr _ _ _) ?_)
 refine go [3,15,2,2,7,8] ?_
 refine G.condP rfl (fun h44 => ?_) (fun h44 => ?_)
 ·refine go [9,10,1,7,8,11,12] ?_
  exact G.done0G rfl (Rv.tmp rfl Rv.nil) (checkS_bad (by omega))
 refine go [13,8,9,9,10,1,7,8,15] ?_
 refine G.loopK (X := Nat) (ts := [1]) (fun j => j ≤ ns.length ∧ ((ns.take j).all okN = true)) (fun j => [(5, .int .i64 (j : Int))]) (fun j => []) (fun j => ns.length - j) (x0 := 0) (.cons rfl .nil) subT (.cons .nil) apT (by first | exact trivial | ((try dsimp only) <;> exact ⟨Nat.zero_le _, rfl⟩)) (.consE rfl veqT .nil) (fun j hJ => ?_)
 try dsimp only at hJ
 try dsimp only
 obtain ⟨hkj, hJ⟩ := hJ
 refine go [9,9,10,0,2,3,1,2,4,2,5,2,9,7,8] ?_
 refine G.condP rfl (fun h49 => ?_) (fun h49 => ?_)
 ·have hlt : j < ns.length := by omega
  have hE := hel j hlt
  refine go [13,8,9,15,9,10,2,3,1,2,4,0,2,20,1,2,4] ?_
  refine G.op rfl (G.cR rfl rfl rfl rfl Tryz.func130 rfl rfl may0 (within_tr _ _ _) ?_)
  refine go [2,15,7,8] ?_
  refine G.condP rfl (fun h58 => ?_) (fun h58 => ?_)
  ·refine go [9,10,1,7,8,11,17,12,12,17,12] ?_
   exact G.done0G rfl (Rv.tmp rfl Rv.nil) (checkS_num (by omega) hlt (by omega))
  refine go [13,16,8,10,0,2,6,1,7] ?_
  exact G.next (j + 1) (by first | exact trivial | ((try dsimp only) <;> exact ⟨by omega, all_next hJ hlt (by omega) (by omega)⟩)) (by (try dsimp only); omega) (.consE rfl veqT (.cons rfl .nil)) subT
 refine go [18,14,14,19,8,9,10,1,7,8,11] ?_
 exact G.done0G rfl (Rv.tmp rfl Rv.nil) (checkS_ok (by omega) hJ (by omega))
theorem checkF {Pv1 Pv2 Pv3 : Nat → Prop} (k : Int) (v1 v2 v3 : Value) (ns : List Int) (ids : List (List UInt8)) (bs : List UInt8) : Tr Tryz.prog 46 #[.agg #[.int .i64 k, v1, v2, v3]] [slc rInt Pv1 v1 ns, slc rID Pv2 v2 ids, slc rByte Pv3 v3 bs] [] (T0 (.int .i64 (ncheckM k ns ids.length bs.length))) := by
 cases h : shM k with
 | none =>
  have := checkNF (Pv1 := Pv1) (Pv2 := Pv2) (Pv3 := Pv3) k v1 v2 v3 ns ids bs h
  rwa [show ncheckM k ns ids.length bs.length = 2 by unfold ncheckM; rw [h]]
 | some s =>
  have := checkSF (Pv1 := Pv1) (Pv2 := Pv2) (Pv3 := Pv3) k v1 v2 v3 ns ids bs s h
  rwa [show ncheckM k ns ids.length bs.length = checkS s ns ids.length bs.length by unfold ncheckM; rw [h]]
theorem checkR {Pv1 Pv2 Pv3 : Nat → Prop} (k : Int) (v1 v2 v3 : Value) (ns : List Int) (ids : List (List UInt8)) (bs : List UInt8) : Tr Tryz.prog 90 #[.agg #[.int .i64 k, v1, v2, v3]] [slc rInt Pv1 v1 ns, slc rID Pv2 v2 ids, slc rByte Pv3 v3 bs] [] (T0 (.int .i64 (ncheckM k ns ids.length bs.length))) := by
 cases h : shM k with
 | none =>
  have := checkNR (Pv1 := Pv1) (Pv2 := Pv2) (Pv3 := Pv3) k v1 v2 v3 ns ids bs h
  rwa [show ncheckM k ns ids.length bs.length = 2 by unfold ncheckM; rw [h]]
 | some s =>
  have := checkSR (Pv1 := Pv1) (Pv2 := Pv2) (Pv3 := Pv3) k v1 v2 v3 ns ids bs s h
  rwa [show ncheckM k ns ids.length bs.length = checkS s ns ids.length bs.length by unfold ncheckM; rw [h]]
structure Nt where
 k : Int
 ns : List Int
 ids : List (List UInt8)
 bs : List UInt8
structure NV where
 n : Nt
 vN : Value
 vI : Value
 vB : Value
def nvC (x : NV) : List Value := [.int .i64 x.n.k, x.vN, x.vI, x.vB]
theorem nvC_len (x : NV) : (nvC x).length = 4 := rfl
def NvOk (F : Nat → Prop) (W : World) (x : NV) : Prop := IsSl rInt F W x.vN x.n.ns ∧ IsSl rID F W x.vI x.n.ids ∧ IsSl rByte F W x.vB x.n.bs ∧ I64 x.n.k ∧ x.n.ns.length ≤ 1000 ∧ x.n.ids.length ≤ 1000 ∧ x.n.bs.length ≤ 1000000
theorem NvOk.up {F F' : Nat → Prop} {W W' : World} {x : NV} (h : Up F W F' W') (k : NvOk F W x) : NvOk F' W' x := ⟨h.sl k.1, h.sl k.2.1, h.sl k.2.2.1, k.2.2.2⟩
theorem IsSl.one {α : Type} {E : Rdr α} {F : Nat → Prop} {W : World} {v : Value} {xs : List α} (h : IsSl E F W v xs) : v.oneCell' = true := by
 obtain ⟨ad, cap, b, off, rfl, _⟩ := h
 rfl
theorem nvC_one {F : Nat → Prop} {W : World} {x : NV} (h : NvOk F W x) : ∀ u ∈ nvC x, u.oneCell' = true := fun u hu => by
 simp only [nvC, List.mem_cons, List.not_mem_nil, or_false] at hu
 rcases hu with rfl | rfl | rfl | rfl
 ·rfl
 ·exact h.1.one
 ·exact h.2.1.one
 exact h.2.2.1.one
structure Aw where
 nv : NV
 ph : Nat
 bj : Nat
 bx : Nat
def jdF : Nat → Nat
 | 1 => 97
 | 2 => 98
 | 3 => 99
 | 4 => 100
 | _ => 101
def stF : Nat → Nat
 | 1 => 102
 | 2 => 103
 | 3 => 104
 | 4 => 105
 | _ => 106
def awF (x : Aw) : Value := .func (.func 69) #[] #[.pointer (some ⟨x.bj, 0, none⟩), .pointer (some ⟨x.bx, 0, none⟩)]
def awC (x : Aw) : List Value := [.int .i64 x.nv.n.k, x.nv.vN, x.nv.vI, x.nv.vB, awF x]
theorem awC_len (x : Aw) : (awC x).length = 5 := rfl
def AwOk (F : Nat → Prop) (W : World) (x : Aw) : Prop := NvOk F W x.nv ∧ (F x.bj ∧ W.cell? ⟨x.bj, 0, none⟩ = some (.func (.func (jdF x.ph)) #[] #[])) ∧ F x.bx ∧ W.rangeAt x.bx 0 (nvC x.nv)
theorem AwOk.up {F F' : Nat → Prop} {W W' : World} {x : Aw} (h : Up F W F' W') (k : AwOk F W x) : AwOk F' W' x := ⟨k.1.up h, ⟨h.1 _ k.2.1.1, h.cell k.2.1.1 k.2.1.2⟩, h.1 _ k.2.2.1, h.rng k.2.2.1 k.2.2.2⟩
theorem awC_one {F : Nat → Prop} {W : World} {x : Aw} (h : AwOk F W x) : ∀ u ∈ awC x, u.oneCell' = true := fun u hu => by
 simp only [awC, List.mem_cons, List.not_mem_nil, or_false] at hu
 rcases hu with rfl | rfl | rfl | rfl | rfl
 ·rfl
 ·exact h.1.1.one
 ·exact h.1.2.1.one
 ·exact h.1.2.2.1.one
 rfl
def rAw : Rdr Aw where
 sz := 5
 R := fun Ps w b o x => Ps b ∧ w.rangeAt b o (awC x) ∧ AwOk Ps w x
 loc := fun h ⟨h1, h2, h3⟩ => ⟨h1, rangeAt_loc (h _ h1) h2, h3.up ⟨fun _ h => h, fun _ hb => h _ hb⟩⟩
 mono := fun h ⟨h1, h2, h3⟩ => ⟨h _ h1, h2, h3.up ⟨h, fun _ _ => rfl⟩⟩
def rNV : Rdr NV where
 sz := 4
 R := fun Ps w b o x => Ps b ∧ w.rangeAt b o (nvC x) ∧ NvOk Ps w x
 loc := fun h ⟨h1, h2, h3⟩ => ⟨h1, rangeAt_loc (h _ h1) h2, h3.up ⟨fun _ h => h, fun _ hb => h _ hb⟩⟩
 mono := fun h ⟨h1, h2, h3⟩ => ⟨h _ h1, h2, h3.up ⟨h, fun _ _ => rfl⟩⟩
def CkOk (F : Nat → Prop) (W : World) (x : CT) : Prop := IsSl rByte F W x.2 x.1.2 ∧ x.1.1.length = 16 ∧ x.1.2.length ≤ 1000000
theorem CkOk.up {F F' : Nat → Prop} {W W' : World} {x : CT} (h : Up F W F' W') (k : CkOk F W x) : CkOk F' W' x := ⟨h.sl k.1, k.2⟩
structure PZ where
 made : Bool
 bv : Value
 lv : Value
 cm : Int
 tk : Int
 ph : Nat
 leftv : Value
 waitv : Value
 asked : Nat
 lacksv : Value
 rounds : Nat
 over : Bool
 num : Int
 e : Int
 b : List UInt8
 l : List CT
 left : List Aw
 wait : List Aw
 lacks : List CT
structure PM where
 made : Bool
 b : List UInt8
 l : List (List UInt8 × List UInt8)
 cm : Int
 tk : Int
 ph : Nat
 left : List Nt
 wait : List Nt
 asked : Nat
 lacks : List (List UInt8 × List UInt8)
 rounds : Nat
 over : Bool
 num : Int
 e : Int
def aws (xs : List Aw) : List Nt := xs.map (·.nv.n)
def nvs (xs : List NV) : List Nt := xs.map (·.n)
theorem aws_length (xs : List Aw) : (aws xs).length = xs.length := List.length_map ..
theorem nvs_length (xs : List NV) : (nvs xs).length = xs.length := List.length_map ..
def PZ.pm (z : PZ) : PM := ⟨z.made, z.b, cks z.l, z.cm, z.tk, z.ph, aws z.left, aws z.wait, z.asked, cks z.lacks, z.rounds, z.over, z.num, z.e⟩
structure PvOk (F : Nat → Prop) (W : World) (z : PZ) : Prop where
 b : IsSl rByte F W z.bv z.b
 l : IsSl rCT F W z.lv z.l
 lk : ∀ x ∈ z.l, CkOk F W x
 left : IsSl rAw F W z.leftv z.left
 leftO : ∀ x ∈ z.left, AwOk F W x ∧ x.ph = z.ph
 wait : ∀ x ∈ z.wait, AwOk F W x ∧ x.ph = z.ph
 lacks : ∀ x ∈ z.lacks, CkOk F W x
theorem PvOk.up {F F' : Nat → Prop} {W W' : World} {z : PZ} (h : Up F W F' W') (k : PvOk F W z) : PvOk F' W' z :=
 ⟨h.sl k.b, h.sl k.l, fun x hx => (k.lk x hx).up h, h.sl k.left, fun x hx => ⟨(k.leftO x hx).1.up h, (k.leftO x hx).2⟩, fun x hx => ⟨(k.wait x hx).1.up h, (k.wait x hx).2⟩, fun x hx => (k.lacks x hx).up h⟩
structure PcOk (p : PM) : Prop where
 made : p.made = true
 cm : I64 p.cm
 tk : I64 p.tk
 b0 : 0 < p.b.length
 b : p.b.length ≤ 100000000
 l : p.l.length ≤ 10000000
 ph : 1 ≤ p.ph ∧ p.ph ≤ 5
 rounds : p.rounds ≤ 3
 r0 : p.ph ≤ 2 → p.rounds = 0
 asked : p.asked ≤ p.l.length
 lacks : p.lacks.length ≤ p.l.length
structure PmOk (p : PM) : Prop extends PcOk p where
 two : p.ph = 2 → ∀ n ∈ p.left ++ p.wait, ∃ a : Nat, n.ns = [(a : Int)] ∧ a ≤ 100000000
 four : p.ph = 4 → ∀ n ∈ p.left ++ p.wait, n.ids.length = 1
 three : p.over = false → p.ph = 3 → p.asked + ((p.wait ++ p.left).map fun n => n.ids.length).sum = p.l.length ∧ p.lacks.length ≤ p.asked
 over : p.over = true → p.left = [] ∧ p.wait = []
 few : p.left.length + p.wait.length ≤ 200000000
theorem IsSl.open {α : Type} {E : Rdr α} {F : Nat → Prop} {W : World} {v : Value} {xs : List α} (h : IsSl E F W v xs) : ∃ ad cap b off, v = .slice ad xs.length cap ∧ xs.length ≤ cap ∧ cap ≤ 9223372036854775807 ∧ (ad = none → cap = 0) ∧ (0 < xs.length → ad = some ⟨b, off, none⟩) ∧ ∀ i (hi : i < xs.length), E.R F W b (off + i * E.sz) xs[i] :=
 let ⟨ad, cap, b, off, e, hs⟩ := h; ⟨ad, cap, b, off, e, hs.hcap, hs.hmax, hs.hnil, hs.had, fun i hi => hs.cell i hi⟩
theorem IsSl.nil {α : Type} (E : Rdr α) (F : Nat → Prop) (W : World) : IsSl E F W (.slice none 0 0) [] := ⟨none, 0, 0, 0, rfl, ⟨Nat.zero_le _, by omega, fun _ => rfl, fun h => by simp at h, fun i hi => by simp at hi⟩⟩
section
variable {w0 : World} {S : Nat → Prop} {m : List Ck} {F : Nat → Prop} {W : World}
theorem frz_int {b o : Nat} {x : Int} {r : List Ck} (h : Sel m (frz F W) r) (k : rInt.R F W b o x) : ∀ w, Hp w0 S w m → w.cell? ⟨b, o, none⟩ = some (.int .i64 x) := frz_cell h k.1 k.2.1
theorem arr8_rng {n : Nat} {b o : Nat} {xs : List UInt8} (h : (rArr n rByte).R F W b o xs) : W.rangeAt b o (xs.map vByte) := fun j v hj => by
 rw [List.getElem?_map] at hj
 obtain ⟨y, hy, rfl⟩ := Option.map_eq_some_iff.1 hj
 obtain ⟨hlt, rfl⟩ := List.getElem?_eq_some_iff.1 hy
 have := (h.2 j hlt).2.1
 rwa [show o + j * rByte.sz = o + j from by show o + j * 1 = _; omega] at this
theorem frz_id {b o : Nat} {xs : List UInt8} {r : List Ck} (h : Sel m (frz F W) r) (k : rID.R F W b o xs) (hl : 0 < xs.length) : ∀ w, Hp w0 S w m → w.rangeAt b o (xs.map vByte) := frz_rng h (by have := (k.2 0 hl).1; exact this) (arr8_rng k)
end
def YOk (y : Nt) : Prop := (y.k = 16 ∨ y.k = 19 ∨ y.k = 20 → 0 < y.ns.length) ∧ (y.k = 18 → 0 < y.ids.length)
def endP (p : PM) (n e : Int) : PM := { p with over := true, num := n, e := e, left := [], wait := [] }
def PZ.end (z : PZ) (n e : Int) : PZ := { z with over := true, num := n, e := e, left := [], wait := [], leftv := .slice none 0 0, waitv := .slice none 0 0 }
theorem end_pm (z : PZ) (n e : Int) : (z.end n e).pm = endP z.pm n e := rfl
theorem end_ok {F : Nat → Prop} {W : World} {z : PZ} (h : PvOk F W z) (n e : Int) : PvOk F W (z.end n e) :=
 ⟨h.b, h.l, h.lk, IsSl.nil _ _ _, (fun x hx => by simp [PZ.end] at hx), (fun x hx => by simp [PZ.end] at hx), h.lacks⟩
def justP (y : Nt) (kd n : Int) : Bool := decide (y.k = kd ∧ y.ns[0]? = some n)
set_option maxHeartbeats 4000000 in
theorem pend_tr (D : Nat) (z : PZ) (n e : Int) : Tr Tryz.prog 47 #[.pointer (some ⟨D, 0, none⟩), .int .i64 n, .int .i64 e] [] [blk D 85 [.bool z.made, z.bv, z.lv, .int .i64 z.cm, .int .i64 z.tk, .int .i64 (z.ph : Nat), z.leftv, z.waitv, .int .i64 (z.asked : Nat), z.lacksv, .int .i64 (z.rounds : Nat), .bool z.over, .int .i64 z.num, .int .i64 z.e], que 92 5 z.waitv z.wait.length (z.wait.flatMap awC)]
 (TX (fun _ : Unit => True) (fun _ => .tuple #[]) (fun _ => [blk D 85 [.bool (z.end n e).made, (z.end n e).bv, (z.end n e).lv, .int .i64 (z.end n e).cm, .int .i64 (z.end n e).tk, .int .i64 ((z.end n e).ph : Nat), (z.end n e).leftv, (z.end n e).waitv, .int .i64 ((z.end n e).asked : Nat), (z.end n e).lacksv, .int .i64 ((z.end n e).rounds : Nat), .bool (z.end n e).over, .int .i64 (z.end n e).num, .int .i64 (z.end n e).e], que 92 5 (z.end n e).waitv (z.end n e).wait.length ((z.end n e).wait.flatMap awC)])) := by
 refine Tr.of (l := [(0, .pointer (some ⟨D, 0, none⟩)), (1, .int .i64 n), (2, .int .i64 e)]) Tryz.func47 rfl (n := 23) rfl (.cons rfl (.cons rfl (.cons rfl .nil))) (fun w0 hro => ?_)
 refine go [9,10,0,0,0,0,0,2,8,2,3,11,21,2,8,2,3,12,21,2,8,2,3,13,21,7,8,10,0,0,2,8,2,3,6,21,2,8,2,3,7,21,7] ?_
 refine G.queNil 92 5 ?_
 exact G.doneXE (()) trT rfl rfl subT
set_option maxHeartbeats 4000000 in
theorem just_tr {Pv1 Pv2 Pv3 : Nat → Prop} (k : Int) (v1 v2 v3 : Value) (ns : List Int) (ids : List (List UInt8)) (bs : List UInt8) (kd n : Int) (h : k = kd → 0 < ns.length) : Tr Tryz.prog 135 #[.agg #[.int .i64 k, v1, v2, v3], .int .i64 kd, .int .i64 n] [slc rInt Pv1 v1 ns, slc rID Pv2 v2 ids, slc rByte Pv3 v3 bs] [] (T0 (.bool (justP ⟨k, ns, ids, bs⟩ kd n))) := by
 refine Tr.of (l := [(0, .agg #[.int .i64 k, v1, v2, v3]), (1, .int .i64 kd), (2, .int .i64 n)]) Tryz.func135 rfl (n := 19) rfl (.cons rfl (.cons rfl (.cons rfl .nil))) (fun w0 hro => ?_)
 obtain ⟨hA, hB, hC⟩ := ro3 hro
 have oa := Ro.open hA
 have ob := Ro.open hB
 have oc := Ro.open hC
 obtain ⟨aa, ca, qa, oa', rfl, hca, hma, -, had, hel⟩ := oa
 obtain ⟨ab, cb, qb, ob', rfl, hcb, hmb, -, hbd, hbl⟩ := ob
 obtain ⟨ac, cc, qc, oc', rfl, hcc, -⟩ := oc
 refine go [9,10,60,2] ?_
 intro b3
 refine go [1,7,8,9,10,2,3,0,2,50,0,0,2,13,0] ?_
 refine G.partP (t := 11) rfl (fun h11 => ?_) (fun h11 => ?_)
 ·have hlt : 0 < ns.length := h (by assumption)
  have hE := hel 0 hlt
  have h0 : ns[0]? = some ns[0] := List.getElem?_eq_getElem hlt
  refine go [3,3,1,3,50,0,3,20,1,3,50,0,3,0,3,13,2,2,1,7,8,11] ?_
  exact G.done0G rfl (Rv.tmp rfl Rv.nil) (by show Value.bool _ = Value.bool _; unfold justP; simp [h0, *])
 refine go [4,4,4,4,4,4,2,2,1,7,8,11] ?_
 exact G.done0G rfl (Rv.tmp rfl Rv.nil) (by show Value.bool _ = Value.bool _; unfold justP; simp [*])
def n0 (ns : List Int) : Int := ns[0]?.getD 0
theorem n0_eq {ns : List Int} (h : 0 < ns.length) : n0 ns = ns[0] := by
 unfold n0
 rw [List.getElem?_eq_getElem h]
 rfl
def begunP (p : PM) (_ y : Nt) : Bool × PM := if y.k = 19 then (true, endP p (n0 y.ns) 0) else (justP y 16 0, p)
theorem begunP_done {p : PM} {x y : Nt} (h : y.k = 19) : begunP p x y = (true, endP p (n0 y.ns) 0) := if_pos h
theorem begunP_on {p : PM} {x y : Nt} (h : ¬ y.k = 19) : begunP p x y = (justP y 16 0, p) := if_neg h
def partedP (p : PM) (x y : Nt) : Bool × PM := (justP y 16 (n0 x.ns + x.bs.length), p)
def tookP (p : PM) (x y : Nt) : Bool × PM := (decide (y.k = 18 ∧ y.ids[0]? = x.ids[0]?), p)
def committedP (p : PM) (_ y : Nt) : Bool × PM := (decide (y.k = 19), if y.k = 19 then endP p (n0 y.ns) 0 else p)
theorem committedP_done {p : PM} {x y : Nt} (h : y.k = 19) : committedP p x y = (true, endP p (n0 y.ns) 0) := by
 unfold committedP
 rw [if_pos h, decide_eq_true h]
theorem committedP_on {p : PM} {x y : Nt} (h : ¬ y.k = 19) : committedP p x y = (false, p) := by
 unfold committedP
 rw [if_neg h, decide_eq_false h]
set_option maxHeartbeats 4000000 in
theorem begun_tr {F : Nat → Prop} {W : World} {Pv1 Pv2 Pv3 : Nat → Prop} (k : Int) (v1 v2 v3 : Value) (ns : List Int) (ids : List (List UInt8)) (bs : List UInt8) (D : Nat) (z : PZ) (x : NV) (hz : PvOk F W z) (hx : NvOk F W x) (hy : YOk ⟨k, ns, ids, bs⟩)  : Tr Tryz.prog 97 #[.pointer (some ⟨D, 0, none⟩), .agg #[.int .i64 x.n.k, x.vN, x.vI, x.vB], .agg #[.int .i64 k, v1, v2, v3]] [slc rInt Pv1 v1 ns, slc rID Pv2 v2 ids, slc rByte Pv3 v3 bs] [blk D 85 [.bool z.made, z.bv, z.lv, .int .i64 z.cm, .int .i64 z.tk, .int .i64 (z.ph : Nat), z.leftv, z.waitv, .int .i64 (z.asked : Nat), z.lacksv, .int .i64 (z.rounds : Nat), .bool z.over, .int .i64 z.num, .int .i64 z.e], frz F W, que 92 5 z.waitv z.wait.length (z.wait.flatMap awC), own 54 17 z.lacksv z.lacks.length (z.lacks.flatMap chC)]
 (TX (fun z' : PZ => PvOk F W z' ∧ z'.pm = (begunP z.pm x.n ⟨k, ns, ids, bs⟩).2) (fun _ => .bool (begunP z.pm x.n ⟨k, ns, ids, bs⟩).1) (fun z' => [blk D 85 [.bool z'.made, z'.bv, z'.lv, .int .i64 z'.cm, .int .i64 z'.tk, .int .i64 (z'.ph : Nat), z'.leftv, z'.waitv, .int .i64 (z'.asked : Nat), z'.lacksv, .int .i64 (z'.rounds : Nat), .bool z'.over, .int .i64 z'.num, .int .i64 z'.e], frz F W, que 92 5 z'.waitv z'.wait.length (z'.wait.flatMap awC), own 54 17 z'.lacksv z'.lacks.length (z'.lacks.flatMap chC)])) := by
 refine Tr.of (l := [(0, .pointer (some ⟨D, 0, none⟩)), (1, .agg #[.int .i64 x.n.k, x.vN, x.vI, x.vB]), (2, .agg #[.int .i64 k, v1, v2, v3])]) Tryz.func97 rfl (n := 18) rfl (.cons rfl (.cons rfl (.cons rfl .nil))) (fun w0 hro => ?_)
 obtain ⟨hA, hB, hC⟩ := ro3 hro
 have oa := Ro.open hA
 have ob := Ro.open hB
 have oc := Ro.open hC
 obtain ⟨aa, ca, qa, oa', rfl, hca, hma, -, had, hel⟩ := oa
 obtain ⟨ab, cb, qb, ob', rfl, hcb, hmb, -, hbd, hbl⟩ := ob
 obtain ⟨ac, cc, qc, oc', rfl, hcc, -⟩ := oc
 refine go [9,10,60,2] ?_
 intro b4
 refine go [60,2] ?_
 intro b5
 refine go [1,7,8,9,9,10,2,3,0,2,50,0,2,13,7,8] ?_
 refine G.condP rfl (fun h9 => ?_) (fun h9 => ?_)
 ·have hlt : 0 < ns.length := hy.1 Y60
  have hE := hel 0 hlt
  have h0 : n0 ns = ns[0] := n0_eq hlt
  refine go [9,10,0,2,3,1,2,50,0,2,20,1] ?_
  refine G.op rfl (G.val rfl rfl (pv_load (v := .int .i64 ns[0]) Tryz.underlying3 rfl rfl (ro_int hE)) ?_)
  refine G.op rfl (G.cS rfl rfl rfl rfl Tryz.func47 rfl rfl subT may0 (pend_tr D z ns[0] 0) apT ?_)
  intro x15 hJ
  try dsimp only at hJ
  try dsimp only
  refine go [7,8,9,10,1,7,8,11,12] ?_
  rw [begunP_done (show k = 19 from by assumption)]
  try dsimp only
  rw [h0]
  exact G.doneX1 ((z.end ns[0] 0)) (by first | exact trivial | ((try dsimp only) <;> exact ⟨end_ok hz _ _, rfl⟩)) rfl rfl rfl subT
 refine go [13,8,9,10,2,50,8] ?_
 refine G.op rfl (G.cR rfl rfl rfl rfl Tryz.func135 rfl rfl (may3 Y6 Y6 Y6) (just_tr k _ _ _ ns ids bs 16 0 (fun h => hy.1 (Or.inl h))) ?_)
 refine go [1,7,8,11] ?_
 rw [begunP_on (show ¬ k = 19 from by assumption)]
 exact G.doneX1 (z) Y26 rfl rfl rfl subT
set_option maxHeartbeats 4000000 in
theorem parted_tr {F : Nat → Prop} {W : World} {Pv1 Pv2 Pv3 : Nat → Prop} (k : Int) (v1 v2 v3 : Value) (ns : List Int) (ids : List (List UInt8)) (bs : List UInt8) (D : Nat) (z : PZ) (x : NV) (hz : PvOk F W z) (hx : NvOk F W x) (hy : YOk ⟨k, ns, ids, bs⟩) (hp : ∃ a : Nat, x.n.ns = [(a : Int)] ∧ a ≤ 100000000) : Tr Tryz.prog 98 #[.pointer (some ⟨D, 0, none⟩), .agg #[.int .i64 x.n.k, x.vN, x.vI, x.vB], .agg #[.int .i64 k, v1, v2, v3]] [slc rInt Pv1 v1 ns, slc rID Pv2 v2 ids, slc rByte Pv3 v3 bs] [blk D 85 [.bool z.made, z.bv, z.lv, .int .i64 z.cm, .int .i64 z.tk, .int .i64 (z.ph : Nat), z.leftv, z.waitv, .int .i64 (z.asked : Nat), z.lacksv, .int .i64 (z.rounds : Nat), .bool z.over, .int .i64 z.num, .int .i64 z.e], frz F W, que 92 5 z.waitv z.wait.length (z.wait.flatMap awC), own 54 17 z.lacksv z.lacks.length (z.lacks.flatMap chC)]
 (TX (fun z' : PZ => PvOk F W z' ∧ z'.pm = (partedP z.pm x.n ⟨k, ns, ids, bs⟩).2) (fun _ => .bool (partedP z.pm x.n ⟨k, ns, ids, bs⟩).1) (fun z' => [blk D 85 [.bool z'.made, z'.bv, z'.lv, .int .i64 z'.cm, .int .i64 z'.tk, .int .i64 (z'.ph : Nat), z'.leftv, z'.waitv, .int .i64 (z'.asked : Nat), z'.lacksv, .int .i64 (z'.rounds : Nat), .bool z'.over, .int .i64 z'.num, .int .i64 z'.e], frz F W, que 92 5 z'.waitv z'.wait.length (z'.wait.flatMap awC), own 54 17 z'.lacksv z'.lacks.length (z'.lacks.flatMap chC)])) := by
 refine Tr.of (l := [(0, .pointer (some ⟨D, 0, none⟩)), (1, .agg #[.int .i64 x.n.k, x.vN, x.vI, x.vB]), (2, .agg #[.int .i64 k, v1, v2, v3])]) Tryz.func98 rfl (n := 17) rfl (.cons rfl (.cons rfl (.cons rfl .nil))) (fun w0 hro => ?_)
 obtain ⟨hA, hB, hC⟩ := ro3 hro
 have oa := Ro.open hA
 have ob := Ro.open hB
 have oc := Ro.open hC
 obtain ⟨aa, ca, qa, oa', rfl, hca, hma, -, had, hel⟩ := oa
 obtain ⟨ab, cb, qb, ob', rfl, hcb, hmb, -, hbd, hbl⟩ := ob
 obtain ⟨ac, cc, qc, oc', rfl, hcc, -⟩ := oc
 obtain ⟨a, hxa, ha⟩ := hp
 obtain ⟨hx1, hx2, hx3, hx4, hx5, hx6, hx7⟩ := hx
 obtain ⟨cN, dN, eN, fN, hvN, _, _, _, hNd, hNe⟩ := hx1.open
 obtain ⟨cB, dB, eB, fB, hvB, _, _, _, _, _⟩ := hx3.open
 have hNl : x.n.ns.length = 1 := by rw [hxa]; rfl
 have hE := hNe 0 (by omega)
 have hN0 : x.n.ns[0] = (a : Int) := by simp [hxa]
 rw [hNl] at hvN hNd
 rw [hN0] at hE
 refine go [9,10,60,2] ?_
 intro b4
 refine go [60,2] ?_
 intro b5
 refine go [1,7,8,9] ?_
 refine G.drawT (nn := 11) (p := []) (rem := 2047) [0, 0, 2, 4, 8, 0, 32, 64, 144, 257, 1023] [0, 0, 2, 4, 8, 0, 32, 64, 144, 257, 512] kr ⟨rfl, by kernel_rfl, by kernel_rfl⟩ subT kr (fun hT1 => ?_)
 refine go [22,1,2045,3,1,22,5,2013,3,3,22,0,2012,50,8] ?_
 refine G.takeT hT1 (i := 2) (rem' := 2008) rfl rfl rfl kr (fun _ _ _ h => h) rfl ((pv_load (v := x.vN) Tryz.underlying29 rfl rfl (by exact blk_cell selD (by rfl))).cast hvN) subT ?_
 refine G.takeT hT1 (i := 3) (rem' := 2000) rfl rfl rfl kr (fun _ _ _ h => h) rfl (pv_ixSl (sz := 1) (k := 0) Tryz.underlying29 kr rfl rfl hNd rfl (by omega)) subT ?_
 refine G.takeT hT1 (i := 4) (rem' := 1984) rfl rfl rfl kr (fun _ _ _ h => h) rfl (pv_load (v := .int .i64 (a : Int)) Tryz.underlying3 rfl rfl (frz_int selD hE)) subT ?_
 refine go [24,6,1920] ?_
 refine G.turnOp rfl rfl (G.val rfl rfl ((pv_load (v := x.vB) Tryz.underlying31 rfl rfl (by exact blk_cell selD (by rfl))).cast hvB) ?_)
 refine go [26,22,7,1792,5,22,8,1536,6,24,9,1024] ?_
 refine G.turnOp rfl rfl (G.cR rfl rfl rfl rfl Tryz.func135 rfl rfl (may3 Y6 Y6 Y6) (just_tr k _ _ _ ns ids bs 16 ((a : Int) + (x.n.bs.length : Int)) (fun h => hy.1 (Or.inl h))) ?_)
 refine go [26,22,10,0,1,27,8,11] ?_
 exact G.doneX1 (z) Y26 rfl rfl (by show Value.bool _ = Value.bool (justP _ 16 (n0 x.n.ns + _)); rw [n0_eq (show 0 < x.n.ns.length from by omega), hN0]) subT
set_option maxHeartbeats 4000000 in
theorem took_tr {F : Nat → Prop} {W : World} {Pv1 Pv2 Pv3 : Nat → Prop} (k : Int) (v1 v2 v3 : Value) (ns : List Int) (ids : List (List UInt8)) (bs : List UInt8) (D : Nat) (z : PZ) (x : NV) (hz : PvOk F W z) (hx : NvOk F W x) (hy : YOk ⟨k, ns, ids, bs⟩) (hp : x.n.ids.length = 1) : Tr Tryz.prog 100 #[.pointer (some ⟨D, 0, none⟩), .agg #[.int .i64 x.n.k, x.vN, x.vI, x.vB], .agg #[.int .i64 k, v1, v2, v3]] [slc rInt Pv1 v1 ns, slc rID Pv2 v2 ids, slc rByte Pv3 v3 bs] [blk D 85 [.bool z.made, z.bv, z.lv, .int .i64 z.cm, .int .i64 z.tk, .int .i64 (z.ph : Nat), z.leftv, z.waitv, .int .i64 (z.asked : Nat), z.lacksv, .int .i64 (z.rounds : Nat), .bool z.over, .int .i64 z.num, .int .i64 z.e], frz F W, que 92 5 z.waitv z.wait.length (z.wait.flatMap awC), own 54 17 z.lacksv z.lacks.length (z.lacks.flatMap chC)]
 (TX (fun z' : PZ => PvOk F W z' ∧ z'.pm = (tookP z.pm x.n ⟨k, ns, ids, bs⟩).2) (fun _ => .bool (tookP z.pm x.n ⟨k, ns, ids, bs⟩).1) (fun z' => [blk D 85 [.bool z'.made, z'.bv, z'.lv, .int .i64 z'.cm, .int .i64 z'.tk, .int .i64 (z'.ph : Nat), z'.leftv, z'.waitv, .int .i64 (z'.asked : Nat), z'.lacksv, .int .i64 (z'.rounds : Nat), .bool z'.over, .int .i64 z'.num, .int .i64 z'.e], frz F W, que 92 5 z'.waitv z'.wait.length (z'.wait.flatMap awC), own 54 17 z'.lacksv z'.lacks.length (z'.lacks.flatMap chC)])) := by
 refine Tr.of (l := [(0, .pointer (some ⟨D, 0, none⟩)), (1, .agg #[.int .i64 x.n.k, x.vN, x.vI, x.vB]), (2, .agg #[.int .i64 k, v1, v2, v3])]) Tryz.func100 rfl (n := 21) rfl (.cons rfl (.cons rfl (.cons rfl .nil))) (fun w0 hro => ?_)
 obtain ⟨hA, hB, hC⟩ := ro3 hro
 have oa := Ro.open hA
 have ob := Ro.open hB
 have oc := Ro.open hC
 obtain ⟨aa, ca, qa, oa', rfl, hca, hma, -, had, hel⟩ := oa
 obtain ⟨ab, cb, qb, ob', rfl, hcb, hmb, -, hbd, hbl⟩ := ob
 obtain ⟨ac, cc, qc, oc', rfl, hcc, -⟩ := oc
 obtain ⟨hx1, hx2, hx3, hx4, hx5, hx6, hx7⟩ := hx
 obtain ⟨cI, dI, eI, fI, hvI, _, _, _, hId, hIe⟩ := hx2.open
 rw [hp] at hvI hId
 have hE := hIe 0 (by omega)
 have lx := hE.1
 have hx0 : x.n.ids[0]? = some x.n.ids[0] := List.getElem?_eq_getElem (by omega)
 refine go [9,10,60,2] ?_
 intro b4
 refine go [60,2] ?_
 intro b5
 refine go [1,7,8,9] ?_
 refine G.drawT (nn := 15) (p := []) (rem := 32767) [0, 1, 2, 4, 8, 24, 40, 72, 8, 264, 520, 1032, 2184, 4104, 16383] [0, 1, 2, 4, 8, 24, 40, 72, 8, 264, 520, 1032, 2184, 4104, 8192] kr ⟨rfl, by kernel_rfl, by kernel_rfl⟩ subT kr (fun hT1 => ?_)
 refine go [22,0,32766,3,0,24,1,32764,25,50,0,26,22,2,32760,13,22,3,32752,0] ?_
 refine G.partP (t := 10) rfl (fun h10 => ?_) (fun h10 => ?_)
 ·have hlt : 0 < ids.length := hy.2 (by assumption)
  have hG := Ro.arr8 (hbl 0 hlt)
  obtain ⟨lg, rg⟩ := hG
  have hy0 : ids[0]? = some ids[0] := List.getElem?_eq_getElem hlt
  refine go [22,4,32736,3,2,22,5,32704,50,0,22,6,32640,20,16] ?_
  refine G.takeT hT1 (i := 7) (rem' := 32512) rfl rfl rfl kr (fun _ _ _ h => h) rfl (pv_loadN (cs := ids[0].map vByte) Tryz.underlying52 rfl (by rw [List.length_map, lg]; kernel_rfl) rfl rg) subT ?_
  refine go [22,8,32256,3,2,24,9,31744] ?_
  refine G.turnOp rfl rfl (G.val rfl rfl ((pv_load (v := x.vI) Tryz.underlying30 rfl rfl (by exact blk_cell selD (by rfl))).cast hvI) ?_)
  refine go [26] ?_
  refine G.takeT hT1 (i := 10) (rem' := 30720) rfl rfl rfl kr (fun _ _ _ h => h) rfl (pv_ixSl (sz := 16) (k := 0) Tryz.underlying30 kr rfl rfl hId rfl (by omega)) subT ?_
  refine go [24,11,28672] ?_
  refine G.turnOp rfl rfl (G.val rfl rfl (pv_loadN (cs := x.n.ids[0].map vByte) Tryz.underlying52 rfl (by rw [List.length_map, lx]; kernel_rfl) rfl (frz_id selD hE (by omega))) ?_)
  refine go [26] ?_
  refine G.takeT hT1 (i := 12) (rem' := 24576) rfl rfl rfl kr (fun _ _ _ h => h) rfl (pv_eqlAr8 (a := ids[0]) (b := x.n.ids[0]) Tryz.underlying52 rfl kr Tryz.underlying5 kr rfl rfl lg lx) subT ?_
  refine go [22,13,16384,2,22,14,0,1,27,8,11] ?_
  exact G.doneX1 (z) Y26 rfl rfl (by show Value.bool _ = Value.bool (decide (k = 18 ∧ ids[0]? = _)); rw [hy0, hx0]; simp [*]) subT
 refine go [23,4,32736,23,5,32704,23,6,32640,23,7,32512,23,8,32256,23,9,31744,23,10,30720,23,11,28672,23,12,24576,22,13,16384,2,22,14,0,1,27,8,11] ?_
 exact G.doneX1 (z) Y26 rfl rfl (by show Value.bool _ = Value.bool (decide (k = 18 ∧ _)); simp [*]) subT
set_option maxHeartbeats 4000000 in
theorem committed_tr {F : Nat → Prop} {W : World} {Pv1 Pv2 Pv3 : Nat → Prop} (k : Int) (v1 v2 v3 : Value) (ns : List Int) (ids : List (List UInt8)) (bs : List UInt8) (D : Nat) (z : PZ) (x : NV) (hz : PvOk F W z) (hx : NvOk F W x) (hy : YOk ⟨k, ns, ids, bs⟩)  : Tr Tryz.prog 101 #[.pointer (some ⟨D, 0, none⟩), .agg #[.int .i64 x.n.k, x.vN, x.vI, x.vB], .agg #[.int .i64 k, v1, v2, v3]] [slc rInt Pv1 v1 ns, slc rID Pv2 v2 ids, slc rByte Pv3 v3 bs] [blk D 85 [.bool z.made, z.bv, z.lv, .int .i64 z.cm, .int .i64 z.tk, .int .i64 (z.ph : Nat), z.leftv, z.waitv, .int .i64 (z.asked : Nat), z.lacksv, .int .i64 (z.rounds : Nat), .bool z.over, .int .i64 z.num, .int .i64 z.e], frz F W, que 92 5 z.waitv z.wait.length (z.wait.flatMap awC), own 54 17 z.lacksv z.lacks.length (z.lacks.flatMap chC)]
 (TX (fun z' : PZ => PvOk F W z' ∧ z'.pm = (committedP z.pm x.n ⟨k, ns, ids, bs⟩).2) (fun _ => .bool (committedP z.pm x.n ⟨k, ns, ids, bs⟩).1) (fun z' => [blk D 85 [.bool z'.made, z'.bv, z'.lv, .int .i64 z'.cm, .int .i64 z'.tk, .int .i64 (z'.ph : Nat), z'.leftv, z'.waitv, .int .i64 (z'.asked : Nat), z'.lacksv, .int .i64 (z'.rounds : Nat), .bool z'.over, .int .i64 z'.num, .int .i64 z'.e], frz F W, que 92 5 z'.waitv z'.wait.length (z'.wait.flatMap awC), own 54 17 z'.lacksv z'.lacks.length (z'.lacks.flatMap chC)])) := by
 refine Tr.of (l := [(0, .pointer (some ⟨D, 0, none⟩)), (1, .agg #[.int .i64 x.n.k, x.vN, x.vI, x.vB]), (2, .agg #[.int .i64 k, v1, v2, v3])]) Tryz.func101 rfl (n := 19) rfl (.cons rfl (.cons rfl (.cons rfl .nil))) (fun w0 hro => ?_)
 obtain ⟨hA, hB, hC⟩ := ro3 hro
 have oa := Ro.open hA
 have ob := Ro.open hB
 have oc := Ro.open hC
 obtain ⟨aa, ca, qa, oa', rfl, hca, hma, -, had, hel⟩ := oa
 obtain ⟨ab, cb, qb, ob', rfl, hcb, hmb, -, hbd, hbl⟩ := ob
 obtain ⟨ac, cc, qc, oc', rfl, hcc, -⟩ := oc
 refine go [9,10,60,2] ?_
 intro b4
 refine go [60,2] ?_
 intro b5
 refine go [1,7,8,9,9,10,2,3,0,2,50,0,2,13,7,8] ?_
 refine G.condP rfl (fun h9 => ?_) (fun h9 => ?_)
 ·have hlt : 0 < ns.length := hy.1 Y60
  have hE := hel 0 hlt
  have h0 : n0 ns = ns[0] := n0_eq hlt
  refine go [10,0,2,3,1,2,50,0,2,20,1] ?_
  refine G.op rfl (G.val rfl rfl (pv_load (v := .int .i64 ns[0]) Tryz.underlying3 rfl rfl (ro_int hE)) ?_)
  refine G.op rfl (G.cS rfl rfl rfl rfl Tryz.func47 rfl rfl subT may0 (pend_tr D z ns[0] 0) apT ?_)
  intro x15 hJ
  try dsimp only at hJ
  try dsimp only
  refine go [7,8,9,10,2,3,0,2,50,0,2,13,1,7,8,11] ?_
  rw [committedP_done (show k = 19 from by assumption)]
  try dsimp only
  rw [h0]
  exact G.doneX1 ((z.end ns[0] 0)) (by first | exact trivial | ((try dsimp only) <;> exact ⟨end_ok hz _ _, rfl⟩)) rfl rfl (by show Value.bool (decide (k = 19)) = _; rw [decide_eq_true (by assumption)]) subT
 refine go [13,8,9,10,2,3,0,2,50,0,2,13,1,7,8,11] ?_
 rw [committedP_on (show ¬ k = 19 from by assumption)]
 exact G.doneX1 (z) Y26 rfl rfl (by show Value.bool (decide (k = 19)) = _; rw [decide_eq_false (by assumption)]) subT
section
variable {P : Program} {n : Nat} {w0 : World} {S : Nat → Prop} {l : Fr} {m : List Ck} {K : Act → World → Prop}
theorem G.datCons {e : TypeId} {x : ET} {xs : List ET} {r : List Ck} (h1 : Sel m (datC e (x :: xs)) r) (h : G n w0 S l (ownB e x.2 x.1.data :: datC e xs :: r) K) : G n w0 S l m K := G.mem (fun w hw => by
 have h2 : Hp w0 S w ((ownB e x.2 x.1.data :: xs.map fun x => ownB e x.2 x.1.data) ++ r) := Hp.unstar (hw.sel h1)
 have h3 : Hp w0 S w ((xs.map fun x => ownB e x.2 x.1.data) ++ (ownB e x.2 x.1.data :: r)) := h2.perm (by
  rw [List.cons_append]
  exact List.perm_middle.symm)
 exact (Hp.star h3).perm (List.Perm.swap ..)) h
end
def overX : ET := (⟨[111, 118, 101, 114], -7, 0, [], []⟩, .slice none 0 0)
theorem drop_cons {α : Type} {zs : List α} {i : Nat} (h : i < zs.length) : zs.drop i = zs[i] :: zs.drop (i + 1) := List.drop_eq_getElem_cons h
set_option maxHeartbeats 4000000 in
theorem overT_tr (v : Value) (zs : List ET) (hn : zs.length ≤ 1000) : Tr Tryz.prog 32 #[v] [] [ownT 102 v zs, datC 5 zs] (TX (fun _ : Unit => True) (fun _ => .tuple #[]) (fun _ => [])) := by
 refine Tr.of (l := [(0, v)]) Tryz.func32 rfl (n := 19) rfl (.cons rfl .nil) (fun w0 hro => ?_)
 rw [show ownT 102 v zs = own 102 5 v zs.length (flatT zs) from rfl]
 refine G.ownOpen (v := v) selT (fun a3 c3 h3 hk3 hm3 => ?_)
 subst h3
 refine go [9,10,1,7,8,15] ?_
 refine G.loopK (X := Nat × (List ET)) (ts := [0]) (fun st => st.1 ≤ zs.length ∧ (st.2.length = zs.length ∧ ∀ q (h1 : q < st.2.length) (h2 : q < zs.length), st.1 ≤ q → st.2[q] = zs[q])) (fun st => [(2, .int .i64 (st.1 : Int))]) (fun st => [own 102 5 (.slice a3 zs.length c3) zs.length (flatT st.2), datC 5 (zs.drop st.1)]) (fun st => zs.length - st.1) (x0 := (0, zs)) (.cons rfl .nil) subT (.cons .nil) apT (by first | exact trivial | ((try dsimp only) <;> exact ⟨Nat.zero_le _, ⟨rfl, fun q _ _ _ => rfl⟩⟩)) (.consE rfl veqT .nil) (fun st hJ => ?_)
 obtain ⟨i, ws⟩ := st
 try dsimp only at hJ
 try dsimp only
 obtain ⟨hki, hJ⟩ := hJ
 obtain ⟨hwl, hwz0⟩ := hJ
 refine go [9,9,10,0,0,2,5,2,9,7,8] ?_
 refine G.condP rfl (fun h6 => ?_) (fun h6 => ?_)
 ·have hlt : i < zs.length := by omega
  have hlt' : i < ws.length := by omega
  have hwz : ws[i] = zs[i] := hwz0 i hlt' hlt (Nat.le_refl _)
  rw [drop_cons hlt]
  refine G.datCons selT ?_
  refine G.ownTo (v := .slice a3 zs.length c3) selT (by omega) (fun g cap sp hvv hkc hmx hl hlen => ?_)
  injection hvv with e1 e2 e3
  subst e1
  subst e3
  refine go [13,8,9,15,9,10,0,0] ?_
  refine G.op rfl (G.val rfl rfl (pv_ixSl (sz := 5) (k := i) Tryz.underlying35 kr rfl rfl (fun _ => rfl) (by omega) (by omega)) ?_)
  refine go [2,3,3] ?_
  refine G.op rfl (G.val rfl rfl (pv_load (v := zs[i].2) Tryz.underlying31 rfl rfl (blk_cell selD (by rw [← hwz]; exact flat_dat hlt'))) ?_)
  refine G.op rfl (G.cS rfl rfl rfl rfl Tryz.func62 rfl rfl subT may0 (overB_tr _ _) apT ?_)
  intro x14 hJ
  try dsimp only at hJ
  try dsimp only
  refine go [7,8,10,0,0] ?_
  refine G.op rfl (G.val rfl rfl (pv_buildSt (z := [.string ⟨#[]⟩, .int .i64 0, .int .i64 0, .slice none 0 0, .string ⟨#[]⟩]) (pl := [(0, 1), (1, 1), (2, 1), (3, 1), (4, 1)]) Tryz.underlying102 kr kr rfl flT) ?_)
  refine G.op rfl (G.val rfl rfl (pv_ixSl (sz := 5) (k := i) Tryz.underlying35 kr rfl rfl (fun _ => rfl) (by omega) (by omega)) ?_)
  refine G.op rfl (G.storeN (vs := evC overX) kr rfl rfl (by rfl) selT (by rw [evC_length, List.length_append, flatT_length]; omega) ?_)
  rw [flat_put hlt']
  refine go [7,16,8,10,0,2,6,1,7] ?_
  refine G.ownOf (sz := 5) (k := zs.length) (cs := flatT (ws.set i overX)) (sp := sp) selT (by rw [flatT_length, List.length_set, hwl]) (by omega) hmx (by rw [List.length_append, flatT_length, List.length_set]; rw [List.length_append, flatT_length] at hl; exact hl) ?_
  exact G.next ((i + 1, ws.set i overX)) (by first | exact trivial | ((try dsimp only) <;> exact ⟨by omega, ⟨by rw [List.length_set, hwl], fun q h1 h2 hq => by rw [List.getElem_set_ne (by omega)]; exact hwz0 q (by rw [List.length_set] at h1; exact h1) h2 (by omega)⟩⟩)) (by (try dsimp only); omega) (.consE rfl veqT (.cons rfl .nil)) subT
 refine go [18,14,14,19] ?_
 exact G.doneXE (()) trT rfl rfl subT
section
variable {P : Program} {n : Nat} {w0 : World} {S : Nat → Prop} {l : Fr} {m : List Ck} {K : Act → World → Prop}
theorem G.datINil (e : TypeId) (h : G n w0 S l (datI e [] :: m) K) : G n w0 S l m K := G.starNil h
theorem G.datISnoc {e : TypeId} {ys : List IT} {x : IT} {r r' : List Ck} (h1 : Sel m (datI e ys) r) (h2 : Sel r (own e 16 x.2 x.1.ids.length (flatI x.1.ids)) r') (h : G n w0 S l (datI e (ys ++ [x]) :: r') K) : G n w0 S l m K := G.starSnoc rfl h1 h2 h
theorem G.datDNil (e : TypeId) (h : G n w0 S l (datD e [] :: m) K) : G n w0 S l m K := G.starNil h
theorem G.datDSnoc {e : TypeId} {ys : List CT} {x : CT} {r r' : List Ck} (h1 : Sel m (datD e ys) r) (h2 : Sel r (ownB e x.2 x.1.2) r') (h : G n w0 S l (datD e (ys ++ [x]) :: r') K) : G n w0 S l m K := G.starSnoc rfl h1 h2 h
end
def numI (e : It) : Prop := e.kind < 1 ∨ 3 < e.kind ∨ e.mode < 0 ∨ 511 < e.mode ∨ (e.kind = 3 ↔ e.to.length = 0) ∨ 200 < e.to.length
instance (e : It) : Decidable (numI e) := inferInstanceAs (Decidable (_ ∨ _))
def rngI (e : It) : Prop := e.size < 0 ∨ 1048576 < e.size ∨ (0 < e.size ∧ e.kind ≠ 2) ∨ ¬ ((e.size + 1023) / 1024 ≤ (e.ids.length : Int) ∧ (e.ids.length : Int) ≤ (e.size + 63) / 64)
instance (e : It) : Decidable (rngI e) := inferInstanceAs (Decidable (_ ∨ _))
def oneI (e : It) : Int := if ¬ okP e.path then 4 else if numI e then 2 else if rngI e then 5 else 0
theorem oneI_bytes {e : It} (h : ¬ okP e.path) : oneI e = 4 := if_pos h
theorem oneI_arg {e : It} (h : okP e.path) (h1 : numI e) : oneI e = 2 := by
 unfold oneI
 rw [if_neg (not_not_intro h), if_pos h1]
theorem oneI_rng {e : It} (h : okP e.path) (h1 : ¬ numI e) (h2 : rngI e) : oneI e = 5 := by
 unfold oneI
 rw [if_neg (not_not_intro h), if_neg h1, if_pos h2]
theorem oneI_ok {e : It} (h : okP e.path) (h1 : ¬ numI e) (h2 : ¬ rngI e) : oneI e = 0 := by
 unfold oneI
 rw [if_neg (not_not_intro h), if_neg h1, if_neg h2]
theorem oneI_zero {e : It} (h : oneI e = 0) : okP e.path ∧ ¬ numI e ∧ ¬ rngI e := by
 unfold oneI at h
 split at h
 ·cases h
 split at h
 ·cases h
 split at h
 ·cases h
 exact ⟨Decidable.of_not_not (by assumption), by assumption, by assumption⟩
set_option maxHeartbeats 4000000 in
theorem win_tr (n a b : Int) : Tr Tryz.prog 76 #[.int .i64 n, .int .i64 a, .int .i64 b] [] [] (T0 (.bool (decide (a ≤ n ∧ n ≤ b)))) := by
 refine Tr.of (l := [(0, .int .i64 n), (1, .int .i64 a), (2, .int .i64 b)]) Tryz.func76 rfl (n := 15) rfl (.cons rfl (.cons rfl (.cons rfl .nil))) (fun w0 hro => ?_)
 refine go [9,10,1,7,8,9,10,0,0,2,12,0] ?_
 refine G.partP (t := 10) rfl (fun h10 => ?_) (fun h10 => ?_)
 ·refine go [3,0,3,0,3,11,2,2,1,7,8,11] ?_
  exact G.done0G rfl (Rv.tmp rfl Rv.nil) Y38
 refine go [4,4,4,2,2,1,7,8,11] ?_
 exact G.done0G rfl (Rv.tmp rfl Rv.nil) Y38
set_option maxHeartbeats 4000000 in
theorem winR_tr (n a b : Int) : Tr Tryz.prog 123 #[.int .i64 n, .int .i64 a, .int .i64 b] [] [] (T0 (.bool (decide (a ≤ n ∧ n ≤ b)))) := by
 refine Tr.of (l := [(0, .int .i64 n), (1, .int .i64 a), (2, .int .i64 b)]) Tryz.func123 rfl (n := 15) rfl (.cons rfl (.cons rfl (.cons rfl .nil))) (fun w0 hro => ?_)
 refine go [9,10,1,7,8,9,10,0,0,2,12,0] ?_
 refine G.partP (t := 10) rfl (fun h10 => ?_) (fun h10 => ?_)
 ·refine go [3,0,3,0,3,11,2,2,1,7,8,11] ?_
  exact G.done0G rfl (Rv.tmp rfl Rv.nil) Y38
 refine go [4,4,4,2,2,1,7,8,11] ?_
 exact G.done0G rfl (Rv.tmp rfl Rv.nil) Y38
set_option maxHeartbeats 4000000 in
theorem parts_tr (n k : Int) (hn : 0 ≤ n ∧ n ≤ 1048576) (hk : 1 ≤ k) (hk2 : k ≤ 1024) : Tr Tryz.prog 116 #[.int .i64 n, .int .i64 k] [] [] (T0 (.int .i64 ((n + k - 1) / k))) := by
 refine Tr.of (l := [(0, .int .i64 n), (1, .int .i64 k)]) Tryz.func116 rfl (n := 11) rfl (.cons rfl (.cons rfl .nil)) (fun w0 hro => ?_)
 refine go [9,10,1,7,8,9,10,0,0,2,6,2,19,0] ?_
 refine G.op rfl (G.val rfl rfl (pv_quo64 rfl rfl (by omega) (by omega)) ?_)
 refine go [1,7,8,11] ?_
 exact G.done0G rfl (Rv.tmp rfl Rv.nil) Y7
set_option maxHeartbeats 4000000 in
theorem many_tr (n k : Int) (hn : 0 ≤ n ∧ n ≤ 1048576) (hk : 0 ≤ k ∧ k ≤ 140737488355328) : Tr Tryz.prog 151 #[.int .i64 n, .int .i64 k] [] [] (T0 (.bool (decide ((n + 1023) / 1024 ≤ k ∧ k ≤ (n + 63) / 64)))) := by
 refine Tr.of (l := [(0, .int .i64 n), (1, .int .i64 k)]) Tryz.func151 rfl (n := 19) rfl (.cons rfl (.cons rfl .nil)) (fun w0 hro => ?_)
 refine go [9,10,1,7,8,9,10,0,0,2,6,2,19] ?_
 refine G.op rfl (G.val rfl rfl (pv_quo64 rfl rfl (by omega) (by omega)) ?_)
 refine go [2,12,0] ?_
 refine G.partP (t := 11) rfl (fun h11 => ?_) (fun h11 => ?_)
 ·refine go [3,0,3,0,3,6,3,19] ?_
  refine G.want rfl rfl rfl (G.val rfl rfl (pv_quo64 rfl rfl (by omega) (by omega)) ?_)
  refine go [3,11,2,2,1,7,8,11] ?_
  exact G.done0G rfl (Rv.tmp rfl Rv.nil) Y38
 refine go [4,4,4,4,4,4,2,2,1,7,8,11] ?_
 exact G.done0G rfl (Rv.tmp rfl Rv.nil) Y38
set_option maxHeartbeats 4000000 in
theorem ione_tr {Pd : Nat → Prop} (e : It) (d : Value) (hl : e.path.length ≤ 9223372036854775807) (hn : e.ids.length ≤ 140737488355328) (hsz : I64 e.size) : Tr Tryz.prog 77 #[.agg #[.string (sB e.path), .int .i64 e.kind, .int .i64 e.mode, .int .i64 e.size, .string (sB e.to), d]] [slc rID Pd d e.ids] [] (T0 (.int .i64 (oneI e))) := by
 refine Tr.of (l := [(0, .agg #[.string (sB e.path), .int .i64 e.kind, .int .i64 e.mode, .int .i64 e.size, .string (sB e.to), d])]) Tryz.func77 rfl (n := 61) rfl (.cons rfl .nil) (fun w0 hro => ?_)
 have hd := ro1 hro
 obtain ⟨ad, cap, rfl⟩ := Ro.slv hd
 have hto := nil_len (s := e.to)
 obtain ⟨hs1, hs2⟩ := hsz
 refine go [9,10,60,16] ?_
 intro b1
 refine go [1,7,8,9,10,2,3,1,2,4,2,13,1,7,8,9,15,9,10,2,3,0,2,4] ?_
 refine G.op rfl (G.cR rfl rfl rfl rfl Tryz.func107 rfl rfl may0 (check_tr _ (by omega)) ?_)
 refine G.op rfl (G.val rfl rfl (pv_field1 Tryz.underlying157 rfl Tryz.underlying27 rfl rfl rfl) ?_)
 refine go [2,14,1,7,8] ?_
 refine G.condP rfl (fun h7 => ?_) (fun h7 => ?_)
 ·refine go [9,10,1,7,8,11,17,12] ?_
  exact G.done0G rfl (Rv.tmp rfl Rv.nil) (by rw [oneI_bytes (by assumption)]; rfl)
 have hok : okP e.path := Decidable.of_not_not (by assumption)
 refine G.seq ?_
 refine G.cutK (X := Unit) (ts := [1, 2]) (p := []) (fun _ => True) (fun _ => [(13, .bool (decide (numI e)))]) (fun _ => []) (.cons rfl (.cons rfl .nil)) subT (.cons .nil) apT ?_ ?_
 ·refine go [10,2,3,1,2,4] ?_
  refine G.op rfl (G.cR rfl rfl rfl rfl Tryz.func76 rfl rfl may0 (win_tr _ _ _) ?_)
  refine go [2,15,0] ?_
  refine G.partP (t := 18) rfl (fun h18 => ?_) (fun h18 => ?_)
  ·refine go [4,4,4,4,2,2,0,4,4,4,4,4,2,2,0,4,4,4,4,2,2,1,7] ?_
   exact G.meet (()) trT (.consE rfl Y17 (.cons rfl (.cons rfl .nil))) subT
  refine go [3,3,2,3,4] ?_
  refine G.want rfl rfl rfl (G.cR rfl rfl rfl rfl Tryz.func76 rfl rfl may0 (win_tr _ _ _) ?_)
  refine go [3,15,2,2,0] ?_
  refine G.partP (t := 24) rfl (fun h24 => ?_) (fun h24 => ?_)
  ·refine go [4,4,4,4,4,2,2,0,4,4,4,4,2,2,1,7] ?_
   exact G.meet (()) trT (.consE rfl Y17 (.cons rfl (.cons rfl .nil))) subT
  refine go [3,0,3,3,4,3,4,3,23] ?_
  refine G.want rfl rfl rfl (G.val rfl rfl (pv_neqB Tryz.underlying4 rfl rfl) ?_)
  refine go [2,2,0] ?_
  refine G.part (t := 31) rfl (fun h31 => ?_) (fun h31 => ?_)
  ·have hb := bne_dec.1 h31
   rw [ne_eq, hto] at hb
   refine go [4,4,4,4,2,2,1,7] ?_
   exact G.meet (()) trT (.consE rfl Y17 (.cons rfl (.cons rfl .nil))) subT
  have hb : ¬ ¬ (e.kind = 3 ↔ ¬ e.to.length = 0) := fun h => by have := bne_dec.2 (show ¬ (e.kind = 3 ↔ e.to ≠ []) by rw [ne_eq, hto]; exact h); rw [h31] at this; cases this
  refine go [3,3,4,3,4,3,21,3,10,2,2,1,7] ?_
  exact G.meet (()) trT (.consE rfl Y17 (.cons rfl (.cons rfl .nil))) subT
 intro _ hJ
 try dsimp only at hJ
 try dsimp only
 refine G.condP rfl (fun h13 => ?_) (fun h13 => ?_)
 ·refine go [9,10,1,7,8,11,17,12] ?_
  exact G.done0G rfl (Rv.tmp rfl Rv.nil) (by rw [oneI_arg hok (by assumption)]; rfl)
 refine G.seq ?_
 refine G.cutK (X := Unit) (ts := [2]) (p := []) (fun _ => True) (fun _ => [(37, .bool (decide (rngI e)))]) (fun _ => []) (.cons rfl .nil) subT (.cons .nil) apT ?_ ?_
 ·refine go [9,10,2,3,3,2,4] ?_
  refine G.op rfl (G.cR rfl rfl rfl rfl Tryz.func76 rfl rfl may0 (win_tr _ _ _) ?_)
  refine go [2,15,1,7,8] ?_
  refine G.condP rfl (fun h37 => ?_) (fun h37 => ?_)
  ·refine G.skip ?_
   exact G.meet (()) trT (.consE rfl Y24 (.cons rfl .nil)) subT
  refine go [9,10,2,3,3,2,4,2,10,0] ?_
  refine G.partP (t := 45) rfl (fun h45 => ?_) (fun h45 => ?_)
  ·refine go [3,3,1,3,4,3,14,2,2,1,7,8] ?_
   refine G.condP rfl (fun h37 => ?_) (fun h37 => ?_)
   ·refine G.skip ?_
    exact G.meet (()) trT (.consE rfl Y24 (.cons rfl .nil)) subT
   refine G.drawT (nn := 12) (p := []) (rem := 4095) [0, 1, 2, 0, 8, 16, 0, 64, 160, 292, 512, 1536] [0, 1, 2, 0, 8, 16, 0, 64, 128, 292, 512, 1024] kr ⟨rfl, by kernel_rfl, by kernel_rfl⟩ subT kr (fun hT8 => ?_)
   refine go [22,0,4094,3,5,22,3,4086,3,3,22,6,4022,3,3,22,1,4020,4,22,2,4016,5,22,4,4000,4,22,7,3872,4,24,5,3840] ?_
   refine G.turnOp rfl rfl (G.cR rfl rfl rfl rfl Tryz.func116 rfl rfl may0 (parts_tr _ _ (by omega) (by omega) (by omega)) ?_)
   refine go [26,24,8,3584] ?_
   refine G.turnOp rfl rfl (G.cR rfl rfl rfl rfl Tryz.func116 rfl rfl may0 (parts_tr _ _ (by omega) (by omega) (by omega)) ?_)
   refine go [26,24,9,3072] ?_
   refine G.turnOp rfl rfl (G.cR rfl rfl rfl rfl Tryz.func76 rfl rfl may0 (win_tr _ _ _) ?_)
   refine go [26,22,10,2048,15,22,11,0,1,27] ?_
   exact G.meet (()) trT (.consE rfl Y24 (.cons rfl .nil)) subT
  refine go [4,4,4,2,2,1,7,8,60,0] ?_
  refine G.drawT (nn := 12) (p := []) (rem := 4095) [0, 1, 2, 0, 8, 16, 0, 64, 160, 292, 512, 1536] [0, 1, 2, 0, 8, 16, 0, 64, 128, 292, 512, 1024] kr ⟨rfl, by kernel_rfl, by kernel_rfl⟩ subT kr (fun hT8 => ?_)
  refine go [22,0,4094,3,5,22,3,4086,3,3,22,6,4022,3,3,22,1,4020,4,22,2,4016,5,22,4,4000,4,22,7,3872,4,24,5,3840] ?_
  refine G.turnOp rfl rfl (G.cR rfl rfl rfl rfl Tryz.func116 rfl rfl may0 (parts_tr _ _ (by omega) (by omega) (by omega)) ?_)
  refine go [26,24,8,3584] ?_
  refine G.turnOp rfl rfl (G.cR rfl rfl rfl rfl Tryz.func116 rfl rfl may0 (parts_tr _ _ (by omega) (by omega) (by omega)) ?_)
  refine go [26,24,9,3072] ?_
  refine G.turnOp rfl rfl (G.cR rfl rfl rfl rfl Tryz.func76 rfl rfl may0 (win_tr _ _ _) ?_)
  refine go [26,22,10,2048,15,22,11,0,1,27] ?_
  exact G.meet (()) trT (.consE rfl Y24 (.cons rfl .nil)) subT
 intro _ hJ
 try dsimp only at hJ
 try dsimp only
 refine G.condP rfl (fun h37 => ?_) (fun h37 => ?_)
 ·refine go [9,10,1,7,8,11,17,12] ?_
  exact G.done0G rfl (Rv.tmp rfl Rv.nil) (by rw [oneI_rng hok (by assumption) (by assumption)]; rfl)
 refine go [13,16,8,9,10,1,7,8,11] ?_
 exact G.done0G rfl (Rv.tmp rfl Rv.nil) (by rw [oneI_ok hok (by assumption) (by assumption)]; rfl)
set_option maxHeartbeats 4000000 in
theorem ioneR_tr {Pd : Nat → Prop} (e : It) (d : Value) (hl : e.path.length ≤ 9223372036854775807) (hn : e.ids.length ≤ 140737488355328) (hsz : I64 e.size) : Tr Tryz.prog 124 #[.agg #[.string (sB e.path), .int .i64 e.kind, .int .i64 e.mode, .int .i64 e.size, .string (sB e.to), d]] [slc rID Pd d e.ids] [] (T0 (.int .i64 (oneI e))) := by
 refine Tr.of (l := [(0, .agg #[.string (sB e.path), .int .i64 e.kind, .int .i64 e.mode, .int .i64 e.size, .string (sB e.to), d])]) Tryz.func124 rfl (n := 63) rfl (.cons rfl .nil) (fun w0 hro => ?_)
 have hd := ro1 hro
 obtain ⟨ad, cap, rfl⟩ := Ro.slv hd
 have hto := nil_len (s := e.to)
 obtain ⟨hs1, hs2⟩ := hsz
 refine go [9,10,60,16] ?_
 intro b1
 refine go [1,7,8,9,9,10,2,3,0,2,4] ?_
 refine G.op rfl (G.cR rfl rfl rfl rfl Tryz.func144 rfl rfl may0 (validR_tr _ (by omega)) ?_)
 refine go [2,15,7,8] ?_
 refine G.condP rfl (fun h7 => ?_) (fun h7 => ?_)
 ·refine go [9,10,1,7,8,11,12] ?_
  exact G.done0G rfl (Rv.tmp rfl Rv.nil) (by rw [oneI_bytes (by assumption)]; rfl)
 have hok : okP e.path := Decidable.of_not_not (by assumption)
 refine go [13,8,9,10,2,3,1,2,4,2,13,1,7,8,9,9] ?_
 refine G.cutK (X := Unit) (ts := [1, 2]) (p := []) (fun _ => True) (fun _ => [(39, .bool (decide (numI e)))]) (fun _ => []) (.cons rfl (.cons rfl .nil)) subT (.cons .nil) apT ?_ ?_
 ·refine go [10,2,3,1,2,4] ?_
  refine G.op rfl (G.cR rfl rfl rfl rfl Tryz.func123 rfl rfl may0 (winR_tr _ _ _) ?_)
  refine go [2,15,0] ?_
  refine G.partP (t := 15) rfl (fun h15 => ?_) (fun h15 => ?_)
  ·refine go [4,4,4,4,2,2,0,4,4,4,6,6,6,4,2,2,0,4,4,6,6,6,6,6,4,2,2,7] ?_
   exact G.meet (()) trT (.consE rfl Y17 (.cons rfl (.cons rfl .nil))) subT
  refine go [3,3,2,3,4] ?_
  refine G.want rfl rfl rfl (G.cR rfl rfl rfl rfl Tryz.func123 rfl rfl may0 (winR_tr _ _ _) ?_)
  refine go [3,15,2,2,0] ?_
  refine G.partP (t := 21) rfl (fun h21 => ?_) (fun h21 => ?_)
  ·refine go [4,4,4,6,6,6,4,2,2,0,4,4,6,6,6,6,6,4,2,2,7] ?_
   exact G.meet (()) trT (.consE rfl Y17 (.cons rfl (.cons rfl .nil))) subT
  refine go [3,0,3,15,3,0] ?_
  refine G.partP (t := 24) rfl (fun h24 => ?_) (fun h24 => ?_)
  ·refine go [3,3,4,3,4,3,23,3,2,2,2,0] ?_
   refine G.partP (t := 30) rfl (fun h30 => ?_) (fun h30 => ?_)
   ·have hb := h30
    try rw [ne_eq, hto] at hb
    refine go [4,4,6,6,6,6,6,4,2,2,7] ?_
    exact G.meet (()) trT (.consE rfl Y17 (.cons rfl (.cons rfl .nil))) subT
   have hb := h30
   try rw [ne_eq, hto] at hb
   refine go [3,0,3,0] ?_
   refine G.partP (t := 32) rfl (fun h32 => ?_) (fun h32 => ?_)
   ·refine go [3,3,4,3,4,3,21] ?_
    refine G.want rfl rfl rfl (G.cR rfl rfl rfl rfl Tryz.func123 rfl rfl may0 (winR_tr _ _ _) ?_)
    refine go [3,15,3,2,2,2,7] ?_
    exact G.meet (()) trT (.consE rfl Y17 (.cons rfl (.cons rfl .nil))) subT
   refine go [4,4,4,4,4,3,2,2,2,7] ?_
   exact G.meet (()) trT (.consE rfl Y17 (.cons rfl (.cons rfl .nil))) subT
  refine go [4,4,4,3,2,2,2,0,3,0,3,0] ?_
  refine G.partP (t := 32) rfl (fun h32 => ?_) (fun h32 => ?_)
  ·refine go [3,3,4,3,4,3,21] ?_
   refine G.want rfl rfl rfl (G.cR rfl rfl rfl rfl Tryz.func123 rfl rfl may0 (winR_tr _ _ _) ?_)
   refine go [3,15,3,2,2,2,7] ?_
   exact G.meet (()) trT (.consE rfl Y17 (.cons rfl (.cons rfl .nil))) subT
  refine go [4,4,4,4,4,3,2,2,2,7] ?_
  exact G.meet (()) trT (.consE rfl Y17 (.cons rfl (.cons rfl .nil))) subT
 intro _ hJ
 try dsimp only at hJ
 try dsimp only
 refine G.condP rfl (fun h39 => ?_) (fun h39 => ?_)
 ·refine go [9,10,1,7,8,11,12] ?_
  exact G.done0G rfl (Rv.tmp rfl Rv.nil) (by rw [oneI_arg hok (by assumption)]; rfl)
 refine go [13,8,9,9] ?_
 refine G.cutK (X := Unit) (ts := [2]) (p := []) (fun _ => True) (fun _ => [(62, .bool (decide (rngI e)))]) (fun _ => []) (.cons rfl .nil) subT (.cons .nil) apT ?_ ?_
 ·refine go [10,2,3,3,2,4] ?_
  refine G.op rfl (G.cR rfl rfl rfl rfl Tryz.func123 rfl rfl may0 (winR_tr _ _ _) ?_)
  refine go [2,15,0] ?_
  refine G.partP (t := 44) rfl (fun h44 => ?_) (fun h44 => ?_)
  ·refine go [4,4,4,4,6,6,6,4,2,2,0,4,4,4,4,4,4,4,2,2,7] ?_
   exact G.meet (()) trT (.consE rfl Y24 (.cons rfl .nil)) subT
  refine go [3,3,3,3,4,3,14,3,0] ?_
  refine G.partP (t := 48) rfl (fun h48 => ?_) (fun h48 => ?_)
  ·refine go [3,3,1,3,4,3,14,3,2,2,2,0] ?_
   refine G.partP (t := 54) rfl (fun h54 => ?_) (fun h54 => ?_)
   ·refine go [4,4,4,4,4,4,4,2,2,7] ?_
    exact G.meet (()) trT (.consE rfl Y24 (.cons rfl .nil)) subT
   refine go [3,3,3,3,4,3,3,5,3,4,3,5] ?_
   refine G.want rfl rfl rfl (G.cR rfl rfl rfl rfl Tryz.func151 rfl rfl may0 (many_tr _ _ (by omega) (by omega)) ?_)
   refine go [3,15,2,2,7] ?_
   exact G.meet (()) trT (.consE rfl Y24 (.cons rfl .nil)) subT
  refine go [4,4,4,3,2,2,2,0,3,3,3,3,4,3,3,5,3,4,3,5] ?_
  refine G.want rfl rfl rfl (G.cR rfl rfl rfl rfl Tryz.func151 rfl rfl may0 (many_tr _ _ (by omega) (by omega)) ?_)
  refine go [3,15,2,2,7] ?_
  exact G.meet (()) trT (.consE rfl Y24 (.cons rfl .nil)) subT
 intro _ hJ
 try dsimp only at hJ
 try dsimp only
 refine G.condP rfl (fun h62 => ?_) (fun h62 => ?_)
 ·refine go [9,10,1,7,8,11,12] ?_
  exact G.done0G rfl (Rv.tmp rfl Rv.nil) (by rw [oneI_rng hok (by assumption) (by assumption)]; rfl)
 refine go [13,8,9,10,1,7,8,11] ?_
 exact G.done0G rfl (Rv.tmp rfl Rv.nil) (by rw [oneI_ok hok (by assumption) (by assumption)]; rfl)
end Go.Proofs.YtngbglhmiefcpaaGreat
namespace Go.Proofs.YtngbglhmiefcpaaGreat
open Go.RowKit
open Go.ChangeShapes Go.WideShapes
def okS9 (s : List UInt8) : Prop := s.length ≤ 140737488355328
theorem mapM_each' {α β : Type} {f : α → Option β} : ∀ {l : List α}, (∀ x ∈ l, ∃ y, f x = some y) → ∃ ys, l.mapM f = some ys
 | [], _ => ⟨[], rfl⟩
 | a :: l, h => by
  obtain ⟨y, hy⟩ := h a (List.mem_cons_self ..)
  obtain ⟨ys, hys⟩ := mapM_each' (l := l) fun x hx => h x (List.mem_cons_of_mem _ hx)
  exact ⟨y :: ys, by rw [List.mapM_cons, hy, hys]; rfl⟩
theorem vStr_inj {a b : List UInt8} (h : vStr a = vStr b) : a = b := by
 unfold vStr at h
 injection h with h
 exact sB_inj h
theorem vInt_inj {a b : Int} (h : vInt a = vInt b) : a = b := by
 unfold vInt at h
 injection h
theorem vByte_inj {a b : UInt8} (h : vByte a = vByte b) : a = b := by
 unfold vByte at h
 injection h with _ h
 exact UInt8.toNat_inj.1 (by omega)
theorem keyS : KeyF Tryz.prog 9 vStr okS9 where
 keyed := Go.Maps.string_keyed Tryz.underlying9
 is x hx := ⟨_, Go.WideMaps.keyOf_string_mk Tryz.underlying9 (by show (sB x).size ≤ maxLen; rw [sB_size]; unfold maxLen; unfold okS9 at hx; omega)⟩
 inj _ _ h := vStr_inj h
def ok16 (x : List UInt8) : Prop := x.length = 16
theorem vID_inj {a b : List UInt8} (h : vID a = vID b) : a = b := by
 unfold vID at h
 injection h with h
 have h2 : a.map vByte = b.map vByte := by have := congrArg Array.toList h; simpa using this
 exact List.map_inj_right (fun _ _ => vByte_inj) |>.1 h2
theorem keyI_is (x : List UInt8) (hx : ok16 x) : ∃ l, keyOf Tryz.prog 52 (vID x) = some l := by
 have hx : x.length = 16 := hx
 have hu : Tryz.prog.underlying 52 = some (.array 16 5) := Tryz.underlying52
 have hc : Tryz.prog.cellsOf 52 = 16 := by kernel_rfl
 have hc1 : Tryz.prog.cellsOf 5 = 1 := by kernel_rfl
 have hk : Tryz.prog.keyType 52 = true := by kernel_rfl
 have hpos : 0 < Tryz.prog.types.size := of_decide_eq_true kr
 obtain ⟨sz, hsz⟩ : ∃ m, Tryz.prog.types.size = m + 1 := ⟨Tryz.prog.types.size - 1, by omega⟩
 unfold keyOf
 rw [hu]
 simp only
 rw [if_pos (by simp [hk, vID, Value.formed, hu, hc, hx])]
 have : ∃ ls, Tryz.prog.keyLits (Tryz.prog.types.size + 1) 52 (vID x).cells.toList = some ls := by
  unfold Program.keyLits
  rw [hu]
  simp only
  rw [if_pos (by simp [vID, Value.cells, hc, hx])]
  obtain ⟨ys, hys⟩ := mapM_each' (l := List.range 16) (f := fun i => Tryz.prog.keyLits Tryz.prog.types.size 5 (((vID x).cells.toList.drop (i * Tryz.prog.cellsOf 5)).take (Tryz.prog.cellsOf 5))) fun i hi => by
   have hi : i < x.length := by rw [hx]; simpa using hi
   have e : (((vID x).cells.toList.drop (i * Tryz.prog.cellsOf 5)).take (Tryz.prog.cellsOf 5)) = [vByte x[i]] := by
    rw [hc1, Nat.mul_one]
    show ((x.map vByte).drop i).take 1 = _
    rw [List.drop_eq_getElem_cons (by simpa using hi)]
    simp
   rw [e, hsz]
   unfold Program.keyLits
   rw [show Tryz.prog.underlying 5 = some (.int .u8) from Tryz.underlying5]
   have := x[i].toNat_lt
   exact ⟨_, if_pos ⟨rfl, by simp only [Lit.wf, Bool.and_eq_true, decide_eq_true_eq]; exact ⟨by show (0 : Int) ≤ _; omega, by show _ ≤ (255 : Int); omega⟩⟩⟩
  rw [hys]
  exact ⟨_, rfl⟩
 obtain ⟨ls, hls⟩ := this
 exact ⟨_, by rw [hls]; rfl⟩
theorem keyI : KeyF Tryz.prog 52 vID ok16 where
 keyed := Go.Maps.Keyed.of_law (Go.deep_law_laid Tryz.laidOut (m := 3) (by omega) (of_decide_eq_true kr) kr kr)
 is := keyI_is
 inj _ _ h := vID_inj h
end Go.Proofs.YtngbglhmiefcpaaGreat
namespace Go.Proofs.YtngbglhmiefcpaaGreat
open Go.RowKit
def toE (x : It) : En := ⟨x.path, x.kind, x.mode, [], x.to⟩
def toEs (ms : List It) : List En := ms.map toE
theorem toEs_length (ms : List It) : (toEs ms).length = ms.length := List.length_map ..
theorem toEs_get {ms : List It} {i : Nat} (h : i < ms.length) : (toEs ms)[i]'(by rw [toEs_length]; exact h) = toE ms[i] := List.getElem_map ..
theorem toEs_take (ms : List It) (i : Nat) : toEs (ms.take i) = (toEs ms).take i := by simp [toEs, List.map_take]
theorem its_take (xs : List IT) (i : Nat) : its (xs.take i) = (its xs).take i := by simp [its, List.map_take]
def errI (ms : List It) (i : Nat) : Int := match ms[i]? with
 | none => 0
 | some e => if (if oneI e = 0 ∧ prevBad (toEs ms) i then 7 else oneI e) = 0 ∧ ¬ heldM (toEs (ms.take i)) (toE e) then 6 else (if oneI e = 0 ∧ prevBad (toEs ms) i then 7 else oneI e)
theorem errI_get {ms : List It} {i : Nat} (h : i < ms.length) : errI ms i = if (if oneI ms[i] = 0 ∧ prevBad (toEs ms) i then 7 else oneI ms[i]) = 0 ∧ ¬ heldM (toEs (ms.take i)) (toE ms[i]) then 6 else (if oneI ms[i] = 0 ∧ prevBad (toEs ms) i then 7 else oneI ms[i]) := by
 unfold errI
 rw [List.getElem?_eq_getElem h]
theorem errI_one {ms : List It} {i : Nat} (h : i < ms.length) (h1 : ¬ oneI ms[i] = 0) : errI ms i = oneI ms[i] := by
 rw [errI_get h, if_neg (fun k => by rw [if_neg (fun k => h1 k.1)] at k; exact h1 k.1), if_neg (fun k => h1 k.1)]
theorem errI_prev {ms : List It} {i : Nat} (h : i < ms.length) (h1 : oneI ms[i] = 0) (h2 : prevBad (toEs ms) i) : errI ms i = 7 := by
 rw [errI_get h, if_neg (fun k => by rw [if_pos ⟨h1, h2⟩] at k; cases k.1), if_pos ⟨h1, h2⟩]
theorem errI_held {ms : List It} {i : Nat} (h : i < ms.length) (h1 : oneI ms[i] = 0) (h2 : ¬ prevBad (toEs ms) i) (h3 : ¬ heldM (toEs (ms.take i)) (toE ms[i])) : errI ms i = 6 := by
 rw [errI_get h, if_pos ⟨by rw [if_neg (fun k => h2 k.2), h1], h3⟩]
theorem errI_ok {ms : List It} {i : Nat} (h : i < ms.length) (h1 : oneI ms[i] = 0) (h2 : ¬ prevBad (toEs ms) i) (h3 : heldM (toEs (ms.take i)) (toE ms[i])) : errI ms i = 0 := by
 rw [errI_get h, if_neg (fun k => k.2 h3), if_neg (fun k => h2 k.2), h1]
theorem errI_zero {ms : List It} {i : Nat} (h : i < ms.length) (h0 : errI ms i = 0) : oneI ms[i] = 0 ∧ ¬ prevBad (toEs ms) i ∧ heldM (toEs (ms.take i)) (toE ms[i]) := by
 have a : oneI ms[i] = 0 := Decidable.byContradiction fun k => by rw [errI_one h k] at h0; exact k h0
 have b : ¬ prevBad (toEs ms) i := fun k => by rw [errI_prev h a k] at h0; cases h0
 exact ⟨a, b, Decidable.byContradiction fun k => by rw [errI_held h a b k] at h0; cases h0⟩
def headBad (a : Mh) : Prop := a.c < 1 ∨ 2147483647 < a.c ∨ a.k < 1 ∨ 2147483647 < a.k ∨ a.n < 0 ∨ 2147483647 < a.n ∨ a.t < 0 ∨ 2147483647 < a.t
instance (a : Mh) : Decidable (headBad a) := inferInstanceAs (Decidable (_ ∨ _))
def checkI (a : Mh) (ms : List It) : Int × Int := if headBad a then (5, 0) else if 200 < ms.length then (3, 0) else
 let k := (List.range ms.length).findIdx fun i => ! decide (errI ms i = 0)
 (errI ms k, if errI ms k = 0 then 0 else (k : Int))
theorem checkI_head {a : Mh} {ms : List It} (h : headBad a) : checkI a ms = (5, 0) := if_pos h
theorem checkI_many {a : Mh} {ms : List It} (h0 : ¬ headBad a) (h : 200 < ms.length) : checkI a ms = (3, 0) := by
 unfold checkI
 rw [if_neg h0, if_pos h]
theorem checkI_bad {a : Mh} {ms : List It} {i : Nat} {e : Int} (h0 : ¬ headBad a) (h200 : ¬ 200 < ms.length) (hi : i < ms.length) (h : ∀ q, q < i → errI ms q = 0) (he : errI ms i = e) (hn : ¬ e = 0) : checkI a ms = (e, (i : Int)) := by
 unfold checkI
 rw [if_neg h0, if_neg h200]
 have e1 : (List.range ms.length).findIdx (fun i => ! decide (errI ms i = 0)) = i := range_idx hi (by simp [he, hn]) (fun q hq => by simp [h q hq])
 simp only [e1, he, if_neg hn]
theorem checkI_ok {a : Mh} {ms : List It} (h0 : ¬ headBad a) (h200 : ¬ 200 < ms.length) (h : ∀ q, q < ms.length → errI ms q = 0) : checkI a ms = (0, 0) := by
 unfold checkI
 rw [if_neg h0, if_neg h200]
 have e1 : (List.range ms.length).findIdx (fun i => ! decide (errI ms i = 0)) = ms.length := by
  have := List.findIdx_eq_length_of_false (p := fun i => ! decide (errI ms i = 0)) (xs := List.range ms.length) (fun x hx => by
   have := h x (by simpa using hx)
   simp [this])
  simpa using this
 have e2 : errI ms ms.length = 0 := by
  unfold errI
  rw [List.getElem?_eq_none (Nat.le_refl _)]
 simp only [e1, e2, if_true]
theorem checkI_zero {a : Mh} {ms : List It} (h : (checkI a ms).1 = 0) : ¬ headBad a ∧ ms.length ≤ 200 ∧ (∀ q, q < ms.length → errI ms q = 0) ∧ checkI a ms = (0, 0) := by
 by_cases h0 : headBad a
 ·rw [checkI_head h0] at h
  cases h
 by_cases h200 : 200 < ms.length
 ·rw [checkI_many h0 h200] at h
  cases h
 have all : ∀ q, q < ms.length → errI ms q = 0 := by
  intro q
  induction q using Nat.strongRecOn with
  | _ q ih =>
   intro hq
   exact Decidable.byContradiction fun k => by
    rw [checkI_bad h0 h200 hq (fun r hr => ih r hr (by omega)) rfl k] at h
    exact k h
 exact ⟨h0, by omega, all, checkI_ok h0 h200 all⟩
theorem sort_prev {es : List En} {i : Nat} (hi : i ≤ es.length) (h : ∀ q, q < i → ¬ prevBad es q) : SortT (es.take i) := by
 have step : ∀ q (hq : q + 1 < i), compareM (es[q]'(by omega)).path (es[q + 1]'(by omega)).path = -1 := fun q hq => by
  have h1 := h (q + 1) hq
  rw [prev_pos (by omega) (by omega)] at h1
  have := compareM_ord.rng (es[q]'(by omega)).path (es[q + 1]'(by omega)).path
  simp only [Nat.add_sub_cancel] at h1
  omega
 have all : ∀ r q (hr : r < i) (hqr : q < r), compareM (es[q]'(by omega)).path (es[r]'(by omega)).path = -1 := by
  intro r
  induction r with
  | zero => intro q hr hq; omega
  | succ r ih =>
   intro q hr hq
   rcases Nat.lt_or_ge q r with h1 | h1
   ·exact compareM_ord.trans _ _ _ (ih q (by omega) h1) (step r hr)
   obtain rfl : q = r := by omega
   exact step q hr
 refine List.pairwise_iff_getElem.2 fun q r hq hr hqr => ?_
 simp only [List.length_take] at hq hr
 rw [List.getElem_take, List.getElem_take]
 exact all r q (by omega) hqr
theorem sort_items {ms : List It} {i : Nat} (hi : i ≤ ms.length) (h : ∀ q, q < i → errI ms q = 0) : SortT ((toEs ms).take i) := sort_prev (by rw [toEs_length]; exact hi) fun q hq => (errI_zero (by omega) (h q hq)).2.1
structure DirsAt (l : List (List UInt8 × Value)) (es : List En) : Prop where
 num : ∀ s, ∃ z : Int, (mget l s).getD (vInt 0) = vInt z
 dir : ∀ s, (mget l s).getD (vInt 0) = vInt 1 ↔ ∃ x ∈ es, x.path = s ∧ x.kind = 1
theorem dirs_nil : DirsAt [] [] := ⟨fun s => ⟨0, rfl⟩, fun s => ⟨fun h => by have h2 : vInt 0 = vInt 1 := h; exact absurd (vInt_inj h2) (by decide), fun ⟨x, hx, _⟩ => by cases hx⟩⟩
theorem DirsAt.put {l : List (List UInt8 × Value)} {es : List En} {e : En} (h : DirsAt l es) (hs : SortT (es ++ [e])) : DirsAt (mset l e.path (vInt e.kind)) (es ++ [e]) := by
 refine ⟨fun s => ?_, fun s => ?_⟩
 ·rw [mget_mset]
  split
  ·exact ⟨e.kind, rfl⟩
  exact h.num s
 rw [mget_mset]
 split
 ·rename_i hp
  subst hp
  constructor
  ·intro hk
   exact ⟨e, by simp, rfl, vInt_inj hk⟩
  rintro ⟨x, hx, hp, hk⟩
  have := sort_inj hs hx (by simp) hp
  subst this
  show vInt x.kind = vInt 1
  rw [hk]
 rename_i hp
 rw [h.dir s]
 constructor
 ·rintro ⟨x, hx, h1⟩
  exact ⟨x, List.mem_append_left _ hx, h1⟩
 rintro ⟨x, hx, h1, h2⟩
 rcases List.mem_append.1 hx with hx | hx
 ·exact ⟨x, hx, h1, h2⟩
 obtain rfl : x = e := by simpa using hx
 exact absurd h1 hp
theorem toEs_succ {xs : List IT} {i : Nat} (h : i < xs.length) : toEs ((its xs).take (i + 1)) = toEs ((its xs).take i) ++ [toE xs[i].1] := by
 have hl : i < (its xs).length := by rw [its_length]; exact h
 rw [List.take_succ_eq_append_getElem hl, its_get h, toEs, List.map_append]
 rfl
theorem held_z {l : List (List UInt8 × Value)} {es : List En} {e : En} {z : Int} (h : DirsAt l es) (hp : (parentM e.path).2 = true) (hz : (mget l (parentM e.path).1).getD (vInt 0) = vInt z) : z ≠ 1 ↔ ¬ heldM es e := by
 have h1 := h.dir (parentM e.path).1
 rw [hz] at h1
 have h2 : z = 1 ↔ vInt z = vInt 1 := ⟨fun h => by rw [h], vInt_inj⟩
 rw [ne_eq, h2, h1]
 unfold heldM
 rw [hp]
 simp
theorem heldNo' {es : List En} {e : En} (h : (parentM e.path).2 = true) (h2 : ∀ q (hq : q < es.length), ¬ (es[q].path = (parentM e.path).1 ∧ es[q].kind = 1)) : ¬ heldM es e := by
 rintro (k | ⟨x, hx, k⟩)
 ·rw [h] at k
  cases k
 obtain ⟨j, hj, rfl⟩ := List.getElem_of_mem hx
 exact h2 j hj k
theorem parentI_len (s : List UInt8) (h : s.length ≤ 140737488355328) : okS9 (parentM s).1 := Nat.le_trans (parentM_len s) h
set_option maxHeartbeats 4000000 in
theorem iheld_tr {Ps Pd : Nat → Prop} (v : Value) (xs : List IT) (e : It) (d : Value) (hl : e.path.length ≤ 9223372036854775807) : Tr Tryz.prog 125 #[v, .agg #[.string (sB e.path), .int .i64 e.kind, .int .i64 e.mode, .int .i64 e.size, .string (sB e.to), d]] [slc rIT Ps v xs, slc rID Pd d e.ids] [] (T0 (.bool (decide (heldM (toEs (its xs)) (toE e))))) := by
 refine Tr.of (l := [(0, v), (1, .agg #[.string (sB e.path), .int .i64 e.kind, .int .i64 e.mode, .int .i64 e.size, .string (sB e.to), d])]) Tryz.func125 rfl (n := 40) rfl (.cons rfl (.cons rfl .nil)) (fun w0 hro => ?_)
 obtain ⟨hv0, hd0⟩ := ro2 hro
 have hv := hv0
 have hv' := hv
 obtain ⟨av, cv, bv, fv, rfl, hcapv, hmaxv, hnilv, hadv, helv⟩ := Ro.open hv
 have hel' := its_length xs
 have hel2 := toEs_length (its xs)
 have hgx : ∀ q (hq : q < xs.length), (toEs (its xs))[q]'(by omega) = toE xs[q].1 := fun q hq => by rw [toEs_get (by omega), its_get hq]
 refine go [9,10,60,16] ?_
 intro b3
 refine go [1,7,8,9,10,2,3,0,2,4] ?_
 refine G.op rfl (G.cR rfl rfl rfl rfl Tryz.func147 rfl rfl may0 (parentR_tr _ (by omega)) ?_)
 refine go [0,2,7,2,7,1,1,7,8,9,9,10,1,7,8,15] ?_
 refine G.loopK (X := Nat) (ts := [0, 5, 6]) (fun i => i ≤ xs.length ∧ (∀ q (hq : q < xs.length), q < i → ¬ ((parentM e.path).2 = true ∧ xs[q].1.path = (parentM e.path).1 ∧ xs[q].1.kind = 1))) (fun i => [(7, .int .i64 (i : Int))]) (fun i => []) (fun i => xs.length - i) (x0 := 0) (.cons rfl (.cons rfl (.cons rfl .nil))) subT (.cons .nil) apT Y57 (.consE rfl veqT .nil) (fun i hJ => ?_)
 try dsimp only at hJ
 try dsimp only
 obtain ⟨hki, hJ⟩ := hJ
 refine go [9,9,10,0,0,2,5,2,9,7,8] ?_
 refine G.condP rfl (fun h17 => ?_) (fun h17 => ?_)
 ·have hJ0 := hJ
  have hlt : i < xs.length := by omega
  have hEv := helv i hlt
  have hRv := Ro.itRng hEv
  have hDv := Ro.itIds hEv
  have hOv := Ro.itOk hEv
  obtain ⟨hk1v, hk2v, hk3v, hlpv, hltv, hlnv⟩ := hOv
  have hCv := Ro.one1I hDv
  refine go [13,8,9,15,9] ?_
  refine G.cutK (X := Unit) (ts := [0, 5, 6, 7]) (p := []) (fun _ => True) (fun _ => [(37, .bool (decide ((parentM e.path).2 = true ∧ xs[i].1.path = (parentM e.path).1 ∧ xs[i].1.kind = 1)))]) (fun _ => []) (.cons rfl (.cons rfl (.cons rfl (.cons rfl .nil)))) subT (.cons .nil) apT ?_ ?_
  ·refine go [10,0,0] ?_
   refine G.part (t := 21) rfl (fun h21 => ?_) (fun h21 => ?_)
   ·refine go [3,0,3,0] ?_
    refine G.want rfl rfl rfl (G.val rfl rfl (pv_ixSl (sz := 6) (k := i) Tryz.underlying37 kr rfl rfl adT (by omega) (by omega)) ?_)
    refine go [3,3,0,3,4,3,0,3,24,2,2,0] ?_
    refine G.partP (t := 30) rfl (fun h30 => ?_) (fun h30 => ?_)
    ·refine go [3,0,3,0] ?_
     refine G.want rfl rfl rfl (G.val rfl rfl (pv_ixSl (sz := 6) (k := i) Tryz.underlying37 kr rfl rfl adT (by omega) (by omega)) ?_)
     refine go [3,3,1,3,4,3,13,2,2,7] ?_
     exact G.meet (()) trT (.consE rfl (by first | exact dec_e (by simp_all) | exact dec_f (by simp_all)) (.cons rfl (.cons rfl (.cons rfl (.cons rfl .nil))))) subT
    refine go [4,4,4,4,4,4,2,2,7] ?_
    exact G.meet (()) trT (.consE rfl (by first | exact dec_e (by simp_all) | exact dec_f (by simp_all)) (.cons rfl (.cons rfl (.cons rfl (.cons rfl .nil))))) subT
   refine go [4,4,4,4,4,4,4,2,2,0,4,4,4,4,4,4,2,2,7] ?_
   exact G.meet (()) trT (.consE rfl (by first | exact dec_e (by simp_all) | exact dec_f (by simp_all)) (.cons rfl (.cons rfl (.cons rfl (.cons rfl .nil))))) subT
  intro _ hJ
  try dsimp only at hJ
  try dsimp only
  refine G.condP rfl (fun h37 => ?_) (fun h37 => ?_)
  ·refine go [9,10,1,7,8,11,17,12,12,17,12] ?_
   exact G.done0G rfl (Rv.tmp rfl Rv.nil) (by rw [decide_eq_true (show heldM (toEs (its xs)) (toE e) from .inr ⟨toE xs[i].1, by rw [← hgx i hlt]; exact List.getElem_mem _, h37.2.1, h37.2.2⟩)]; rfl)
  have hno := h37
  refine go [13,16,8,10,0,2,6,1,7] ?_
  exact G.next (i + 1) (by first | exact trivial | ((try dsimp only) <;> exact ⟨by omega, fun q hq hqi => by rcases Nat.lt_or_ge q i with h1 | h1; exact hJ0 q hq h1; obtain rfl : q = i := (by omega); exact hno⟩)) (by (try dsimp only); omega) (.consE rfl veqT (.cons rfl (.cons rfl (.cons rfl .nil)))) subT
 refine go [18,14,14,19,8,9,10,0,2,25,1,7,8,11] ?_
 exact G.done0G rfl (Rv.tmp rfl Rv.nil) (by cases hpt : (parentM e.path).2; (rw [decide_eq_true (show heldM (toEs (its xs)) (toE e) from .inl hpt)]; rfl); (rw [decide_eq_false (heldNo' (e := toE e) hpt (fun q hq hk => by rw [hgx q (by omega)] at hk; exact hJ q (by omega) (by omega) ⟨hpt, hk.1, hk.2⟩))]; rfl))
set_option maxHeartbeats 4000000 in
theorem mcheck_tr {Ps : Nat → Prop} (a : Mh) (v : Value) (xs : List IT) : Tr Tryz.prog 52 #[.agg #[.int .i64 a.c, .int .i64 a.k, .int .i64 a.n, .int .i64 a.t, v]] [slc rIT Ps v xs] [] (T0 (.tuple #[.int .i64 (checkI a (its xs)).1, .int .i64 (checkI a (its xs)).2])) := by
 refine Tr.of (l := [(0, .agg #[.int .i64 a.c, .int .i64 a.k, .int .i64 a.n, .int .i64 a.t, v])]) Tryz.func52 rfl (n := 89) rfl (.cons rfl .nil) (fun w0 hro => ?_)
 have hv := ro1 hro
 have hv' := hv
 obtain ⟨av, cv, bv, fv, rfl, hcapv, hmaxv, hnilv, hadv, helv⟩ := Ro.open hv
 have hel' := its_length xs
 have hel2 := toEs_length (its xs)
 have hgx : ∀ q (hq : q < xs.length), (toEs (its xs))[q]'(by omega) = toE xs[q].1 := fun q hq => by rw [toEs_get (by omega), its_get hq]
 refine go [9,10,60,9] ?_
 intro b1
 refine go [1,1,7,8,9,15,9] ?_
 refine G.cutK (X := Unit) (ts := [1, 2, 3]) (p := []) (fun _ => True) (fun _ => [(10, .bool (decide (headBad a)))]) (fun _ => []) (.cons rfl (.cons rfl (.cons rfl .nil))) subT (.cons .nil) apT ?_ ?_
 ·refine go [10,2,3,0,2,4] ?_
  refine G.op rfl (G.cR rfl rfl rfl rfl Tryz.func76 rfl rfl may0 (win_tr _ _ _) ?_)
  refine go [2,15,0] ?_
  refine G.partP (t := 15) rfl (fun h15 => ?_) (fun h15 => ?_)
  ·refine go [4,4,4,4,2,2,0,4,4,4,4,2,2,0,4,4,4,4,2,2,1,7] ?_
   exact G.meet (()) trT (.consE rfl Y21 (.cons rfl (.cons rfl (.cons rfl .nil)))) subT
  refine go [3,3,1,3,4] ?_
  refine G.want rfl rfl rfl (G.cR rfl rfl rfl rfl Tryz.func76 rfl rfl may0 (win_tr _ _ _) ?_)
  refine go [3,15,2,2,0] ?_
  refine G.partP (t := 21) rfl (fun h21 => ?_) (fun h21 => ?_)
  ·refine go [4,4,4,4,2,2,0,4,4,4,4,2,2,1,7] ?_
   exact G.meet (()) trT (.consE rfl Y21 (.cons rfl (.cons rfl (.cons rfl .nil)))) subT
  refine go [3,3,2,3,4] ?_
  refine G.want rfl rfl rfl (G.cR rfl rfl rfl rfl Tryz.func76 rfl rfl may0 (win_tr _ _ _) ?_)
  refine go [3,15,2,2,0] ?_
  refine G.partP (t := 27) rfl (fun h27 => ?_) (fun h27 => ?_)
  ·refine go [4,4,4,4,2,2,1,7] ?_
   exact G.meet (()) trT (.consE rfl Y21 (.cons rfl (.cons rfl (.cons rfl .nil)))) subT
  refine go [3,3,3,3,4] ?_
  refine G.want rfl rfl rfl (G.cR rfl rfl rfl rfl Tryz.func76 rfl rfl may0 (win_tr _ _ _) ?_)
  refine go [3,15,2,2,1,7] ?_
  exact G.meet (()) trT (.consE rfl Y21 (.cons rfl (.cons rfl (.cons rfl .nil)))) subT
 intro _ hJ
 try dsimp only at hJ
 try dsimp only
 refine G.condP rfl (fun h10 => ?_) (fun h10 => ?_)
 ·refine go [9,10,1,1,7,8,11,17,12] ?_
  exact G.done0G rfl (Rv.tmp rfl (Rv.tmp rfl Rv.nil)) (by rw [checkI_head (by assumption)]; rfl)
 refine go [9,10,2,3,4,2,4,2,5,2,10,1,7,8] ?_
 refine G.condP rfl (fun h33 => ?_) (fun h33 => ?_)
 ·refine go [9,10,1,1,7,8,11,17,12] ?_
  exact G.done0G rfl (Rv.tmp rfl (Rv.tmp rfl Rv.nil)) (by rw [checkI_many (by assumption) (by omega)]; rfl)
 refine go [13,16,8,9,10] ?_
 refine G.op rfl (G.mapNew vStr okS9 rfl ?_)
 intro b4
 refine go [1,7,8,9,9,10,2,3,4,2,4,2,5,0,7,8,15] ?_
 refine G.loopK (X := Nat × (List (List UInt8 × Value))) (ts := [1, 4, 40, 41]) (fun st => st.1 ≤ xs.length ∧ ((∀ q, q < st.1 → errI (its xs) q = 0) ∧ DirsAt st.2 (toEs ((its xs).take st.1)))) (fun st => [(42, .int .i64 (st.1 : Int))]) (fun st => [mpc vStr okS9 b4 st.2]) (fun st => xs.length - st.1) (x0 := (0, [])) (.cons rfl (.cons rfl (.cons rfl (.cons rfl .nil)))) subT (.cons .nil) apT (by first | exact trivial | ((try dsimp only) <;> exact ⟨Nat.zero_le _, ⟨fun q h => absurd h (by omega), by rw [List.take_zero]; exact dirs_nil⟩⟩)) (.consE rfl veqT .nil) (fun st hJ => ?_)
 obtain ⟨i, l⟩ := st
 try dsimp only at hJ
 try dsimp only
 obtain ⟨hki, hJ⟩ := hJ
 refine go [9,10,2,9,7,8,9] ?_
 refine G.condP rfl (fun h43 => ?_) (fun h43 => ?_)
 ·obtain ⟨hJ0, hdn⟩ := hJ
  have hlt : i < xs.length := by omega
  have hlt' : i < (its xs).length := by omega
  have hg := its_get hlt
  have hEv := helv i hlt
  have hRv := Ro.itRng hEv
  have hDv := Ro.itIds hEv
  have hOv := Ro.itOk hEv
  obtain ⟨hk1v, hk2v, hk3v, hlpv, hltv, hlnv⟩ := hOv
  have hCv := Ro.one1I hDv
  refine go [13,8,9,15,9,10,0] ?_
  refine G.op rfl (G.val rfl rfl (pv_ixSl (sz := 6) (k := i) Tryz.underlying37 kr rfl rfl adT (by omega) (by omega)) ?_)
  refine go [2,50,10,60,17] ?_
  intro b6
  refine go [1,20,7,8,9,9,10,2,50,10] ?_
  refine G.op rfl (G.cR rfl rfl rfl rfl Tryz.func77 rfl rfl (may1 Y1) (ione_tr _ _ (by omega) (by omega) (by assumption)) ?_)
  refine go [1,7,8,9,10,0,2,14,7,8] ?_
  refine G.condP rfl (fun h50 => ?_) (fun h50 => ?_)
  ·refine go [9,10,0,0,1,1,7,8,11,12,17,12,12,17,12] ?_
   exact G.done0G rfl (Rv.tmp rfl (Rv.tmp rfl Rv.nil)) (by rw [checkI_bad (by assumption) (by omega) hlt' hJ0 (errI_one hlt' (by rw [hg]; assumption)) (by rw [hg]; assumption), hg]; rfl)
  have h1 : oneI (its xs)[i] = 0 := by rw [hg]; omega
  refine go [13,8,9,9] ?_
  refine G.cutK (X := Unit) (ts := [1, 4, 5, 6, 40, 41, 42]) (p := []) (fun _ => True) (fun _ => [(67, .bool (decide (prevBad (toEs (its xs)) i)))]) (fun _ => []) (.cons rfl (.cons rfl (.cons rfl (.cons rfl (.cons rfl (.cons rfl (.cons rfl .nil))))))) subT (.cons .nil) apT ?_ ?_
  ·refine G.drawT (nn := 15) (p := []) (rem := 32767) [0, 1, 2, 4, 12, 4, 36, 84, 132, 260, 4, 1028, 2564, 4100, 8196] [0, 1, 2, 4, 12, 4, 36, 84, 132, 260, 4, 1028, 2564, 4100, 8196] kr ⟨rfl, by kernel_rfl, by kernel_rfl⟩ subT kr (fun hT12 => ?_)
   refine go [22,0,32766,0,22,1,32764,10,22,2,32760,0] ?_
   refine G.partP (t := 55) rfl (fun h55 => ?_) (fun h55 => ?_)
   ·have hi0 : 0 < i := by omega
    have hEp := helv (i - 1) (by omega)
    have hRp := Ro.itRng hEp
    have hDp := Ro.itIds hEp
    have hOp := Ro.itOk hEp
    obtain ⟨hk1p, hk2p, hk3p, hlpp, hltp, hlnp⟩ := hOp
    have hCp := Ro.one1I hDp
    have hpv : prevBad (toEs (its xs)) i ↔ 0 ≤ compareM xs[i - 1].1.path xs[i].1.path := by have h := prev_pos (es := toEs (its xs)) hi0 (by omega); rw [hgx i hlt, hgx (i - 1) (by omega)] at h; exact h
    refine go [22,3,32752,3,4,22,4,32736,4,22,5,32704,0,22,6,32640,19] ?_
    refine G.takeT hT12 (i := 7) (rem' := 32512) rfl rfl rfl kr (fun _ _ _ h => h) rfl (pv_ixSl (sz := 6) (k := i - 1) Tryz.underlying37 kr rfl rfl adT (by omega) (by omega)) subT ?_
    refine go [22,8,32256,3,0,22,9,31744,4,22,10,30720,3,0,24,11,28672,25,4,26,24,12,24576] ?_
    refine G.turnOp rfl rfl (G.cR rfl rfl rfl rfl Tryz.func71 rfl rfl may0 (compare_tr _ _ (by omega) (by omega)) ?_)
    refine go [26,22,13,16384,12,22,14,0,2,27] ?_
    exact G.meet (()) trT (.consE rfl (by first | exact dec_e hpv.symm | exact dec_f (prev_zero (by omega))) (.cons rfl (.cons rfl (.cons rfl (.cons rfl (.cons rfl (.cons rfl (.cons rfl .nil)))))))) subT
   refine go [23,3,32752,23,4,32736,23,5,32704,23,6,32640,23,7,32512,23,8,32256,23,9,31744,23,10,30720,23,11,28672,23,12,24576,23,13,16384,22,14,0,2,27] ?_
   exact G.meet (()) trT (.consE rfl (by first | exact dec_e hpv.symm | exact dec_f (prev_zero (by omega))) (.cons rfl (.cons rfl (.cons rfl (.cons rfl (.cons rfl (.cons rfl (.cons rfl .nil)))))))) subT
  intro _ hJ
  try dsimp only at hJ
  try dsimp only
  refine G.condP rfl (fun h67 => ?_) (fun h67 => ?_)
  ·refine go [9,10,0,1,1,7,8,11,12,17,12,12,17,12] ?_
   exact G.done0G rfl (Rv.tmp rfl (Rv.tmp rfl Rv.nil)) (by rw [checkI_bad (by assumption) (by omega) hlt' hJ0 (errI_prev hlt' h1 (by assumption)) (by omega)]; rfl)
  refine go [13,8,9,9,10,2,3,0,2,4] ?_
  refine G.op rfl (G.cR rfl rfl rfl rfl Tryz.func72 rfl rfl may0 (parent_tr _ (by omega)) ?_)
  refine go [0,2,7,2,7,1,1,7,8,9] ?_
  refine G.cutK (X := Unit) (ts := [1, 4, 5, 6, 40, 41, 42]) (p := []) (fun _ => True) (fun _ => [(81, .bool (decide (¬ heldM (toEs ((its xs).take i)) (toE xs[i].1))))]) (fun _ => []) (.cons rfl (.cons rfl (.cons rfl (.cons rfl (.cons rfl (.cons rfl (.cons rfl .nil))))))) subT (.cons .nil) apT ?_ ?_
  ·refine go [10,0,0] ?_
   refine G.part (t := 76) rfl (fun h76 => ?_) (fun h76 => ?_)
   ·have hpt : (parentM (toE xs[i].1).path).2 = true := by assumption
    obtain ⟨z, hz⟩ := hdn.num (parentM xs[i].1.path).1
    have hzh := held_z hdn hpt hz
    refine go [3,0,3,0] ?_
    refine G.want rfl rfl rfl (G.val rfl rfl ((pv_mapGet (f := vStr) (ok := okS9) (x := (parentM xs[i].1.path).1) (z := vInt 0) (xs := l) keyS Tryz.underlying139 (fun w => by kernel_rfl) rfl rfl (parentI_len _ hlpv) (sel_map selT)).cast (v' := .int .i64 z) hz) ?_)
    refine go [3,14,2,2,7] ?_
    exact G.meet (()) trT (.consE rfl (by first | exact dec_e hzh | exact dec_f (fun h => h (.inl (by assumption))) | exact dec_f (fun h => h (.inl (Bool.eq_false_iff.2 (by assumption))))) (.cons rfl (.cons rfl (.cons rfl (.cons rfl (.cons rfl (.cons rfl (.cons rfl .nil)))))))) subT
   refine go [4,4,4,4,2,2,7] ?_
   exact G.meet (()) trT (.consE rfl (by first | exact dec_e hzh | exact dec_f (fun h => h (.inl (by assumption))) | exact dec_f (fun h => h (.inl (Bool.eq_false_iff.2 (by assumption))))) (.cons rfl (.cons rfl (.cons rfl (.cons rfl (.cons rfl (.cons rfl (.cons rfl .nil)))))))) subT
  intro _ hJ
  try dsimp only at hJ
  try dsimp only
  refine G.condP rfl (fun h81 => ?_) (fun h81 => ?_)
  ·refine go [9,10,0,1,1,7,8,11,12,17,12,12,17,12] ?_
   exact G.done0G rfl (Rv.tmp rfl (Rv.tmp rfl Rv.nil)) (by rw [checkI_bad (by assumption) (by omega) hlt' hJ0 (errI_held hlt' h1 (by assumption) (by rw [hg]; assumption)) (by omega)]; rfl)
  have hok0 : errI (its xs) i = 0 := errI_ok hlt' h1 (by assumption) (by rw [hg]; exact Decidable.of_not_not (by assumption))
  have hall : ∀ q, q < i + 1 → errI (its xs) q = 0 := fun q hq => by rcases Nat.lt_or_ge q i with h1 | h1; exact hJ0 q h1; obtain rfl : q = i := (by omega); exact hok0
  refine go [13,8,10,0,2,3,0,2,4,2,3,1,2,4] ?_
  refine G.op rfl (G.mapSet (f := vStr) (ok := okS9) (x := xs[i].1.path) (v := .int .i64 xs[i].1.kind) (xs := l) keyS Tryz.underlying139 rfl rfl rfl hlpv selT ?_)
  refine go [7,16,8,10,2,6,0,7] ?_
  exact G.next ((i + 1, mset l xs[i].1.path (vInt xs[i].1.kind))) (by first | exact trivial | ((try dsimp only) <;> exact ⟨by omega, ⟨hall, by rw [toEs_succ hlt]; exact DirsAt.put (e := toE xs[i].1) hdn (by have h := sort_items (ms := its xs) (i := i + 1) (by omega) hall; rwa [← toEs_take, toEs_succ hlt] at h)⟩⟩)) (by (try dsimp only); omega) (.consE rfl veqT (.cons rfl (.cons rfl (.cons rfl (.cons rfl .nil))))) subT
 obtain ⟨hJ0, -⟩ := hJ
 refine go [18,14,14,19,8,9,10,1,1,7,8,11] ?_
 exact G.done0G rfl (Rv.tmp rfl (Rv.tmp rfl Rv.nil)) (by rw [checkI_ok (by assumption) (by omega) (fun q hq => hJ0 q (by omega))]; rfl)
set_option maxHeartbeats 4000000 in
theorem mcheckR_tr {Ps : Nat → Prop} (a : Mh) (v : Value) (xs : List IT) : Tr Tryz.prog 85 #[.agg #[.int .i64 a.c, .int .i64 a.k, .int .i64 a.n, .int .i64 a.t, v]] [slc rIT Ps v xs] [] (T0 (.tuple #[.int .i64 (checkI a (its xs)).1, .int .i64 (checkI a (its xs)).2])) := by
 refine Tr.of (l := [(0, .agg #[.int .i64 a.c, .int .i64 a.k, .int .i64 a.n, .int .i64 a.t, v])]) Tryz.func85 rfl (n := 87) rfl (.cons rfl .nil) (fun w0 hro => ?_)
 have hv := ro1 hro
 have hv' := hv
 obtain ⟨av, cv, bv, fv, rfl, hcapv, hmaxv, hnilv, hadv, helv⟩ := Ro.open hv
 have hel' := its_length xs
 have hel2 := toEs_length (its xs)
 have hgx : ∀ q (hq : q < xs.length), (toEs (its xs))[q]'(by omega) = toE xs[q].1 := fun q hq => by rw [toEs_get (by omega), its_get hq]
 refine go [9,10,60,9] ?_
 intro b1
 refine go [1,1,7,8,9,9] ?_
 refine G.cutK (X := Unit) (ts := [1, 2, 3]) (p := []) (fun _ => True) (fun _ => [(27, .bool (decide (headBad a)))]) (fun _ => []) (.cons rfl (.cons rfl (.cons rfl .nil))) subT (.cons .nil) apT ?_ ?_
 ·refine go [10,2,3,0,2,4] ?_
  refine G.op rfl (G.cR rfl rfl rfl rfl Tryz.func123 rfl rfl may0 (winR_tr _ _ _) ?_)
  refine go [2,15,0] ?_
  refine G.partP (t := 10) rfl (fun h10 => ?_) (fun h10 => ?_)
  ·refine go [4,4,4,4,2,2,0,4,4,4,4,2,2,0,4,4,4,4,2,2,7] ?_
   exact G.meet (()) trT (.consE rfl Y21 (.cons rfl (.cons rfl (.cons rfl .nil)))) subT
  refine go [3,3,1,3,4] ?_
  refine G.want rfl rfl rfl (G.cR rfl rfl rfl rfl Tryz.func123 rfl rfl may0 (winR_tr _ _ _) ?_)
  refine go [3,15,2,2,0] ?_
  refine G.partP (t := 16) rfl (fun h16 => ?_) (fun h16 => ?_)
  ·refine go [4,4,4,4,2,2,0,4,4,4,4,2,2,7] ?_
   exact G.meet (()) trT (.consE rfl Y21 (.cons rfl (.cons rfl (.cons rfl .nil)))) subT
  refine go [3,3,2,3,4] ?_
  refine G.want rfl rfl rfl (G.cR rfl rfl rfl rfl Tryz.func123 rfl rfl may0 (winR_tr _ _ _) ?_)
  refine go [3,15,2,2,0] ?_
  refine G.partP (t := 22) rfl (fun h22 => ?_) (fun h22 => ?_)
  ·refine go [4,4,4,4,2,2,7] ?_
   exact G.meet (()) trT (.consE rfl Y21 (.cons rfl (.cons rfl (.cons rfl .nil)))) subT
  refine go [3,3,3,3,4] ?_
  refine G.want rfl rfl rfl (G.cR rfl rfl rfl rfl Tryz.func123 rfl rfl may0 (winR_tr _ _ _) ?_)
  refine go [3,15,2,2,7] ?_
  exact G.meet (()) trT (.consE rfl Y21 (.cons rfl (.cons rfl (.cons rfl .nil)))) subT
 intro _ hJ
 try dsimp only at hJ
 try dsimp only
 refine G.condP rfl (fun h27 => ?_) (fun h27 => ?_)
 ·refine go [9,10,1,1,7,8,11,12] ?_
  exact G.done0G rfl (Rv.tmp rfl (Rv.tmp rfl Rv.nil)) (by rw [checkI_head (by assumption)]; rfl)
 refine go [13,8,9,9,10,2,3,4,2,4,2,5,2,10,7,8] ?_
 refine G.condP rfl (fun h31 => ?_) (fun h31 => ?_)
 ·refine go [9,10,1,1,7,8,11,12] ?_
  exact G.done0G rfl (Rv.tmp rfl (Rv.tmp rfl Rv.nil)) (by rw [checkI_many (by assumption) (by omega)]; rfl)
 refine go [13,8,9,9,10,1,7,8,15] ?_
 refine G.loopK (X := Nat) (ts := [1]) (fun i => i ≤ xs.length ∧ (∀ q, q < i → errI (its xs) q = 0)) (fun i => [(4, .int .i64 (i : Int))]) (fun i => []) (fun i => xs.length - i) (x0 := 0) (.cons rfl .nil) subT (.cons .nil) apT Y59 (.consE rfl veqT .nil) (fun i hJ => ?_)
 try dsimp only at hJ
 try dsimp only
 obtain ⟨hki, hJ⟩ := hJ
 refine go [9,9,10,0,2,3,4,2,4,2,5,2,9,7,8] ?_
 refine G.condP rfl (fun h36 => ?_) (fun h36 => ?_)
 ·have hJ0 := hJ
  have hlt : i < xs.length := by omega
  have hlt' : i < (its xs).length := by omega
  have hg := its_get hlt
  have hTk := Ro.takeT hv' (i := i) (by omega)
  have heq := errI_get hlt'
  rw [hg] at heq
  have hEv := helv i hlt
  have hRv := Ro.itRng hEv
  have hDv := Ro.itIds hEv
  have hOv := Ro.itOk hEv
  obtain ⟨hk1v, hk2v, hk3v, hlpv, hltv, hlnv⟩ := hOv
  have hCv := Ro.one1I hDv
  refine go [13,8,9,15,9,10,2,3,4,2,4,0] ?_
  refine G.op rfl (G.val rfl rfl (pv_ixSl (sz := 6) (k := i) Tryz.underlying37 kr rfl rfl adT (by omega) (by omega)) ?_)
  refine go [2,50,10] ?_
  refine G.op rfl (G.cR rfl rfl rfl rfl Tryz.func124 rfl rfl (may1 Y1) (ioneR_tr _ _ (by omega) (by omega) (by assumption)) ?_)
  refine go [1,7,8,9] ?_
  refine G.cutK (X := Unit) (ts := [1, 4]) (p := []) (fun _ => True) (fun _ => [(5, .int .i64 (if oneI xs[i].1 = 0 ∧ prevBad (toEs (its xs)) i then 7 else oneI xs[i].1))]) (fun _ => []) (.cons rfl (.cons rfl .nil)) subT (.cons .nil) apT ?_ ?_
  ·refine G.seq ?_
   refine G.cutK (X := Unit) (ts := [1, 4, 5]) (p := []) (fun _ => True) (fun _ => [(67, .bool (decide (oneI xs[i].1 = 0 ∧ prevBad (toEs (its xs)) i)))]) (fun _ => []) (.cons rfl (.cons rfl (.cons rfl .nil))) subT (.cons .nil) apT ?_ ?_
   ·refine G.drawT (nn := 23) (p := []) (rem := 8388607) [0, 1, 2, 4, 12, 20, 36, 64, 192, 64, 576, 1344, 2112, 4160, 64, 16448, 64, 98368, 131136, 262208, 532544, 1048640, 2097216] [0, 1, 2, 4, 12, 20, 32, 64, 192, 64, 576, 1344, 2112, 4160, 64, 16448, 64, 98368, 131136, 262208, 532544, 1048640, 2097216] kr ⟨rfl, by kernel_rfl, by kernel_rfl⟩ subT kr (fun hT9 => ?_)
    refine go [22,0,8388606,0,22,1,8388604,13,22,2,8388600,0] ?_
    refine G.partP (t := 47) rfl (fun h47 => ?_) (fun h47 => ?_)
    ·refine go [22,3,8388592,0,22,4,8388576,10,22,5,8388544,2,22,6,8388480,0] ?_
     refine G.partP (t := 51) rfl (fun h51 => ?_) (fun h51 => ?_)
     ·have hi0 : 0 < i := by omega
      have hEp := helv (i - 1) (by omega)
      have hRp := Ro.itRng hEp
      have hDp := Ro.itIds hEp
      have hOp := Ro.itOk hEp
      obtain ⟨hk1p, hk2p, hk3p, hlpp, hltp, hlnp⟩ := hOp
      have hCp := Ro.one1I hDp
      have hpv : prevBad (toEs (its xs)) i ↔ 0 ≤ compareM xs[i - 1].1.path xs[i].1.path := by have h := prev_pos (es := toEs (its xs)) hi0 (by omega); rw [hgx i hlt, hgx (i - 1) (by omega)] at h; exact h
      refine go [22,7,8388352,3,4,22,8,8388096,4,22,9,8387584,0,22,10,8386560,19] ?_
      refine G.takeT hT9 (i := 11) (rem' := 8384512) rfl rfl rfl kr (fun _ _ _ h => h) rfl (pv_ixSl (sz := 6) (k := i - 1) Tryz.underlying37 kr rfl rfl adT (by omega) (by omega)) subT ?_
      refine go [22,12,8380416,3,0,22,13,8372224,4,22,14,8355840,3,4,22,15,8323072,4,22,16,8257536,0] ?_
      refine G.takeT hT9 (i := 17) (rem' := 8126464) rfl rfl rfl kr (fun _ _ _ h => h) rfl (pv_ixSl (sz := 6) (k := i) Tryz.underlying37 kr rfl rfl adT (by omega) (by omega)) subT ?_
      refine go [22,18,7864320,3,0,24,19,7340032,25,4,26,24,20,6291456] ?_
      refine G.turnOp rfl rfl (G.cR rfl rfl rfl rfl Tryz.func119 rfl rfl may0 (compareR_tr _ _ (by omega) (by omega)) ?_)
      refine go [26,22,21,4194304,12,22,22,0,2,27] ?_
      exact G.meet (()) trT (.consE rfl Y22 (.cons rfl (.cons rfl (.cons rfl .nil)))) subT
     refine go [23,7,8388352,23,8,8388096,23,9,8387584,23,10,8386560,23,11,8384512,23,12,8380416,23,13,8372224,23,14,8355840,23,15,8323072,23,16,8257536,23,17,8126464,23,18,7864320,23,19,7340032,23,20,6291456,23,21,4194304,22,22,0,2,27] ?_
     exact G.meet (()) trT (.consE rfl Y22 (.cons rfl (.cons rfl (.cons rfl .nil)))) subT
    refine go [23,3,8388592,23,4,8388576,22,5,8388544,2,22,6,8388480,0,23,7,8388352,23,8,8388096,23,9,8387584,23,10,8386560,23,11,8384512,23,12,8380416,23,13,8372224,23,14,8355840,23,15,8323072,23,16,8257536,23,17,8126464,23,18,7864320,23,19,7340032,23,20,6291456,23,21,4194304,22,22,0,2,27] ?_
    exact G.meet (()) trT (.consE rfl Y22 (.cons rfl (.cons rfl (.cons rfl .nil)))) subT
   intro _ hJ
   try dsimp only at hJ
   try dsimp only
   refine G.condP rfl (fun h67 => ?_) (fun h67 => ?_)
   ·refine go [10,1,7] ?_
    exact G.meet (()) trT (.consE rfl (int_eq (by rw [if_pos (by assumption)])) (.cons rfl (.cons rfl .nil))) subT
   refine G.skip ?_
   exact G.meet (()) trT (.consE rfl (int_eq (by rw [if_neg (by assumption)])) (.cons rfl (.cons rfl .nil))) subT
  intro _ hJ
  try dsimp only at hJ
  try dsimp only
  refine G.seq ?_
  refine G.cutK (X := Unit) (ts := [1, 4]) (p := []) (fun _ => True) (fun _ => [(5, .int .i64 (errI (its xs) i))]) (fun _ => []) (.cons rfl (.cons rfl .nil)) subT (.cons .nil) apT ?_ ?_
  ·refine G.seq ?_
   refine G.cutK (X := Unit) (ts := [1, 4, 5]) (p := []) (fun _ => True) (fun _ => [(82, .bool (decide ((if oneI xs[i].1 = 0 ∧ prevBad (toEs (its xs)) i then 7 else oneI xs[i].1) = 0 ∧ ¬ heldM (toEs ((its xs).take i)) (toE xs[i].1))))]) (fun _ => []) (.cons rfl (.cons rfl (.cons rfl .nil))) subT (.cons .nil) apT ?_ ?_
   ·refine G.drawT (nn := 15) (p := []) (rem := 32767) [0, 1, 2, 4, 12, 4, 52, 4, 132, 4, 772, 1028, 2116, 4100, 8196] [0, 1, 2, 4, 12, 4, 52, 4, 132, 4, 772, 1028, 2116, 4100, 8196] kr ⟨rfl, by kernel_rfl, by kernel_rfl⟩ subT kr (fun hT11 => ?_)
    refine go [22,0,32766,0,22,1,32764,13,22,2,32760,0] ?_
    refine G.partP (t := 70) rfl (fun h70 => ?_) (fun h70 => ?_)
    ·refine go [22,3,32752,3,4,22,4,32736,4,22,5,32704,0] ?_
     refine G.takeT hT11 (i := 6) (rem' := 32640) rfl rfl rfl kr (fun _ _ _ h => h) rfl (pv_subH (sz := 6) Tryz.underlying37 kr rfl rfl rfl (by omega)) subT ?_
     refine go [22,7,32512,3,4,22,8,32256,4,22,9,31744,0] ?_
     refine G.takeT hT11 (i := 10) (rem' := 30720) rfl rfl rfl kr (fun _ _ _ h => h) rfl (pv_ixSl (sz := 6) (k := i) Tryz.underlying37 kr rfl rfl adT (by omega) (by omega)) subT ?_
     refine go [24,11,28672,25,50,10,26,24,12,24576] ?_
     refine G.turnOp rfl rfl (G.cR rfl rfl rfl rfl Tryz.func125 rfl rfl (may2 Y1 Y1) (iheld_tr _ (xs.take i) _ _ (by omega)) ?_)
     rw [its_take]
     refine go [26,22,13,16384,15,22,14,0,2,27] ?_
     exact G.meet (()) trT (.consE rfl Y40 (.cons rfl (.cons rfl (.cons rfl .nil)))) subT
    refine go [23,3,32752,23,4,32736,23,5,32704,23,6,32640,23,7,32512,23,8,32256,23,9,31744,23,10,30720,23,11,28672,23,12,24576,23,13,16384,22,14,0,2,27] ?_
    exact G.meet (()) trT (.consE rfl Y40 (.cons rfl (.cons rfl (.cons rfl .nil)))) subT
   intro _ hJ
   try dsimp only at hJ
   try dsimp only
   refine G.condP rfl (fun h82 => ?_) (fun h82 => ?_)
   ·refine go [10,1,7] ?_
    exact G.meet (()) trT (.consE rfl (int_eq (heq.trans (if_pos (by assumption))).symm) (.cons rfl (.cons rfl .nil))) subT
   refine G.skip ?_
   exact G.meet (()) trT (.consE rfl (int_eq (heq.trans (if_neg (by assumption))).symm) (.cons rfl (.cons rfl .nil))) subT
  intro _ hJ
  try dsimp only at hJ
  try dsimp only
  refine go [9,10,0,2,14,7,8] ?_
  refine G.condP rfl (fun h84 => ?_) (fun h84 => ?_)
  ·refine go [9,10,0,0,1,1,7,8,11,17,12,12,17,12] ?_
   exact G.done0G rfl (Rv.tmp rfl (Rv.tmp rfl Rv.nil)) (by rw [checkI_bad (by assumption) (by omega) hlt' hJ0 rfl (by assumption)]; rfl)
  have hok0 : errI (its xs) i = 0 := by omega
  refine go [13,16,8,10,0,2,6,1,7] ?_
  exact G.next (i + 1) Y31 (by (try dsimp only); omega) (.consE rfl veqT (.cons rfl .nil)) subT
 refine go [18,14,14,19,8,9,10,1,1,7,8,11] ?_
 exact G.done0G rfl (Rv.tmp rfl (Rv.tmp rfl Rv.nil)) (by rw [checkI_ok (by assumption) (by omega) (fun q hq => hJ q (by omega))]; rfl)
def numsB (l : List Int) (k : Nat) : List UInt8 := (l.take k).flatMap putM
def idsB (ids : List (List UInt8)) (k : Nat) : List UInt8 := (ids.take k).flatten
def numL (a : Mh) (n : Nat) : List Int := [a.c, a.k, a.n, a.t, (n : Int)]
def hdT (x : It) : List UInt8 := bytesM x.path ++ putM x.kind ++ putM x.mode ++ putM x.size ++ bytesM x.to ++ putM (x.ids.length : Int)
def itB (x : It) : List UInt8 := hdT x ++ idsB x.ids x.ids.length
def itsB (ms : List It) (k : Nat) : List UInt8 := (ms.take k).flatMap itB
def hdM (a : Mh) (n : Nat) : List UInt8 := numsB (numL a n) 5
def manB (a : Mh) (ms : List It) : List UInt8 := hdM a ms.length ++ itsB ms ms.length
def bytesE (a : Mh) (ms : List It) : Int := if (checkI a ms).1 = 0 then (if 262144 < (manB a ms).length then 3 else 0) else (checkI a ms).1
def bytesO (a : Mh) (ms : List It) : List UInt8 := if bytesE a ms = 0 then manB a ms else []
theorem bytesE_bad {a : Mh} {ms : List It} (h : ¬ (checkI a ms).1 = 0) : bytesE a ms = (checkI a ms).1 ∧ bytesO a ms = [] := by
 have h1 : bytesE a ms = (checkI a ms).1 := if_neg h
 exact ⟨h1, if_neg (by rw [h1]; exact h)⟩
theorem bytesE_long {a : Mh} {ms : List It} (h : (checkI a ms).1 = 0) (h2 : 262144 < (manB a ms).length) : bytesE a ms = 3 ∧ bytesO a ms = [] := by
 have h1 : bytesE a ms = 3 := by
  unfold bytesE
  rw [if_pos h, if_pos h2]
 exact ⟨h1, if_neg (by rw [h1]; decide)⟩
theorem bytesE_ok {a : Mh} {ms : List It} (h : (checkI a ms).1 = 0) (h2 : ¬ 262144 < (manB a ms).length) : bytesE a ms = 0 ∧ bytesO a ms = manB a ms := by
 have h1 : bytesE a ms = 0 := by
  unfold bytesE
  rw [if_pos h, if_neg h2]
 exact ⟨h1, if_pos h1⟩
theorem numsB_zero (h : List UInt8) (l : List Int) : h ++ numsB l 0 = h := by simp [numsB]
theorem idsB_zero (h : List UInt8) (ids : List (List UInt8)) : h ++ idsB ids 0 = h := by simp [idsB]
theorem itsB_zero (h : List UInt8) (ms : List It) : h ++ itsB ms 0 = h := by simp [itsB]
theorem numsB_app (h : List UInt8) {l : List Int} {k : Nat} (hk : k < l.length) : h ++ numsB l k ++ putM l[k] = h ++ numsB l (k + 1) := by
 unfold numsB
 rw [List.take_succ_eq_append_getElem hk, List.flatMap_append, List.append_assoc]
 simp
theorem idsB_app (h : List UInt8) {ids : List (List UInt8)} {k : Nat} (hk : k < ids.length) : h ++ idsB ids k ++ ids[k] = h ++ idsB ids (k + 1) := by
 unfold idsB
 rw [List.take_succ_eq_append_getElem hk, List.flatten_append, List.append_assoc]
 simp
theorem itsB_app (h : List UInt8) {ms : List It} {k : Nat} (hk : k < ms.length) : h ++ itsB ms k ++ itB ms[k] = h ++ itsB ms (k + 1) := by
 unfold itsB
 rw [List.take_succ_eq_append_getElem hk, List.flatMap_append, List.append_assoc]
 simp
theorem hdT_app (h : List UInt8) (x : It) : h ++ bytesM x.path ++ putM x.kind ++ putM x.mode ++ putM x.size ++ bytesM x.to ++ putM (x.ids.length : Int) = h ++ hdT x := by
 unfold hdT
 simp only [List.append_assoc]
theorem itB_app (h : List UInt8) (x : It) : h ++ hdT x ++ idsB x.ids x.ids.length = h ++ itB x := by
 unfold itB
 rw [List.append_assoc]
theorem hdM_app (a : Mh) (n : Nat) : [] ++ putM a.c ++ putM a.k ++ putM a.n ++ putM a.t ++ putM (n : Int) = hdM a n := by
 simp [hdM, numsB, numL]
theorem numsB_len (l : List Int) (k : Nat) : (numsB l k).length ≤ 5 * k := by
 unfold numsB
 have : ∀ l : List Int, (l.flatMap putM).length ≤ 5 * l.length := by
  intro l
  induction l with
  | nil => exact Nat.zero_le _
  | cons x l ih =>
   rw [List.flatMap_cons, List.length_append, putM_length, List.length_cons]
   have := sizeM_le x
   omega
 have h1 := this (l.take k)
 rw [List.length_take] at h1
 omega
theorem idsB_len {ids : List (List UInt8)} (h : all16 ids) (k : Nat) : (idsB ids k).length ≤ 16 * k := by
 unfold idsB
 have : ∀ l : List (List UInt8), all16 l → l.flatten.length ≤ 16 * l.length := by
  intro l
  induction l with
  | nil => intro _; exact Nat.zero_le _
  | cons x l ih =>
   intro hl
   rw [List.flatten_cons, List.length_append, hl.cons.1, List.length_cons]
   have := ih hl.cons.2
   omega
 have h1 := this (ids.take k) fun x hx => h x (List.mem_of_mem_take hx)
 rw [List.length_take] at h1
 omega
theorem bytesM_len' (bs : List UInt8) : (bytesM bs).length ≤ 5 + bs.length := by
 unfold bytesM
 have := sizeM_le (bs.length : Int)
 simp only [List.length_append, putM_length]
 omega
structure ItW (x : It) : Prop where
 path : x.path.length ≤ 200
 kind : 0 ≤ x.kind ∧ x.kind ≤ 2147483647
 mode : 0 ≤ x.mode ∧ x.mode ≤ 2147483647
 size : 0 ≤ x.size ∧ x.size ≤ 2147483647
 too : x.to.length ≤ 200
 ids : x.ids.length ≤ 16384
theorem oneI_w {x : It} (h : oneI x = 0) : ItW x := by
 obtain ⟨h1, h2, h3⟩ := oneI_zero h
 have h4 := okP_len h1
 unfold numI at h2
 unfold rngI at h3
 exact ⟨h4, by omega, by omega, by omega, by omega, by omega⟩
theorem checkI_w {a : Mh} {ms : List It} (h : (checkI a ms).1 = 0) : (∀ x ∈ numL a ms.length, 0 ≤ x ∧ x ≤ 2147483647) ∧ ms.length ≤ 200 ∧ ∀ x ∈ ms, ItW x := by
 obtain ⟨h0, h1, h2, -⟩ := checkI_zero h
 unfold headBad at h0
 refine ⟨fun x hx => ?_, h1, fun x hx => ?_⟩
 ·simp only [numL, List.mem_cons, List.not_mem_nil, or_false] at hx
  rcases hx with rfl | rfl | rfl | rfl | rfl <;> omega
 obtain ⟨i, hi, rfl⟩ := List.getElem_of_mem hx
 exact oneI_w (errI_zero hi (h2 i hi)).1
theorem hdT_len {x : It} (h : ItW x) : (hdT x).length ≤ 430 := by
 unfold hdT
 have h1 := bytesM_len' x.path
 have h2 := bytesM_len' x.to
 have h3 := sizeM_le x.kind
 have h4 := sizeM_le x.mode
 have h5 := sizeM_le x.size
 have h6 := sizeM_le (x.ids.length : Int)
 have h7 := h.path
 have h8 := h.too
 simp only [List.length_append, putM_length]
 omega
theorem itB_len {x : It} (h : ItW x) (h16 : all16 x.ids) : (itB x).length ≤ 300000 := by
 unfold itB
 have h1 := hdT_len h
 have h2 := idsB_len h16 x.ids.length
 have h3 := h.ids
 rw [List.length_append]
 omega
theorem itsB_len {ms : List It} (h : ∀ x ∈ ms, ItW x) (h16 : ∀ x ∈ ms, all16 x.ids) (k : Nat) : (itsB ms k).length ≤ 300000 * k := by
 unfold itsB
 have : ∀ l : List It, (∀ x ∈ l, ItW x ∧ all16 x.ids) → (l.flatMap itB).length ≤ 300000 * l.length := by
  intro l
  induction l with
  | nil => intro _; exact Nat.zero_le _
  | cons x l ih =>
   intro hl
   have h1 := itB_len (hl x (List.mem_cons_self ..)).1 (hl x (List.mem_cons_self ..)).2
   have h2 := ih fun y hy => hl y (List.mem_cons_of_mem _ hy)
   rw [List.flatMap_cons, List.length_append, List.length_cons]
   omega
 have h1 := this (ms.take k) fun x hx => ⟨h x (List.mem_of_mem_take hx), h16 x (List.mem_of_mem_take hx)⟩
 rw [List.length_take] at h1
 omega
theorem hdM_len (a : Mh) (n : Nat) : (hdM a n).length ≤ 25 := numsB_len _ 5
theorem goodW {x : Int} (h : 0 ≤ x ∧ x ≤ 2147483647) : (false || decide (sizeM x = 0)) = false := by
 have := sizeM_ok h.1 h.2
 rw [Bool.false_or]
 exact decide_eq_false (by omega)
theorem wtextF (D : Nat) (v : Value) (bs b : List UInt8) (hl : b.length ≤ 200) (hb : bs.length ≤ 900000000) : Tr Tryz.prog 79 #[.pointer (some ⟨D, 0, none⟩), .string (sB b)] [] [blk D 142 [.bool true, .bool false, v], own 5 1 v (bs : List UInt8).length ((bs : List UInt8).map vByte)]
 (TX (fun _ : Value => True) (fun _ => .tuple #[]) (fun v => [blk D 142 [.bool true, .bool false, v], own 5 1 v ((bs ++ bytesM b) : List UInt8).length (((bs ++ bytesM b) : List UInt8).map vByte)])) := by
 have := wtext_tr D false v bs b hb (by omega)
 rwa [goodW ⟨by omega, by omega⟩] at this
theorem wtextR (D : Nat) (v : Value) (bs b : List UInt8) (hl : b.length ≤ 200) (hb : bs.length ≤ 900000000) : Tr Tryz.prog 127 #[.pointer (some ⟨D, 0, none⟩), .string (sB b)] [] [blk D 181 [v, .bool false], own 5 1 v (bs : List UInt8).length ((bs : List UInt8).map vByte)]
 (TX (fun _ : Value => True) (fun _ => .tuple #[]) (fun v => [blk D 181 [v, .bool false], own 5 1 v ((bs ++ bytesM b) : List UInt8).length (((bs ++ bytesM b) : List UInt8).map vByte)])) := by
 have := wtextR_tr D false v bs b hb (by omega)
 rwa [goodW ⟨by omega, by omega⟩] at this
set_option maxHeartbeats 4000000 in
theorem mwrite_tr {Pd : Nat → Prop} (D : Nat) (v : Value) (bs : List UInt8) (e : It) (d : Value) (hw : ItW e) (hb : bs.length ≤ 800000000) : Tr Tryz.prog 55 #[.pointer (some ⟨D, 0, none⟩), .agg #[.string (sB e.path), .int .i64 e.kind, .int .i64 e.mode, .int .i64 e.size, .string (sB e.to), d]] [slc rID Pd d e.ids] [blk D 142 [.bool true, .bool false, v], own 5 1 v (bs : List UInt8).length ((bs : List UInt8).map vByte)]
 (TX (fun _ : Value => True) (fun _ => .tuple #[]) (fun v => [blk D 142 [.bool true, .bool false, v], own 5 1 v ((bs ++ itB e) : List UInt8).length (((bs ++ itB e) : List UInt8).map vByte)])) := by
 refine Tr.of (l := [(0, .pointer (some ⟨D, 0, none⟩)), (1, .agg #[.string (sB e.path), .int .i64 e.kind, .int .i64 e.mode, .int .i64 e.size, .string (sB e.to), d])]) Tryz.func55 rfl (n := 42) rfl (.cons rfl (.cons rfl .nil)) (fun w0 hro => ?_)
 have hd := ro1 hro
 have h16 := Ro.all16 hd
 obtain ⟨ad, cap, bd, od, rfl, hcap, hmax, -, had, hel⟩ := Ro.open hd
 have s1 := sizeM_le e.kind
 have s2 := sizeM_le e.mode
 have s3 := sizeM_le e.size
 have s4 := sizeM_le (e.ids.length : Int)
 have s5 := bytesM_len' e.path
 have s6 := bytesM_len' e.to
 have s7 := hdT_len hw
 obtain ⟨w1, w2, w3, w4, w5, w6⟩ := hw
 refine go [9,10,60,16] ?_
 intro b3
 refine go [7,8,9,10,0,2,3,0,2,4] ?_
 refine G.op rfl (G.cS rfl rfl rfl rfl Tryz.func79 rfl rfl subT may0 (wtextF _ _ _ _ (by omega) Y12) apT ?_)
 intro x9 hJ
 try dsimp only at hJ
 try dsimp only
 refine go [7,8,9,10,0,2,3,1,2,4] ?_
 refine G.op rfl (G.cS rfl rfl rfl rfl Tryz.func54 rfl rfl subT may0 (wintF _ _ _ _ (by constructor <;> omega) Y12) apT ?_)
 intro x13 hJ
 try dsimp only at hJ
 try dsimp only
 refine go [7,8,9,10,0,2,3,2,2,4] ?_
 refine G.op rfl (G.cS rfl rfl rfl rfl Tryz.func54 rfl rfl subT may0 (wintF _ _ _ _ (by constructor <;> omega) Y12) apT ?_)
 intro x17 hJ
 try dsimp only at hJ
 try dsimp only
 refine go [7,8,9,10,0,2,3,3,2,4] ?_
 refine G.op rfl (G.cS rfl rfl rfl rfl Tryz.func54 rfl rfl subT may0 (wintF _ _ _ _ (by constructor <;> omega) Y12) apT ?_)
 intro x21 hJ
 try dsimp only at hJ
 try dsimp only
 refine go [7,8,9,10,0,2,3,4,2,4] ?_
 refine G.op rfl (G.cS rfl rfl rfl rfl Tryz.func79 rfl rfl subT may0 (wtextF _ _ _ _ (by omega) Y12) apT ?_)
 intro x25 hJ
 try dsimp only at hJ
 try dsimp only
 refine go [7,8,9,10,0,2,3,5,2,4,2,5] ?_
 refine G.op rfl (G.cS rfl rfl rfl rfl Tryz.func54 rfl rfl subT may0 (wintF _ _ _ _ (by constructor <;> omega) Y12) apT ?_)
 intro x30 hJ
 try dsimp only at hJ
 try dsimp only
 refine go [7,8,9,10,2,3,5,2,4,2,5,0,7,8,15] ?_
 rw [hdT_app, ← idsB_zero (bs ++ hdT e) e.ids]
 refine G.loopK (X := Nat × Value) (ts := [0, 32, 33]) (fun st => st.1 ≤ e.ids.length) (fun st => [(34, .int .i64 (st.1 : Int))]) (fun st => [blk D 142 [.bool true, .bool false, st.2], own 5 1 st.2 ((bs ++ hdT e ++ idsB e.ids st.1) : List UInt8).length (((bs ++ hdT e ++ idsB e.ids st.1) : List UInt8).map vByte)]) (fun st => e.ids.length - st.1) (x0 := (0, x30)) (.cons rfl (.cons rfl (.cons rfl .nil))) subT (.cons .nil) apT Y27 (.consE rfl veqT .nil) (fun st hJ => ?_)
 obtain ⟨q, vw⟩ := st
 try dsimp only at hJ
 try dsimp only
 have hkq := hJ
 have qj := idsB_len h16 q
 have qj1 := idsB_len h16 (q + 1)
 refine go [9,10,2,9,7,8,9] ?_
 refine G.condP rfl (fun h35 => ?_) (fun h35 => ?_)
 ·have hlq : q < e.ids.length := by omega
  obtain ⟨lq, rq⟩ := Ro.arr8 (hel q hlq)
  refine go [13,8,9,15,9,10,2,20,16] ?_
  refine G.op rfl (G.val rfl rfl (pv_loadN (cs := e.ids[q].map vByte) Tryz.underlying52 rfl Y19 rfl rq) ?_)
  refine go [60,22] ?_
  intro b5
  refine G.op rfl (G.storeN Y19 rfl rfl (List.all_eq_true.2 (vByte_one _)) selT (by simp [lq]) ?_)
  rw [putN_whole _ _ (by rw [List.length_map, lq]; rfl)]
  refine go [7,8,10,0] ?_
  refine G.op rfl (G.val rfl rfl (pv_loadN (cs := e.ids[q].map vByte) Tryz.underlying52 rfl Y19 rfl (blk_range (k := 16) selT (List.take_of_length_le Y16))) ?_)
  refine G.op rfl (G.cS rfl rfl rfl rfl Tryz.func80 rfl rfl subT may0 (wid_tr _ _ _ _ e.ids[q] lq Y12) apT ?_)
  intro x40 hJ
  try dsimp only at hJ
  try dsimp only
  rw [idsB_app (bs ++ hdT e) hlq]
  refine go [7,16,8,10,2,6,0,7] ?_
  exact G.next ((q + 1, x40)) Y25 (by (try dsimp only); omega) (.consE rfl veqT (.cons rfl (.cons rfl (.cons rfl .nil)))) subT
 obtain rfl : q = e.ids.length := by omega
 rw [itB_app]
 refine go [18,14,14,19] ?_
 exact G.doneXE (vw) trT rfl Y7 subT
set_option maxHeartbeats 4000000 in
theorem woutM_tr (D : Nat) (v : Value) (bs : List UInt8) (hb : bs.length ≤ 1000000000) : Tr Tryz.prog 56 #[.pointer (some ⟨D, 0, none⟩)] [blk D 142 [.bool true, .bool false, v], own 5 1 v bs.length (bs.map vByte)] []
 (TX (fun _ : Value => True) (fun x => .tuple #[x, .int .i64 0]) (fun x => [ownB 5 x bs])) := by
 refine Tr.of (l := [(0, .pointer (some ⟨D, 0, none⟩))]) Tryz.func56 rfl (n := 24) rfl (.cons rfl .nil) (fun w0 hro => ?_)
 obtain ⟨hr, ho⟩ := ro2 hro
 refine go [9,10,1,1,7,8,9,15,9,10,0,2,50,4,0,3,0,3,8,3,3,0] ?_
 refine G.want rfl rfl rfl (G.val rfl rfl (pv_load Tryz.underlying4 rfl rfl (ro_blk (v := .bool true) hr rfl)) ?_)
 refine go [3,25,2,2,1,7,8,60,0,9,10,0,2,8,2,3,1] ?_
 refine G.op rfl (G.val rfl rfl (pv_load Tryz.underlying4 rfl rfl (ro_blk (v := .bool false) hr rfl)) ?_)
 refine go [1,7,8,60,0,13,16,8,9,10,0,2,8,2,3,2] ?_
 refine G.op rfl (G.val rfl rfl (pv_load Tryz.underlying31 rfl rfl (ro_blk (v := v) hr rfl)) ?_)
 refine go [60,8] ?_
 refine G.op rfl (G.appendB (xs := []) (ys := bs) (Ps := fun k => v.ownBlock = some k) rfl Tryz.underlying31 Tryz.infoByte rfl rfl .here (ro_own ho) (by simp only [List.length_nil]; omega) (by simp only [List.length_nil]; omega) ?_)
 intro v'
 rw [List.nil_append bs]
 refine go [1,1,7,8,11] ?_
 exact G.doneX2 (v') trT rfl rfl rfl Y7 subT
set_option maxHeartbeats 4000000 in
theorem mbytes_tr {Ps : Nat → Prop} (a : Mh) (v : Value) (xs : List IT) : Tr Tryz.prog 17 #[.agg #[.int .i64 a.c, .int .i64 a.k, .int .i64 a.n, .int .i64 a.t, v]] [slc rIT Ps v xs] []
 (TX (fun _ : Value => True) (fun x => .tuple #[x, .int .i64 (bytesE a (its xs))]) (fun x => [ownB 5 x (bytesO a (its xs))])) := by
 refine Tr.of (l := [(0, .agg #[.int .i64 a.c, .int .i64 a.k, .int .i64 a.n, .int .i64 a.t, v])]) Tryz.func17 rfl (n := 68) rfl (.cons rfl .nil) (fun w0 hro => ?_)
 have hv := ro1 hro
 have hv' := hv
 obtain ⟨av, cv, bv, fv, rfl, hcapv, hmaxv, hnilv, hadv, helv⟩ := Ro.open hv
 have hel' := its_length xs
 have hI := Ro.allI helv
 have h16 : ∀ x ∈ its xs, all16 x.ids := fun x hx => by obtain ⟨y, hy, rfl⟩ := List.mem_map.1 hx; exact (hI y hy).2.1
 have hq := hdM_len a xs.length
 refine go [9,10,60,9] ?_
 intro b1
 refine go [1,1,7,8,9,9,10,2,50,5] ?_
 refine G.op rfl (G.cR rfl rfl rfl rfl Tryz.func52 rfl rfl (may1 Y1) (mcheck_tr _ _ _ ) ?_)
 refine go [0,2,7,2,7,1,1,7,8,9,10,0,2,14,7,8] ?_
 refine G.condP rfl (fun h19 => ?_) (fun h19 => ?_)
 ·obtain ⟨he1, he2⟩ := bytesE_bad h19
  rw [he1, he2]
  refine go [9,10,0,1,1,7,8,11,12,60,8] ?_
  exact G.doneX2 (.slice none 0 0) trT rfl rfl rfl Y7 subT
 have hz : (checkI a (its xs)).1 = 0 := by omega
 obtain ⟨hn5, h200, hall⟩ := checkI_w hz
 refine go [13,8,9,10] ?_
 refine G.op rfl (G.cS rfl rfl rfl rfl Tryz.func53 rfl rfl subT may0 (new_tr) apT ?_)
 intro x21 hJ
 try dsimp only at hJ
 try dsimp only
 refine go [1,7,8,9,9,10,2,3,0,2,4,2,3,1,2,4,2,3,2,2,4,2,3,3,2,4,2,3,4,2,4,2,5] ?_
 refine G.op rfl (G.lit1 (vs := [_, _, _, _, _]) rfl Tryz.underlying29 kr rfl (by decide) (by decide) rfl rfl ?_)
 intro b33
 rw [show ([.int .i64 a.c, .int .i64 a.k, .int .i64 a.n, .int .i64 a.t, .int .i64 (xs.length : Int)] : List Value) = (numL a xs.length).map vInt from rfl]
 refine go [2,5,0,7,8,15] ?_
 have hz0 := numsB_zero [] (numL a xs.length)
 refine G.loopK (X := Nat × Value) (ts := [1, 2, 3, 6, 33, 34]) (fun st => st.1 ≤ 5) (fun st => [(35, .int .i64 (st.1 : Int))]) (fun st => [blk x21 142 [.bool true, .bool false, st.2], own 5 1 st.2 (([] ++ numsB (numL a xs.length) st.1) : List UInt8).length ((([] ++ numsB (numL a xs.length) st.1) : List UInt8).map vByte)]) (fun st => 5 - st.1) (x0 := (0, .slice none 0 0)) (.cons rfl (.cons rfl (.cons rfl (.cons rfl (.cons rfl (.cons rfl .nil)))))) subT (.cons .nil) apT Y27 (.consE rfl veqT .nil) (fun st hJ => ?_)
 obtain ⟨i, vw⟩ := st
 try dsimp only at hJ
 try dsimp only
 have hki := hJ
 have qj := numsB_len (numL a xs.length) i
 refine go [9,10,2,9,7,8,9] ?_
 refine G.condP rfl (fun h36 => ?_) (fun h36 => ?_)
 ·have hlt : i < (numL a xs.length).length := by show i < 5; omega
  have hx5 := hn5 _ (by rw [hel']; exact List.getElem_mem hlt)
  have hel5 : ((numL a xs.length).map vInt)[0 + i * 1]? = some (.int .i64 (numL a xs.length)[i]) := (by rw [show 0 + i * 1 = i by omega, List.getElem?_map, List.getElem?_eq_getElem hlt]; rfl)
  refine go [13,8,9,15,9,10] ?_
  refine G.op rfl (G.val rfl rfl (pv_ixSl (sz := 1) (k := i) Tryz.underlying29 kr rfl rfl (fun _ => rfl) (by omega) (by omega)) ?_)
  refine G.op rfl (G.val rfl rfl (pv_load Tryz.underlying3 rfl rfl (blk_cell selD hel5)) ?_)
  refine go [1,7,8,10,0,0] ?_
  refine G.op rfl (G.cS rfl rfl rfl rfl Tryz.func54 rfl rfl subT may0 (wintF _ _ _ (numL a xs.length)[i] hx5 Y12) apT ?_)
  intro x41 hJ
  try dsimp only at hJ
  try dsimp only
  rw [numsB_app [] hlt]
  refine go [7,16,8,10,2,6,0,7] ?_
  exact G.next ((i + 1, x41)) Y25 (by (try dsimp only); omega) (.consE rfl veqT (.cons rfl (.cons rfl (.cons rfl (.cons rfl (.cons rfl (.cons rfl .nil))))))) subT
 obtain rfl : i = 5 := by omega
 rw [List.nil_append (numsB (numL a xs.length) 5), show numsB (numL a xs.length) 5 = hdM a xs.length from rfl]
 refine go [18,14,14,19,8,9,9,10,2,3,4,2,4,2,5,0,7,8,15] ?_
 rw [← itsB_zero (hdM a xs.length) (its xs)]
 refine G.loopK (X := Nat × Value) (ts := [2, 3, 6, 44, 45]) (fun st => st.1 ≤ xs.length) (fun st => [(46, .int .i64 (st.1 : Int))]) (fun st => [blk x21 142 [.bool true, .bool false, st.2], own 5 1 st.2 ((hdM a xs.length ++ itsB (its xs) st.1) : List UInt8).length (((hdM a xs.length ++ itsB (its xs) st.1) : List UInt8).map vByte)]) (fun st => xs.length - st.1) (x0 := (0, vw)) (.cons rfl (.cons rfl (.cons rfl (.cons rfl (.cons rfl .nil))))) subT (.cons .nil) apT Y27 (.consE rfl veqT .nil) (fun st hJ => ?_)
 obtain ⟨i, vi⟩ := st
 try dsimp only at hJ
 try dsimp only
 have hki := hJ
 have qk := itsB_len hall h16 i
 refine go [9,10,2,9,7,8,9] ?_
 refine G.condP rfl (fun h47 => ?_) (fun h47 => ?_)
 ·have hlt : i < xs.length := by omega
  have hEv := helv i hlt
  have hRv := Ro.itRng hEv
  have hDv := Ro.itIds hEv
  have hOv := Ro.itOk hEv
  obtain ⟨hk1v, hk2v, hk3v, hlpv, hltv, hlnv⟩ := hOv
  have hCv := Ro.one1I hDv
  have hw : ItW xs[i].1 := hall _ (List.mem_map.2 ⟨_, List.getElem_mem hlt, rfl⟩)
  have hg := its_get hlt
  have hlt' : i < (its xs).length := by omega
  have hap := itsB_app (hdM a xs.length) hlt'
  rw [hg] at hap
  refine go [13,8,9,15,9,10] ?_
  refine G.op rfl (G.val rfl rfl (pv_ixSl (sz := 6) (k := i) Tryz.underlying37 kr rfl rfl adT (by omega) (by omega)) ?_)
  refine go [2,50,10,60,17] ?_
  intro b10
  refine go [20,7,8,10,0,2,50,10] ?_
  refine G.op rfl (G.cS rfl rfl rfl rfl Tryz.func55 rfl rfl subT (may1 Y1) (mwrite_tr _ _ _ xs[i].1 _ hw Y12) apT ?_)
  intro x52 hJ
  try dsimp only at hJ
  try dsimp only
  rw [hap]
  refine go [7,16,8,10,2,6,0,7] ?_
  exact G.next ((i + 1, x52)) Y25 (by (try dsimp only); omega) (.consE rfl veqT (.cons rfl (.cons rfl (.cons rfl (.cons rfl (.cons rfl .nil)))))) subT
 obtain rfl : i = xs.length := by omega
 have hman : hdM a xs.length ++ itsB (its xs) xs.length = manB a (its xs) := by unfold manB; rw [hel']
 have qk := itsB_len hall h16 xs.length
 have hml : (manB a (its xs)).length ≤ 100000000 := by rw [← hman, List.length_append]; omega
 rw [hman]
 refine go [18,14,14,19,8,9,10,0] ?_
 refine G.op rfl (G.cS rfl rfl rfl rfl Tryz.func56 rfl rfl subT (may2 Y1 Y1) (woutM_tr _ _ _ (by omega)) apT ?_)
 intro x56 hJ
 try dsimp only at hJ
 try dsimp only
 refine go [0,2,7,2,7,1,1,7,8,9,15,9,10,0,2,14,1,7,8,60,0,9,10] ?_
 refine G.ownBSl (v := x56) selT (fun ad9 cap9 hv9 => ?_)
 subst hv9
 refine go [0,2,5,2,10,1,7,8] ?_
 refine G.condP rfl (fun h63 => ?_) (fun h63 => ?_)
 ·refine go [9,10,1,1,7,8,11,17,12] ?_
  obtain ⟨he1, he2⟩ := bytesE_long hz (by omega)
  rw [he1, he2]
  refine go [60,8] ?_
  exact G.doneX2 (.slice none 0 0) trT rfl rfl rfl Y7 subT
 refine go [13,16,8,9,10,0,1,1,7,8,11] ?_
 obtain ⟨he1, he2⟩ := bytesE_ok hz (by omega)
 rw [he1, he2]
 exact G.doneX2 (.slice ad9 (manB a (its xs)).length cap9) trT rfl rfl rfl Y7 subT
set_option maxHeartbeats 4000000 in
theorem mwriteR_tr {Ps : Nat → Prop} (a : Mh) (v : Value) (xs : List IT) (hz : (checkI a (its xs)).1 = 0) : Tr Tryz.prog 86 #[.agg #[.int .i64 a.c, .int .i64 a.k, .int .i64 a.n, .int .i64 a.t, v]] [slc rIT Ps v xs] []
 (TX (fun _ : Value => True) (fun x => x) (fun x => [own 5 1 x (manB a (its xs)).length ((manB a (its xs)).map vByte)])) := by
 refine Tr.of (l := [(0, .agg #[.int .i64 a.c, .int .i64 a.k, .int .i64 a.n, .int .i64 a.t, v])]) Tryz.func86 rfl (n := 85) rfl (.cons rfl .nil) (fun w0 hro => ?_)
 have hv := ro1 hro
 have hv' := hv
 obtain ⟨av, cv, bv, fv, rfl, hcapv, hmaxv, hnilv, hadv, helv⟩ := Ro.open hv
 have hel' := its_length xs
 have hI := Ro.allI helv
 have h16 : ∀ x ∈ its xs, all16 x.ids := fun x hx => by obtain ⟨y, hy, rfl⟩ := List.mem_map.1 hx; exact (hI y hy).2.1
 have hq := hdM_len a xs.length
 obtain ⟨hn5, h200, hall⟩ := checkI_w hz
 have n1 := hn5 a.c (by simp [numL])
 have n2 := hn5 a.k (by simp [numL])
 have n3 := hn5 a.n (by simp [numL])
 have n4 := hn5 a.t (by simp [numL])
 have n5 := hn5 (xs.length : Int) (by simp [numL, hel'])
 have e1 := sizeM_le a.c
 have e2 := sizeM_le a.k
 have e3 := sizeM_le a.n
 have e4 := sizeM_le a.t
 have e5 := sizeM_le (xs.length : Int)
 refine go [9,10,60,9] ?_
 intro b1
 refine go [1,7,8,9,10] ?_
 refine G.op rfl (G.val rfl rfl (pv_buildSt (z := [.slice none 0 0, .bool false]) (pl := [(0, 1), (1, 1)]) Tryz.underlying181 kr kr rfl flT) ?_)
 refine G.op rfl (G.box rfl rfl (cs := [_, _]) rfl ?_)
 intro b8
 refine G.ownNil 5 1 ?_
 rw [show own 5 1 (.slice none 0 0) 0 [] = own 5 1 (.slice none 0 0) ([] : List UInt8).length (([] : List UInt8).map vByte) from rfl]
 refine go [1,7,8,9,10,0,2,3,0,2,4] ?_
 refine G.op rfl (G.cS rfl rfl rfl rfl Tryz.func126 rfl rfl subT may0 (wintR _ _ _ _ (by constructor <;> omega) Y12) apT ?_)
 intro x12 hJ
 try dsimp only at hJ
 try dsimp only
 refine go [7,8,9,10,0,2,3,1,2,4] ?_
 refine G.op rfl (G.cS rfl rfl rfl rfl Tryz.func126 rfl rfl subT may0 (wintR _ _ _ _ (by constructor <;> omega) Y12) apT ?_)
 intro x16 hJ
 try dsimp only at hJ
 try dsimp only
 refine go [7,8,9,10,0,2,3,2,2,4] ?_
 refine G.op rfl (G.cS rfl rfl rfl rfl Tryz.func126 rfl rfl subT may0 (wintR _ _ _ _ (by constructor <;> omega) Y12) apT ?_)
 intro x20 hJ
 try dsimp only at hJ
 try dsimp only
 refine go [7,8,9,10,0,2,3,3,2,4] ?_
 refine G.op rfl (G.cS rfl rfl rfl rfl Tryz.func126 rfl rfl subT may0 (wintR _ _ _ _ (by constructor <;> omega) Y12) apT ?_)
 intro x24 hJ
 try dsimp only at hJ
 try dsimp only
 refine go [7,8,9,10,0,2,3,4,2,4,2,5] ?_
 refine G.op rfl (G.cS rfl rfl rfl rfl Tryz.func126 rfl rfl subT may0 (wintR _ _ _ _ (by constructor <;> omega) Y12) apT ?_)
 intro x29 hJ
 try dsimp only at hJ
 try dsimp only
 refine go [7,8,9,9,10,1,7,8,15] ?_
 rw [hdM_app, ← itsB_zero (hdM a xs.length) (its xs)]
 refine G.loopK (X := Nat × Value) (ts := [1, 2, 3]) (fun st => st.1 ≤ xs.length) (fun st => [(4, .int .i64 (st.1 : Int))]) (fun st => [blk b8 181 [st.2, .bool false], own 5 1 st.2 ((hdM a xs.length ++ itsB (its xs) st.1) : List UInt8).length (((hdM a xs.length ++ itsB (its xs) st.1) : List UInt8).map vByte)]) (fun st => xs.length - st.1) (x0 := (0, x29)) (.cons rfl (.cons rfl (.cons rfl .nil))) subT (.cons .nil) apT Y27 (.consE rfl veqT .nil) (fun st hJ => ?_)
 obtain ⟨i, vi⟩ := st
 try dsimp only at hJ
 try dsimp only
 have hki := hJ
 have qk := itsB_len hall h16 i
 refine go [9,9,10,0,2,3,4,2,4,2,5,2,9,7,8] ?_
 refine G.condP rfl (fun h34 => ?_) (fun h34 => ?_)
 ·have hlt : i < xs.length := by omega
  have hEv := helv i hlt
  have hRv := Ro.itRng hEv
  have hDv := Ro.itIds hEv
  have hOv := Ro.itOk hEv
  obtain ⟨hk1v, hk2v, hk3v, hlpv, hltv, hlnv⟩ := hOv
  have hCv := Ro.one1I hDv
  have h16i := Ro.all16 hDv
  obtain ⟨aD, cD, bD, oD, hx2, hcD, hmD, -, hadD, helD⟩ := Ro.open hDv
  rw [hx2] at hRv hCv
  have hw : ItW xs[i].1 := hall _ (List.mem_map.2 ⟨_, List.getElem_mem hlt, rfl⟩)
  have hg := its_get hlt
  have hlt' : i < (its xs).length := by omega
  have hap := itsB_app (hdM a xs.length) hlt'
  rw [hg] at hap
  have s1 := sizeM_le xs[i].1.kind
  have s2 := sizeM_le xs[i].1.mode
  have s3 := sizeM_le xs[i].1.size
  have s4 := sizeM_le (xs[i].1.ids.length : Int)
  have s5 := bytesM_len' xs[i].1.path
  have s6 := bytesM_len' xs[i].1.to
  have s7 := hdT_len hw
  obtain ⟨w1, w2, w3, w4, w5, w6⟩ := hw
  refine go [13,8,9,15,9,10,2,3,4,2,4,0] ?_
  refine G.op rfl (G.val rfl rfl (pv_ixSl (sz := 6) (k := i) Tryz.underlying37 kr rfl rfl adT (by omega) (by omega)) ?_)
  refine go [2,50,10,60,17] ?_
  intro b5
  refine go [20,7,8,9,10,0,2,3,0,2,4] ?_
  refine G.op rfl (G.cS rfl rfl rfl rfl Tryz.func127 rfl rfl subT may0 (wtextR _ _ _ _ (by omega) Y12) apT ?_)
  intro x45 hJ
  try dsimp only at hJ
  try dsimp only
  refine go [7,8,9,10,0,2,3,1,2,4] ?_
  refine G.op rfl (G.cS rfl rfl rfl rfl Tryz.func126 rfl rfl subT may0 (wintR _ _ _ _ (by constructor <;> omega) Y12) apT ?_)
  intro x49 hJ
  try dsimp only at hJ
  try dsimp only
  refine go [7,8,9,10,0,2,3,2,2,4] ?_
  refine G.op rfl (G.cS rfl rfl rfl rfl Tryz.func126 rfl rfl subT may0 (wintR _ _ _ _ (by constructor <;> omega) Y12) apT ?_)
  intro x53 hJ
  try dsimp only at hJ
  try dsimp only
  refine go [7,8,9,10,0,2,3,3,2,4] ?_
  refine G.op rfl (G.cS rfl rfl rfl rfl Tryz.func126 rfl rfl subT may0 (wintR _ _ _ _ (by constructor <;> omega) Y12) apT ?_)
  intro x57 hJ
  try dsimp only at hJ
  try dsimp only
  refine go [7,8,9,10,0,2,3,4,2,4] ?_
  refine G.op rfl (G.cS rfl rfl rfl rfl Tryz.func127 rfl rfl subT may0 (wtextR _ _ _ _ (by omega) Y12) apT ?_)
  intro x61 hJ
  try dsimp only at hJ
  try dsimp only
  refine go [7,8,9,10,0,2,3,5,2,4,2,5] ?_
  refine G.op rfl (G.cS rfl rfl rfl rfl Tryz.func126 rfl rfl subT may0 (wintR _ _ _ _ (by constructor <;> omega) Y12) apT ?_)
  intro x66 hJ
  try dsimp only at hJ
  try dsimp only
  refine go [7,8,9,10,1,7,8,15] ?_
  rw [hdT_app, ← idsB_zero (hdM a xs.length ++ itsB (its xs) i ++ hdT xs[i].1) xs[i].1.ids]
  refine G.loopK (X := Nat × Value) (ts := [1, 2, 3, 4, 5]) (fun st => st.1 ≤ xs[i].1.ids.length) (fun st => [(6, .int .i64 (st.1 : Int))]) (fun st => [blk b8 181 [st.2, .bool false], own 5 1 st.2 ((hdM a xs.length ++ itsB (its xs) i ++ hdT xs[i].1 ++ idsB xs[i].1.ids st.1) : List UInt8).length (((hdM a xs.length ++ itsB (its xs) i ++ hdT xs[i].1 ++ idsB xs[i].1.ids st.1) : List UInt8).map vByte)]) (fun st => xs[i].1.ids.length - st.1) (x0 := (0, x66)) (.cons rfl (.cons rfl (.cons rfl (.cons rfl (.cons rfl .nil))))) subT (.cons .nil) apT Y27 (.consE rfl veqT .nil) (fun st hJ => ?_)
  obtain ⟨q, vw⟩ := st
  try dsimp only at hJ
  try dsimp only
  have hkq := hJ
  have qj := idsB_len h16i q
  have qj1 := idsB_len h16i (q + 1)
  refine go [9,9,10,0,2,3,5,2,4,2,5,2,9,7,8] ?_
  refine G.condP rfl (fun h71 => ?_) (fun h71 => ?_)
  ·have hlq : q < xs[i].1.ids.length := by omega
   obtain ⟨lq, rq⟩ := Ro.arr8 (helD q hlq)
   refine go [13,8,9,15,10,0,2,3,5,2,4,0,2,20,16] ?_
   refine G.op rfl (G.val rfl rfl (pv_loadN (cs := xs[i].1.ids[q].map vByte) Tryz.underlying52 rfl Y19 rfl rq) ?_)
   refine G.op rfl (G.cS rfl rfl rfl rfl Tryz.func128 rfl rfl subT may0 (widR_tr _ _ _ _ xs[i].1.ids[q] lq Y12) apT ?_)
   intro x80 hJ
   try dsimp only at hJ
   try dsimp only
   rw [idsB_app (hdM a xs.length ++ itsB (its xs) i ++ hdT xs[i].1) hlq]
   refine go [7,16,8,10,0,2,6,1,7] ?_
   exact G.next ((q + 1, x80)) Y25 (by (try dsimp only); omega) (.consE rfl veqT (.cons rfl (.cons rfl (.cons rfl (.cons rfl (.cons rfl .nil)))))) subT
  obtain rfl : q = xs[i].1.ids.length := by omega
  rw [itB_app, hap]
  refine go [18,14,14,19,16,8,10,0,2,6,1,7] ?_
  exact G.next ((i + 1, vw)) Y25 (by (try dsimp only); omega) (.consE rfl veqT (.cons rfl (.cons rfl (.cons rfl .nil)))) subT
 obtain rfl : i = xs.length := by omega
 have hman : hdM a xs.length ++ itsB (its xs) xs.length = manB a (its xs) := by unfold manB; rw [hel']
 rw [hman]
 refine go [18,14,14,19,8,9,10,0,2,8,2,3,0,2,4,1,7,8,11] ?_
 exact G.doneX1 (vi) trT rfl rfl Y7 subT
set_option maxHeartbeats 4000000 in
theorem mbytesR_tr {Ps : Nat → Prop} (a : Mh) (v : Value) (xs : List IT) : Tr Tryz.prog 60 #[.agg #[.int .i64 a.c, .int .i64 a.k, .int .i64 a.n, .int .i64 a.t, v]] [slc rIT Ps v xs] []
 (TX (fun _ : Value => True) (fun x => .tuple #[x, .int .i64 (bytesE a (its xs))]) (fun x => [own 5 1 x (bytesO a (its xs)).length ((bytesO a (its xs)).map vByte)])) := by
 refine Tr.of (l := [(0, .agg #[.int .i64 a.c, .int .i64 a.k, .int .i64 a.n, .int .i64 a.t, v])]) Tryz.func60 rfl (n := 21) rfl (.cons rfl .nil) (fun w0 hro => ?_)
 have hv := ro1 hro
 have hv' := hv
 obtain ⟨av, cv, bv, fv, rfl, hcapv, hmaxv, hnilv, hadv, helv⟩ := Ro.open hv
 have hel' := its_length xs
 have hI := Ro.allI helv
 have h16 : ∀ x ∈ its xs, all16 x.ids := fun x hx => by obtain ⟨y, hy, rfl⟩ := List.mem_map.1 hx; exact (hI y hy).2.1
 have hq := hdM_len a xs.length
 refine go [9,10,60,9] ?_
 intro b1
 refine go [1,1,7,8,9,10,2,50,5] ?_
 refine G.op rfl (G.cR rfl rfl rfl rfl Tryz.func85 rfl rfl (may1 Y1) (mcheckR_tr _ _ _ ) ?_)
 refine go [0,2,7,2,7,1,1,7,8,9,9,10,0,2,14,7,8] ?_
 refine G.condP rfl (fun h13 => ?_) (fun h13 => ?_)
 ·obtain ⟨he1, he2⟩ := bytesE_bad h13
  rw [he1, he2]
  refine go [9,10,0,1,1,7,8,11,12] ?_
  refine G.ownNil 5 1 ?_
  exact G.doneX2 (.slice none 0 0) trT rfl rfl rfl Y7 subT
 have hz : (checkI a (its xs)).1 = 0 := by omega
 obtain ⟨hn5, h200, hall⟩ := checkI_w hz
 have hman : hdM a xs.length ++ itsB (its xs) xs.length = manB a (its xs) := by unfold manB; rw [hel']
 have qk := itsB_len hall h16 xs.length
 have hml : (manB a (its xs)).length ≤ 100000000 := by rw [← hman, List.length_append]; omega
 refine go [13,8,9,10,2,50,5] ?_
 refine G.op rfl (G.cS rfl rfl rfl rfl Tryz.func86 rfl rfl subT (may1 Y1) (mwriteR_tr _ _ _ hz) apT ?_)
 intro x16 hJ
 try dsimp only at hJ
 try dsimp only
 refine go [1,7,8,9,9,10] ?_
 refine G.ownOpen (v := x16) selT (fun ad9 cap9 hv9 _ _ => ?_)
 subst hv9
 refine go [0,2,5,2,10,7,8] ?_
 refine G.condP rfl (fun h19 => ?_) (fun h19 => ?_)
 ·refine go [9,10,1,1,7,8,11,12] ?_
  obtain ⟨he1, he2⟩ := bytesE_long hz (by omega)
  rw [he1, he2]
  refine G.ownNil 5 1 ?_
  exact G.doneX2 (.slice none 0 0) trT rfl rfl rfl Y7 subT
 refine go [13,8,9,10,0,1,1,7,8,11] ?_
 obtain ⟨he1, he2⟩ := bytesE_ok hz (by omega)
 rw [he1, he2]
 exact G.doneX2 (.slice ad9 (manB a (its xs)).length cap9) trT rfl rfl rfl Y7 subT
def setL (out : List (List UInt8)) : List (List UInt8 × Value) := out.map fun x => (x, .agg #[])
theorem setL_get (out : List (List UInt8)) (x : List UInt8) : mget (setL out) x = if x ∈ out then some (.agg #[]) else none := by
 induction out with
 | nil => rfl
 | cons y out ih =>
  show (if y = x then some (Value.agg #[]) else mget (setL out) x) = _
  rw [ih]
  by_cases h : y = x
  ·rw [if_pos h, if_pos (by rw [h]; exact List.mem_cons_self ..)]
  rw [if_neg h]
  by_cases h2 : x ∈ out
  ·rw [if_pos h2, if_pos (List.mem_cons_of_mem _ h2)]
  rw [if_neg h2, if_neg (fun h3 => by rcases List.mem_cons.1 h3 with h4 | h4; exact h h4.symm; exact h2 h4)]
theorem setL_set {out : List (List UInt8)} {x : List UInt8} (h : ¬ x ∈ out) : mset (setL out) x (.agg #[]) = setL (out ++ [x]) := by
 rw [mset_new fun p hp => ?_]
 ·simp [setL]
 obtain ⟨y, hy, rfl⟩ := List.mem_map.1 hp
 exact fun e => h (e ▸ hy)
theorem setL_look (out : List (List UInt8)) (x : List UInt8) : (if true = true then Value.tuple #[(mget (setL out) x).getD (.agg #[]), .bool (mget (setL out) x).isSome] else (mget (setL out) x).getD (.agg #[])) = .tuple #[.agg #[], .bool (decide (x ∈ out))] := by
 rw [setL_get, if_pos rfl]
 by_cases h : x ∈ out
 ·rw [if_pos h, decide_eq_true h]
  rfl
 rw [if_neg h, decide_eq_false h]
 rfl
theorem own_oneI (out : List (List UInt8)) (x : List UInt8) (e : TypeId) (v : Value) : own e 16 v (out.length + 1) (flatI out ++ x.map vByte) = own e 16 v (out ++ [x]).length (flatI (out ++ [x])) := by
 rw [flatI_app, List.length_append]
 congr 2
 simp [flatI]
set_option maxHeartbeats 4000000 in
theorem in_tr {Ps : Nat → Prop} (v : Value) (ids : List (List UInt8)) (x : List UInt8) (hx : x.length = 16) : Tr Tryz.prog 84 #[v, vID x] [slc rID Ps v ids] [] (T0 (.bool (decide (x ∈ ids)))) := by
 refine Tr.of (l := [(0, v), (1, vID x)]) Tryz.func84 rfl (n := 18) rfl (.cons rfl (.cons rfl .nil)) (fun w0 hro => ?_)
 have hd := ro1 hro
 have h16 := Ro.all16 hd
 obtain ⟨ad, cap, bd, od, rfl, hcap, hmax, -, had, hel⟩ := Ro.open hd
 refine go [9,10] ?_
 refine G.op rfl (G.box (cs := x.map vByte) rfl rfl rfl ?_)
 intro b3
 refine go [1,7,8,9,9,10,1,7,8,15] ?_
 refine G.loopK (X := Nat) (ts := [0, 3]) (fun q => q ≤ ids.length ∧ (¬ x ∈ ids.take q)) (fun q => [(5, .int .i64 (q : Int))]) (fun q => []) (fun q => ids.length - q) (x0 := 0) (.cons rfl (.cons rfl .nil)) subT (.cons .nil) apT (by first | exact trivial | ((try dsimp only) <;> exact ⟨Nat.zero_le _, by simp⟩)) (.consE rfl veqT .nil) (fun q hJ => ?_)
 try dsimp only at hJ
 try dsimp only
 obtain ⟨hkq, hJ⟩ := hJ
 refine go [9,9,10,0,0,2,5,2,9,7,8] ?_
 refine G.condP rfl (fun h9 => ?_) (fun h9 => ?_)
 ·have hJ0 := hJ
  have hlq : q < ids.length := by omega
  obtain ⟨lq, rq⟩ := Ro.arr8 (hel q hlq)
  refine go [13,8,9,15,9] ?_
  refine G.drawT (nn := 6) (p := []) (rem := 63) [0, 0, 3, 4, 0, 24] [0, 0, 3, 4, 0, 24] kr ⟨rfl, by kernel_rfl, by kernel_rfl⟩ subT kr (fun hT4 => ?_)
  refine go [22,0,62,0,22,1,60,0,22,2,56,20,16] ?_
  refine G.takeT hT4 (i := 3) (rem' := 48) rfl rfl rfl kr (fun _ _ _ h => h) rfl (pv_loadN (cs := ids[q].map vByte) Tryz.underlying52 rfl Y19 rfl rq) subT ?_
  refine go [24,4,32] ?_
  refine G.turnOp rfl rfl (G.val rfl rfl (pv_loadN (cs := x.map vByte) Tryz.underlying52 rfl (by rw [List.length_map, hx]; kernel_rfl) rfl (blk_range (k := 16) selT (List.take_of_length_le (by rw [List.drop_zero, List.length_map, hx]; exact Nat.le_refl _)))) ?_)
  refine go [26] ?_
  refine G.takeT hT4 (i := 5) (rem' := 0) rfl rfl rfl kr (fun _ _ _ h => h) rfl (pv_eqlAr8 (a := ids[q]) (b := x) Tryz.underlying52 rfl kr Tryz.underlying5 kr rfl rfl lq hx) subT ?_
  refine go [27,8] ?_
  refine G.condP rfl (fun h17 => ?_) (fun h17 => ?_)
  ·have heq : ids[q] = x := by assumption
   refine go [9,10,1,7,8,11,17,12,12,17,12] ?_
   exact G.done0G rfl (Rv.tmp rfl Rv.nil) (by rw [decide_eq_true (show x ∈ ids from heq ▸ List.getElem_mem hlq)]; rfl)
  have hne : ¬ ids[q] = x := by assumption
  refine go [13,16,8,10,0,2,6,1,7] ?_
  exact G.next (q + 1) (by first | exact trivial | ((try dsimp only) <;> exact ⟨by omega, by rw [List.take_succ_eq_append_getElem hlq]; simp only [List.mem_append, List.mem_singleton, not_or]; exact ⟨hJ0, fun e => hne e.symm⟩⟩)) (by (try dsimp only); omega) (.consE rfl veqT (.cons rfl (.cons rfl .nil))) subT
 refine go [18,14,14,19,8,9,10,1,7,8,11] ?_
 exact G.done0G rfl (Rv.tmp rfl Rv.nil) (by rw [decide_eq_false (show ¬ x ∈ ids from by have h := hJ; rwa [List.take_of_length_le (by omega)] at h)]; rfl)
end Go.Proofs.YtngbglhmiefcpaaGreat
set_option maxRecDepth 100000
namespace Go.Proofs.YtngbglhmiefcpaaGreat
def gI (l : List Int) (i : Nat) : Int := l.getD i 0
def w32 (x : Int) : Int := x % 4294967296
def orM (x y : Int) : Int := bits .or .u32 x y
def xorM (x y : Int) : Int := bits .xor .u32 x y
def andM (x y : Int) : Int := bits .and .u32 x y
def notM (x : Int) : Int := bits .xor .u32 4294967295 x
def addM (x y : Int) : Int := w32 (x + y)
def rotM (x : Int) (n : Nat) : Int := orM (w32 (x * 2 ^ (32 - n))) (x / 2 ^ n)
def byteM (b : List UInt8) (i : Nat) : Int := ((b.getD i 0).toNat : Int)
def wordM (b : List UInt8) (i : Nat) : Int := orM (orM (orM (w32 (byteM b (4 * i) * 2 ^ 24)) (w32 (byteM b (4 * i + 1) * 2 ^ 16))) (w32 (byteM b (4 * i + 2) * 2 ^ 8))) (byteM b (4 * i + 3))
def sigA (x : Int) : Int := xorM (xorM (rotM x 7) (rotM x 18)) (x / 2 ^ 3)
def sigB (x : Int) : Int := xorM (xorM (rotM x 17) (rotM x 19)) (x / 2 ^ 10)
def nextW (l : List Int) : Int := addM (addM (addM (gI l (l.length - 16)) (sigA (gI l (l.length - 15)))) (gI l (l.length - 7))) (sigB (gI l (l.length - 2)))
def wordsFirst (b : List UInt8) (k : Nat) : List Int := (List.range k).map (wordM b)
def wordsM (b : List UInt8) : Nat → List Int
 | 0 => wordsFirst b 16
 | n + 1 => wordsM b n ++ [nextW (wordsM b n)]
def kM : List Int := [0x428a2f98, 0x71374491, 0xb5c0fbcf, 0xe9b5dba5, 0x3956c25b, 0x59f111f1, 0x923f82a4, 0xab1c5ed5, 0xd807aa98, 0x12835b01, 0x243185be, 0x550c7dc3, 0x72be5d74, 0x80deb1fe, 0x9bdc06a7, 0xc19bf174, 0xe49b69c1, 0xefbe4786, 0x0fc19dc6, 0x240ca1cc, 0x2de92c6f, 0x4a7484aa, 0x5cb0a9dc, 0x76f988da, 0x983e5152, 0xa831c66d, 0xb00327c8, 0xbf597fc7, 0xc6e00bf3, 0xd5a79147, 0x06ca6351, 0x14292967, 0x27b70a85, 0x2e1b2138, 0x4d2c6dfc, 0x53380d13, 0x650a7354, 0x766a0abb, 0x81c2c92e, 0x92722c85, 0xa2bfe8a1, 0xa81a664b, 0xc24b8b70, 0xc76c51a3, 0xd192e819, 0xd6990624, 0xf40e3585, 0x106aa070, 0x19a4c116, 0x1e376c08, 0x2748774c, 0x34b0bcb5, 0x391c0cb3, 0x4ed8aa4a, 0x5b9cca4f, 0x682e6ff3, 0x748f82ee, 0x78a5636f, 0x84c87814, 0x8cc70208, 0x90befffa, 0xa4506ceb, 0xbef9a3f7, 0xc67178f2]
def firstM : List Int := [0x6a09e667, 0xbb67ae85, 0x3c6ef372, 0xa54ff53a, 0x510e527f, 0x9b05688c, 0x1f83d9ab, 0x5be0cd19]
def tM (r : List Int) (k w : Int) : Int :=
 addM (addM (addM (addM (gI r 7) (xorM (xorM (rotM (gI r 4) 6) (rotM (gI r 4) 11)) (rotM (gI r 4) 25))) (xorM (andM (gI r 4) (gI r 5)) (andM (notM (gI r 4)) (gI r 6)))) k) w
def uM (r : List Int) : Int :=
 addM (xorM (xorM (rotM (gI r 0) 2) (rotM (gI r 0) 13)) (rotM (gI r 0) 22)) (xorM (xorM (andM (gI r 0) (gI r 1)) (andM (gI r 0) (gI r 2))) (andM (gI r 1) (gI r 2)))
def turnM (r : List Int) (t u : Int) : List Int := [addM t u, gI r 0, gI r 1, gI r 2, addM (gI r 3) t, gI r 4, gI r 5, gI r 6]
def roundM (W : List Int) (r : List Int) (i : Nat) : List Int := turnM r (tM r (gI kM i) (gI W i)) (uM r)
def roundsM (W s : List Int) : Nat → List Int
 | 0 => s
 | n + 1 => roundM W (roundsM W s n) n
def sumTo (r s : List Int) (k : Nat) : List Int := (List.range 8).map fun i => if i < k then addM (gI r i) (gI s i) else gI r i
def stepM (s : List Int) (b : List UInt8) : List Int := sumTo (roundsM (wordsM b 48) s 64) s 8
def stateN (s : List Int) (l : List UInt8) : Nat → List Int
 | 0 => s
 | n + 1 => stepM (stateN s l n) ((l.drop (64 * n)).take 64)
def stateM (l : List UInt8) : List Int := stateN firstM l (l.length / 64)
def lenBytes (bits : Nat) : List UInt8 := [56, 48, 40, 32, 24, 16, 8, 0].map fun i => UInt8.ofNat (bits / 2 ^ i)
def padM (n : Nat) : List UInt8 := 128 :: List.replicate ((119 - n % 64) % 64) 0 ++ lenBytes (8 * n)
def outM (s : List Int) : List UInt8 := (List.range 32).map fun i => UInt8.ofNat ((gI s (i / 4)).toNat / 2 ^ (24 - 8 * (i % 4)))
def sumM (b : List UInt8) : List UInt8 := outM (stateM (b ++ padM b.length))
end Go.Proofs.YtngbglhmiefcpaaGreat
namespace Go.Proofs.YtngbglhmiefcpaaGreat
open Go.RowKit
set_option maxRecDepth 100000
theorem and31 (n : Nat) (h1 : 1 ≤ n) (h2 : n ≤ 31) : bits BinOp.and IntKind.u64 (IntKind.u64.wrap (-(n : Int))) 31 = 32 - (n : Int) := by
 have : ∀ m : Fin 32, 1 ≤ m.val → bits BinOp.and IntKind.u64 (IntKind.u64.wrap (-(m.val : Int))) 31 = 32 - (m.val : Int) := by decide +kernel
 exact this ⟨n, by omega⟩ h1
theorem or_comm (x y : Int) : bits .or .u32 x y = bits .or .u32 y x := by
 unfold bits
 simp only [BitVec.or_comm]
theorem rot_left (n : Nat) (h1 : 1 ≤ n) (h2 : n ≤ 31) (x : Int) (w : World) :
 Calls Tryz.prog 167 #[.int .u32 x, .int .i64 (-(n : Int))] w fun e w' => e = .returned (.int .u32 (rotM x n)) ∧ w' = w := by
 have ha := and31 n h1 h2
 have e1 : ((32 : Int) - n).toNat = 32 - n := by omega
 have e2 : ((n : Int)).toNat = n := by omega
 go_enter Tryz.func167, Tryz.ntmps167
 go_wp2_with fail
 go_ret
 refine ⟨ret_int ?_, rfl⟩
 have e3 : 32 - (32 - n) = n := by omega
 unfold rotM orM w32
 rw [e3]
theorem turn_any (n : Nat) (h1 : 1 ≤ n) (h2 : n ≤ 31) (x : Int) (w : World) :
 Calls Tryz.prog 166 #[.int .u32 x, .int .i64 n] w fun e w' => e = .returned (.int .u32 (rotM x n)) ∧ ∃ m, w' = w.drewN m := by
 go_enter Tryz.func166, Tryz.ntmps166
 go_wp2_with fail
 go_quiet (fail)
 go_wp2
 go_ret
 refine ⟨ret_int ?_, _, rfl⟩
 unfold rotM orM w32
 rw [or_comm]
theorem down_any (n : Nat) (h1 : 1 ≤ n) (h2 : n ≤ 31) (x : Int) (w : World) :
 Calls Tryz.prog 157 #[.int .u32 x, .int .i64 n] w fun e w' => e = .returned (.int .u32 (rotM x n)) ∧ w' = w := by
 go_enter Tryz.func157, Tryz.ntmps157
 go_wp2_with fail
 refine (rot_left n h1 h2 x _).mono ?_
 rintro e w' ⟨rfl, rfl⟩
 go_wp2
 go_ret
 exact ⟨rfl, rfl⟩
theorem byteM_bounds (b : List UInt8) (i : Nat) : 0 ≤ byteM b i ∧ byteM b i < 256 := by
 unfold byteM
 have := (b.getD i 0).toNat_lt
 omega
theorem byte_cell {w : World} {bb off : Nat} {b : List UInt8} (H : ∀ i (h : i < b.length), RByte w bb (off + i * 1) b[i]) (i : Nat) (hi : i < b.length) : w.cell? ⟨bb, off + i, none⟩ = some (.int .u8 (byteM b i)) := by
 have := H i hi
 unfold RByte at this
 rw [Nat.mul_one] at this
 rw [this]
 unfold byteM
 simp [List.getD, hi]
structure WordsAt (w wr : World) (N : Nat) (T : TypeId) (l : List Int) : Prop where
 below : Below N w wr
 r0 : wr.rowIs N T 64 (fun _ => .int .u32 0)
 r1 : wr.rowIs (N + 1) T 64 (fun j => .int .u32 (gI l j))
theorem WordsAt.drew {w wr : World} {N : Nat} {T : TypeId} {l : List Int} (h : WordsAt w wr N T l) : WordsAt w wr.drew N T l := ⟨h.below.drew, h.r0.drew, h.r1.drew⟩
theorem WordsAt.drewN {w wr : World} {N : Nat} {T : TypeId} {l : List Int} (h : WordsAt w wr N T l) (n : Nat) : WordsAt w (wr.drewN n) N T l := ⟨Below.drewN h.below n, h.r0, h.r1⟩
theorem WordsAt.put {w wr : World} {N : Nat} {T : TypeId} {l : List Int} {x : Int} (h : WordsAt w wr N T l) : WordsAt w (wr.setCell ⟨N + 1, l.length, none⟩ (.int .u32 x)) N T (l ++ [x]) where
 below := h.below.setCell (by show N ≤ N + 1; omega) _
 r0 := h.r0.setOther (by show N ≠ N + 1; omega) _
 r1 := (h.r1.set l.length (.int .u32 x)).congr fun i _ => by
  unfold gI
  by_cases e : i = l.length
  ·subst e; simp
  rw [if_neg e]
  rcases Nat.lt_or_ge i l.length with h1 | h1
  ·simp [List.getD, List.getElem?_append_left h1]
  simp [List.getD, List.getElem?_eq_none h1, List.getElem?_eq_none (show (l ++ [x]).length ≤ i by simp; omega)]
theorem WordsAt.put' {w wr : World} {N k : Nat} {T : TypeId} {l : List Int} {x : Int} (h : WordsAt w wr N T l) (hk : l.length = k) : WordsAt w (wr.setCell ⟨N + 1, k, none⟩ (.int .u32 x)) N T (l ++ [x]) := hk ▸ h.put
theorem row_list {w : World} {g n : Nat} {T : TypeId} {l : List Int} (h : w.rowIs g T n (fun j => .int .u32 (gI l j))) (hl : l.length = n) : w.heap[g]? = some (.cells (l.map (Value.int .u32)).toArray T (0, 0)) := by
 obtain ⟨c, hc, hn, hh⟩ := h
 have : c = (l.map (Value.int .u32)).toArray := by
  apply Array.ext_getElem?
  intro i
  rcases Nat.lt_or_ge i n with h1 | h1
  ·rw [hh i h1]; simp [gI, List.getD, show i < l.length by omega]
  rw [Array.getElem?_eq_none (by omega), Array.getElem?_eq_none (by simp; omega)]
 rw [hc, this]
theorem zeros_row (w : World) (c : Array Value) (T : TypeId) (z : Value) (n : Nat) (hc : c = Array.replicate n z) : (w.alloc (.cells c T)).rowIs w.heap.size T n (fun _ => z) := by
 subst hc
 have := World.rowIs_alloc w (Array.replicate n z) T (fun _ => z) (fun i hi => by simp at hi; simp [hi])
 simpa using this
theorem row_any {w : World} {g n : Nat} {T : TypeId} {f : Nat → Value} (h : w.rowIs g T n f) : ∃ old, w.heap[g]? = some (.cells old T (0, 0)) ∧ old.size = n := by
 obtain ⟨c, hc, hn, hh⟩ := h
 exact ⟨c, hc, hn⟩
theorem wordsFirst_succ (b : List UInt8) (k : Nat) : wordsFirst b (k + 1) = wordsFirst b k ++ [wordM b k] := by
 unfold wordsFirst; rw [List.range_succ, List.map_append]; rfl
theorem wordsFirst_length (b : List UInt8) (k : Nat) : (wordsFirst b k).length = k := by simp [wordsFirst]
theorem wordsM_length (b : List UInt8) (k : Nat) : (wordsM b k).length = 16 + k := by
 induction k with
 | zero => simp [wordsM, wordsFirst_length]
 | succ n ih => simp [wordsM, ih]; omega
set_option maxHeartbeats 2000000 in
theorem spread_any (B : Nat) (v : Value) (b : List UInt8) (w : World) (hB : B ≤ w.heap.size) (hv : SlByte B w v b) (hl : b.length = 64) :
 Calls Tryz.prog 155 #[v] w fun e w' => e = .returned (.agg ((wordsM b 48).map (Value.int .u32)).toArray) ∧ Below w.heap.size w w' := by
 obtain ⟨a, bb, off, cap, rfl, hcap, hm, -, ha, hc⟩ := hv
 have HC := Lib.hid (byte_cell hc); clear hc
 obtain ⟨rfl, hbB⟩ := ha (by omega)
 unfold maxLen at hm
 have HBB := Lib.hid hbB; clear hbB
 go_enter Tryz.func155, Tryz.ntmps155
 go_wp2_with fail
 have HL := Lib.hid hl
 generalize hW : World.alloc (World.alloc w _) _ = W
 have hst : WordsAt w W w.heap.size 214 [] := by
  subst hW
  refine ⟨((Below.refl _ _).alloc (Nat.le_refl _) _).alloc (by simp) _, (zeros_row w _ _ _ 64 kr).alloc _, ?_⟩
  have := zeros_row (w.alloc (.cells (Array.replicate 64 (Value.int .u32 0)) 214)) (Array.replicate 64 (Value.int .u32 0)) 214 _ 64 rfl
  rw [World.size_alloc] at this
  exact this
 clear hW
 go_loopw [10] (fun i wr => ∃ k : Nat, k ≤ 16 ∧ i = .int .i64 k ∧ WordsAt w wr w.heap.size 214 (wordsFirst b k)) (fun i _ => 16 - (intOf i).toNat)
 case atStart => exact ⟨0, Nat.zero_le _, rfl, hst⟩
 case round =>
  obtain ⟨k, hk, rfl, hE⟩ := hrel
  by_cases hlt : k < 16
  ·have e0 : (4 * (k : Int)).toNat = 4 * k := by omega
   have e1 : (4 * (k : Int) + 1).toNat = 4 * k + 1 := by omega
   have e2 : (4 * (k : Int) + 2).toNat = 4 * k + 2 := by omega
   have e3 : (4 * (k : Int) + 3).toNat = 4 * k + 3 := by omega
   have a0 : IntKind.i64.wrap (4 * (k : Int)) = 4 * (k : Int) := wrap_i64 (by unfold I64; omega)
   have a1 : IntKind.i64.wrap (4 * (k : Int) + 1) = 4 * (k : Int) + 1 := wrap_i64 (by unfold I64; omega)
   have a2 : IntKind.i64.wrap (4 * (k : Int) + 2) = 4 * (k : Int) + 2 := wrap_i64 (by unfold I64; omega)
   have a3 : IntKind.i64.wrap (4 * (k : Int) + 3) = 4 * (k : Int) + 3 := wrap_i64 (by unfold I64; omega)
   have c0 : 0 ≤ 4 * (k : Int) ∧ 4 * (k : Int) < 64 := by omega
   have c1 : 0 ≤ 4 * (k : Int) + 1 ∧ 4 * (k : Int) + 1 < 64 := by omega
   have c2 : 0 ≤ 4 * (k : Int) + 2 ∧ 4 * (k : Int) + 2 < 64 := by omega
   have c3 : 0 ≤ 4 * (k : Int) + 3 ∧ 4 * (k : Int) + 3 < 64 := by omega
   have hk64 : (k : Int) < 64 := by omega
   have q0 := (hE.below.cell Y49).trans (HC.out (4 * k) (by have := HL.out; omega))
   have q1 := (hE.below.cell Y49).trans (HC.out (4 * k + 1) (by have := HL.out; omega))
   have q2 := (hE.below.cell Y49).trans (HC.out (4 * k + 2) (by have := HL.out; omega))
   have q3 := (hE.below.cell Y49).trans (HC.out (4 * k + 3) (by have := HL.out; omega))
   obtain ⟨x0, hx0⟩ : ∃ x, x = byteM b (4 * k) := ⟨_, rfl⟩
   obtain ⟨x1, hx1⟩ : ∃ x, x = byteM b (4 * k + 1) := ⟨_, rfl⟩
   obtain ⟨x2, hx2⟩ : ∃ x, x = byteM b (4 * k + 2) := ⟨_, rfl⟩
   obtain ⟨x3, hx3⟩ : ∃ x, x = byteM b (4 * k + 3) := ⟨_, rfl⟩
   rw [← hx0] at q0; rw [← hx1] at q1; rw [← hx2] at q2; rw [← hx3] at q3
   have g0 := byteM_bounds b (4 * k); have g1 := byteM_bounds b (4 * k + 1); have g2 := byteM_bounds b (4 * k + 2); have g3 := byteM_bounds b (4 * k + 3)
   rw [← hx0] at g0; rw [← hx1] at g1; rw [← hx2] at g2; rw [← hx3] at g3
   have HX := Lib.hid (And.intro hx0 (And.intro hx1 (And.intro hx2 hx3)))
   clear hx0 hx1 hx2 hx3
   have HE := Lib.hid hE; clear hE
   go_wp2_with fail
   refine wp_region_still_tail 35 kr kr ?_
   simp only [List.take_succ_cons, List.take_zero, List.drop_succ_cons, List.drop_zero]
   change wpStill _ _ (World.drew _) _ _ _
   repeat still_step
   refine wpStill_nil ?_
   have f1 := HE.out.drew.r1.frozen k
   have p1 := HE.out.drew.r1.cell (show k < 64 by omega)
   go_wp2_with fail
   go_roundw
   case rel =>
    refine ⟨k + 1, by omega, by go_num, ?_⟩
    have hv : bits BinOp.or IntKind.u32 (bits BinOp.or IntKind.u32 (bits BinOp.or IntKind.u32 (x0 * 16777216) (x1 * 65536)) (x2 * 256)) x3 = wordM b k := by
     have h0 := HX.out.1; have h1 := HX.out.2.1; have h2 := HX.out.2.2.1; have h3 := HX.out.2.2.2
     unfold wordM orM w32
     rw [← h0, ← h1, ← h2, ← h3]
     have i0 : x0 * 2 ^ 24 % 4294967296 = x0 * 16777216 := by omega
     have i1 : x1 * 2 ^ 16 % 4294967296 = x1 * 65536 := by omega
     have i2 : x2 * 2 ^ 8 % 4294967296 = x2 * 256 := by omega
     rw [i0, i1, i2]
    rw [hv, wordsFirst_succ]
    exact (HE.out.put' (wordsFirst_length b k)).drew
   case measure => simp [intOf]; omega
  obtain rfl : k = 16 := by omega
  simp only [show ((16 : Nat) : Int) = 16 from rfl]
  have hE : WordsAt w wr w.heap.size 214 (wordsM b 0) := hE
  go_wp2_with fail
  go_loopw [5] (fun i wr => ∃ k : Nat, k ≤ 48 ∧ i = .int .i64 (16 + (k : Int)) ∧ WordsAt w wr w.heap.size 214 (wordsM b k)) (fun i _ => 64 - (intOf i).toNat)
  case atStart => exact ⟨0, by omega, rfl, hE⟩
  case round =>
   obtain ⟨k, hk, rfl, hE⟩ := hrel
   by_cases hlt : k < 48
   ·have HE := Lib.hid hE; clear hE
    have hlen := wordsM_length b k
    have HNX := Lib.hid (show wordsM b (k + 1) = wordsM b k ++ [nextW (wordsM b k)] from rfl)
    generalize hL : wordsM b k = L at *
    clear hL
    have b15 : 0 ≤ (16 + (k : Int) - 15) ∧ (16 + (k : Int) - 15) < 64 := by omega
    have e15 : (16 + (k : Int) - 15).toNat = k + 1 := by omega
    have e2 : (16 + (k : Int) - 2).toNat = k + 14 := by omega
    have p15 := HE.out.r1.cell (show k + 1 < 64 by omega)
    have p2 := HE.out.r1.cell (show k + 14 < 64 by omega)
    go_wp2_with fail
    go_quiet (fail)
    go_wp2_with fail
    refine (down_any 7 (by omega) (by omega) _ _).mono ?_
    rintro e w' ⟨rfl, rfl⟩
    go_wp2_with fail
    refine (down_any 18 (by omega) (by omega) _ _).mono ?_
    rintro e w' ⟨rfl, rfl⟩
    go_wp2_with fail
    refine (down_any 17 (by omega) (by omega) _ _).mono ?_
    rintro e w' ⟨rfl, rfl⟩
    go_wp2_with fail
    refine (down_any 19 (by omega) (by omega) _ _).mono ?_
    rintro e w' ⟨rfl, rfl⟩
    go_wp2_with fail
    clear p15 p2 b15 e15 e2
    have hE2 := HE.out.drewN nq
    generalize wr.drewN nq = wq at hE2 ⊢
    have b16 : 0 ≤ (16 + (k : Int) - 16) ∧ (16 + (k : Int) - 16) < 64 := by omega
    have b7 : 0 ≤ (16 + (k : Int) - 7) ∧ (16 + (k : Int) - 7) < 64 := by omega
    have bi : 0 ≤ (16 + (k : Int)) ∧ (16 + (k : Int)) < 64 := by omega
    have w16 : IntKind.i64.wrap (16 + (k : Int) - 16) = 16 + (k : Int) - 16 := wrap_i64 (by unfold I64; omega)
    have w7 : IntKind.i64.wrap (16 + (k : Int) - 7) = 16 + (k : Int) - 7 := wrap_i64 (by unfold I64; omega)
    have g16 : (16 : Int) ≤ 16 + (k : Int) := by omega
    have g7 : (7 : Int) ≤ 16 + (k : Int) ∧ (16 + (k : Int) - 7) < 64 := by omega
    have e16 : (16 + (k : Int) - 16).toNat = k := by omega
    have e7 : (16 + (k : Int) - 7).toNat = k + 9 := by omega
    have ei : (16 + (k : Int)).toNat = 16 + k := by omega
    have p16 := hE2.r1.cell (show k < 64 by omega)
    have p7 := hE2.r1.cell (show k + 9 < 64 by omega)
    refine wp_region_still_tail 15 kr kr ?_
    simp only [List.take_succ_cons, List.take_zero, List.drop_succ_cons, List.drop_zero]
    change wpStill _ _ (World.drew _) _ _ _
    repeat still_step
    refine wpStill_nil ?_
    have fi := hE2.drew.r1.frozen (16 + k)
    have pi := hE2.drew.r1.cell (show 16 + k < 64 by omega)
    go_wp2_with fail
    go_roundw
    case rel =>
     refine ⟨k + 1, by omega, by go_num, ?_⟩
     rw [HNX.out]
     have hv : nextW L = (gI L k + bits BinOp.xor IntKind.u32 (bits BinOp.xor IntKind.u32 (rotM (gI L (k + 1)) 7) (rotM (gI L (k + 1)) 18)) (gI L (k + 1) / 8) + gI L (k + 9) +
      bits BinOp.xor IntKind.u32 (bits BinOp.xor IntKind.u32 (rotM (gI L (k + 14)) 17) (rotM (gI L (k + 14)) 19)) (gI L (k + 14) / 1024)) % 4294967296 := by
      unfold nextW sigA sigB xorM addM w32
      rw [hlen, show 16 + k - 16 = k by omega, show 16 + k - 15 = k + 1 by omega, show 16 + k - 7 = k + 9 by omega, show 16 + k - 2 = k + 14 by omega]
      have e8 : (2 : Int) ^ 3 = 8 := by decide
      have e10 : (2 : Int) ^ 10 = 1024 := by decide
      rw [e8, e10]
      omega
     rw [hv]
     exact (hE2.drew.put' hlen)
    case measure => simp [intOf]; omega
   obtain rfl : k = 48 := by omega
   have hl64 : (wordsM b 48).length = 64 := wordsM_length b 48
   have g1 := row_list hE.r1 hl64
   obtain ⟨old, g0, hold⟩ := row_any hE.r0
   have hi64 : (Tryz.prog.info? 214).map (·.size) = some 64 := by kernel_rfl
   have HN := Lib.hid hE
   clear hE
   go_wp2_with (first | (refine wpList_load_row rfl 214 _ rfl (w.heap.size + 1) rfl 214 _ (0, 0) _ g1 Tryz.underlying214 rfl (by rw [hi64]; simp [hl64]) ?_) | (refine wpList_store_row rfl 214 _ _ rfl w.heap.size _ rfl rfl 214 old g0 (by rw [hi64]; simp [hl64]) (by simp [hl64, hold]) (by simp [Value.oneCell']) ?_))
   have hB9 : Below w.heap.size w (wr.setRow w.heap.size ((wordsM b 48).map (Value.int .u32)).toArray) := below_setRow HN.out.below (Nat.le_refl _) _
   have g9 := setRow_heap wr w.heap.size old ((wordsM b 48).map (Value.int .u32)).toArray 214 (0, 0) g0
   (try simp only [Exit.inBlock, Exit.then])
   refine bodyPost_ret (v := .agg ((wordsM b 48).map (Value.int .u32)).toArray) ?_ rfl ⟨rfl, hB9⟩
   exact results_cell_row rfl _ _ w.heap.size 214 _ (0, 0) _ rfl g9 Tryz.underlying214 rfl (by rw [hi64]; simp [hl64])
def Two (wq w' : World) (a : Addr) (X : Value) : Prop := ∃ m, w' = wq.drewN m ∨ w' = (wq.setCell a X).drewN m
theorem Two.start (wq : World) (a : Addr) (X : Value) : Two wq wq.drew a X := ⟨1, .inl rfl⟩
theorem Two.drewN {wq w' : World} {a : Addr} {X : Value} (h : Two wq w' a X) (n : Nat) : Two wq (w'.drewN n) a X := by
 obtain ⟨m, rfl | rfl⟩ := h
 ·exact ⟨m + n, .inl (World.drewN_drewN _ _ _)⟩
 exact ⟨m + n, .inr (World.drewN_drewN _ _ _)⟩
theorem setCell_twice (w : World) (b o : Nat) (v : Value) : (w.setCell ⟨b, o, none⟩ v).setCell ⟨b, o, none⟩ v = w.setCell ⟨b, o, none⟩ v := by
 unfold World.setCell
 congr 1
 apply Array.ext
 ·simp
 intro i h1 h2
 simp only [Array.getElem_modify]
 split
 ·cases w.heap[i]'(by simpa using h1) <;> simp
 rfl
theorem Two.fin {wq w' : World} {b o : Nat} {X : Value} (h : Two wq w' ⟨b, o, none⟩ X) : ∃ m, w'.setCell ⟨b, o, none⟩ X = (wq.setCell ⟨b, o, none⟩ X).drewN m := by
 obtain ⟨m, rfl | rfl⟩ := h
 ·exact ⟨m, rfl⟩
 refine ⟨m, ?_⟩
 show ((wq.setCell _ X).setCell _ X).drewN m = _
 rw [setCell_twice]
theorem Two.set {wq w' : World} {b o : Nat} {X : Value} (h : Two wq w' ⟨b, o, none⟩ X) : Two wq (w'.setCell ⟨b, o, none⟩ X) ⟨b, o, none⟩ X := by
 obtain ⟨m, e⟩ := h.fin
 exact ⟨m, .inr e⟩
def cellOr (w : World) (a : Addr) : Value := (w.cell? a).getD undef
theorem cellOr_of {w : World} {a : Addr} {v : Value} (h : w.cell? a = some v) : w.cell? a = some (cellOr w a) := by unfold cellOr; rw [h]; rfl
def nextV (L : List Int) (k : Nat) : Int := IntKind.u32.wrap (IntKind.u32.wrap (IntKind.u32.wrap (gI L k + bits BinOp.xor IntKind.u32 (bits BinOp.xor IntKind.u32 (rotM (gI L (k + 1)) 7) (rotM (gI L (k + 1)) 18)) (gI L (k + 1) / 8)) + gI L (k + 9)) +
 bits BinOp.xor IntKind.u32 (bits BinOp.xor IntKind.u32 (rotM (gI L (k + 14)) 17) (rotM (gI L (k + 14)) 19)) (gI L (k + 14) / 1024))
theorem two_held {w wq w' : World} {N k : Nat} {T : TypeId} {L : List Int} {X : Int} (h : WordsAt w wq N T L) (ht : Two wq w' ⟨N + 1, 16 + k, none⟩ (.int .u32 X)) (hk : k < 48) :
 w'.cell? ⟨N + 1, k, none⟩ = some (.int .u32 (gI L k)) ∧ w'.cell? ⟨N + 1, k + 9, none⟩ = some (.int .u32 (gI L (k + 9))) ∧ w'.cell? ⟨N + 1, 16 + k, none⟩ = some (cellOr w' ⟨N + 1, 16 + k, none⟩) ∧ w'.frozen? ⟨N + 1, 16 + k, none⟩ = false ∧ Two wq w' ⟨N + 1, 16 + k, none⟩ (.int .u32 X) := by
 have ht' := ht
 obtain ⟨m, rfl | rfl⟩ := ht
 ·exact ⟨h.r1.cell (by omega), h.r1.cell (by omega), cellOr_of (h.r1.cell (i := 16 + k) (by omega)), h.r1.frozen _, ht'⟩
 have hr := h.r1.set (16 + k) (.int .u32 X)
 refine ⟨(hr.cell (i := k) (by omega)).trans ?_, (hr.cell (i := k + 9) (by omega)).trans ?_, cellOr_of (hr.cell (i := 16 + k) (by omega)), hr.frozen _, ht'⟩
 ·rw [if_neg (by omega)]
 rw [if_neg (by omega)]
theorem turn_two (n : Nat) (h1 : 1 ≤ n) (h2 : n ≤ 31) (x : Int) {wq w : World} {a : Addr} {X : Value} (h : Two wq w a X) :
 Calls Tryz.prog 166 #[.int .u32 x, .int .i64 n] w fun e w' => e = .returned (.int .u32 (rotM x n)) ∧ Two wq w' a X :=
 (turn_any n h1 h2 x w).mono fun e w' ⟨he, m, hm⟩ => ⟨he, by rw [hm]; exact h.drewN m⟩
set_option maxHeartbeats 2000000 in
theorem wordsR_any (B : Nat) (v : Value) (b : List UInt8) (w : World) (hB : B ≤ w.heap.size) (hv : SlByte B w v b) (hl : b.length = 64) :
 Calls Tryz.prog 164 #[v] w fun e w' => e = .returned (.agg ((wordsM b 48).map (Value.int .u32)).toArray) ∧ Below w.heap.size w w' := by
 obtain ⟨a, bb, off, cap, rfl, hcap, hm, -, ha, hc⟩ := hv
 have HC := Lib.hid (byte_cell hc); clear hc
 obtain ⟨rfl, hbB⟩ := ha (by omega)
 unfold maxLen at hm
 have HBB := Lib.hid hbB; clear hbB
 go_enter Tryz.func164, Tryz.ntmps164
 go_wp2_with fail
 have HL := Lib.hid hl
 generalize hW : World.alloc (World.alloc w _) _ = W
 have hst : WordsAt w W w.heap.size 214 [] := by
  subst hW
  refine ⟨((Below.refl _ _).alloc (Nat.le_refl _) _).alloc (by simp) _, (zeros_row w _ _ _ 64 kr).alloc _, ?_⟩
  have := zeros_row (w.alloc (.cells (Array.replicate 64 (Value.int .u32 0)) 214)) (Array.replicate 64 (Value.int .u32 0)) 214 _ 64 rfl
  rw [World.size_alloc] at this
  exact this
 clear hW
 go_loopw [4] (fun i wr => ∃ k : Nat, k ≤ 16 ∧ i = .int .i64 k ∧ WordsAt w wr w.heap.size 214 (wordsFirst b k)) (fun i _ => 16 - (intOf i).toNat)
 case atStart => exact ⟨0, Nat.zero_le _, rfl, hst⟩
 case round =>
  obtain ⟨k, hk, rfl, hE⟩ := hrel
  by_cases hlt : k < 16
  ·have e0 : (4 * (k : Int)).toNat = 4 * k := by omega
   have e1 : (4 * (k : Int) + 1).toNat = 4 * k + 1 := by omega
   have e2 : (4 * (k : Int) + 2).toNat = 4 * k + 2 := by omega
   have e3 : (4 * (k : Int) + 3).toNat = 4 * k + 3 := by omega
   have a0 : IntKind.i64.wrap (4 * (k : Int)) = 4 * (k : Int) := wrap_i64 (by unfold I64; omega)
   have a1 : IntKind.i64.wrap (4 * (k : Int) + 1) = 4 * (k : Int) + 1 := wrap_i64 (by unfold I64; omega)
   have a2 : IntKind.i64.wrap (4 * (k : Int) + 2) = 4 * (k : Int) + 2 := wrap_i64 (by unfold I64; omega)
   have a3 : IntKind.i64.wrap (4 * (k : Int) + 3) = 4 * (k : Int) + 3 := wrap_i64 (by unfold I64; omega)
   have c0 : 0 ≤ 4 * (k : Int) ∧ 4 * (k : Int) < 64 := by omega
   have c1 : 0 ≤ 4 * (k : Int) + 1 ∧ 4 * (k : Int) + 1 < 64 := by omega
   have c2 : 0 ≤ 4 * (k : Int) + 2 ∧ 4 * (k : Int) + 2 < 64 := by omega
   have c3 : 0 ≤ 4 * (k : Int) + 3 ∧ 4 * (k : Int) + 3 < 64 := by omega
   have hk64 : (k : Int) < 64 := by omega
   have q0 := (hE.below.cell Y49).trans (HC.out (4 * k) (by have := HL.out; omega))
   have q1 := (hE.below.cell Y49).trans (HC.out (4 * k + 1) (by have := HL.out; omega))
   have q2 := (hE.below.cell Y49).trans (HC.out (4 * k + 2) (by have := HL.out; omega))
   have q3 := (hE.below.cell Y49).trans (HC.out (4 * k + 3) (by have := HL.out; omega))
   obtain ⟨x0, hx0⟩ : ∃ x, x = byteM b (4 * k) := ⟨_, rfl⟩
   obtain ⟨x1, hx1⟩ : ∃ x, x = byteM b (4 * k + 1) := ⟨_, rfl⟩
   obtain ⟨x2, hx2⟩ : ∃ x, x = byteM b (4 * k + 2) := ⟨_, rfl⟩
   obtain ⟨x3, hx3⟩ : ∃ x, x = byteM b (4 * k + 3) := ⟨_, rfl⟩
   rw [← hx0] at q0; rw [← hx1] at q1; rw [← hx2] at q2; rw [← hx3] at q3
   have g0 := byteM_bounds b (4 * k); have g1 := byteM_bounds b (4 * k + 1); have g2 := byteM_bounds b (4 * k + 2); have g3 := byteM_bounds b (4 * k + 3)
   rw [← hx0] at g0; rw [← hx1] at g1; rw [← hx2] at g2; rw [← hx3] at g3
   have HX := Lib.hid (And.intro hx0 (And.intro hx1 (And.intro hx2 hx3)))
   clear hx0 hx1 hx2 hx3
   have HE := Lib.hid hE; clear hE
   go_wp2_with fail
   refine wp_region_still_tail 35 kr kr ?_
   simp only [List.take_succ_cons, List.take_zero, List.drop_succ_cons, List.drop_zero]
   change wpStill _ _ (World.drew _) _ _ _
   repeat still_step
   refine wpStill_nil ?_
   have f1 := HE.out.drew.r1.frozen k
   have p1 := HE.out.drew.r1.cell (show k < 64 by omega)
   go_wp2_with fail
   go_roundw
   case rel =>
    refine ⟨k + 1, by omega, by go_num, ?_⟩
    have hv : bits BinOp.or IntKind.u32 (bits BinOp.or IntKind.u32 (bits BinOp.or IntKind.u32 (x0 * 16777216) (x1 * 65536)) (x2 * 256)) x3 = wordM b k := by
     have h0 := HX.out.1; have h1 := HX.out.2.1; have h2 := HX.out.2.2.1; have h3 := HX.out.2.2.2
     unfold wordM orM w32
     rw [← h0, ← h1, ← h2, ← h3]
     have i0 : x0 * 2 ^ 24 % 4294967296 = x0 * 16777216 := by omega
     have i1 : x1 * 2 ^ 16 % 4294967296 = x1 * 65536 := by omega
     have i2 : x2 * 2 ^ 8 % 4294967296 = x2 * 256 := by omega
     rw [i0, i1, i2]
    rw [hv, wordsFirst_succ]
    exact (HE.out.put' (wordsFirst_length b k)).drew
   case measure => simp [intOf]; omega
  obtain rfl : k = 16 := by omega
  simp only [show ((16 : Nat) : Int) = 16 from rfl]
  have hE : WordsAt w wr w.heap.size 214 (wordsM b 0) := hE
  go_wp2_with fail
  go_loopw [5] (fun i wr => ∃ k : Nat, k ≤ 48 ∧ i = .int .i64 (16 + (k : Int)) ∧ WordsAt w wr w.heap.size 214 (wordsM b k)) (fun i _ => 64 - (intOf i).toNat)
  case atStart => exact ⟨0, by omega, rfl, hE⟩
  case round =>
   obtain ⟨k, hk, rfl, hE⟩ := hrel
   by_cases hlt : k < 48
   ·have HE := Lib.hid hE; clear hE
    have hlen := wordsM_length b k
    have HNX := Lib.hid (show wordsM b (k + 1) = wordsM b k ++ [nextW (wordsM b k)] from rfl)
    generalize hL : wordsM b k = L at *
    clear hL
    have b15 : 0 ≤ (16 + (k : Int) - 15) ∧ (16 + (k : Int) - 15) < 64 := by omega
    have e15 : (16 + (k : Int) - 15).toNat = k + 1 := by omega
    have e2 : (16 + (k : Int) - 2).toNat = k + 14 := by omega
    have p15 := HE.out.r1.cell (show k + 1 < 64 by omega)
    have p2 := HE.out.r1.cell (show k + 14 < 64 by omega)
    go_wp2_with fail
    go_quiet (fail)
    clear p15 p2 b15 e15 e2
    have hE2 := HE.out.drewN nq
    generalize wr.drewN nq = wq at hE2 ⊢
    have b16 : 0 ≤ (16 + (k : Int) - 16) ∧ (16 + (k : Int) - 16) < 64 := by omega
    have b7 : 0 ≤ (16 + (k : Int) - 7) ∧ (16 + (k : Int) - 7) < 64 := by omega
    have bi : 0 ≤ (16 + (k : Int)) ∧ (16 + (k : Int)) < 64 := by omega
    have w16 : IntKind.i64.wrap (16 + (k : Int) - 16) = 16 + (k : Int) - 16 := wrap_i64 (by unfold I64; omega)
    have w7 : IntKind.i64.wrap (16 + (k : Int) - 7) = 16 + (k : Int) - 7 := wrap_i64 (by unfold I64; omega)
    have g16 : (16 : Int) ≤ 16 + (k : Int) := by omega
    have g7 : (7 : Int) ≤ 16 + (k : Int) ∧ (16 + (k : Int) - 7) < 64 := by omega
    have e16 : (16 + (k : Int) - 16).toNat = k := by omega
    have e7 : (16 + (k : Int) - 7).toNat = k + 9 := by omega
    have ei : (16 + (k : Int)).toNat = 16 + k := by omega
    have hT : Two wq wq.drew ⟨w.heap.size + 1, 16 + k, none⟩ (.int .u32 (nextV L k)) := Two.start _ _ _
    have p16 := hE2.drew.r1.cell (show k < 64 by omega)
    have p7 := hE2.drew.r1.cell (show k + 9 < 64 by omega)
    have HQ := Lib.hid hE2
    go_wp2_with fail
    go_region_held3 (fun w' => w'.cell? ⟨w.heap.size + 1, k, none⟩ = some (.int .u32 (gI L k)) ∧ w'.cell? ⟨w.heap.size + 1, k + 9, none⟩ = some (.int .u32 (gI L (k + 9))) ∧ w'.cell? ⟨w.heap.size + 1, 16 + k, none⟩ = some (cellOr w' ⟨w.heap.size + 1, 16 + k, none⟩) ∧ w'.frozen? ⟨w.heap.size + 1, 16 + k, none⟩ = false ∧ Two wq w' ⟨w.heap.size + 1, 16 + k, none⟩ (.int .u32 (nextV L k))) (first | exact two_held HQ.out (by assumption) (by omega) | exact two_held HQ.out (Two.set (by assumption)) (by omega)) (first | (go_at_call_of 166 ((7 : Int)); refine (turn_two 7 (by omega) (by omega) _ (by assumption)).mono ?_; rintro e w' ⟨rfl, hT'⟩) | (go_at_call_of 166 ((18 : Int)); refine (turn_two 18 (by omega) (by omega) _ (by assumption)).mono ?_; rintro e w' ⟨rfl, hT'⟩) | (go_at_call_of 166 ((17 : Int)); refine (turn_two 17 (by omega) (by omega) _ (by assumption)).mono ?_; rintro e w' ⟨rfl, hT'⟩) | (go_at_call_of 166 ((19 : Int)); refine (turn_two 19 (by omega) (by omega) _ (by assumption)).mono ?_; rintro e w' ⟨rfl, hT'⟩))
    obtain ⟨m, hm⟩ := Two.fin hT'
    unfold nextV at hm
    rw [hm]
    clear hm
    go_wp2_with fail
    go_roundw
    case rel =>
     refine ⟨k + 1, by omega, by go_num, ?_⟩
     rw [HNX.out]
     have hv : nextW L = nextV L k := by
      unfold nextW sigA sigB xorM addM w32 nextV
      rw [hlen, show 16 + k - 16 = k by omega, show 16 + k - 15 = k + 1 by omega, show 16 + k - 7 = k + 9 by omega, show 16 + k - 2 = k + 14 by omega]
      have e8 : (2 : Int) ^ 3 = 8 := by decide
      have e10 : (2 : Int) ^ 10 = 1024 := by decide
      rw [e8, e10, IntKind.wrap_u32, IntKind.wrap_u32, IntKind.wrap_u32]
     rw [hv]
     exact (HQ.out.put' hlen).drewN m
    case measure => simp [intOf]; omega
   obtain rfl : k = 48 := by omega
   have hl64 : (wordsM b 48).length = 64 := wordsM_length b 48
   have g1 := row_list hE.r1 hl64
   obtain ⟨old, g0, hold⟩ := row_any hE.r0
   have hi64 : (Tryz.prog.info? 214).map (·.size) = some 64 := by kernel_rfl
   have HN := Lib.hid hE
   clear hE
   go_wp2_with (first | (refine wpList_load_row rfl 214 _ rfl (w.heap.size + 1) rfl 214 _ (0, 0) _ g1 Tryz.underlying214 rfl (by rw [hi64]; simp [hl64]) ?_) | (refine wpList_store_row rfl 214 _ _ rfl w.heap.size _ rfl rfl 214 old g0 (by rw [hi64]; simp [hl64]) (by simp [hl64, hold]) (by simp [Value.oneCell']) ?_))
   have hB9 : Below w.heap.size w (wr.setRow w.heap.size ((wordsM b 48).map (Value.int .u32)).toArray) := below_setRow HN.out.below (Nat.le_refl _) _
   have g9 := setRow_heap wr w.heap.size old ((wordsM b 48).map (Value.int .u32)).toArray 214 (0, 0) g0
   (try simp only [Exit.inBlock, Exit.then])
   refine bodyPost_ret (v := .agg ((wordsM b 48).map (Value.int .u32)).toArray) ?_ rfl ⟨rfl, hB9⟩
   exact results_cell_row rfl _ _ w.heap.size 214 _ (0, 0) _ rfl g9 Tryz.underlying214 rfl (by rw [hi64]; simp [hl64])
theorem info64 : (Tryz.prog.info? 214).map (·.size) = some 64 := by kernel_rfl
set_option maxHeartbeats 2000000 in
set_option maxRecDepth 100000 in
theorem kD_any (w : World) : Calls Tryz.prog 156 #[] w fun e w' => e = .returned (.agg (kM.map (Value.int .u32)).toArray) ∧ Below w.heap.size w w' := by
 go_enter Tryz.func156, Tryz.ntmps156
 go_wp2_with (first | (refine wpList_build rfl 214 _ rfl kr ?_) | (refine wpList_store_row rfl 214 _ _ rfl w.heap.size (kM.map (Value.int .u32)).toArray rfl kr 214 _ (heap_alloc_new _ _) (by rw [info64]; rfl) rfl kr ?_))
 (try simp only [Exit.inBlock, Exit.then])
 refine bodyPost_ret (v := .agg (kM.map (Value.int .u32)).toArray) ?_ rfl ⟨rfl, below_setRow ((Below.refl _ _).alloc (Nat.le_refl _) _) (Nat.le_refl _) _⟩
 exact results_cell_row rfl _ _ w.heap.size 214 _ (0, 0) _ rfl (setRow_heap _ _ _ _ _ (0, 0) (heap_alloc_new _ _)) Tryz.underlying214 rfl (by rw [info64]; rfl)
set_option maxHeartbeats 2000000 in
set_option maxRecDepth 100000 in
theorem kR_any (w : World) : Calls Tryz.prog 165 #[] w fun e w' => e = .returned (.agg (kM.map (Value.int .u32)).toArray) ∧ Below w.heap.size w w' := by
 go_enter Tryz.func165, Tryz.ntmps165
 go_wp2_with (first | (refine wpList_build rfl 214 _ rfl kr ?_) | (refine wpList_store_row rfl 214 _ _ rfl w.heap.size (kM.map (Value.int .u32)).toArray rfl kr 214 _ (heap_alloc_new _ _) (by rw [info64]; rfl) rfl kr ?_))
 (try simp only [Exit.inBlock, Exit.then])
 refine bodyPost_ret (v := .agg (kM.map (Value.int .u32)).toArray) ?_ rfl ⟨rfl, below_setRow ((Below.refl _ _).alloc (Nat.le_refl _) _) (Nat.le_refl _) _⟩
 exact results_cell_row rfl _ _ w.heap.size 214 _ (0, 0) _ rfl (setRow_heap _ _ _ _ _ (0, 0) (heap_alloc_new _ _)) Tryz.underlying214 rfl (by rw [info64]; rfl)
def agg8 (s : List Int) : Value := .agg #[.int .u32 (gI s 0), .int .u32 (gI s 1), .int .u32 (gI s 2), .int .u32 (gI s 3), .int .u32 (gI s 4), .int .u32 (gI s 5), .int .u32 (gI s 6), .int .u32 (gI s 7)]
structure NextAt (w wr : World) (N M : Nat) (T T64 : TypeId) (s W r : List Int) : Prop where
 below : Below N w wr
 hNM : N + 2 ≤ M
 s0 : wr.rowIs N T 8 (fun j => .int .u32 (gI s j))
 o : wr.rowIs (N + 1) T 8 (fun _ => .int .u32 0)
 w64 : wr.rowIs M T64 64 (fun j => .int .u32 (gI W j))
 k64 : wr.rowIs (M + 1) T64 64 (fun j => .int .u32 (gI kM j))
 r8 : wr.rowIs (M + 2) T 8 (fun j => .int .u32 (gI r j))
theorem NextAt.drewN {w wr : World} {N M : Nat} {T T64 : TypeId} {s W r : List Int} (h : NextAt w wr N M T T64 s W r) (n : Nat) : NextAt w (wr.drewN n) N M T T64 s W r :=
 ⟨Below.drewN h.below n, h.hNM, h.s0, h.o, h.w64, h.k64, h.r8⟩
theorem NextAt.drew {w wr : World} {N M : Nat} {T T64 : TypeId} {s W r : List Int} (h : NextAt w wr N M T T64 s W r) : NextAt w wr.drew N M T T64 s W r :=
 ⟨h.below.drew, h.hNM, h.s0.drew, h.o.drew, h.w64.drew, h.k64.drew, h.r8.drew⟩
theorem row8 (s : List Int) : ∀ i, i < 8 → (#[.int .u32 (gI s 0), .int .u32 (gI s 1), .int .u32 (gI s 2), .int .u32 (gI s 3), .int .u32 (gI s 4), .int .u32 (gI s 5), .int .u32 (gI s 6), .int .u32 (gI s 7)] : Array Value)[i]? = some (.int .u32 (gI s i)) := by
 intro i hi
 have : i = 0 ∨ i = 1 ∨ i = 2 ∨ i = 3 ∨ i = 4 ∨ i = 5 ∨ i = 6 ∨ i = 7 := by omega
 rcases this with rfl | rfl | rfl | rfl | rfl | rfl | rfl | rfl <;> rfl
theorem zero8 : ∀ i, i < 8 → (#[.int .u32 0, .int .u32 0, .int .u32 0, .int .u32 0, .int .u32 0, .int .u32 0, .int .u32 0, .int .u32 0] : Array Value)[i]? = some (.int .u32 0) := by
 intro i hi
 have : i = 0 ∨ i = 1 ∨ i = 2 ∨ i = 3 ∨ i = 4 ∨ i = 5 ∨ i = 6 ∨ i = 7 := by omega
 rcases this with rfl | rfl | rfl | rfl | rfl | rfl | rfl | rfl <;> rfl
theorem row_of {w : World} {g n : Nat} {T : TypeId} {l : List Int} (h : w.heap[g]? = some (.cells (l.map (Value.int .u32)).toArray T (0, 0))) (hl : l.length = n) : w.rowIs g T n (fun j => .int .u32 (gI l j)) :=
 ⟨_, h, by simp [hl], fun i hi => by simp [gI, List.getD, show i < l.length by omega]⟩
theorem row8_heap {w : World} {g : Nat} {T : TypeId} {s : List Int} (h : w.rowIs g T 8 (fun j => .int .u32 (gI s j))) : w.heap[g]? = some (.cells #[.int .u32 (gI s 0), .int .u32 (gI s 1), .int .u32 (gI s 2), .int .u32 (gI s 3), .int .u32 (gI s 4), .int .u32 (gI s 5), .int .u32 (gI s 6), .int .u32 (gI s 7)] T (0, 0)) := by
 obtain ⟨c, hc, hn, hh⟩ := h
 have : c = #[.int .u32 (gI s 0), .int .u32 (gI s 1), .int .u32 (gI s 2), .int .u32 (gI s 3), .int .u32 (gI s 4), .int .u32 (gI s 5), .int .u32 (gI s 6), .int .u32 (gI s 7)] := by
  apply Array.ext_getElem?
  intro i
  rcases Nat.lt_or_ge i 8 with h1 | h1
  ·rw [hh i h1, row8 s i h1]
  rw [Array.getElem?_eq_none (by omega), Array.getElem?_eq_none (by simpa using h1)]
 rw [hc, this]
theorem NextAt.turn {w wr : World} {N M : Nat} {T T64 : TypeId} {s W r : List Int} (h : NextAt w wr N M T T64 s W r) (a b c d e f g i : Int) :
 NextAt w (wr.setRow (M + 2) #[Value.int .u32 a, .int .u32 b, .int .u32 c, .int .u32 d, .int .u32 e, .int .u32 f, .int .u32 g, .int .u32 i]) N M T T64 s W [a, b, c, d, e, f, g, i] where
 below := below_setRow h.below (by have := h.hNM; omega) _
 hNM := h.hNM
 s0 := h.s0.of_block (setRow_other _ _ _ _ (by have := h.hNM; omega))
 o := h.o.of_block (setRow_other _ _ _ _ (by have := h.hNM; omega))
 w64 := h.w64.of_block (setRow_other _ _ _ _ (by omega))
 k64 := h.k64.of_block (setRow_other _ _ _ _ (by omega))
 r8 := by
  have g8 := row8_heap h.r8
  exact ⟨_, setRow_heap _ _ _ _ _ (0, 0) g8, rfl, fun j hj => row8 [a, b, c, d, e, f, g, i] j hj⟩
theorem sumTo_get (r s : List Int) (k i : Nat) (hi : i < 8) : gI (sumTo r s k) i = if i < k then addM (gI r i) (gI s i) else gI r i := by
 unfold sumTo
 rw [gI]
 simp [List.getD, hi]
theorem NextAt.start {w wr : World} {N M : Nat} {T T64 : TypeId} {s W r : List Int} (h : NextAt w wr N M T T64 s W r) : NextAt w wr N M T T64 s W (sumTo r s 0) :=
 ⟨h.below, h.hNM, h.s0, h.o, h.w64, h.k64, h.r8.congr fun i hi => by rw [sumTo_get r s 0 i hi]; simp⟩
theorem NextAt.add {w wr : World} {N M k : Nat} {T T64 : TypeId} {s W r : List Int} (h : NextAt w wr N M T T64 s W (sumTo r s k)) :
 NextAt w (wr.setCell ⟨M + 2, k, none⟩ (.int .u32 (addM (gI r k) (gI s k)))) N M T T64 s W (sumTo r s (k + 1)) where
 below := h.below.setCell (by show N ≤ M + 2; have := h.hNM; omega) _
 hNM := h.hNM
 s0 := h.s0.setOther (by show N ≠ M + 2; have := h.hNM; omega) _
 o := h.o.setOther (by show N + 1 ≠ M + 2; have := h.hNM; omega) _
 w64 := h.w64.setOther (by show M ≠ M + 2; omega) _
 k64 := h.k64.setOther (by show M + 1 ≠ M + 2; omega) _
 r8 := (h.r8.set k (.int .u32 (addM (gI r k) (gI s k)))).congr fun i hi => by
  rw [sumTo_get r s (k + 1) i hi, sumTo_get r s k i hi]
  by_cases e : i = k
  ·subst e; simp
  rw [if_neg e]
  by_cases h1 : i < k
  ·rw [if_pos h1, if_pos (by omega)]
  rw [if_neg h1, if_neg (by omega)]
theorem all8 (a b c d e f g h : Int) : (#[Value.int .u32 a, .int .u32 b, .int .u32 c, .int .u32 d, .int .u32 e, .int .u32 f, .int .u32 g, .int .u32 h] : Array Value).all (·.oneCell') = true := by
 simp [Value.oneCell']
theorem tM_walk (r : List Int) (k w : Int) : Value.int .u32 (((gI r 7 + bits BinOp.xor IntKind.u32 (bits BinOp.xor IntKind.u32 (rotM (gI r 4) 6) (rotM (gI r 4) 11)) (rotM (gI r 4) 25) +
 bits BinOp.xor IntKind.u32 (bits BinOp.and IntKind.u32 (gI r 4) (gI r 5)) (bits BinOp.and IntKind.u32 (bits BinOp.xor IntKind.u32 (if IntKind.u32.signed = true then -1 else IntKind.u32.max) (gI r 4)) (gI r 6)) + k) % 4294967296 + w) % 4294967296) = Value.int .u32 (tM r k w) := by
 have e : (if IntKind.u32.signed = true then -1 else IntKind.u32.max) = (4294967295 : Int) := by decide
 rw [e]
 unfold tM addM w32 xorM andM notM
 apply int_eq
 omega
theorem uM_walk (r : List Int) : Value.int .u32 ((bits BinOp.xor IntKind.u32 (bits BinOp.xor IntKind.u32 (rotM (gI r 0) 2) (rotM (gI r 0) 13)) (rotM (gI r 0) 22) +
 bits BinOp.xor IntKind.u32 (bits BinOp.xor IntKind.u32 (bits BinOp.and IntKind.u32 (gI r 0) (gI r 1)) (bits BinOp.and IntKind.u32 (gI r 0) (gI r 2))) (bits BinOp.and IntKind.u32 (gI r 1) (gI r 2))) % 4294967296) = Value.int .u32 (uM r) := rfl
set_option maxHeartbeats 2000000 in
set_option maxRecDepth 100000 in
theorem next_any (B : Nat) (v : Value) (s : List Int) (b : List UInt8) (w : World) (hB : B ≤ w.heap.size) (hv : SlByte B w v b) (hl : b.length = 64) :
 Calls Tryz.prog 133 #[agg8 s, v] w fun e w' => e = .returned (agg8 (stepM s b)) ∧ Below w.heap.size w w' := by
 have HV := Lib.hid hv; clear hv
 have HL := Lib.hid hl; clear hl
 unfold agg8
 go_enter Tryz.func133, Tryz.ntmps133
 go_wp2_with fail
 have hs0 : ((w.alloc (.cells #[.int .u32 (gI s 0), .int .u32 (gI s 1), .int .u32 (gI s 2), .int .u32 (gI s 3), .int .u32 (gI s 4), .int .u32 (gI s 5), .int .u32 (gI s 6), .int .u32 (gI s 7)] 188)).alloc (.cells #[.int .u32 0, .int .u32 0, .int .u32 0, .int .u32 0, .int .u32 0, .int .u32 0, .int .u32 0, .int .u32 0] 188)).rowIs w.heap.size 188 8 (fun j => .int .u32 (gI s j)) :=
  (World.rowIs_alloc w _ _ (fun j => .int .u32 (gI s j)) (fun i hi => row8 s i hi)).alloc _
 have ho := World.rowIs_alloc (w.alloc (.cells #[.int .u32 (gI s 0), .int .u32 (gI s 1), .int .u32 (gI s 2), .int .u32 (gI s 3), .int .u32 (gI s 4), .int .u32 (gI s 5), .int .u32 (gI s 6), .int .u32 (gI s 7)] 188)) #[.int .u32 0, .int .u32 0, .int .u32 0, .int .u32 0, .int .u32 0, .int .u32 0, .int .u32 0, .int .u32 0] 188 (fun _ => .int .u32 0) (fun i hi => zero8 i hi)
 have hB0 : Below w.heap.size w ((w.alloc (.cells #[.int .u32 (gI s 0), .int .u32 (gI s 1), .int .u32 (gI s 2), .int .u32 (gI s 3), .int .u32 (gI s 4), .int .u32 (gI s 5), .int .u32 (gI s 6), .int .u32 (gI s 7)] 188)).alloc (.cells #[.int .u32 0, .int .u32 0, .int .u32 0, .int .u32 0, .int .u32 0, .int .u32 0, .int .u32 0, .int .u32 0] 188)) := ((Below.refl _ _).alloc (Nat.le_refl _) _).alloc (by simp) _
 have hz0 : ((w.alloc (.cells #[.int .u32 (gI s 0), .int .u32 (gI s 1), .int .u32 (gI s 2), .int .u32 (gI s 3), .int .u32 (gI s 4), .int .u32 (gI s 5), .int .u32 (gI s 6), .int .u32 (gI s 7)] 188)).alloc (.cells #[.int .u32 0, .int .u32 0, .int .u32 0, .int .u32 0, .int .u32 0, .int .u32 0, .int .u32 0, .int .u32 0] 188)).heap.size = w.heap.size + 2 := by simp
 rw [World.size_alloc] at ho
 generalize hW : World.alloc (World.alloc w _) _ = W0 at *
 clear hW
 have HZ0 := Lib.hid hz0; clear hz0
 have HS0 := Lib.hid hs0; have HO0 := Lib.hid ho; have HB0 := Lib.hid hB0
 clear hs0 ho hB0
 refine (spread_any B v b W0 (Nat.le_trans hB HB0.out.size) (SlByte.below HV.out (HB0.out.mono hB) (Nat.le_refl _)) HL.out).mono ?_
 rintro e w1 ⟨rfl, hb1⟩
 go_wp2_with fail
 refine (kD_any _).mono ?_
 rintro e w2 ⟨rfl, hb2⟩
 have hb2' : Below W0.heap.size W0 w2 := Below.after hb1 hb2 hb1.size
 clear hb1 hb2
 have HB2 := Lib.hid hb2'; clear hb2'
 have hKA : (kM.map (Value.int .u32)).toArray.size = 64 ∧ (kM.map (Value.int .u32)).toArray.all (·.oneCell') = true := ⟨rfl, by kernel_rfl⟩
 have hWA : ((wordsM b 48).map (Value.int .u32)).toArray.size = 64 ∧ ((wordsM b 48).map (Value.int .u32)).toArray.all (·.oneCell') = true := ⟨by simp [wordsM_length], by simp [Value.oneCell']⟩
 obtain ⟨KA, hK⟩ : ∃ KA, KA = (kM.map (Value.int .u32)).toArray := ⟨_, rfl⟩
 obtain ⟨WA, hW⟩ : ∃ WA, WA = ((wordsM b 48).map (Value.int .u32)).toArray := ⟨_, rfl⟩
 rw [← hK] at hKA ⊢
 rw [← hW] at hWA ⊢
 have HK := Lib.hid hK; have HW := Lib.hid hW; have HKA := Lib.hid hKA; have HWA := Lib.hid hWA
 clear hK hW hKA hWA
 go_upto_region 2 with (first | (refine wpList_store_row rfl 214 _ _ rfl w2.heap.size WA rfl rfl 214 _ (heap_alloc2_old _ _ _) (by rw [info64, HWA.out.1]) (by rw [HWA.out.1]; rfl) HWA.out.2 ?_) | (refine wpList_store_row rfl 214 _ _ rfl (w2.heap.size + 1) KA rfl rfl 214 _ ((setRow_other _ _ _ _ (by omega)).trans (heap_alloc2_new _ _ _)) (by rw [info64, HKA.out.1]) (by rw [HKA.out.1]; rfl) HKA.out.2 ?_) | fail)
 generalize hW5 : World.setRow (World.setRow (World.alloc (World.alloc w2 _) _) _ WA) _ KA = W5
 have g5k : W5.heap[w2.heap.size + 1]? = some (.cells KA 214 (0, 0)) := by
  subst hW5; exact setRow_heap _ _ _ _ _ (0, 0) ((setRow_other _ _ _ _ (by omega)).trans (heap_alloc2_new _ _ _))
 have g5w : W5.heap[w2.heap.size]? = some (.cells WA 214 (0, 0)) := by
  subst hW5; exact (setRow_other _ _ _ _ (by omega)).trans (setRow_heap _ _ _ _ _ (0, 0) (heap_alloc2_old _ _ _))
 have hB5 : Below w2.heap.size w2 W5 := by
  subst hW5; exact below_setRow (below_setRow (((Below.refl _ _).alloc (Nat.le_refl _) _).alloc (by simp) _) (Nat.le_refl _) _) (by omega) _
 have hz5 : W5.heap.size = w2.heap.size + 2 := by subst hW5; simp
 clear hW5
 have hlt0 := HS0.out.lt
 have s5 : W5.rowIs w.heap.size 188 8 (fun j => .int .u32 (gI s j)) := HS0.out.of_block ((hB5.block _ (Nat.lt_of_lt_of_le hlt0 HB2.out.size)).trans (HB2.out.block _ hlt0))
 have hlt1 := HO0.out.lt
 have o5 : W5.rowIs (w.heap.size + 1) 188 8 (fun _ => .int .u32 0) := HO0.out.of_block ((hB5.block _ (Nat.lt_of_lt_of_le hlt1 HB2.out.size)).trans (HB2.out.block _ hlt1))
 have gs : W5.heap[w.heap.size]? = some (.cells #[.int .u32 (gI s 0), .int .u32 (gI s 1), .int .u32 (gI s 2), .int .u32 (gI s 3), .int .u32 (gI s 4), .int .u32 (gI s 5), .int .u32 (gI s 6), .int .u32 (gI s 7)] 188 (0, 0)) := row8_heap s5
 have HG := Lib.hid (And.intro g5k (And.intro g5w (And.intro s5 (And.intro o5 hB5))))
 have HZ5 := Lib.hid hz5
 clear g5k g5w s5 o5 hB5 hz5 hlt0 hlt1
 go_upto_region 3 with (first | (refine wpList_load_row rfl 188 _ rfl w.heap.size rfl 188 _ (0, 0) _ gs Tryz.underlying188 rfl kr ?_) | (refine wpList_store_row rfl 188 _ _ rfl W5.heap.size _ rfl rfl 188 _ (heap_alloc_new _ _) kr rfl kr ?_) | fail)
 generalize hW6 : World.setRow (World.alloc W5 _) _ _ = W6
 have r6 : W6.rowIs W5.heap.size 188 8 (fun j => .int .u32 (gI s j)) := by
  subst hW6; exact ⟨_, setRow_heap _ _ _ _ _ (0, 0) (heap_alloc_new _ _), rfl, fun i hi => row8 s i hi⟩
 have hB6 : Below W5.heap.size W5 W6 := by
  subst hW6; exact below_setRow ((Below.refl _ _).alloc (Nat.le_refl _) _) (Nat.le_refl _) _
 clear hW6
 rw [HZ5.out] at r6 ⊢
 have hst : NextAt w W6 w.heap.size w2.heap.size 188 214 s (wordsM b 48) (roundsM (wordsM b 48) s 0) := by
  obtain ⟨g5k, g5w, s5, o5, hB5⟩ := HG.out
  have h2 := HB2.out.size
  have h0 := HO0.out.lt
  have hz := HZ5.out
  have hk := fun (g : Nat) (h : g < W5.heap.size) => hB6.block g h
  refine ⟨?_, by omega, s5.of_block (hk _ s5.lt), o5.of_block (hk _ o5.lt), ?_, ?_, r6⟩
  ·exact ((HB0.out.trans (HB2.out.mono HB0.out.size)).trans (hB5.mono (Nat.le_trans HB0.out.size HB2.out.size))).trans (hB6.mono (by have := HB0.out.size; omega))
  ·exact (World.rowIs.of_block (row_of (by rw [← HW.out]; exact g5w) (wordsM_length b 48)) (hk _ (by omega)))
  exact (World.rowIs.of_block (row_of (by rw [← HK.out]; exact g5k) rfl) (hk _ (by omega)))
 clear r6 hB6 gs
 go_wp2_with fail
 go_loopw [18] (fun i wr => ∃ k : Nat, k ≤ 64 ∧ i = .int .i64 k ∧ NextAt w wr w.heap.size w2.heap.size 188 214 s (wordsM b 48) (roundsM (wordsM b 48) s k)) (fun i _ => 64 - (intOf i).toNat)
 case atStart => exact ⟨0, Nat.zero_le _, rfl, hst⟩
 case round =>
  obtain ⟨k, hk, rfl, hE⟩ := hrel
  by_cases hlt : k < 64
  ·have HR := Lib.hid (show roundsM (wordsM b 48) s (k + 1) = roundM (wordsM b 48) (roundsM (wordsM b 48) s k) k from rfl)
   generalize hr : roundsM (wordsM b 48) s k = r at *
   generalize hw : wordsM b 48 = L at *
   clear hr hw
   have bk : 0 ≤ (k : Int) ∧ (k : Int) < 64 := by omega
   have q0 := hE.r8.cell (show 0 < 8 by omega)
   have q4 := hE.r8.cell (show 4 < 8 by omega)
   have HE := Lib.hid hE; clear hE
   go_wp2_with fail
   go_quiet (fail)
   clear q0 q4
   have hE := HE.out.drewN nq; clear HE
   generalize wr.drewN nq = wq at *
   have q5 := hE.r8.cell (show 5 < 8 by omega)
   have q6 := hE.r8.cell (show 6 < 8 by omega)
   have q7 := hE.r8.cell (show 7 < 8 by omega)
   have pk := hE.k64.cell hlt
   have pw := hE.w64.cell hlt
   have HE := Lib.hid hE; clear hE
   go_upto_region 7 with fail
   go_cut [11] (fun t wx => t = .int .u32 (tM r (gI kM k) (gI L k)) ∧ ∃ n, wx = wq.drewN n)
   case first =>
    go_quiet ((first | (go_at_call_of 157 ((6 : Int)); exact Calls.quiet_of_same (down_any 6 (by omega) (by omega) _ _)) | (go_at_call_of 157 ((11 : Int)); exact Calls.quiet_of_same (down_any 11 (by omega) (by omega) _ _)) | (go_at_call_of 157 ((25 : Int)); exact Calls.quiet_of_same (down_any 25 (by omega) (by omega) _ _))))
    go_step
    go_step
    go_meet
    exact ⟨tM_walk r _ _, _, rfl⟩
   case rest =>
    obtain ⟨rfl, n, rfl⟩ := hcut
    clear q5 q6 q7 pk pw
    have hE := HE.out.drewN n; clear HE
    generalize wq.drewN n = wq2 at *
    have q1 := hE.r8.cell (show 1 < 8 by omega)
    have q2 := hE.r8.cell (show 2 < 8 by omega)
    have HE := Lib.hid hE; clear hE
    go_upto_region 8 with fail
    go_cut [12] (fun t wx => t = .int .u32 (uM r) ∧ ∃ n, wx = wq2.drewN n)
    case first =>
     go_quiet ((first | (go_at_call_of 157 ((2 : Int)); exact Calls.quiet_of_same (down_any 2 (by omega) (by omega) _ _)) | (go_at_call_of 157 ((13 : Int)); exact Calls.quiet_of_same (down_any 13 (by omega) (by omega) _ _)) | (go_at_call_of 157 ((22 : Int)); exact Calls.quiet_of_same (down_any 22 (by omega) (by omega) _ _))))
     go_step
     go_step
     go_meet
     exact ⟨uM_walk r, _, rfl⟩
    case rest =>
     obtain ⟨rfl, n, rfl⟩ := hcut
     clear q1 q2
     have hE := HE.out.drewN n; clear HE
     generalize wq2.drewN n = wq3 at *
     have q1 := hE.r8.cell (show 1 < 8 by omega)
     have q2 := hE.r8.cell (show 2 < 8 by omega)
     have q3 := hE.r8.cell (show 3 < 8 by omega)
     have q5 := hE.r8.cell (show 5 < 8 by omega)
     have q6 := hE.r8.cell (show 6 < 8 by omega)
     have g8 := row8_heap hE.r8
     have HE := Lib.hid hE; clear hE
     obtain ⟨uu, hu⟩ : ∃ x, x = uM r := ⟨_, rfl⟩
     obtain ⟨tt, ht⟩ : ∃ x, x = tM r (gI kM k) (gI L k) := ⟨_, rfl⟩
     rw [← hu, ← ht]
     have HU := Lib.hid (And.intro hu ht)
     clear hu ht
     go_wp2_with (first | (refine wpList_store_row rfl 188 _ _ rfl (w2.heap.size + 2) _ rfl rfl 188 _ g8 kr rfl (all8 _ _ _ _ _ _ _ _) ?_) | fail)
     go_roundw
     case rel =>
      refine ⟨k + 1, by omega, by go_num, ?_⟩
      rw [HR.out]
      unfold roundM turnM
      rw [← HU.out.1, ← HU.out.2]
      exact HE.out.turn _ _ _ _ _ _ _ _
     case measure => simp [intOf]; omega
  obtain rfl : k = 64 := by omega
  simp only [show ((64 : Nat) : Int) = 64 from rfl]
  have HE : Hid (NextAt w wr w.heap.size w2.heap.size 188 214 s (wordsM b 48) (sumTo (roundsM (wordsM b 48) s 64) s 0)) := Lib.hid (hE.start)
  clear hE hst
  have HM := Lib.hid (show stepM s b = sumTo (roundsM (wordsM b 48) s 64) s 8 from rfl)
  generalize wordsM b 48 = L at *
  generalize roundsM L s 64 = r at *
  go_wp2_with fail
  go_loopw [98] (fun i wr => ∃ k : Nat, k ≤ 8 ∧ i = .int .i64 k ∧ NextAt w wr w.heap.size w2.heap.size 188 214 s L (sumTo r s k)) (fun i _ => 8 - (intOf i).toNat)
  case atStart => exact ⟨0, Nat.zero_le _, rfl, HE.out⟩
  case round =>
   obtain ⟨k, hk, rfl, hE⟩ := hrel
   by_cases hlt : k < 8
   ·have bk : 0 ≤ (k : Int) ∧ (k : Int) < 8 := by omega
    have q := hE.r8.cell hlt
    rw [sumTo_get r s k k hlt, if_neg (by omega)] at q
    have p := hE.s0.cell hlt
    have HE := Lib.hid hE; clear hE
    go_wp2_with fail
    refine wp_region_still_tail 8 kr kr ?_
    simp only [List.take_succ_cons, List.take_zero, List.drop_succ_cons, List.drop_zero]
    change wpStill _ _ (World.drew _) _ _ _
    repeat still_step
    refine wpStill_nil ?_
    have f1 := HE.out.drew.r8.frozen k
    have p1 := HE.out.drew.r8.cell hlt
    go_wp2_with fail
    go_roundw
    case rel =>
     exact ⟨k + 1, by omega, by go_num, HE.out.drew.add⟩
    case measure => simp [intOf]; omega
   obtain rfl : k = 8 := by omega
   have g1 := row8_heap hE.r8
   obtain ⟨old, g0, hold⟩ := row_any hE.o
   have HN := Lib.hid hE
   clear hE
   go_wp2_with (first | (refine wpList_load_row rfl 188 _ rfl (w2.heap.size + 2) rfl 188 _ (0, 0) _ g1 Tryz.underlying188 rfl kr ?_) | (refine wpList_store_row rfl 188 _ _ rfl (w.heap.size + 1) _ rfl rfl 188 old g0 kr hold (all8 _ _ _ _ _ _ _ _) ?_) | fail)
   have hB9 := below_setRow HN.out.below (show w.heap.size ≤ w.heap.size + 1 by omega) #[Value.int .u32 (gI (sumTo r s 8) 0), .int .u32 (gI (sumTo r s 8) 1), .int .u32 (gI (sumTo r s 8) 2), .int .u32 (gI (sumTo r s 8) 3), .int .u32 (gI (sumTo r s 8) 4), .int .u32 (gI (sumTo r s 8) 5), .int .u32 (gI (sumTo r s 8) 6), .int .u32 (gI (sumTo r s 8) 7)]
   have g9 := setRow_heap wr (w.heap.size + 1) old #[Value.int .u32 (gI (sumTo r s 8) 0), .int .u32 (gI (sumTo r s 8) 1), .int .u32 (gI (sumTo r s 8) 2), .int .u32 (gI (sumTo r s 8) 3), .int .u32 (gI (sumTo r s 8) 4), .int .u32 (gI (sumTo r s 8) 5), .int .u32 (gI (sumTo r s 8) 6), .int .u32 (gI (sumTo r s 8) 7)] 188 (0, 0) g0
   (try simp only [Exit.inBlock, Exit.then])
   refine bodyPost_ret (v := agg8 (sumTo r s 8)) ?_ rfl ⟨by rw [HM.out]; rfl, hB9⟩
   exact results_cell_row rfl _ _ (w.heap.size + 1) 188 _ (0, 0) _ rfl g9 Tryz.underlying188 rfl kr
end Go.Proofs.YtngbglhmiefcpaaGreat
