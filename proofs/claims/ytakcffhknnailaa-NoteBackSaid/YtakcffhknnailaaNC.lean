/- Contracts of layer 10: the shapes of notes, of the program and of the reference. Conditions: none. -/
import Derived.Test.YtakcffhknnailaaNB
set_option linter.unusedVariables false
set_option linter.unusedSimpArgs false
namespace Go.Proofs.Ytakcffhknnailaa
open Go.RowKit

/-- what a kind has -/
structure Sh where
  name : List UInt8
  n : Int
  ns : Int
  i : Int
  is : Int
  b : Int
  bs : Int
def shTab : List Sh := [⟨[98, 101, 103, 105, 110], 3, 3, 0, 0, 0, 0⟩, ⟨[112, 97, 114, 116], 1, 1, 0, 0, 1, 1000⟩, ⟨[113, 117, 101, 114, 121], 0, 0, 1, 16, 0, 0⟩, ⟨[103, 105, 118, 101], 0, 0, 1, 1, 1, 1024⟩, ⟨[99, 111, 109, 109, 105, 116], 0, 0, 0, 0, 0, 0⟩, ⟨[97, 98, 111, 114, 116], 0, 0, 0, 0, 0, 0⟩, ⟨[108, 105, 115, 116], 0, 0, 0, 0, 0, 0⟩, ⟨[114, 101, 115, 116, 111, 114, 101], 1, 1, 0, 0, 0, 0⟩, ⟨[109, 111, 114, 101], 1, 1, 0, 0, 0, 0⟩, ⟨[102, 101, 116, 99, 104], 0, 0, 1, 16, 0, 0⟩, ⟨[118, 101, 114, 105, 102, 121], 1, 1, 0, 0, 0, 0⟩, ⟨[102, 111, 114, 103, 101, 116], 1, 1, 0, 0, 0, 0⟩, ⟨[112, 114, 117, 110, 101], 0, 0, 0, 0, 0, 0⟩, ⟨[117, 115, 97, 103, 101], 0, 0, 0, 0, 0, 0⟩, ⟨[112, 105, 110, 103], 1, 1, 0, 0, 0, 0⟩, ⟨[114, 101, 97, 100, 121], 1, 1, 0, 0, 0, 0⟩, ⟨[104, 97, 118, 101], 1, 16, 0, 0, 0, 0⟩, ⟨[116, 111, 111, 107], 0, 0, 1, 1, 0, 0⟩, ⟨[100, 111, 110, 101], 1, 1, 0, 0, 0, 0⟩, ⟨[102, 97, 105, 108], 2, 2, 0, 0, 0, 0⟩, ⟨[115, 110, 97, 112, 115], 0, 128, 0, 0, 0, 0⟩, ⟨[112, 105, 101, 99, 101], 2, 2, 0, 0, 0, 1000⟩, ⟨[99, 104, 117, 110, 107], 0, 0, 1, 1, 1, 1024⟩, ⟨[99, 111, 117, 110, 116], 2, 2, 0, 0, 0, 0⟩]
def shM (k : Int) : Option Sh := if 1 ≤ k ∧ k ≤ 24 then shTab[(k - 1).toNat]? else none
def rowS (s : Sh) : List Value := [.string (sB s.name), .int .i64 s.n, .int .i64 s.ns, .int .i64 s.i, .int .i64 s.is, .int .i64 s.b, .int .i64 s.bs]
def sh0 : Sh := ⟨[], 0, 0, 0, 0, 0, 0⟩
def shD (k : Int) : Sh := (shM k).getD sh0
def shCells : List Value := [.string ⟨#[]⟩, .int .i64 0, .int .i64 0, .int .i64 0, .int .i64 0, .int .i64 0, .int .i64 0, .string ⟨#[98, 101, 103, 105, 110]⟩, .int .i64 3, .int .i64 3, .int .i64 0, .int .i64 0, .int .i64 0, .int .i64 0, .string ⟨#[112, 97, 114, 116]⟩, .int .i64 1, .int .i64 1, .int .i64 0, .int .i64 0, .int .i64 1, .int .i64 1000, .string ⟨#[113, 117, 101, 114, 121]⟩, .int .i64 0, .int .i64 0, .int .i64 1, .int .i64 16, .int .i64 0, .int .i64 0, .string ⟨#[103, 105, 118, 101]⟩, .int .i64 0, .int .i64 0, .int .i64 1, .int .i64 1, .int .i64 1, .int .i64 1024, .string ⟨#[99, 111, 109, 109, 105, 116]⟩, .int .i64 0, .int .i64 0, .int .i64 0, .int .i64 0, .int .i64 0, .int .i64 0, .string ⟨#[97, 98, 111, 114, 116]⟩, .int .i64 0, .int .i64 0, .int .i64 0, .int .i64 0, .int .i64 0, .int .i64 0, .string ⟨#[108, 105, 115, 116]⟩, .int .i64 0, .int .i64 0, .int .i64 0, .int .i64 0, .int .i64 0, .int .i64 0, .string ⟨#[114, 101, 115, 116, 111, 114, 101]⟩, .int .i64 1, .int .i64 1, .int .i64 0, .int .i64 0, .int .i64 0, .int .i64 0, .string ⟨#[109, 111, 114, 101]⟩, .int .i64 1, .int .i64 1, .int .i64 0, .int .i64 0, .int .i64 0, .int .i64 0, .string ⟨#[102, 101, 116, 99, 104]⟩, .int .i64 0, .int .i64 0, .int .i64 1, .int .i64 16, .int .i64 0, .int .i64 0, .string ⟨#[118, 101, 114, 105, 102, 121]⟩, .int .i64 1, .int .i64 1, .int .i64 0, .int .i64 0, .int .i64 0, .int .i64 0, .string ⟨#[102, 111, 114, 103, 101, 116]⟩, .int .i64 1, .int .i64 1, .int .i64 0, .int .i64 0, .int .i64 0, .int .i64 0, .string ⟨#[112, 114, 117, 110, 101]⟩, .int .i64 0, .int .i64 0, .int .i64 0, .int .i64 0, .int .i64 0, .int .i64 0, .string ⟨#[117, 115, 97, 103, 101]⟩, .int .i64 0, .int .i64 0, .int .i64 0, .int .i64 0, .int .i64 0, .int .i64 0, .string ⟨#[112, 105, 110, 103]⟩, .int .i64 1, .int .i64 1, .int .i64 0, .int .i64 0, .int .i64 0, .int .i64 0, .string ⟨#[114, 101, 97, 100, 121]⟩, .int .i64 1, .int .i64 1, .int .i64 0, .int .i64 0, .int .i64 0, .int .i64 0, .string ⟨#[104, 97, 118, 101]⟩, .int .i64 1, .int .i64 16, .int .i64 0, .int .i64 0, .int .i64 0, .int .i64 0, .string ⟨#[116, 111, 111, 107]⟩, .int .i64 0, .int .i64 0, .int .i64 1, .int .i64 1, .int .i64 0, .int .i64 0, .string ⟨#[100, 111, 110, 101]⟩, .int .i64 1, .int .i64 1, .int .i64 0, .int .i64 0, .int .i64 0, .int .i64 0, .string ⟨#[102, 97, 105, 108]⟩, .int .i64 2, .int .i64 2, .int .i64 0, .int .i64 0, .int .i64 0, .int .i64 0, .string ⟨#[115, 110, 97, 112, 115]⟩, .int .i64 0, .int .i64 128, .int .i64 0, .int .i64 0, .int .i64 0, .int .i64 0, .string ⟨#[112, 105, 101, 99, 101]⟩, .int .i64 2, .int .i64 2, .int .i64 0, .int .i64 0, .int .i64 0, .int .i64 1000, .string ⟨#[99, 104, 117, 110, 107]⟩, .int .i64 0, .int .i64 0, .int .i64 1, .int .i64 1, .int .i64 1, .int .i64 1024, .string ⟨#[99, 111, 117, 110, 116]⟩, .int .i64 2, .int .i64 2, .int .i64 0, .int .i64 0, .int .i64 0, .int .i64 0]
def refCells : List Value := [.string ⟨#[98, 101, 103, 105, 110]⟩, .int .i64 3, .int .i64 3, .int .i64 0, .int .i64 0, .int .i64 0, .int .i64 0, .string ⟨#[112, 97, 114, 116]⟩, .int .i64 1, .int .i64 1, .int .i64 0, .int .i64 0, .int .i64 1, .int .i64 1000, .string ⟨#[113, 117, 101, 114, 121]⟩, .int .i64 0, .int .i64 0, .int .i64 1, .int .i64 16, .int .i64 0, .int .i64 0, .string ⟨#[103, 105, 118, 101]⟩, .int .i64 0, .int .i64 0, .int .i64 1, .int .i64 1, .int .i64 1, .int .i64 1024, .string ⟨#[99, 111, 109, 109, 105, 116]⟩, .int .i64 0, .int .i64 0, .int .i64 0, .int .i64 0, .int .i64 0, .int .i64 0, .string ⟨#[97, 98, 111, 114, 116]⟩, .int .i64 0, .int .i64 0, .int .i64 0, .int .i64 0, .int .i64 0, .int .i64 0, .string ⟨#[108, 105, 115, 116]⟩, .int .i64 0, .int .i64 0, .int .i64 0, .int .i64 0, .int .i64 0, .int .i64 0, .string ⟨#[114, 101, 115, 116, 111, 114, 101]⟩, .int .i64 1, .int .i64 1, .int .i64 0, .int .i64 0, .int .i64 0, .int .i64 0, .string ⟨#[109, 111, 114, 101]⟩, .int .i64 1, .int .i64 1, .int .i64 0, .int .i64 0, .int .i64 0, .int .i64 0, .string ⟨#[102, 101, 116, 99, 104]⟩, .int .i64 0, .int .i64 0, .int .i64 1, .int .i64 16, .int .i64 0, .int .i64 0, .string ⟨#[118, 101, 114, 105, 102, 121]⟩, .int .i64 1, .int .i64 1, .int .i64 0, .int .i64 0, .int .i64 0, .int .i64 0, .string ⟨#[102, 111, 114, 103, 101, 116]⟩, .int .i64 1, .int .i64 1, .int .i64 0, .int .i64 0, .int .i64 0, .int .i64 0, .string ⟨#[112, 114, 117, 110, 101]⟩, .int .i64 0, .int .i64 0, .int .i64 0, .int .i64 0, .int .i64 0, .int .i64 0, .string ⟨#[117, 115, 97, 103, 101]⟩, .int .i64 0, .int .i64 0, .int .i64 0, .int .i64 0, .int .i64 0, .int .i64 0, .string ⟨#[112, 105, 110, 103]⟩, .int .i64 1, .int .i64 1, .int .i64 0, .int .i64 0, .int .i64 0, .int .i64 0, .string ⟨#[114, 101, 97, 100, 121]⟩, .int .i64 1, .int .i64 1, .int .i64 0, .int .i64 0, .int .i64 0, .int .i64 0, .string ⟨#[104, 97, 118, 101]⟩, .int .i64 1, .int .i64 16, .int .i64 0, .int .i64 0, .int .i64 0, .int .i64 0, .string ⟨#[116, 111, 111, 107]⟩, .int .i64 0, .int .i64 0, .int .i64 1, .int .i64 1, .int .i64 0, .int .i64 0, .string ⟨#[100, 111, 110, 101]⟩, .int .i64 1, .int .i64 1, .int .i64 0, .int .i64 0, .int .i64 0, .int .i64 0, .string ⟨#[102, 97, 105, 108]⟩, .int .i64 2, .int .i64 2, .int .i64 0, .int .i64 0, .int .i64 0, .int .i64 0, .string ⟨#[115, 110, 97, 112, 115]⟩, .int .i64 0, .int .i64 128, .int .i64 0, .int .i64 0, .int .i64 0, .int .i64 0, .string ⟨#[112, 105, 101, 99, 101]⟩, .int .i64 2, .int .i64 2, .int .i64 0, .int .i64 0, .int .i64 0, .int .i64 1000, .string ⟨#[99, 104, 117, 110, 107]⟩, .int .i64 0, .int .i64 0, .int .i64 1, .int .i64 1, .int .i64 1, .int .i64 1024, .string ⟨#[99, 111, 117, 110, 116]⟩, .int .i64 2, .int .i64 2, .int .i64 0, .int .i64 0, .int .i64 0, .int .i64 0]
theorem shM_in {k : Int} {s : Sh} (h : shM k = some s) : 1 ≤ k ∧ k ≤ 24 ∧ shTab[(k - 1).toNat]? = some s := by
  unfold shM at h
  split at h
  · rename_i h1
    exact ⟨h1.1, h1.2, h⟩
  · cases h
theorem shM_out {k : Int} (h : shM k = none) : k < 1 ∨ 24 < k := by
  unfold shM at h
  split at h
  · rename_i h1
    have : (k - 1).toNat < shTab.length := by show _ < 24; omega
    rw [List.getElem?_eq_getElem this] at h
    cases h
  · omega
theorem shM_far {k : Int} (h : k < 1 ∨ 24 < k) : shM k = none := if_neg (by omega)
theorem shM_near {k : Int} (h : 1 ≤ k) (h2 : k ≤ 24) : ∃ s, shM k = some s := by
  cases e : shM k with
  | some s => exact ⟨s, rfl⟩
  | none => have := shM_out e; omega
theorem shRow {j : Nat} {s : Sh} (h : shTab[j]? = some s) : (shCells.drop ((j + 1) * 7)).take 7 = rowS s ∧ (refCells.drop (j * 7)).take 7 = rowS s := by
  have hj : j < 24 := (List.getElem?_eq_some_iff.1 h).1
  have : j = 0 ∨ j = 1 ∨ j = 2 ∨ j = 3 ∨ j = 4 ∨ j = 5 ∨ j = 6 ∨ j = 7 ∨ j = 8 ∨ j = 9 ∨ j = 10 ∨ j = 11 ∨ j = 12 ∨ j = 13 ∨ j = 14 ∨ j = 15 ∨ j = 16 ∨ j = 17 ∨ j = 18 ∨ j = 19 ∨ j = 20 ∨ j = 21 ∨ j = 22 ∨ j = 23 := by omega
  rcases this with rfl | rfl | rfl | rfl | rfl | rfl | rfl | rfl | rfl | rfl | rfl | rfl | rfl | rfl | rfl | rfl | rfl | rfl | rfl | rfl | rfl | rfl | rfl | rfl <;> (injection h with h; subst h; exact ⟨rfl, rfl⟩)
theorem shOk {j : Nat} {s : Sh} (h : shTab[j]? = some s) : 0 ≤ s.n ∧ s.n ≤ s.ns ∧ s.ns ≤ 128 ∧ 0 ≤ s.i ∧ s.i ≤ s.is ∧ s.is ≤ 16 ∧ 0 ≤ s.b ∧ s.b ≤ s.bs ∧ s.bs ≤ 1024 ∧ s.name ≠ [] := by
  have hj : j < 24 := (List.getElem?_eq_some_iff.1 h).1
  have : j = 0 ∨ j = 1 ∨ j = 2 ∨ j = 3 ∨ j = 4 ∨ j = 5 ∨ j = 6 ∨ j = 7 ∨ j = 8 ∨ j = 9 ∨ j = 10 ∨ j = 11 ∨ j = 12 ∨ j = 13 ∨ j = 14 ∨ j = 15 ∨ j = 16 ∨ j = 17 ∨ j = 18 ∨ j = 19 ∨ j = 20 ∨ j = 21 ∨ j = 22 ∨ j = 23 := by omega
  rcases this with rfl | rfl | rfl | rfl | rfl | rfl | rfl | rfl | rfl | rfl | rfl | rfl | rfl | rfl | rfl | rfl | rfl | rfl | rfl | rfl | rfl | rfl | rfl | rfl <;> (injection h with h; subst h; decide)
set_option maxRecDepth 20000 in

theorem of_tr (k : Int) : Tr Try.prog 75 #[.int .i64 k] [] [] (T0 (.agg #[.int .i64 k, .int .i64 k])) := by
  refine Tr.of (l := [(0, .int .i64 k)]) Try.func75 rfl (n := 6) rfl (.cons rfl .nil) (fun w0 hro => ?_)
  refine G.seq ?_
  refine G.region ?_
  refine G.op rfl (G.alloc (z := .agg #[.int .i64 0, .int .i64 0]) (cs := [.int .i64 0, .int .i64 0]) rfl (by kernel_rfl) rfl ?_)
  intro b2
  refine G.nil ?_
  refine G.nThen ?_
  refine G.seq ?_
  refine G.region ?_
  refine G.op rfl (G.val rfl rfl (pv_move rfl) ?_)
  refine G.op rfl (G.val rfl rfl (pv_move rfl) ?_)
  refine G.op rfl (G.val rfl rfl (pv_buildSt (z := [.int .i64 0, .int .i64 0]) (pl := [(0, 1), (1, 1)]) Try.underlying69 (by kernel_rfl) (by kernel_rfl) rfl (by repeat (first | exact Fl.nil | (apply Fl.cons; exact rfl; (first | exact cells_of (by first | rfl | assumption) | exact rfl); exact rfl; exact rfl; repeat (first | exact Sn.nil | (apply Sn.cons; repeat (first | exact St.zero | apply St.succ))))))) ?_)
  refine G.op rfl (G.storeN (by kernel_rfl) rfl rfl (by first | rfl | exact List.all_eq_true.2 (vByte_one _) | (repeat (first | exact all1_nil | (apply all1_cons; first | rfl | assumption)))) (by repeat (first | with_reducible exact Sel.here | exact Sel.here | apply Sel.there)) (by first | (simp; done) | exact Nat.le_of_ble_eq_true rfl) ?_)
  refine G.nil ?_
  refine G.nThen ?_
  refine G.ret ?_
  exact G.done0G rfl (Rv.cellN (cs := [_, _]) rfl Try.underlying69 rfl (by kernel_rfl) (by first | exact blk_range (k := 2) (by (repeat (first | with_reducible exact Sel.here | exact Sel.here | apply Sel.there)); done) (by rfl)) Rv.nil) (by first | rfl | exact int_eq (by omega) | (simp; done))
set_option maxRecDepth 20000 in

theorem has_tr (a b k : Int) : Tr Try.prog 43 #[.agg #[.int .i64 a, .int .i64 b], .int .i64 k] [] [] (T0 (.bool (decide (a ≤ k ∧ k ≤ b)))) := by
  refine Tr.of (l := [(0, .agg #[.int .i64 a, .int .i64 b]), (1, .int .i64 k)]) Try.func43 rfl (n := 15) rfl (.cons rfl (.cons rfl .nil)) (fun w0 hro => ?_)
  refine G.seq ?_
  refine G.region ?_
  refine G.op rfl (G.box rfl rfl (cs := [_, _]) rfl ?_)
  intro b2
  refine G.op rfl (G.val rfl rfl (pv_assign rfl) ?_)
  refine G.nil ?_
  refine G.nThen ?_
  refine G.seq ?_
  refine G.region ?_
  refine G.op rfl (G.val rfl rfl (pv_fieldAddrK (sz := 0) (k := 0) Try.underlying69 rfl (by kernel_rfl) rfl rfl) ?_)
  refine G.op rfl (G.val rfl rfl (pv_load Try.underlying3 rfl rfl (by first | exact blk_cell (by (repeat (first | with_reducible exact Sel.here | exact Sel.here | apply Sel.there)); done) (by rfl) | exact rng_cell (by (repeat (first | with_reducible exact Sel.here | exact Sel.here | apply Sel.there)); done) (by rfl) | exact ro_blk (by assumption) (by rfl) | exact ro_rngC (by assumption) (by rfl) | exact ro_int (by assumption) | exact ro_byte (by assumption) | exact ro_str (by assumption) | assumption)) ?_)
  refine G.op rfl (G.val rfl rfl (pv_move rfl) ?_)
  refine G.op rfl (G.val rfl rfl (pv_leq rfl rfl) ?_)
  refine G.op rfl (G.val rfl rfl (pv_move rfl) ?_)
  refine G.partP (t := 9) rfl (fun h9 => ?_) (fun h9 => ?_)
  · refine G.want rfl rfl rfl (G.val rfl rfl (pv_move rfl) ?_)
    refine G.want rfl rfl rfl (G.val rfl rfl (pv_fieldAddrK (sz := 0) (k := 1) Try.underlying69 rfl (by kernel_rfl) rfl rfl) ?_)
    refine G.want rfl rfl rfl (G.val rfl rfl (pv_load Try.underlying3 rfl rfl (by first | exact blk_cell (by (repeat (first | with_reducible exact Sel.here | exact Sel.here | apply Sel.there)); done) (by rfl) | exact rng_cell (by (repeat (first | with_reducible exact Sel.here | exact Sel.here | apply Sel.there)); done) (by rfl) | exact ro_blk (by assumption) (by rfl) | exact ro_rngC (by assumption) (by rfl) | exact ro_int (by assumption) | exact ro_byte (by assumption) | exact ro_str (by assumption) | assumption)) ?_)
    refine G.want rfl rfl rfl (G.val rfl rfl (pv_leq rfl rfl) ?_)
    refine G.op rfl (G.val rfl rfl (pv_pick rfl rfl) ?_)
    refine G.op rfl (G.val rfl rfl (pv_assign rfl) ?_)
    refine G.nil ?_
    refine G.nThen ?_
    refine G.ret ?_
    exact G.done1 rfl rfl .nil ⟨congrArg Value.bool (by simp [*]), rfl⟩
  · refine G.pass rfl rfl rfl rfl rfl rfl ?_
    refine G.pass rfl rfl rfl rfl rfl rfl ?_
    refine G.pass rfl rfl rfl rfl rfl rfl ?_
    refine G.pass rfl rfl rfl rfl rfl rfl ?_
    refine G.op rfl (G.val rfl rfl (pv_pick rfl rfl) ?_)
    refine G.op rfl (G.val rfl rfl (pv_assign rfl) ?_)
    refine G.nil ?_
    refine G.nThen ?_
    refine G.ret ?_
    exact G.done1 rfl rfl .nil ⟨congrArg Value.bool (by simp [*]), rfl⟩
set_option maxRecDepth 20000 in

theorem within_tr (k a b : Int) : Tr Try.prog 44 #[.int .i64 k, .int .i64 a, .int .i64 b] [] [] (T0 (.bool (decide (a ≤ k ∧ k ≤ b)))) := by
  refine Tr.of (l := [(0, .int .i64 k), (1, .int .i64 a), (2, .int .i64 b)]) Try.func44 rfl (n := 15) rfl (.cons rfl (.cons rfl (.cons rfl .nil))) (fun w0 hro => ?_)
  refine G.seq ?_
  refine G.region ?_
  refine G.op rfl (G.val rfl rfl (pv_assign rfl) ?_)
  refine G.nil ?_
  refine G.nThen ?_
  refine G.seq ?_
  refine G.region ?_
  refine G.op rfl (G.val rfl rfl (pv_move rfl) ?_)
  refine G.op rfl (G.val rfl rfl (pv_move rfl) ?_)
  refine G.op rfl (G.val rfl rfl (pv_geq rfl rfl) ?_)
  refine G.op rfl (G.val rfl rfl (pv_move rfl) ?_)
  refine G.partP (t := 10) rfl (fun h10 => ?_) (fun h10 => ?_)
  · refine G.want rfl rfl rfl (G.val rfl rfl (pv_move rfl) ?_)
    refine G.want rfl rfl rfl (G.val rfl rfl (pv_move rfl) ?_)
    refine G.want rfl rfl rfl (G.val rfl rfl (pv_leq rfl rfl) ?_)
    refine G.op rfl (G.val rfl rfl (pv_pick rfl rfl) ?_)
    refine G.op rfl (G.val rfl rfl (pv_assign rfl) ?_)
    refine G.nil ?_
    refine G.nThen ?_
    refine G.ret ?_
    exact G.done1 rfl rfl .nil ⟨congrArg Value.bool (by simp [*]), rfl⟩
  · refine G.pass rfl rfl rfl rfl rfl rfl ?_
    refine G.pass rfl rfl rfl rfl rfl rfl ?_
    refine G.pass rfl rfl rfl rfl rfl rfl ?_
    refine G.op rfl (G.val rfl rfl (pv_pick rfl rfl) ?_)
    refine G.op rfl (G.val rfl rfl (pv_assign rfl) ?_)
    refine G.nil ?_
    refine G.nThen ?_
    refine G.ret ?_
    exact G.done1 rfl rfl .nil ⟨congrArg Value.bool (by simp [*]), rfl⟩
set_option maxRecDepth 100000 in
set_option maxHeartbeats 4000000 in

theorem shapes_tr : Tr Try.prog 64 #[] [] [] (TX (fun _ : Nat => True) (fun b => .pointer (some ⟨b, 0, none⟩)) (fun b => [blk b 102 shCells])) := by
  refine Tr.of (l := []) Try.func64 rfl (n := 101) rfl Fa.nil (fun w0 hro => ?_)
  refine G.seq ?_
  refine G.region ?_
  refine G.op rfl (G.val rfl rfl (pv_assign rfl) ?_)
  refine G.nil ?_
  refine G.nThen ?_
  refine G.seq ?_
  refine G.region ?_
  refine G.op rfl (G.val rfl rfl (pv_buildSt (z := [.int .i64 0, .int .i64 0]) (pl := [(0, 1), (1, 1)]) Try.underlying69 (by kernel_rfl) (by kernel_rfl) rfl (by repeat (first | exact Fl.nil | (apply Fl.cons; exact rfl; (first | exact cells_of (by first | rfl | assumption) | exact rfl); exact rfl; exact rfl; repeat (first | exact Sn.nil | (apply Sn.cons; repeat (first | exact St.zero | apply St.succ))))))) ?_)
  refine G.op rfl (G.alloc (z := .agg #[.int .i64 0, .int .i64 0]) (cs := [.int .i64 0, .int .i64 0]) rfl (by kernel_rfl) rfl ?_)
  intro b1
  refine G.op rfl (G.storeN (by kernel_rfl) rfl rfl (by first | rfl | exact List.all_eq_true.2 (vByte_one _) | (repeat (first | exact all1_nil | (apply all1_cons; first | rfl | assumption)))) (by repeat (first | with_reducible exact Sel.here | exact Sel.here | apply Sel.there)) (by first | (simp; done) | exact Nat.le_of_ble_eq_true rfl) ?_)
  refine G.nil ?_
  refine G.nThen ?_
  refine G.seq ?_
  refine G.drawT (nn := 99) (p := []) (rem := 633825300114114700748351602687) [0, 1, 2, 7, 4, 16, 0, 112, 32, 0, 256, 1792, 1024, 4096, 0, 28672, 8192, 65536, 131072, 458752, 262144, 1048576, 2097152, 7340032, 4194304, 16777216, 33554432, 117440512, 67108864, 268435456, 536870912, 1879048192, 1073741824, 4294967296, 8589934592, 30064771072, 17179869184, 0, 68719476736, 481036337152, 274877906944, 1099511627776, 2199023255552, 7696581394432, 4398046511104, 17592186044416, 35184372088832, 123145302310912, 70368744177664, 281474976710656, 562949953421312, 1970324836974592, 1125899906842624, 4503599627370496, 9007199254740992, 31525197391593472, 18014398509481984, 72057594037927936, 144115188075855872, 504403158265495552, 288230376151711744, 1152921504606846976, 2305843009213693952, 8070450532247928832, 0, 4611686018427387904, 36893488147419103232, 129127208515966861312, 73786976294838206464, 295147905179352825856, 590295810358705651712, 2066035336255469780992, 1180591620717411303424, 4722366482869645213696, 9444732965739290427392, 33056565380087516495872, 18889465931478580854784, 75557863725914323419136, 151115727451828646838272, 528905046081400263933952, 0, 302231454903657293676544, 2417851639229258349412352, 8462480737302404222943232, 4835703278458516698824704, 19342813113834066795298816, 0, 135399691796838467567091712, 38685626227668133590597632, 309485009821345068724781056, 0, 2166395068749415481073467392, 618970019642690137449562112, 4951760157141521099596496896, 9903520314283042199192993792, 34662321099990647697175478272, 42255020007607646716556773512, 79228162514264337593543950336, 316912650057057350374175801343] [0, 0, 0, 7, 0, 0, 0, 112, 0, 0, 0, 1792, 0, 0, 0, 28672, 0, 0, 0, 458752, 0, 0, 0, 7340032, 0, 0, 0, 117440512, 0, 0, 0, 1879048192, 0, 0, 0, 30064771072, 0, 0, 0, 481036337152, 0, 0, 0, 7696581394432, 0, 0, 0, 123145302310912, 0, 0, 0, 1970324836974592, 0, 0, 0, 31525197391593472, 0, 0, 0, 504403158265495552, 0, 0, 0, 8070450532247928832, 0, 0, 0, 129127208515966861312, 0, 0, 0, 2066035336255469780992, 0, 0, 0, 33056565380087516495872, 0, 0, 0, 528905046081400263933952, 0, 0, 0, 8462480737302404222943232, 0, 0, 0, 135399691796838467567091712, 0, 0, 0, 2166395068749415481073467392, 0, 0, 0, 34662321099990647697175478272, 42255020007607646716556773512, 79228162514264337593543950336, 158456325028528675187087900672] (by kernel_rfl) ⟨rfl, by kernel_rfl, by kernel_rfl⟩ (by repeat (first | exact Sub.nil | (apply Sub.cons; (repeat (first | with_reducible exact Sel.here | exact Sel.here | apply Sel.there))))) (by kernel_rfl) (fun hT2 => ?_)
  refine G.takeT hT2 (i := 6) (rem' := 633825300114114700748351602623) rfl rfl rfl (by kernel_rfl) (fun _ _ _ h => h) rfl (pv_buildSt (z := [.int .i64 0, .int .i64 0]) (pl := [(0, 1), (1, 1)]) Try.underlying69 (by kernel_rfl) (by kernel_rfl) rfl (by repeat (first | exact Fl.nil | (apply Fl.cons; exact rfl; (first | exact cells_of (by first | rfl | assumption) | exact rfl); exact rfl; exact rfl; repeat (first | exact Sn.nil | (apply Sn.cons; repeat (first | exact St.zero | apply St.succ))))))) (by repeat (first | exact Sub.nil | (apply Sub.cons; (repeat (first | with_reducible exact Sel.here | exact Sel.here | apply Sel.there))))) ?_
  refine G.takeT hT2 (i := 14) (rem' := 633825300114114700748351586239) rfl rfl rfl (by kernel_rfl) (fun _ _ _ h => h) rfl (pv_buildSt (z := [.int .i64 0, .int .i64 0]) (pl := [(0, 1), (1, 1)]) Try.underlying69 (by kernel_rfl) (by kernel_rfl) rfl (by repeat (first | exact Fl.nil | (apply Fl.cons; exact rfl; (first | exact cells_of (by first | rfl | assumption) | exact rfl); exact rfl; exact rfl; repeat (first | exact Sn.nil | (apply Sn.cons; repeat (first | exact St.zero | apply St.succ))))))) (by repeat (first | exact Sub.nil | (apply Sub.cons; (repeat (first | with_reducible exact Sel.here | exact Sel.here | apply Sel.there))))) ?_
  refine G.takeT hT2 (i := 80) (rem' := 633824091188295086119176880063) rfl rfl rfl (by kernel_rfl) (fun _ _ _ h => h) rfl (pv_buildSt (z := [.int .i64 0, .int .i64 0]) (pl := [(0, 1), (1, 1)]) Try.underlying69 (by kernel_rfl) (by kernel_rfl) rfl (by repeat (first | exact Fl.nil | (apply Fl.cons; exact rfl; (first | exact cells_of (by first | rfl | assumption) | exact rfl); exact rfl; exact rfl; repeat (first | exact Sn.nil | (apply Sn.cons; repeat (first | exact St.zero | apply St.succ))))))) (by repeat (first | exact Sub.nil | (apply Sub.cons; (repeat (first | with_reducible exact Sel.here | exact Sel.here | apply Sel.there))))) ?_
  refine G.takeT hT2 (i := 86) (rem' := 633746719935839749851995684799) rfl rfl rfl (by kernel_rfl) (fun _ _ _ h => h) rfl (pv_buildSt (z := [.int .i64 0, .int .i64 0]) (pl := [(0, 1), (1, 1)]) Try.underlying69 (by kernel_rfl) (by kernel_rfl) rfl (by repeat (first | exact Fl.nil | (apply Fl.cons; exact rfl; (first | exact cells_of (by first | rfl | assumption) | exact rfl); exact rfl; exact rfl; repeat (first | exact Sn.nil | (apply Sn.cons; repeat (first | exact St.zero | apply St.succ))))))) (by repeat (first | exact Sub.nil | (apply Sub.cons; (repeat (first | with_reducible exact Sel.here | exact Sel.here | apply Sel.there))))) ?_
  refine G.takeT hT2 (i := 90) (rem' := 632508779896554369577096560575) rfl rfl rfl (by kernel_rfl) (fun _ _ _ h => h) rfl (pv_buildSt (z := [.int .i64 0, .int .i64 0]) (pl := [(0, 1), (1, 1)]) Try.underlying69 (by kernel_rfl) (by kernel_rfl) rfl (by repeat (first | exact Fl.nil | (apply Fl.cons; exact rfl; (first | exact cells_of (by first | rfl | assumption) | exact rfl); exact rfl; exact rfl; repeat (first | exact Sn.nil | (apply Sn.cons; repeat (first | exact St.zero | apply St.succ))))))) (by repeat (first | exact Sub.nil | (apply Sub.cons; (repeat (first | with_reducible exact Sel.here | exact Sel.here | apply Sel.there))))) ?_
  refine G.takeT hT2 (i := 9) (rem' := 632508779896554369577096560063) rfl rfl rfl (by kernel_rfl) (fun _ _ _ h => h) rfl (pv_loadN (cs := [_, _]) Try.underlying69 rfl (by kernel_rfl) rfl (by first | exact blk_range (k := 2) (by (repeat (first | with_reducible exact Sel.here | exact Sel.here | apply Sel.there)); done) (by rfl) | exact rng_range (k := 2) (by (repeat (first | with_reducible exact Sel.here | exact Sel.here | apply Sel.there)); done) (by rfl) | exact ro_range (k := 2) (by assumption) (by rfl) | exact ro_rngR (k := 2) (by assumption) (by rfl))) (by repeat (first | exact Sub.nil | (apply Sub.cons; (repeat (first | with_reducible exact Sel.here | exact Sel.here | apply Sel.there))))) ?_
  refine G.takeT hT2 (i := 37) (rem' := 632508779896554369439657606591) rfl rfl rfl (by kernel_rfl) (fun _ _ _ h => h) rfl (pv_loadN (cs := [_, _]) Try.underlying69 rfl (by kernel_rfl) rfl (by first | exact blk_range (k := 2) (by (repeat (first | with_reducible exact Sel.here | exact Sel.here | apply Sel.there)); done) (by rfl) | exact rng_range (k := 2) (by (repeat (first | with_reducible exact Sel.here | exact Sel.here | apply Sel.there)); done) (by rfl) | exact ro_range (k := 2) (by assumption) (by rfl) | exact ro_rngR (k := 2) (by assumption) (by rfl))) (by repeat (first | exact Sub.nil | (apply Sub.cons; (repeat (first | with_reducible exact Sel.here | exact Sel.here | apply Sel.there))))) ?_
  refine G.takeT hT2 (i := 64) (rem' := 632508779878107625365948054975) rfl rfl rfl (by kernel_rfl) (fun _ _ _ h => h) rfl (pv_loadN (cs := [_, _]) Try.underlying69 rfl (by kernel_rfl) rfl (by first | exact blk_range (k := 2) (by (repeat (first | with_reducible exact Sel.here | exact Sel.here | apply Sel.there)); done) (by rfl) | exact rng_range (k := 2) (by (repeat (first | with_reducible exact Sel.here | exact Sel.here | apply Sel.there)); done) (by rfl) | exact ro_range (k := 2) (by assumption) (by rfl) | exact ro_rngR (k := 2) (by assumption) (by rfl))) (by repeat (first | exact Sub.nil | (apply Sub.cons; (repeat (first | with_reducible exact Sel.here | exact Sel.here | apply Sel.there))))) ?_
  refine G.oneT hT2 (i := 0) (rem' := 632508779878107625365948054974) (by kernel_rfl) (by kernel_rfl) ?_
  refine G.turnOp rfl rfl (G.cR rfl rfl rfl rfl Try.func75 rfl rfl may0 (of_tr _) ?_)
  refine G.back (by repeat (first | exact Sub.nil | (apply Sub.cons; (repeat (first | with_reducible exact Sel.here | exact Sel.here | apply Sel.there))))) ?_
  refine G.oneT hT2 (i := 1) (rem' := 632508779878107625365948054972) (by kernel_rfl) (by kernel_rfl) ?_
  refine G.turnOp rfl rfl (G.cR rfl rfl rfl rfl Try.func75 rfl rfl may0 (of_tr _) ?_)
  refine G.back (by repeat (first | exact Sub.nil | (apply Sub.cons; (repeat (first | with_reducible exact Sel.here | exact Sel.here | apply Sel.there))))) ?_
  refine G.oneT hT2 (i := 2) (rem' := 632508779878107625365948054968) (by kernel_rfl) (by kernel_rfl) ?_
  refine G.turnOp rfl rfl (G.cR rfl rfl rfl rfl Try.func75 rfl rfl may0 (of_tr _) ?_)
  refine G.back (by repeat (first | exact Sub.nil | (apply Sub.cons; (repeat (first | with_reducible exact Sel.here | exact Sel.here | apply Sel.there))))) ?_
  refine G.takeT hT2 (i := 3) (rem' := 632508779878107625365948054960) rfl rfl rfl (by kernel_rfl) (fun _ _ _ h => h) rfl (pv_buildSt (z := [.string ⟨#[]⟩, .int .i64 0, .int .i64 0, .int .i64 0, .int .i64 0, .int .i64 0, .int .i64 0]) (pl := [(0, 1), (1, 2), (3, 2), (5, 2)]) Try.underlying71 (by kernel_rfl) (by kernel_rfl) rfl (by repeat (first | exact Fl.nil | (apply Fl.cons; exact rfl; (first | exact cells_of (by first | rfl | assumption) | exact rfl); exact rfl; exact rfl; repeat (first | exact Sn.nil | (apply Sn.cons; repeat (first | exact St.zero | apply St.succ))))))) (by repeat (first | exact Sub.nil | (apply Sub.cons; (repeat (first | with_reducible exact Sel.here | exact Sel.here | apply Sel.there))))) ?_
  refine G.oneT hT2 (i := 4) (rem' := 632508779878107625365948054944) (by kernel_rfl) (by kernel_rfl) ?_
  refine G.turnOp rfl rfl (G.cR rfl rfl rfl rfl Try.func75 rfl rfl may0 (of_tr _) ?_)
  refine G.back (by repeat (first | exact Sub.nil | (apply Sub.cons; (repeat (first | with_reducible exact Sel.here | exact Sel.here | apply Sel.there))))) ?_
  refine G.oneT hT2 (i := 5) (rem' := 632508779878107625365948054912) (by kernel_rfl) (by kernel_rfl) ?_
  refine G.turnOp rfl rfl (G.cR rfl rfl rfl rfl Try.func75 rfl rfl may0 (of_tr _) ?_)
  refine G.back (by repeat (first | exact Sub.nil | (apply Sub.cons; (repeat (first | with_reducible exact Sel.here | exact Sel.here | apply Sel.there))))) ?_
  refine G.takeT hT2 (i := 7) (rem' := 632508779878107625365948054784) rfl rfl rfl (by kernel_rfl) (fun _ _ _ h => h) rfl (pv_buildSt (z := [.string ⟨#[]⟩, .int .i64 0, .int .i64 0, .int .i64 0, .int .i64 0, .int .i64 0, .int .i64 0]) (pl := [(0, 1), (1, 2), (3, 2), (5, 2)]) Try.underlying71 (by kernel_rfl) (by kernel_rfl) rfl (by repeat (first | exact Fl.nil | (apply Fl.cons; exact rfl; (first | exact cells_of (by first | rfl | assumption) | exact rfl); exact rfl; exact rfl; repeat (first | exact Sn.nil | (apply Sn.cons; repeat (first | exact St.zero | apply St.succ))))))) (by repeat (first | exact Sub.nil | (apply Sub.cons; (repeat (first | with_reducible exact Sel.here | exact Sel.here | apply Sel.there))))) ?_
  refine G.oneT hT2 (i := 8) (rem' := 632508779878107625365948054528) (by kernel_rfl) (by kernel_rfl) ?_
  refine G.turnOp rfl rfl (G.cR rfl rfl rfl rfl Try.func75 rfl rfl may0 (of_tr _) ?_)
  refine G.back (by repeat (first | exact Sub.nil | (apply Sub.cons; (repeat (first | with_reducible exact Sel.here | exact Sel.here | apply Sel.there))))) ?_
  refine G.oneT hT2 (i := 10) (rem' := 632508779878107625365948053504) (by kernel_rfl) (by kernel_rfl) ?_
  refine G.turnOp rfl rfl (G.cR rfl rfl rfl rfl Try.func75 rfl rfl may0 (of_tr _) ?_)
  refine G.back (by repeat (first | exact Sub.nil | (apply Sub.cons; (repeat (first | with_reducible exact Sel.here | exact Sel.here | apply Sel.there))))) ?_
  refine G.takeT hT2 (i := 11) (rem' := 632508779878107625365948051456) rfl rfl rfl (by kernel_rfl) (fun _ _ _ h => h) rfl (pv_buildSt (z := [.string ⟨#[]⟩, .int .i64 0, .int .i64 0, .int .i64 0, .int .i64 0, .int .i64 0, .int .i64 0]) (pl := [(0, 1), (1, 2), (3, 2), (5, 2)]) Try.underlying71 (by kernel_rfl) (by kernel_rfl) rfl (by repeat (first | exact Fl.nil | (apply Fl.cons; exact rfl; (first | exact cells_of (by first | rfl | assumption) | exact rfl); exact rfl; exact rfl; repeat (first | exact Sn.nil | (apply Sn.cons; repeat (first | exact St.zero | apply St.succ))))))) (by repeat (first | exact Sub.nil | (apply Sub.cons; (repeat (first | with_reducible exact Sel.here | exact Sel.here | apply Sel.there))))) ?_
  refine G.oneT hT2 (i := 12) (rem' := 632508779878107625365948047360) (by kernel_rfl) (by kernel_rfl) ?_
  refine G.turnOp rfl rfl (G.cR rfl rfl rfl rfl Try.func75 rfl rfl may0 (of_tr _) ?_)
  refine G.back (by repeat (first | exact Sub.nil | (apply Sub.cons; (repeat (first | with_reducible exact Sel.here | exact Sel.here | apply Sel.there))))) ?_
  refine G.oneT hT2 (i := 13) (rem' := 632508779878107625365948039168) (by kernel_rfl) (by kernel_rfl) ?_
  refine G.turnOp rfl rfl (G.cR rfl rfl rfl rfl Try.func75 rfl rfl may0 (of_tr _) ?_)
  refine G.back (by repeat (first | exact Sub.nil | (apply Sub.cons; (repeat (first | with_reducible exact Sel.here | exact Sel.here | apply Sel.there))))) ?_
  refine G.takeT hT2 (i := 15) (rem' := 632508779878107625365948006400) rfl rfl rfl (by kernel_rfl) (fun _ _ _ h => h) rfl (pv_buildSt (z := [.string ⟨#[]⟩, .int .i64 0, .int .i64 0, .int .i64 0, .int .i64 0, .int .i64 0, .int .i64 0]) (pl := [(0, 1), (1, 2), (3, 2), (5, 2)]) Try.underlying71 (by kernel_rfl) (by kernel_rfl) rfl (by repeat (first | exact Fl.nil | (apply Fl.cons; exact rfl; (first | exact cells_of (by first | rfl | assumption) | exact rfl); exact rfl; exact rfl; repeat (first | exact Sn.nil | (apply Sn.cons; repeat (first | exact St.zero | apply St.succ))))))) (by repeat (first | exact Sub.nil | (apply Sub.cons; (repeat (first | with_reducible exact Sel.here | exact Sel.here | apply Sel.there))))) ?_
  refine G.oneT hT2 (i := 16) (rem' := 632508779878107625365947940864) (by kernel_rfl) (by kernel_rfl) ?_
  refine G.turnOp rfl rfl (G.cR rfl rfl rfl rfl Try.func75 rfl rfl may0 (of_tr _) ?_)
  refine G.back (by repeat (first | exact Sub.nil | (apply Sub.cons; (repeat (first | with_reducible exact Sel.here | exact Sel.here | apply Sel.there))))) ?_
  refine G.oneT hT2 (i := 17) (rem' := 632508779878107625365947809792) (by kernel_rfl) (by kernel_rfl) ?_
  refine G.turnOp rfl rfl (G.cR rfl rfl rfl rfl Try.func75 rfl rfl may0 (of_tr _) ?_)
  refine G.back (by repeat (first | exact Sub.nil | (apply Sub.cons; (repeat (first | with_reducible exact Sel.here | exact Sel.here | apply Sel.there))))) ?_
  refine G.oneT hT2 (i := 18) (rem' := 632508779878107625365947547648) (by kernel_rfl) (by kernel_rfl) ?_
  refine G.turnOp rfl rfl (G.cR rfl rfl rfl rfl Try.func75 rfl rfl may0 (of_tr _) ?_)
  refine G.back (by repeat (first | exact Sub.nil | (apply Sub.cons; (repeat (first | with_reducible exact Sel.here | exact Sel.here | apply Sel.there))))) ?_
  refine G.takeT hT2 (i := 19) (rem' := 632508779878107625365947023360) rfl rfl rfl (by kernel_rfl) (fun _ _ _ h => h) rfl (pv_buildSt (z := [.string ⟨#[]⟩, .int .i64 0, .int .i64 0, .int .i64 0, .int .i64 0, .int .i64 0, .int .i64 0]) (pl := [(0, 1), (1, 2), (3, 2), (5, 2)]) Try.underlying71 (by kernel_rfl) (by kernel_rfl) rfl (by repeat (first | exact Fl.nil | (apply Fl.cons; exact rfl; (first | exact cells_of (by first | rfl | assumption) | exact rfl); exact rfl; exact rfl; repeat (first | exact Sn.nil | (apply Sn.cons; repeat (first | exact St.zero | apply St.succ))))))) (by repeat (first | exact Sub.nil | (apply Sub.cons; (repeat (first | with_reducible exact Sel.here | exact Sel.here | apply Sel.there))))) ?_
  refine G.oneT hT2 (i := 20) (rem' := 632508779878107625365945974784) (by kernel_rfl) (by kernel_rfl) ?_
  refine G.turnOp rfl rfl (G.cR rfl rfl rfl rfl Try.func75 rfl rfl may0 (of_tr _) ?_)
  refine G.back (by repeat (first | exact Sub.nil | (apply Sub.cons; (repeat (first | with_reducible exact Sel.here | exact Sel.here | apply Sel.there))))) ?_
  refine G.oneT hT2 (i := 21) (rem' := 632508779878107625365943877632) (by kernel_rfl) (by kernel_rfl) ?_
  refine G.turnOp rfl rfl (G.cR rfl rfl rfl rfl Try.func75 rfl rfl may0 (of_tr _) ?_)
  refine G.back (by repeat (first | exact Sub.nil | (apply Sub.cons; (repeat (first | with_reducible exact Sel.here | exact Sel.here | apply Sel.there))))) ?_
  refine G.oneT hT2 (i := 22) (rem' := 632508779878107625365939683328) (by kernel_rfl) (by kernel_rfl) ?_
  refine G.turnOp rfl rfl (G.cR rfl rfl rfl rfl Try.func75 rfl rfl may0 (of_tr _) ?_)
  refine G.back (by repeat (first | exact Sub.nil | (apply Sub.cons; (repeat (first | with_reducible exact Sel.here | exact Sel.here | apply Sel.there))))) ?_
  refine G.takeT hT2 (i := 23) (rem' := 632508779878107625365931294720) rfl rfl rfl (by kernel_rfl) (fun _ _ _ h => h) rfl (pv_buildSt (z := [.string ⟨#[]⟩, .int .i64 0, .int .i64 0, .int .i64 0, .int .i64 0, .int .i64 0, .int .i64 0]) (pl := [(0, 1), (1, 2), (3, 2), (5, 2)]) Try.underlying71 (by kernel_rfl) (by kernel_rfl) rfl (by repeat (first | exact Fl.nil | (apply Fl.cons; exact rfl; (first | exact cells_of (by first | rfl | assumption) | exact rfl); exact rfl; exact rfl; repeat (first | exact Sn.nil | (apply Sn.cons; repeat (first | exact St.zero | apply St.succ))))))) (by repeat (first | exact Sub.nil | (apply Sub.cons; (repeat (first | with_reducible exact Sel.here | exact Sel.here | apply Sel.there))))) ?_
  refine G.oneT hT2 (i := 24) (rem' := 632508779878107625365914517504) (by kernel_rfl) (by kernel_rfl) ?_
  refine G.turnOp rfl rfl (G.cR rfl rfl rfl rfl Try.func75 rfl rfl may0 (of_tr _) ?_)
  refine G.back (by repeat (first | exact Sub.nil | (apply Sub.cons; (repeat (first | with_reducible exact Sel.here | exact Sel.here | apply Sel.there))))) ?_
  refine G.oneT hT2 (i := 25) (rem' := 632508779878107625365880963072) (by kernel_rfl) (by kernel_rfl) ?_
  refine G.turnOp rfl rfl (G.cR rfl rfl rfl rfl Try.func75 rfl rfl may0 (of_tr _) ?_)
  refine G.back (by repeat (first | exact Sub.nil | (apply Sub.cons; (repeat (first | with_reducible exact Sel.here | exact Sel.here | apply Sel.there))))) ?_
  refine G.oneT hT2 (i := 26) (rem' := 632508779878107625365813854208) (by kernel_rfl) (by kernel_rfl) ?_
  refine G.turnOp rfl rfl (G.cR rfl rfl rfl rfl Try.func75 rfl rfl may0 (of_tr _) ?_)
  refine G.back (by repeat (first | exact Sub.nil | (apply Sub.cons; (repeat (first | with_reducible exact Sel.here | exact Sel.here | apply Sel.there))))) ?_
  refine G.takeT hT2 (i := 27) (rem' := 632508779878107625365679636480) rfl rfl rfl (by kernel_rfl) (fun _ _ _ h => h) rfl (pv_buildSt (z := [.string ⟨#[]⟩, .int .i64 0, .int .i64 0, .int .i64 0, .int .i64 0, .int .i64 0, .int .i64 0]) (pl := [(0, 1), (1, 2), (3, 2), (5, 2)]) Try.underlying71 (by kernel_rfl) (by kernel_rfl) rfl (by repeat (first | exact Fl.nil | (apply Fl.cons; exact rfl; (first | exact cells_of (by first | rfl | assumption) | exact rfl); exact rfl; exact rfl; repeat (first | exact Sn.nil | (apply Sn.cons; repeat (first | exact St.zero | apply St.succ))))))) (by repeat (first | exact Sub.nil | (apply Sub.cons; (repeat (first | with_reducible exact Sel.here | exact Sel.here | apply Sel.there))))) ?_
  refine G.oneT hT2 (i := 28) (rem' := 632508779878107625365411201024) (by kernel_rfl) (by kernel_rfl) ?_
  refine G.turnOp rfl rfl (G.cR rfl rfl rfl rfl Try.func75 rfl rfl may0 (of_tr _) ?_)
  refine G.back (by repeat (first | exact Sub.nil | (apply Sub.cons; (repeat (first | with_reducible exact Sel.here | exact Sel.here | apply Sel.there))))) ?_
  refine G.oneT hT2 (i := 29) (rem' := 632508779878107625364874330112) (by kernel_rfl) (by kernel_rfl) ?_
  refine G.turnOp rfl rfl (G.cR rfl rfl rfl rfl Try.func75 rfl rfl may0 (of_tr _) ?_)
  refine G.back (by repeat (first | exact Sub.nil | (apply Sub.cons; (repeat (first | with_reducible exact Sel.here | exact Sel.here | apply Sel.there))))) ?_
  refine G.oneT hT2 (i := 30) (rem' := 632508779878107625363800588288) (by kernel_rfl) (by kernel_rfl) ?_
  refine G.turnOp rfl rfl (G.cR rfl rfl rfl rfl Try.func75 rfl rfl may0 (of_tr _) ?_)
  refine G.back (by repeat (first | exact Sub.nil | (apply Sub.cons; (repeat (first | with_reducible exact Sel.here | exact Sel.here | apply Sel.there))))) ?_
  refine G.takeT hT2 (i := 31) (rem' := 632508779878107625361653104640) rfl rfl rfl (by kernel_rfl) (fun _ _ _ h => h) rfl (pv_buildSt (z := [.string ⟨#[]⟩, .int .i64 0, .int .i64 0, .int .i64 0, .int .i64 0, .int .i64 0, .int .i64 0]) (pl := [(0, 1), (1, 2), (3, 2), (5, 2)]) Try.underlying71 (by kernel_rfl) (by kernel_rfl) rfl (by repeat (first | exact Fl.nil | (apply Fl.cons; exact rfl; (first | exact cells_of (by first | rfl | assumption) | exact rfl); exact rfl; exact rfl; repeat (first | exact Sn.nil | (apply Sn.cons; repeat (first | exact St.zero | apply St.succ))))))) (by repeat (first | exact Sub.nil | (apply Sub.cons; (repeat (first | with_reducible exact Sel.here | exact Sel.here | apply Sel.there))))) ?_
  refine G.oneT hT2 (i := 32) (rem' := 632508779878107625357358137344) (by kernel_rfl) (by kernel_rfl) ?_
  refine G.turnOp rfl rfl (G.cR rfl rfl rfl rfl Try.func75 rfl rfl may0 (of_tr _) ?_)
  refine G.back (by repeat (first | exact Sub.nil | (apply Sub.cons; (repeat (first | with_reducible exact Sel.here | exact Sel.here | apply Sel.there))))) ?_
  refine G.oneT hT2 (i := 33) (rem' := 632508779878107625348768202752) (by kernel_rfl) (by kernel_rfl) ?_
  refine G.turnOp rfl rfl (G.cR rfl rfl rfl rfl Try.func75 rfl rfl may0 (of_tr _) ?_)
  refine G.back (by repeat (first | exact Sub.nil | (apply Sub.cons; (repeat (first | with_reducible exact Sel.here | exact Sel.here | apply Sel.there))))) ?_
  refine G.oneT hT2 (i := 34) (rem' := 632508779878107625331588333568) (by kernel_rfl) (by kernel_rfl) ?_
  refine G.turnOp rfl rfl (G.cR rfl rfl rfl rfl Try.func75 rfl rfl may0 (of_tr _) ?_)
  refine G.back (by repeat (first | exact Sub.nil | (apply Sub.cons; (repeat (first | with_reducible exact Sel.here | exact Sel.here | apply Sel.there))))) ?_
  refine G.takeT hT2 (i := 35) (rem' := 632508779878107625297228595200) rfl rfl rfl (by kernel_rfl) (fun _ _ _ h => h) rfl (pv_buildSt (z := [.string ⟨#[]⟩, .int .i64 0, .int .i64 0, .int .i64 0, .int .i64 0, .int .i64 0, .int .i64 0]) (pl := [(0, 1), (1, 2), (3, 2), (5, 2)]) Try.underlying71 (by kernel_rfl) (by kernel_rfl) rfl (by repeat (first | exact Fl.nil | (apply Fl.cons; exact rfl; (first | exact cells_of (by first | rfl | assumption) | exact rfl); exact rfl; exact rfl; repeat (first | exact Sn.nil | (apply Sn.cons; repeat (first | exact St.zero | apply St.succ))))))) (by repeat (first | exact Sub.nil | (apply Sub.cons; (repeat (first | with_reducible exact Sel.here | exact Sel.here | apply Sel.there))))) ?_
  refine G.oneT hT2 (i := 36) (rem' := 632508779878107625228509118464) (by kernel_rfl) (by kernel_rfl) ?_
  refine G.turnOp rfl rfl (G.cR rfl rfl rfl rfl Try.func75 rfl rfl may0 (of_tr _) ?_)
  refine G.back (by repeat (first | exact Sub.nil | (apply Sub.cons; (repeat (first | with_reducible exact Sel.here | exact Sel.here | apply Sel.there))))) ?_
  refine G.oneT hT2 (i := 38) (rem' := 632508779878107624953631211520) (by kernel_rfl) (by kernel_rfl) ?_
  refine G.turnOp rfl rfl (G.cR rfl rfl rfl rfl Try.func75 rfl rfl may0 (of_tr _) ?_)
  refine G.back (by repeat (first | exact Sub.nil | (apply Sub.cons; (repeat (first | with_reducible exact Sel.here | exact Sel.here | apply Sel.there))))) ?_
  refine G.takeT hT2 (i := 39) (rem' := 632508779878107624403875397632) rfl rfl rfl (by kernel_rfl) (fun _ _ _ h => h) rfl (pv_buildSt (z := [.string ⟨#[]⟩, .int .i64 0, .int .i64 0, .int .i64 0, .int .i64 0, .int .i64 0, .int .i64 0]) (pl := [(0, 1), (1, 2), (3, 2), (5, 2)]) Try.underlying71 (by kernel_rfl) (by kernel_rfl) rfl (by repeat (first | exact Fl.nil | (apply Fl.cons; exact rfl; (first | exact cells_of (by first | rfl | assumption) | exact rfl); exact rfl; exact rfl; repeat (first | exact Sn.nil | (apply Sn.cons; repeat (first | exact St.zero | apply St.succ))))))) (by repeat (first | exact Sub.nil | (apply Sub.cons; (repeat (first | with_reducible exact Sel.here | exact Sel.here | apply Sel.there))))) ?_
  refine G.oneT hT2 (i := 40) (rem' := 632508779878107623304363769856) (by kernel_rfl) (by kernel_rfl) ?_
  refine G.turnOp rfl rfl (G.cR rfl rfl rfl rfl Try.func75 rfl rfl may0 (of_tr _) ?_)
  refine G.back (by repeat (first | exact Sub.nil | (apply Sub.cons; (repeat (first | with_reducible exact Sel.here | exact Sel.here | apply Sel.there))))) ?_
  refine G.oneT hT2 (i := 41) (rem' := 632508779878107621105340514304) (by kernel_rfl) (by kernel_rfl) ?_
  refine G.turnOp rfl rfl (G.cR rfl rfl rfl rfl Try.func75 rfl rfl may0 (of_tr _) ?_)
  refine G.back (by repeat (first | exact Sub.nil | (apply Sub.cons; (repeat (first | with_reducible exact Sel.here | exact Sel.here | apply Sel.there))))) ?_
  refine G.oneT hT2 (i := 42) (rem' := 632508779878107616707294003200) (by kernel_rfl) (by kernel_rfl) ?_
  refine G.turnOp rfl rfl (G.cR rfl rfl rfl rfl Try.func75 rfl rfl may0 (of_tr _) ?_)
  refine G.back (by repeat (first | exact Sub.nil | (apply Sub.cons; (repeat (first | with_reducible exact Sel.here | exact Sel.here | apply Sel.there))))) ?_
  refine G.takeT hT2 (i := 43) (rem' := 632508779878107607911200980992) rfl rfl rfl (by kernel_rfl) (fun _ _ _ h => h) rfl (pv_buildSt (z := [.string ⟨#[]⟩, .int .i64 0, .int .i64 0, .int .i64 0, .int .i64 0, .int .i64 0, .int .i64 0]) (pl := [(0, 1), (1, 2), (3, 2), (5, 2)]) Try.underlying71 (by kernel_rfl) (by kernel_rfl) rfl (by repeat (first | exact Fl.nil | (apply Fl.cons; exact rfl; (first | exact cells_of (by first | rfl | assumption) | exact rfl); exact rfl; exact rfl; repeat (first | exact Sn.nil | (apply Sn.cons; repeat (first | exact St.zero | apply St.succ))))))) (by repeat (first | exact Sub.nil | (apply Sub.cons; (repeat (first | with_reducible exact Sel.here | exact Sel.here | apply Sel.there))))) ?_
  refine G.oneT hT2 (i := 44) (rem' := 632508779878107590319014936576) (by kernel_rfl) (by kernel_rfl) ?_
  refine G.turnOp rfl rfl (G.cR rfl rfl rfl rfl Try.func75 rfl rfl may0 (of_tr _) ?_)
  refine G.back (by repeat (first | exact Sub.nil | (apply Sub.cons; (repeat (first | with_reducible exact Sel.here | exact Sel.here | apply Sel.there))))) ?_
  refine G.oneT hT2 (i := 45) (rem' := 632508779878107555134642847744) (by kernel_rfl) (by kernel_rfl) ?_
  refine G.turnOp rfl rfl (G.cR rfl rfl rfl rfl Try.func75 rfl rfl may0 (of_tr _) ?_)
  refine G.back (by repeat (first | exact Sub.nil | (apply Sub.cons; (repeat (first | with_reducible exact Sel.here | exact Sel.here | apply Sel.there))))) ?_
  refine G.oneT hT2 (i := 46) (rem' := 632508779878107484765898670080) (by kernel_rfl) (by kernel_rfl) ?_
  refine G.turnOp rfl rfl (G.cR rfl rfl rfl rfl Try.func75 rfl rfl may0 (of_tr _) ?_)
  refine G.back (by repeat (first | exact Sub.nil | (apply Sub.cons; (repeat (first | with_reducible exact Sel.here | exact Sel.here | apply Sel.there))))) ?_
  refine G.takeT hT2 (i := 47) (rem' := 632508779878107344028410314752) rfl rfl rfl (by kernel_rfl) (fun _ _ _ h => h) rfl (pv_buildSt (z := [.string ⟨#[]⟩, .int .i64 0, .int .i64 0, .int .i64 0, .int .i64 0, .int .i64 0, .int .i64 0]) (pl := [(0, 1), (1, 2), (3, 2), (5, 2)]) Try.underlying71 (by kernel_rfl) (by kernel_rfl) rfl (by repeat (first | exact Fl.nil | (apply Fl.cons; exact rfl; (first | exact cells_of (by first | rfl | assumption) | exact rfl); exact rfl; exact rfl; repeat (first | exact Sn.nil | (apply Sn.cons; repeat (first | exact St.zero | apply St.succ))))))) (by repeat (first | exact Sub.nil | (apply Sub.cons; (repeat (first | with_reducible exact Sel.here | exact Sel.here | apply Sel.there))))) ?_
  refine G.oneT hT2 (i := 48) (rem' := 632508779878107062553433604096) (by kernel_rfl) (by kernel_rfl) ?_
  refine G.turnOp rfl rfl (G.cR rfl rfl rfl rfl Try.func75 rfl rfl may0 (of_tr _) ?_)
  refine G.back (by repeat (first | exact Sub.nil | (apply Sub.cons; (repeat (first | with_reducible exact Sel.here | exact Sel.here | apply Sel.there))))) ?_
  refine G.oneT hT2 (i := 49) (rem' := 632508779878106499603480182784) (by kernel_rfl) (by kernel_rfl) ?_
  refine G.turnOp rfl rfl (G.cR rfl rfl rfl rfl Try.func75 rfl rfl may0 (of_tr _) ?_)
  refine G.back (by repeat (first | exact Sub.nil | (apply Sub.cons; (repeat (first | with_reducible exact Sel.here | exact Sel.here | apply Sel.there))))) ?_
  refine G.oneT hT2 (i := 50) (rem' := 632508779878105373703573340160) (by kernel_rfl) (by kernel_rfl) ?_
  refine G.turnOp rfl rfl (G.cR rfl rfl rfl rfl Try.func75 rfl rfl may0 (of_tr _) ?_)
  refine G.back (by repeat (first | exact Sub.nil | (apply Sub.cons; (repeat (first | with_reducible exact Sel.here | exact Sel.here | apply Sel.there))))) ?_
  refine G.takeT hT2 (i := 51) (rem' := 632508779878103121903759654912) rfl rfl rfl (by kernel_rfl) (fun _ _ _ h => h) rfl (pv_buildSt (z := [.string ⟨#[]⟩, .int .i64 0, .int .i64 0, .int .i64 0, .int .i64 0, .int .i64 0, .int .i64 0]) (pl := [(0, 1), (1, 2), (3, 2), (5, 2)]) Try.underlying71 (by kernel_rfl) (by kernel_rfl) rfl (by repeat (first | exact Fl.nil | (apply Fl.cons; exact rfl; (first | exact cells_of (by first | rfl | assumption) | exact rfl); exact rfl; exact rfl; repeat (first | exact Sn.nil | (apply Sn.cons; repeat (first | exact St.zero | apply St.succ))))))) (by repeat (first | exact Sub.nil | (apply Sub.cons; (repeat (first | with_reducible exact Sel.here | exact Sel.here | apply Sel.there))))) ?_
  refine G.oneT hT2 (i := 52) (rem' := 632508779878098618304132284416) (by kernel_rfl) (by kernel_rfl) ?_
  refine G.turnOp rfl rfl (G.cR rfl rfl rfl rfl Try.func75 rfl rfl may0 (of_tr _) ?_)
  refine G.back (by repeat (first | exact Sub.nil | (apply Sub.cons; (repeat (first | with_reducible exact Sel.here | exact Sel.here | apply Sel.there))))) ?_
  refine G.oneT hT2 (i := 53) (rem' := 632508779878089611104877543424) (by kernel_rfl) (by kernel_rfl) ?_
  refine G.turnOp rfl rfl (G.cR rfl rfl rfl rfl Try.func75 rfl rfl may0 (of_tr _) ?_)
  refine G.back (by repeat (first | exact Sub.nil | (apply Sub.cons; (repeat (first | with_reducible exact Sel.here | exact Sel.here | apply Sel.there))))) ?_
  refine G.oneT hT2 (i := 54) (rem' := 632508779878071596706368061440) (by kernel_rfl) (by kernel_rfl) ?_
  refine G.turnOp rfl rfl (G.cR rfl rfl rfl rfl Try.func75 rfl rfl may0 (of_tr _) ?_)
  refine G.back (by repeat (first | exact Sub.nil | (apply Sub.cons; (repeat (first | with_reducible exact Sel.here | exact Sel.here | apply Sel.there))))) ?_
  refine G.takeT hT2 (i := 55) (rem' := 632508779878035567909349097472) rfl rfl rfl (by kernel_rfl) (fun _ _ _ h => h) rfl (pv_buildSt (z := [.string ⟨#[]⟩, .int .i64 0, .int .i64 0, .int .i64 0, .int .i64 0, .int .i64 0, .int .i64 0]) (pl := [(0, 1), (1, 2), (3, 2), (5, 2)]) Try.underlying71 (by kernel_rfl) (by kernel_rfl) rfl (by repeat (first | exact Fl.nil | (apply Fl.cons; exact rfl; (first | exact cells_of (by first | rfl | assumption) | exact rfl); exact rfl; exact rfl; repeat (first | exact Sn.nil | (apply Sn.cons; repeat (first | exact St.zero | apply St.succ))))))) (by repeat (first | exact Sub.nil | (apply Sub.cons; (repeat (first | with_reducible exact Sel.here | exact Sel.here | apply Sel.there))))) ?_
  refine G.oneT hT2 (i := 56) (rem' := 632508779877963510315311169536) (by kernel_rfl) (by kernel_rfl) ?_
  refine G.turnOp rfl rfl (G.cR rfl rfl rfl rfl Try.func75 rfl rfl may0 (of_tr _) ?_)
  refine G.back (by repeat (first | exact Sub.nil | (apply Sub.cons; (repeat (first | with_reducible exact Sel.here | exact Sel.here | apply Sel.there))))) ?_
  refine G.oneT hT2 (i := 57) (rem' := 632508779877819395127235313664) (by kernel_rfl) (by kernel_rfl) ?_
  refine G.turnOp rfl rfl (G.cR rfl rfl rfl rfl Try.func75 rfl rfl may0 (of_tr _) ?_)
  refine G.back (by repeat (first | exact Sub.nil | (apply Sub.cons; (repeat (first | with_reducible exact Sel.here | exact Sel.here | apply Sel.there))))) ?_
  refine G.oneT hT2 (i := 58) (rem' := 632508779877531164751083601920) (by kernel_rfl) (by kernel_rfl) ?_
  refine G.turnOp rfl rfl (G.cR rfl rfl rfl rfl Try.func75 rfl rfl may0 (of_tr _) ?_)
  refine G.back (by repeat (first | exact Sub.nil | (apply Sub.cons; (repeat (first | with_reducible exact Sel.here | exact Sel.here | apply Sel.there))))) ?_
  refine G.takeT hT2 (i := 59) (rem' := 632508779876954703998780178432) rfl rfl rfl (by kernel_rfl) (fun _ _ _ h => h) rfl (pv_buildSt (z := [.string ⟨#[]⟩, .int .i64 0, .int .i64 0, .int .i64 0, .int .i64 0, .int .i64 0, .int .i64 0]) (pl := [(0, 1), (1, 2), (3, 2), (5, 2)]) Try.underlying71 (by kernel_rfl) (by kernel_rfl) rfl (by repeat (first | exact Fl.nil | (apply Fl.cons; exact rfl; (first | exact cells_of (by first | rfl | assumption) | exact rfl); exact rfl; exact rfl; repeat (first | exact Sn.nil | (apply Sn.cons; repeat (first | exact St.zero | apply St.succ))))))) (by repeat (first | exact Sub.nil | (apply Sub.cons; (repeat (first | with_reducible exact Sel.here | exact Sel.here | apply Sel.there))))) ?_
  refine G.oneT hT2 (i := 60) (rem' := 632508779875801782494173331456) (by kernel_rfl) (by kernel_rfl) ?_
  refine G.turnOp rfl rfl (G.cR rfl rfl rfl rfl Try.func75 rfl rfl may0 (of_tr _) ?_)
  refine G.back (by repeat (first | exact Sub.nil | (apply Sub.cons; (repeat (first | with_reducible exact Sel.here | exact Sel.here | apply Sel.there))))) ?_
  refine G.oneT hT2 (i := 61) (rem' := 632508779873495939484959637504) (by kernel_rfl) (by kernel_rfl) ?_
  refine G.turnOp rfl rfl (G.cR rfl rfl rfl rfl Try.func75 rfl rfl may0 (of_tr _) ?_)
  refine G.back (by repeat (first | exact Sub.nil | (apply Sub.cons; (repeat (first | with_reducible exact Sel.here | exact Sel.here | apply Sel.there))))) ?_
  refine G.oneT hT2 (i := 62) (rem' := 632508779868884253466532249600) (by kernel_rfl) (by kernel_rfl) ?_
  refine G.turnOp rfl rfl (G.cR rfl rfl rfl rfl Try.func75 rfl rfl may0 (of_tr _) ?_)
  refine G.back (by repeat (first | exact Sub.nil | (apply Sub.cons; (repeat (first | with_reducible exact Sel.here | exact Sel.here | apply Sel.there))))) ?_
  refine G.takeT hT2 (i := 63) (rem' := 632508779859660881429677473792) rfl rfl rfl (by kernel_rfl) (fun _ _ _ h => h) rfl (pv_buildSt (z := [.string ⟨#[]⟩, .int .i64 0, .int .i64 0, .int .i64 0, .int .i64 0, .int .i64 0, .int .i64 0]) (pl := [(0, 1), (1, 2), (3, 2), (5, 2)]) Try.underlying71 (by kernel_rfl) (by kernel_rfl) rfl (by repeat (first | exact Fl.nil | (apply Fl.cons; exact rfl; (first | exact cells_of (by first | rfl | assumption) | exact rfl); exact rfl; exact rfl; repeat (first | exact Sn.nil | (apply Sn.cons; repeat (first | exact St.zero | apply St.succ))))))) (by repeat (first | exact Sub.nil | (apply Sub.cons; (repeat (first | with_reducible exact Sel.here | exact Sel.here | apply Sel.there))))) ?_
  refine G.oneT hT2 (i := 65) (rem' := 632508779822767393282258370560) (by kernel_rfl) (by kernel_rfl) ?_
  refine G.turnOp rfl rfl (G.cR rfl rfl rfl rfl Try.func75 rfl rfl may0 (of_tr _) ?_)
  refine G.back (by repeat (first | exact Sub.nil | (apply Sub.cons; (repeat (first | with_reducible exact Sel.here | exact Sel.here | apply Sel.there))))) ?_
  refine G.oneT hT2 (i := 66) (rem' := 632508779748980416987420164096) (by kernel_rfl) (by kernel_rfl) ?_
  refine G.turnOp rfl rfl (G.cR rfl rfl rfl rfl Try.func75 rfl rfl may0 (of_tr _) ?_)
  refine G.back (by repeat (first | exact Sub.nil | (apply Sub.cons; (repeat (first | with_reducible exact Sel.here | exact Sel.here | apply Sel.there))))) ?_
  refine G.takeT hT2 (i := 67) (rem' := 632508779601406464397743751168) rfl rfl rfl (by kernel_rfl) (fun _ _ _ h => h) rfl (pv_buildSt (z := [.string ⟨#[]⟩, .int .i64 0, .int .i64 0, .int .i64 0, .int .i64 0, .int .i64 0, .int .i64 0]) (pl := [(0, 1), (1, 2), (3, 2), (5, 2)]) Try.underlying71 (by kernel_rfl) (by kernel_rfl) rfl (by repeat (first | exact Fl.nil | (apply Fl.cons; exact rfl; (first | exact cells_of (by first | rfl | assumption) | exact rfl); exact rfl; exact rfl; repeat (first | exact Sn.nil | (apply Sn.cons; repeat (first | exact St.zero | apply St.succ))))))) (by repeat (first | exact Sub.nil | (apply Sub.cons; (repeat (first | with_reducible exact Sel.here | exact Sel.here | apply Sel.there))))) ?_
  refine G.oneT hT2 (i := 68) (rem' := 632508779306258559218390925312) (by kernel_rfl) (by kernel_rfl) ?_
  refine G.turnOp rfl rfl (G.cR rfl rfl rfl rfl Try.func75 rfl rfl may0 (of_tr _) ?_)
  refine G.back (by repeat (first | exact Sub.nil | (apply Sub.cons; (repeat (first | with_reducible exact Sel.here | exact Sel.here | apply Sel.there))))) ?_
  refine G.oneT hT2 (i := 69) (rem' := 632508778715962748859685273600) (by kernel_rfl) (by kernel_rfl) ?_
  refine G.turnOp rfl rfl (G.cR rfl rfl rfl rfl Try.func75 rfl rfl may0 (of_tr _) ?_)
  refine G.back (by repeat (first | exact Sub.nil | (apply Sub.cons; (repeat (first | with_reducible exact Sel.here | exact Sel.here | apply Sel.there))))) ?_
  refine G.oneT hT2 (i := 70) (rem' := 632508777535371128142273970176) (by kernel_rfl) (by kernel_rfl) ?_
  refine G.turnOp rfl rfl (G.cR rfl rfl rfl rfl Try.func75 rfl rfl may0 (of_tr _) ?_)
  refine G.back (by repeat (first | exact Sub.nil | (apply Sub.cons; (repeat (first | with_reducible exact Sel.here | exact Sel.here | apply Sel.there))))) ?_
  refine G.takeT hT2 (i := 71) (rem' := 632508775174187886707451363328) rfl rfl rfl (by kernel_rfl) (fun _ _ _ h => h) rfl (pv_buildSt (z := [.string ⟨#[]⟩, .int .i64 0, .int .i64 0, .int .i64 0, .int .i64 0, .int .i64 0, .int .i64 0]) (pl := [(0, 1), (1, 2), (3, 2), (5, 2)]) Try.underlying71 (by kernel_rfl) (by kernel_rfl) rfl (by repeat (first | exact Fl.nil | (apply Fl.cons; exact rfl; (first | exact cells_of (by first | rfl | assumption) | exact rfl); exact rfl; exact rfl; repeat (first | exact Sn.nil | (apply Sn.cons; repeat (first | exact St.zero | apply St.succ))))))) (by repeat (first | exact Sub.nil | (apply Sub.cons; (repeat (first | with_reducible exact Sel.here | exact Sel.here | apply Sel.there))))) ?_
  refine G.oneT hT2 (i := 72) (rem' := 632508770451821403837806149632) (by kernel_rfl) (by kernel_rfl) ?_
  refine G.turnOp rfl rfl (G.cR rfl rfl rfl rfl Try.func75 rfl rfl may0 (of_tr _) ?_)
  refine G.back (by repeat (first | exact Sub.nil | (apply Sub.cons; (repeat (first | with_reducible exact Sel.here | exact Sel.here | apply Sel.there))))) ?_
  refine G.oneT hT2 (i := 73) (rem' := 632508761007088438098515722240) (by kernel_rfl) (by kernel_rfl) ?_
  refine G.turnOp rfl rfl (G.cR rfl rfl rfl rfl Try.func75 rfl rfl may0 (of_tr _) ?_)
  refine G.back (by repeat (first | exact Sub.nil | (apply Sub.cons; (repeat (first | with_reducible exact Sel.here | exact Sel.here | apply Sel.there))))) ?_
  refine G.oneT hT2 (i := 74) (rem' := 632508742117622506619934867456) (by kernel_rfl) (by kernel_rfl) ?_
  refine G.turnOp rfl rfl (G.cR rfl rfl rfl rfl Try.func75 rfl rfl may0 (of_tr _) ?_)
  refine G.back (by repeat (first | exact Sub.nil | (apply Sub.cons; (repeat (first | with_reducible exact Sel.here | exact Sel.here | apply Sel.there))))) ?_
  refine G.takeT hT2 (i := 75) (rem' := 632508704338690643662773157888) rfl rfl rfl (by kernel_rfl) (fun _ _ _ h => h) rfl (pv_buildSt (z := [.string ⟨#[]⟩, .int .i64 0, .int .i64 0, .int .i64 0, .int .i64 0, .int .i64 0, .int .i64 0]) (pl := [(0, 1), (1, 2), (3, 2), (5, 2)]) Try.underlying71 (by kernel_rfl) (by kernel_rfl) rfl (by repeat (first | exact Fl.nil | (apply Fl.cons; exact rfl; (first | exact cells_of (by first | rfl | assumption) | exact rfl); exact rfl; exact rfl; repeat (first | exact Sn.nil | (apply Sn.cons; repeat (first | exact St.zero | apply St.succ))))))) (by repeat (first | exact Sub.nil | (apply Sub.cons; (repeat (first | with_reducible exact Sel.here | exact Sel.here | apply Sel.there))))) ?_
  refine G.oneT hT2 (i := 76) (rem' := 632508628780826917748449738752) (by kernel_rfl) (by kernel_rfl) ?_
  refine G.turnOp rfl rfl (G.cR rfl rfl rfl rfl Try.func75 rfl rfl may0 (of_tr _) ?_)
  refine G.back (by repeat (first | exact Sub.nil | (apply Sub.cons; (repeat (first | with_reducible exact Sel.here | exact Sel.here | apply Sel.there))))) ?_
  refine G.oneT hT2 (i := 77) (rem' := 632508477665099465919802900480) (by kernel_rfl) (by kernel_rfl) ?_
  refine G.turnOp rfl rfl (G.cR rfl rfl rfl rfl Try.func75 rfl rfl may0 (of_tr _) ?_)
  refine G.back (by repeat (first | exact Sub.nil | (apply Sub.cons; (repeat (first | with_reducible exact Sel.here | exact Sel.here | apply Sel.there))))) ?_
  refine G.oneT hT2 (i := 78) (rem' := 632508175433644562262509223936) (by kernel_rfl) (by kernel_rfl) ?_
  refine G.turnOp rfl rfl (G.cR rfl rfl rfl rfl Try.func75 rfl rfl may0 (of_tr _) ?_)
  refine G.back (by repeat (first | exact Sub.nil | (apply Sub.cons; (repeat (first | with_reducible exact Sel.here | exact Sel.here | apply Sel.there))))) ?_
  refine G.takeT hT2 (i := 79) (rem' := 632507570970734754947921870848) rfl rfl rfl (by kernel_rfl) (fun _ _ _ h => h) rfl (pv_buildSt (z := [.string ⟨#[]⟩, .int .i64 0, .int .i64 0, .int .i64 0, .int .i64 0, .int .i64 0, .int .i64 0]) (pl := [(0, 1), (1, 2), (3, 2), (5, 2)]) Try.underlying71 (by kernel_rfl) (by kernel_rfl) rfl (by repeat (first | exact Fl.nil | (apply Fl.cons; exact rfl; (first | exact cells_of (by first | rfl | assumption) | exact rfl); exact rfl; exact rfl; repeat (first | exact Sn.nil | (apply Sn.cons; repeat (first | exact St.zero | apply St.succ))))))) (by repeat (first | exact Sub.nil | (apply Sub.cons; (repeat (first | with_reducible exact Sel.here | exact Sel.here | apply Sel.there))))) ?_
  refine G.oneT hT2 (i := 81) (rem' := 632505153119095525689572458496) (by kernel_rfl) (by kernel_rfl) ?_
  refine G.turnOp rfl rfl (G.cR rfl rfl rfl rfl Try.func75 rfl rfl may0 (of_tr _) ?_)
  refine G.back (by repeat (first | exact Sub.nil | (apply Sub.cons; (repeat (first | with_reducible exact Sel.here | exact Sel.here | apply Sel.there))))) ?_
  refine G.oneT hT2 (i := 82) (rem' := 632500317415817067172873633792) (by kernel_rfl) (by kernel_rfl) ?_
  refine G.turnOp rfl rfl (G.cR rfl rfl rfl rfl Try.func75 rfl rfl may0 (of_tr _) ?_)
  refine G.back (by repeat (first | exact Sub.nil | (apply Sub.cons; (repeat (first | with_reducible exact Sel.here | exact Sel.here | apply Sel.there))))) ?_
  refine G.takeT hT2 (i := 83) (rem' := 632490646009260150139475984384) rfl rfl rfl (by kernel_rfl) (fun _ _ _ h => h) rfl (pv_buildSt (z := [.string ⟨#[]⟩, .int .i64 0, .int .i64 0, .int .i64 0, .int .i64 0, .int .i64 0, .int .i64 0]) (pl := [(0, 1), (1, 2), (3, 2), (5, 2)]) Try.underlying71 (by kernel_rfl) (by kernel_rfl) rfl (by repeat (first | exact Fl.nil | (apply Fl.cons; exact rfl; (first | exact cells_of (by first | rfl | assumption) | exact rfl); exact rfl; exact rfl; repeat (first | exact Sn.nil | (apply Sn.cons; repeat (first | exact St.zero | apply St.succ))))))) (by repeat (first | exact Sub.nil | (apply Sub.cons; (repeat (first | with_reducible exact Sel.here | exact Sel.here | apply Sel.there))))) ?_
  refine G.oneT hT2 (i := 84) (rem' := 632471303196146316072680685568) (by kernel_rfl) (by kernel_rfl) ?_
  refine G.turnOp rfl rfl (G.cR rfl rfl rfl rfl Try.func75 rfl rfl may0 (of_tr _) ?_)
  refine G.back (by repeat (first | exact Sub.nil | (apply Sub.cons; (repeat (first | with_reducible exact Sel.here | exact Sel.here | apply Sel.there))))) ?_
  refine G.oneT hT2 (i := 85) (rem' := 632432617569918647939090087936) (by kernel_rfl) (by kernel_rfl) ?_
  refine G.turnOp rfl rfl (G.cR rfl rfl rfl rfl Try.func75 rfl rfl may0 (of_tr _) ?_)
  refine G.back (by repeat (first | exact Sub.nil | (apply Sub.cons; (repeat (first | with_reducible exact Sel.here | exact Sel.here | apply Sel.there))))) ?_
  refine G.takeT hT2 (i := 87) (rem' := 632277875065007975404727697408) rfl rfl rfl (by kernel_rfl) (fun _ _ _ h => h) rfl (pv_buildSt (z := [.string ⟨#[]⟩, .int .i64 0, .int .i64 0, .int .i64 0, .int .i64 0, .int .i64 0, .int .i64 0]) (pl := [(0, 1), (1, 2), (3, 2), (5, 2)]) Try.underlying71 (by kernel_rfl) (by kernel_rfl) rfl (by repeat (first | exact Fl.nil | (apply Fl.cons; exact rfl; (first | exact cells_of (by first | rfl | assumption) | exact rfl); exact rfl; exact rfl; repeat (first | exact Sn.nil | (apply Sn.cons; repeat (first | exact St.zero | apply St.succ))))))) (by repeat (first | exact Sub.nil | (apply Sub.cons; (repeat (first | with_reducible exact Sel.here | exact Sel.here | apply Sel.there))))) ?_
  refine G.oneT hT2 (i := 88) (rem' := 631968390055186630336002916352) (by kernel_rfl) (by kernel_rfl) ?_
  refine G.turnOp rfl rfl (G.cR rfl rfl rfl rfl Try.func75 rfl rfl may0 (of_tr _) ?_)
  refine G.back (by repeat (first | exact Sub.nil | (apply Sub.cons; (repeat (first | with_reducible exact Sel.here | exact Sel.here | apply Sel.there))))) ?_
  refine G.oneT hT2 (i := 89) (rem' := 631349420035543940198553354240) (by kernel_rfl) (by kernel_rfl) ?_
  refine G.turnOp rfl rfl (G.cR rfl rfl rfl rfl Try.func75 rfl rfl may0 (of_tr _) ?_)
  refine G.back (by repeat (first | exact Sub.nil | (apply Sub.cons; (repeat (first | with_reducible exact Sel.here | exact Sel.here | apply Sel.there))))) ?_
  refine G.takeT hT2 (i := 91) (rem' := 628873539956973179648755105792) rfl rfl rfl (by kernel_rfl) (fun _ _ _ h => h) rfl (pv_buildSt (z := [.string ⟨#[]⟩, .int .i64 0, .int .i64 0, .int .i64 0, .int .i64 0, .int .i64 0, .int .i64 0]) (pl := [(0, 1), (1, 2), (3, 2), (5, 2)]) Try.underlying71 (by kernel_rfl) (by kernel_rfl) rfl (by repeat (first | exact Fl.nil | (apply Fl.cons; exact rfl; (first | exact cells_of (by first | rfl | assumption) | exact rfl); exact rfl; exact rfl; repeat (first | exact Sn.nil | (apply Sn.cons; repeat (first | exact St.zero | apply St.succ))))))) (by repeat (first | exact Sub.nil | (apply Sub.cons; (repeat (first | with_reducible exact Sel.here | exact Sel.here | apply Sel.there))))) ?_
  refine G.oneT hT2 (i := 92) (rem' := 623921779799831658549158608896) (by kernel_rfl) (by kernel_rfl) ?_
  refine G.turnOp rfl rfl (G.cR rfl rfl rfl rfl Try.func75 rfl rfl may0 (of_tr _) ?_)
  refine G.back (by repeat (first | exact Sub.nil | (apply Sub.cons; (repeat (first | with_reducible exact Sel.here | exact Sel.here | apply Sel.there))))) ?_
  refine G.oneT hT2 (i := 93) (rem' := 614018259485548616349965615104) (by kernel_rfl) (by kernel_rfl) ?_
  refine G.turnOp rfl rfl (G.cR rfl rfl rfl rfl Try.func75 rfl rfl may0 (of_tr _) ?_)
  refine G.back (by repeat (first | exact Sub.nil | (apply Sub.cons; (repeat (first | with_reducible exact Sel.here | exact Sel.here | apply Sel.there))))) ?_
  refine G.oneT hT2 (i := 94) (rem' := 594211218856982531951579627520) (by kernel_rfl) (by kernel_rfl) ?_
  refine G.turnOp rfl rfl (G.cR rfl rfl rfl rfl Try.func75 rfl rfl may0 (of_tr _) ?_)
  refine G.back (by repeat (first | exact Sub.nil | (apply Sub.cons; (repeat (first | with_reducible exact Sel.here | exact Sel.here | apply Sel.there))))) ?_
  refine G.takeT hT2 (i := 95) (rem' := 554597137599850363154807652352) rfl rfl rfl (by kernel_rfl) (fun _ _ _ h => h) rfl (pv_buildSt (z := [.string ⟨#[]⟩, .int .i64 0, .int .i64 0, .int .i64 0, .int .i64 0, .int .i64 0, .int .i64 0]) (pl := [(0, 1), (1, 2), (3, 2), (5, 2)]) Try.underlying71 (by kernel_rfl) (by kernel_rfl) rfl (by repeat (first | exact Fl.nil | (apply Fl.cons; exact rfl; (first | exact cells_of (by first | rfl | assumption) | exact rfl); exact rfl; exact rfl; repeat (first | exact Sn.nil | (apply Sn.cons; repeat (first | exact St.zero | apply St.succ))))))) (by repeat (first | exact Sub.nil | (apply Sub.cons; (repeat (first | with_reducible exact Sel.here | exact Sel.here | apply Sel.there))))) ?_
  refine G.takeT hT2 (i := 96) (rem' := 475368975085586025561263702016) rfl rfl rfl (by kernel_rfl) (fun _ _ _ h => h) rfl (pv_build (cells := shCells.toArray) (fun a ha => ha.pevs rfl) (by kernel_rfl)) (by repeat (first | exact Sub.nil | (apply Sub.cons; (repeat (first | with_reducible exact Sel.here | exact Sel.here | apply Sel.there))))) ?_
  refine G.oneT hT2 (i := 97) (rem' := 316912650057057350374175801344) (by kernel_rfl) (by kernel_rfl) ?_
  refine G.turnOp rfl rfl (G.box rfl rfl (cs := shCells) rfl ?_)
  intro b100
  refine G.back (by repeat (first | exact Sub.nil | (apply Sub.cons; (repeat (first | with_reducible exact Sel.here | exact Sel.here | apply Sel.there))))) ?_
  refine G.takeT hT2 (i := 98) (rem' := 0) rfl rfl rfl (by kernel_rfl) (fun _ _ _ h => h) rfl (pv_assign rfl) (by repeat (first | exact Sub.nil | (apply Sub.cons; (repeat (first | with_reducible exact Sel.here | exact Sel.here | apply Sel.there))))) ?_
  refine G.overT hT2 (by kernel_rfl) ?_
  refine G.nThen ?_
  refine G.ret ?_
  exact G.doneX1 (b100) (by first | exact trivial | ((try dsimp only); exact trivial)) rfl rfl (by first | rfl | exact int_eq (by omega) | (simp; done)) (by repeat (first | exact Sub.nil | (apply Sub.cons; (repeat (first | with_reducible exact Sel.here | exact Sel.here | apply Sel.there)))))
set_option maxRecDepth 20000 in

theorem shaped_none (k : Int) (h : shM k = none) : Tr Try.prog 42 #[.int .i64 k] [] [] (T0 (.pointer none)) := by
  refine Tr.of (l := [(0, .int .i64 k)]) Try.func42 rfl (n := 15) rfl (.cons rfl .nil) (fun w0 hro => ?_)
  have hk := shM_out h
  refine G.seq ?_
  refine G.region ?_
  refine G.op rfl (G.val rfl rfl (pv_assign rfl) ?_)
  refine G.nil ?_
  refine G.nThen ?_
  refine G.seq ?_
  refine G.region ?_
  refine G.op rfl (G.cS rfl rfl rfl rfl Try.func64 rfl rfl (by repeat (first | exact Sub.nil | (apply Sub.cons; (repeat (first | with_reducible exact Sel.here | exact Sel.here | apply Sel.there))))) may0 (shapes_tr) (by repeat (first | exact Ap.nil | apply Ap.cons)) ?_)
  intro x4 hJ
  try dsimp only at hJ
  try dsimp only
  refine G.op rfl (G.val rfl rfl (pv_assign rfl) ?_)
  refine G.nil ?_
  refine G.nThen ?_
  refine G.seq ?_
  refine G.seq ?_
  refine G.region ?_
  refine G.op rfl (G.val rfl rfl (pv_move rfl) ?_)
  refine G.op rfl (G.val rfl rfl (pv_lss rfl rfl) ?_)
  refine G.op rfl (G.val rfl rfl (pv_move rfl) ?_)
  refine G.partP (t := 7) rfl (fun h7 => ?_) (fun h7 => ?_)
  · refine G.pass rfl rfl rfl rfl rfl rfl ?_
    refine G.pass rfl rfl rfl rfl rfl rfl ?_
    refine G.op rfl (G.val rfl rfl (pv_pick rfl rfl) ?_)
    refine G.nil ?_
    refine G.nThen ?_
    refine G.condT rfl (by first | rfl | exact decide_eq_true (by omega)) ?_
    refine G.seq ?_
    refine G.region ?_
    refine G.op rfl (G.val rfl rfl (pv_assign rfl) ?_)
    refine G.nil ?_
    refine G.nThen ?_
    refine G.ret ?_
    refine G.rThen ?_
    exact G.done0G rfl (Rv.tmp rfl Rv.nil) (by first | rfl | exact int_eq (by omega) | (simp; done))
  · skip
    refine G.want rfl rfl rfl (G.val rfl rfl (pv_move rfl) ?_)
    refine G.want rfl rfl rfl (G.val rfl rfl (pv_geq rfl rfl) ?_)
    refine G.op rfl (G.val rfl rfl (pv_pick rfl rfl) ?_)
    refine G.nil ?_
    refine G.nThen ?_
    refine G.condT rfl (by first | rfl | exact decide_eq_true (by omega)) ?_
    refine G.seq ?_
    refine G.region ?_
    refine G.op rfl (G.val rfl rfl (pv_assign rfl) ?_)
    refine G.nil ?_
    refine G.nThen ?_
    refine G.ret ?_
    refine G.rThen ?_
    exact G.done0G rfl (Rv.tmp rfl Rv.nil) (by first | rfl | exact int_eq (by omega) | (simp; done))
set_option maxRecDepth 20000 in

theorem shaped_some (k : Int) (s : Sh) (h : shM k = some s) : Tr Try.prog 42 #[.int .i64 k] [] [] (TX (fun _ : Nat × Nat => True) (fun x => .pointer (some ⟨x.1, x.2, none⟩)) (fun x => [rng x.1 x.2 (rowS s)])) := by
  refine Tr.of (l := [(0, .int .i64 k)]) Try.func42 rfl (n := 15) rfl (.cons rfl .nil) (fun w0 hro => ?_)
  obtain ⟨hk1, hk2, hs⟩ := shM_in h
  obtain ⟨j, hj⟩ : ∃ j : Nat, j = (k - 1).toNat := ⟨_, rfl⟩
  rw [← hj] at hs
  have hrow := (shRow hs).1
  refine G.seq ?_
  refine G.region ?_
  refine G.op rfl (G.val rfl rfl (pv_assign rfl) ?_)
  refine G.nil ?_
  refine G.nThen ?_
  refine G.seq ?_
  refine G.region ?_
  refine G.op rfl (G.cS rfl rfl rfl rfl Try.func64 rfl rfl (by repeat (first | exact Sub.nil | (apply Sub.cons; (repeat (first | with_reducible exact Sel.here | exact Sel.here | apply Sel.there))))) may0 (shapes_tr) (by repeat (first | exact Ap.nil | apply Ap.cons)) ?_)
  intro x4 hJ
  try dsimp only at hJ
  try dsimp only
  refine G.op rfl (G.val rfl rfl (pv_assign rfl) ?_)
  refine G.nil ?_
  refine G.nThen ?_
  refine G.seq ?_
  refine G.seq ?_
  refine G.region ?_
  refine G.op rfl (G.val rfl rfl (pv_move rfl) ?_)
  refine G.op rfl (G.val rfl rfl (pv_lss rfl rfl) ?_)
  refine G.op rfl (G.val rfl rfl (pv_move rfl) ?_)
  refine G.partP (t := 7) rfl (fun h7 => ?_) (fun h7 => ?_)
  · exfalso; omega
  · refine G.want rfl rfl rfl (G.val rfl rfl (pv_move rfl) ?_)
    refine G.want rfl rfl rfl (G.val rfl rfl (pv_geq rfl rfl) ?_)
    refine G.op rfl (G.val rfl rfl (pv_pick rfl rfl) ?_)
    refine G.nil ?_
    refine G.nThen ?_
    refine G.condF rfl (decide_eq_false (by omega)) ?_
    refine G.skip ?_
    refine G.nThen ?_
    refine G.seq ?_
    refine G.region ?_
    refine G.op rfl (G.val rfl rfl (pv_move rfl) ?_)
    refine G.op rfl (G.val rfl rfl (pv_move rfl) ?_)
    refine G.op rfl (G.val rfl rfl (pv_nilCheck rfl) ?_)
    refine G.op rfl (G.val rfl rfl (pv_ixA (sz := 7) (k := j + 1) Try.underlying102 (by kernel_rfl) rfl rfl (by omega) (by omega)) ?_)
    refine G.op rfl (G.val rfl rfl (pv_assign rfl) ?_)
    refine G.nil ?_
    refine G.nThen ?_
    refine G.ret ?_
    refine G.blkRng (k := 7) (xs := rowS s) (b := x4) (o := (j + 1) * 7) (by repeat (first | with_reducible exact Sel.here | exact Sel.here | apply Sel.there)) hrow ?_
    exact G.doneX1 ((x4, (j + 1) * 7)) (by first | exact trivial | ((try dsimp only); exact trivial)) rfl rfl (by rw [Nat.zero_add]) (by repeat (first | exact Sub.nil | (apply Sub.cons; (repeat (first | with_reducible exact Sel.here | exact Sel.here | apply Sel.there)))))
theorem Try.infoShape : (Try.prog.info? 52).map (fun i => (i.zero, i.size)) = some (some (.agg #[.string ⟨#[]⟩, .int .i64 0, .int .i64 0, .int .i64 0, .int .i64 0, .int .i64 0, .int .i64 0]), 7) := by kernel_rfl
set_option maxRecDepth 100000 in

theorem ofR_none (k : Int) (h : shM k = none) : Tr Try.prog 29 #[.int .i64 k] [] [] (T0 (.tuple #[.agg (rowS sh0).toArray, .bool false])) := by
  refine Tr.of (l := [(0, .int .i64 k)]) Try.func29 rfl (n := 44) rfl (.cons rfl .nil) (fun w0 hro => ?_)
  have hk := shM_out h
  refine G.seq ?_
  refine G.region ?_
  refine G.op rfl (G.alloc (z := .agg #[.string ⟨#[]⟩, .int .i64 0, .int .i64 0, .int .i64 0, .int .i64 0, .int .i64 0, .int .i64 0]) (cs := [.string ⟨#[]⟩, .int .i64 0, .int .i64 0, .int .i64 0, .int .i64 0, .int .i64 0, .int .i64 0]) rfl (by kernel_rfl) rfl ?_)
  intro b2
  refine G.op rfl (G.val rfl rfl (pv_assign rfl) ?_)
  refine G.nil ?_
  refine G.nThen ?_
  refine G.seq ?_
  refine G.region ?_
  refine G.op rfl (G.val rfl rfl (pv_buildSt (z := [.string ⟨#[]⟩, .int .i64 0, .int .i64 0, .int .i64 0, .int .i64 0, .int .i64 0, .int .i64 0]) (pl := [(0, 1), (1, 1), (2, 1), (3, 1), (4, 1), (5, 1), (6, 1)]) Try.underlying52 (by kernel_rfl) (by kernel_rfl) rfl (by repeat (first | exact Fl.nil | (apply Fl.cons; exact rfl; (first | exact cells_of (by first | rfl | assumption) | exact rfl); exact rfl; exact rfl; repeat (first | exact Sn.nil | (apply Sn.cons; repeat (first | exact St.zero | apply St.succ))))))) ?_)
  refine G.op rfl (G.val rfl rfl (pv_buildSt (z := [.string ⟨#[]⟩, .int .i64 0, .int .i64 0, .int .i64 0, .int .i64 0, .int .i64 0, .int .i64 0]) (pl := [(0, 1), (1, 1), (2, 1), (3, 1), (4, 1), (5, 1), (6, 1)]) Try.underlying52 (by kernel_rfl) (by kernel_rfl) rfl (by repeat (first | exact Fl.nil | (apply Fl.cons; exact rfl; (first | exact cells_of (by first | rfl | assumption) | exact rfl); exact rfl; exact rfl; repeat (first | exact Sn.nil | (apply Sn.cons; repeat (first | exact St.zero | apply St.succ))))))) ?_)
  refine G.op rfl (G.val rfl rfl (pv_buildSt (z := [.string ⟨#[]⟩, .int .i64 0, .int .i64 0, .int .i64 0, .int .i64 0, .int .i64 0, .int .i64 0]) (pl := [(0, 1), (1, 1), (2, 1), (3, 1), (4, 1), (5, 1), (6, 1)]) Try.underlying52 (by kernel_rfl) (by kernel_rfl) rfl (by repeat (first | exact Fl.nil | (apply Fl.cons; exact rfl; (first | exact cells_of (by first | rfl | assumption) | exact rfl); exact rfl; exact rfl; repeat (first | exact Sn.nil | (apply Sn.cons; repeat (first | exact St.zero | apply St.succ))))))) ?_)
  refine G.op rfl (G.val rfl rfl (pv_buildSt (z := [.string ⟨#[]⟩, .int .i64 0, .int .i64 0, .int .i64 0, .int .i64 0, .int .i64 0, .int .i64 0]) (pl := [(0, 1), (1, 1), (2, 1), (3, 1), (4, 1), (5, 1), (6, 1)]) Try.underlying52 (by kernel_rfl) (by kernel_rfl) rfl (by repeat (first | exact Fl.nil | (apply Fl.cons; exact rfl; (first | exact cells_of (by first | rfl | assumption) | exact rfl); exact rfl; exact rfl; repeat (first | exact Sn.nil | (apply Sn.cons; repeat (first | exact St.zero | apply St.succ))))))) ?_)
  refine G.op rfl (G.val rfl rfl (pv_buildSt (z := [.string ⟨#[]⟩, .int .i64 0, .int .i64 0, .int .i64 0, .int .i64 0, .int .i64 0, .int .i64 0]) (pl := [(0, 1), (1, 1), (2, 1), (3, 1), (4, 1), (5, 1), (6, 1)]) Try.underlying52 (by kernel_rfl) (by kernel_rfl) rfl (by repeat (first | exact Fl.nil | (apply Fl.cons; exact rfl; (first | exact cells_of (by first | rfl | assumption) | exact rfl); exact rfl; exact rfl; repeat (first | exact Sn.nil | (apply Sn.cons; repeat (first | exact St.zero | apply St.succ))))))) ?_)
  refine G.op rfl (G.val rfl rfl (pv_buildSt (z := [.string ⟨#[]⟩, .int .i64 0, .int .i64 0, .int .i64 0, .int .i64 0, .int .i64 0, .int .i64 0]) (pl := [(0, 1), (1, 1), (2, 1), (3, 1), (4, 1), (5, 1), (6, 1)]) Try.underlying52 (by kernel_rfl) (by kernel_rfl) rfl (by repeat (first | exact Fl.nil | (apply Fl.cons; exact rfl; (first | exact cells_of (by first | rfl | assumption) | exact rfl); exact rfl; exact rfl; repeat (first | exact Sn.nil | (apply Sn.cons; repeat (first | exact St.zero | apply St.succ))))))) ?_)
  refine G.op rfl (G.val rfl rfl (pv_buildSt (z := [.string ⟨#[]⟩, .int .i64 0, .int .i64 0, .int .i64 0, .int .i64 0, .int .i64 0, .int .i64 0]) (pl := [(0, 1), (1, 1), (2, 1), (3, 1), (4, 1), (5, 1), (6, 1)]) Try.underlying52 (by kernel_rfl) (by kernel_rfl) rfl (by repeat (first | exact Fl.nil | (apply Fl.cons; exact rfl; (first | exact cells_of (by first | rfl | assumption) | exact rfl); exact rfl; exact rfl; repeat (first | exact Sn.nil | (apply Sn.cons; repeat (first | exact St.zero | apply St.succ))))))) ?_)
  refine G.op rfl (G.val rfl rfl (pv_buildSt (z := [.string ⟨#[]⟩, .int .i64 0, .int .i64 0, .int .i64 0, .int .i64 0, .int .i64 0, .int .i64 0]) (pl := [(0, 1), (1, 1), (2, 1), (3, 1), (4, 1), (5, 1), (6, 1)]) Try.underlying52 (by kernel_rfl) (by kernel_rfl) rfl (by repeat (first | exact Fl.nil | (apply Fl.cons; exact rfl; (first | exact cells_of (by first | rfl | assumption) | exact rfl); exact rfl; exact rfl; repeat (first | exact Sn.nil | (apply Sn.cons; repeat (first | exact St.zero | apply St.succ))))))) ?_)
  refine G.op rfl (G.val rfl rfl (pv_buildSt (z := [.string ⟨#[]⟩, .int .i64 0, .int .i64 0, .int .i64 0, .int .i64 0, .int .i64 0, .int .i64 0]) (pl := [(0, 1), (1, 1), (2, 1), (3, 1), (4, 1), (5, 1), (6, 1)]) Try.underlying52 (by kernel_rfl) (by kernel_rfl) rfl (by repeat (first | exact Fl.nil | (apply Fl.cons; exact rfl; (first | exact cells_of (by first | rfl | assumption) | exact rfl); exact rfl; exact rfl; repeat (first | exact Sn.nil | (apply Sn.cons; repeat (first | exact St.zero | apply St.succ))))))) ?_)
  refine G.op rfl (G.val rfl rfl (pv_buildSt (z := [.string ⟨#[]⟩, .int .i64 0, .int .i64 0, .int .i64 0, .int .i64 0, .int .i64 0, .int .i64 0]) (pl := [(0, 1), (1, 1), (2, 1), (3, 1), (4, 1), (5, 1), (6, 1)]) Try.underlying52 (by kernel_rfl) (by kernel_rfl) rfl (by repeat (first | exact Fl.nil | (apply Fl.cons; exact rfl; (first | exact cells_of (by first | rfl | assumption) | exact rfl); exact rfl; exact rfl; repeat (first | exact Sn.nil | (apply Sn.cons; repeat (first | exact St.zero | apply St.succ))))))) ?_)
  refine G.op rfl (G.val rfl rfl (pv_buildSt (z := [.string ⟨#[]⟩, .int .i64 0, .int .i64 0, .int .i64 0, .int .i64 0, .int .i64 0, .int .i64 0]) (pl := [(0, 1), (1, 1), (2, 1), (3, 1), (4, 1), (5, 1), (6, 1)]) Try.underlying52 (by kernel_rfl) (by kernel_rfl) rfl (by repeat (first | exact Fl.nil | (apply Fl.cons; exact rfl; (first | exact cells_of (by first | rfl | assumption) | exact rfl); exact rfl; exact rfl; repeat (first | exact Sn.nil | (apply Sn.cons; repeat (first | exact St.zero | apply St.succ))))))) ?_)
  refine G.op rfl (G.val rfl rfl (pv_buildSt (z := [.string ⟨#[]⟩, .int .i64 0, .int .i64 0, .int .i64 0, .int .i64 0, .int .i64 0, .int .i64 0]) (pl := [(0, 1), (1, 1), (2, 1), (3, 1), (4, 1), (5, 1), (6, 1)]) Try.underlying52 (by kernel_rfl) (by kernel_rfl) rfl (by repeat (first | exact Fl.nil | (apply Fl.cons; exact rfl; (first | exact cells_of (by first | rfl | assumption) | exact rfl); exact rfl; exact rfl; repeat (first | exact Sn.nil | (apply Sn.cons; repeat (first | exact St.zero | apply St.succ))))))) ?_)
  refine G.op rfl (G.val rfl rfl (pv_buildSt (z := [.string ⟨#[]⟩, .int .i64 0, .int .i64 0, .int .i64 0, .int .i64 0, .int .i64 0, .int .i64 0]) (pl := [(0, 1), (1, 1), (2, 1), (3, 1), (4, 1), (5, 1), (6, 1)]) Try.underlying52 (by kernel_rfl) (by kernel_rfl) rfl (by repeat (first | exact Fl.nil | (apply Fl.cons; exact rfl; (first | exact cells_of (by first | rfl | assumption) | exact rfl); exact rfl; exact rfl; repeat (first | exact Sn.nil | (apply Sn.cons; repeat (first | exact St.zero | apply St.succ))))))) ?_)
  refine G.op rfl (G.val rfl rfl (pv_buildSt (z := [.string ⟨#[]⟩, .int .i64 0, .int .i64 0, .int .i64 0, .int .i64 0, .int .i64 0, .int .i64 0]) (pl := [(0, 1), (1, 1), (2, 1), (3, 1), (4, 1), (5, 1), (6, 1)]) Try.underlying52 (by kernel_rfl) (by kernel_rfl) rfl (by repeat (first | exact Fl.nil | (apply Fl.cons; exact rfl; (first | exact cells_of (by first | rfl | assumption) | exact rfl); exact rfl; exact rfl; repeat (first | exact Sn.nil | (apply Sn.cons; repeat (first | exact St.zero | apply St.succ))))))) ?_)
  refine G.op rfl (G.val rfl rfl (pv_buildSt (z := [.string ⟨#[]⟩, .int .i64 0, .int .i64 0, .int .i64 0, .int .i64 0, .int .i64 0, .int .i64 0]) (pl := [(0, 1), (1, 1), (2, 1), (3, 1), (4, 1), (5, 1), (6, 1)]) Try.underlying52 (by kernel_rfl) (by kernel_rfl) rfl (by repeat (first | exact Fl.nil | (apply Fl.cons; exact rfl; (first | exact cells_of (by first | rfl | assumption) | exact rfl); exact rfl; exact rfl; repeat (first | exact Sn.nil | (apply Sn.cons; repeat (first | exact St.zero | apply St.succ))))))) ?_)
  refine G.op rfl (G.val rfl rfl (pv_buildSt (z := [.string ⟨#[]⟩, .int .i64 0, .int .i64 0, .int .i64 0, .int .i64 0, .int .i64 0, .int .i64 0]) (pl := [(0, 1), (1, 1), (2, 1), (3, 1), (4, 1), (5, 1), (6, 1)]) Try.underlying52 (by kernel_rfl) (by kernel_rfl) rfl (by repeat (first | exact Fl.nil | (apply Fl.cons; exact rfl; (first | exact cells_of (by first | rfl | assumption) | exact rfl); exact rfl; exact rfl; repeat (first | exact Sn.nil | (apply Sn.cons; repeat (first | exact St.zero | apply St.succ))))))) ?_)
  refine G.op rfl (G.val rfl rfl (pv_buildSt (z := [.string ⟨#[]⟩, .int .i64 0, .int .i64 0, .int .i64 0, .int .i64 0, .int .i64 0, .int .i64 0]) (pl := [(0, 1), (1, 1), (2, 1), (3, 1), (4, 1), (5, 1), (6, 1)]) Try.underlying52 (by kernel_rfl) (by kernel_rfl) rfl (by repeat (first | exact Fl.nil | (apply Fl.cons; exact rfl; (first | exact cells_of (by first | rfl | assumption) | exact rfl); exact rfl; exact rfl; repeat (first | exact Sn.nil | (apply Sn.cons; repeat (first | exact St.zero | apply St.succ))))))) ?_)
  refine G.op rfl (G.val rfl rfl (pv_buildSt (z := [.string ⟨#[]⟩, .int .i64 0, .int .i64 0, .int .i64 0, .int .i64 0, .int .i64 0, .int .i64 0]) (pl := [(0, 1), (1, 1), (2, 1), (3, 1), (4, 1), (5, 1), (6, 1)]) Try.underlying52 (by kernel_rfl) (by kernel_rfl) rfl (by repeat (first | exact Fl.nil | (apply Fl.cons; exact rfl; (first | exact cells_of (by first | rfl | assumption) | exact rfl); exact rfl; exact rfl; repeat (first | exact Sn.nil | (apply Sn.cons; repeat (first | exact St.zero | apply St.succ))))))) ?_)
  refine G.op rfl (G.val rfl rfl (pv_buildSt (z := [.string ⟨#[]⟩, .int .i64 0, .int .i64 0, .int .i64 0, .int .i64 0, .int .i64 0, .int .i64 0]) (pl := [(0, 1), (1, 1), (2, 1), (3, 1), (4, 1), (5, 1), (6, 1)]) Try.underlying52 (by kernel_rfl) (by kernel_rfl) rfl (by repeat (first | exact Fl.nil | (apply Fl.cons; exact rfl; (first | exact cells_of (by first | rfl | assumption) | exact rfl); exact rfl; exact rfl; repeat (first | exact Sn.nil | (apply Sn.cons; repeat (first | exact St.zero | apply St.succ))))))) ?_)
  refine G.op rfl (G.val rfl rfl (pv_buildSt (z := [.string ⟨#[]⟩, .int .i64 0, .int .i64 0, .int .i64 0, .int .i64 0, .int .i64 0, .int .i64 0]) (pl := [(0, 1), (1, 1), (2, 1), (3, 1), (4, 1), (5, 1), (6, 1)]) Try.underlying52 (by kernel_rfl) (by kernel_rfl) rfl (by repeat (first | exact Fl.nil | (apply Fl.cons; exact rfl; (first | exact cells_of (by first | rfl | assumption) | exact rfl); exact rfl; exact rfl; repeat (first | exact Sn.nil | (apply Sn.cons; repeat (first | exact St.zero | apply St.succ))))))) ?_)
  refine G.op rfl (G.val rfl rfl (pv_buildSt (z := [.string ⟨#[]⟩, .int .i64 0, .int .i64 0, .int .i64 0, .int .i64 0, .int .i64 0, .int .i64 0]) (pl := [(0, 1), (1, 1), (2, 1), (3, 1), (4, 1), (5, 1), (6, 1)]) Try.underlying52 (by kernel_rfl) (by kernel_rfl) rfl (by repeat (first | exact Fl.nil | (apply Fl.cons; exact rfl; (first | exact cells_of (by first | rfl | assumption) | exact rfl); exact rfl; exact rfl; repeat (first | exact Sn.nil | (apply Sn.cons; repeat (first | exact St.zero | apply St.succ))))))) ?_)
  refine G.op rfl (G.val rfl rfl (pv_buildSt (z := [.string ⟨#[]⟩, .int .i64 0, .int .i64 0, .int .i64 0, .int .i64 0, .int .i64 0, .int .i64 0]) (pl := [(0, 1), (1, 1), (2, 1), (3, 1), (4, 1), (5, 1), (6, 1)]) Try.underlying52 (by kernel_rfl) (by kernel_rfl) rfl (by repeat (first | exact Fl.nil | (apply Fl.cons; exact rfl; (first | exact cells_of (by first | rfl | assumption) | exact rfl); exact rfl; exact rfl; repeat (first | exact Sn.nil | (apply Sn.cons; repeat (first | exact St.zero | apply St.succ))))))) ?_)
  refine G.op rfl (G.val rfl rfl (pv_buildSt (z := [.string ⟨#[]⟩, .int .i64 0, .int .i64 0, .int .i64 0, .int .i64 0, .int .i64 0, .int .i64 0]) (pl := [(0, 1), (1, 1), (2, 1), (3, 1), (4, 1), (5, 1), (6, 1)]) Try.underlying52 (by kernel_rfl) (by kernel_rfl) rfl (by repeat (first | exact Fl.nil | (apply Fl.cons; exact rfl; (first | exact cells_of (by first | rfl | assumption) | exact rfl); exact rfl; exact rfl; repeat (first | exact Sn.nil | (apply Sn.cons; repeat (first | exact St.zero | apply St.succ))))))) ?_)
  refine G.op rfl (G.val rfl rfl (pv_buildSt (z := [.string ⟨#[]⟩, .int .i64 0, .int .i64 0, .int .i64 0, .int .i64 0, .int .i64 0, .int .i64 0]) (pl := [(0, 1), (1, 1), (2, 1), (3, 1), (4, 1), (5, 1), (6, 1)]) Try.underlying52 (by kernel_rfl) (by kernel_rfl) rfl (by repeat (first | exact Fl.nil | (apply Fl.cons; exact rfl; (first | exact cells_of (by first | rfl | assumption) | exact rfl); exact rfl; exact rfl; repeat (first | exact Sn.nil | (apply Sn.cons; repeat (first | exact St.zero | apply St.succ))))))) ?_)
  refine G.op rfl (G.buildSlice (sz := 7) (cs := refCells) rfl Try.underlying88 Try.infoShape (by decide) (by decide) rfl (by kernel_rfl) ?_)
  intro b29
  refine G.op rfl (G.val rfl rfl (pv_assign rfl) ?_)
  refine G.nil ?_
  refine G.nThen ?_
  refine G.seq ?_
  refine G.seq ?_
  refine G.region ?_
  refine G.op rfl (G.val rfl rfl (pv_move rfl) ?_)
  refine G.op rfl (G.val rfl rfl (pv_lss rfl rfl) ?_)
  refine G.op rfl (G.val rfl rfl (pv_move rfl) ?_)
  refine G.partP (t := 32) rfl (fun h32 => ?_) (fun h32 => ?_)
  · refine G.pass rfl rfl rfl rfl rfl rfl ?_
    refine G.pass rfl rfl rfl rfl rfl rfl ?_
    refine G.pass rfl rfl rfl rfl rfl rfl ?_
    refine G.pass rfl rfl rfl rfl rfl rfl ?_
    refine G.op rfl (G.val rfl rfl (pv_pick rfl rfl) ?_)
    refine G.nil ?_
    refine G.nThen ?_
    refine G.condT rfl (by first | rfl | exact decide_eq_true (by omega)) ?_
    refine G.seq ?_
    refine G.region ?_
    refine G.op rfl (G.val rfl rfl (pv_buildSt (z := [.string ⟨#[]⟩, .int .i64 0, .int .i64 0, .int .i64 0, .int .i64 0, .int .i64 0, .int .i64 0]) (pl := [(0, 1), (1, 1), (2, 1), (3, 1), (4, 1), (5, 1), (6, 1)]) Try.underlying52 (by kernel_rfl) (by kernel_rfl) rfl (by repeat (first | exact Fl.nil | (apply Fl.cons; exact rfl; (first | exact cells_of (by first | rfl | assumption) | exact rfl); exact rfl; exact rfl; repeat (first | exact Sn.nil | (apply Sn.cons; repeat (first | exact St.zero | apply St.succ))))))) ?_)
    refine G.op rfl (G.storeN (by kernel_rfl) rfl rfl (by first | rfl | exact List.all_eq_true.2 (vByte_one _) | (repeat (first | exact all1_nil | (apply all1_cons; first | rfl | assumption)))) (by repeat (first | with_reducible exact Sel.here | exact Sel.here | apply Sel.there)) (by first | (simp; done) | exact Nat.le_of_ble_eq_true rfl) ?_)
    refine G.op rfl (G.val rfl rfl (pv_assign rfl) ?_)
    refine G.nil ?_
    refine G.nThen ?_
    refine G.ret ?_
    refine G.rThen ?_
    exact G.done0G rfl (Rv.cellN (cs := [_, _, _, _, _, _, _]) rfl Try.underlying52 rfl (by kernel_rfl) (by first | exact blk_range (k := 7) (by (repeat (first | with_reducible exact Sel.here | exact Sel.here | apply Sel.there)); done) (by rfl)) (Rv.tmp rfl Rv.nil)) (by first | rfl | exact int_eq (by omega) | (simp; done))
  · refine G.want rfl rfl rfl (G.val rfl rfl (pv_move rfl) ?_)
    refine G.want rfl rfl rfl (G.val rfl rfl (pv_move rfl) ?_)
    refine G.want rfl rfl rfl (G.val rfl rfl (pv_lenSl Try.underlying88 rfl) ?_)
    refine G.want rfl rfl rfl (G.val rfl rfl (pv_gtr rfl rfl) ?_)
    refine G.op rfl (G.val rfl rfl (pv_pick rfl rfl) ?_)
    refine G.nil ?_
    refine G.nThen ?_
    refine G.condT rfl (by first | rfl | exact decide_eq_true (by omega)) ?_
    refine G.seq ?_
    refine G.region ?_
    refine G.op rfl (G.val rfl rfl (pv_buildSt (z := [.string ⟨#[]⟩, .int .i64 0, .int .i64 0, .int .i64 0, .int .i64 0, .int .i64 0, .int .i64 0]) (pl := [(0, 1), (1, 1), (2, 1), (3, 1), (4, 1), (5, 1), (6, 1)]) Try.underlying52 (by kernel_rfl) (by kernel_rfl) rfl (by repeat (first | exact Fl.nil | (apply Fl.cons; exact rfl; (first | exact cells_of (by first | rfl | assumption) | exact rfl); exact rfl; exact rfl; repeat (first | exact Sn.nil | (apply Sn.cons; repeat (first | exact St.zero | apply St.succ))))))) ?_)
    refine G.op rfl (G.storeN (by kernel_rfl) rfl rfl (by first | rfl | exact List.all_eq_true.2 (vByte_one _) | (repeat (first | exact all1_nil | (apply all1_cons; first | rfl | assumption)))) (by repeat (first | with_reducible exact Sel.here | exact Sel.here | apply Sel.there)) (by first | (simp; done) | exact Nat.le_of_ble_eq_true rfl) ?_)
    refine G.op rfl (G.val rfl rfl (pv_assign rfl) ?_)
    refine G.nil ?_
    refine G.nThen ?_
    refine G.ret ?_
    refine G.rThen ?_
    exact G.done0G rfl (Rv.cellN (cs := [_, _, _, _, _, _, _]) rfl Try.underlying52 rfl (by kernel_rfl) (by first | exact blk_range (k := 7) (by (repeat (first | with_reducible exact Sel.here | exact Sel.here | apply Sel.there)); done) (by rfl)) (Rv.tmp rfl Rv.nil)) (by first | rfl | exact int_eq (by omega) | (simp; done))
set_option maxRecDepth 100000 in

theorem ofR_some (k : Int) (s : Sh) (h : shM k = some s) : Tr Try.prog 29 #[.int .i64 k] [] [] (T0 (.tuple #[.agg (rowS s).toArray, .bool true])) := by
  refine Tr.of (l := [(0, .int .i64 k)]) Try.func29 rfl (n := 44) rfl (.cons rfl .nil) (fun w0 hro => ?_)
  obtain ⟨hk1, hk2, hs⟩ := shM_in h
  obtain ⟨j, hj⟩ : ∃ j : Nat, j = (k - 1).toNat := ⟨_, rfl⟩
  rw [← hj] at hs
  have hrow := (shRow hs).2
  refine G.seq ?_
  refine G.region ?_
  refine G.op rfl (G.alloc (z := .agg #[.string ⟨#[]⟩, .int .i64 0, .int .i64 0, .int .i64 0, .int .i64 0, .int .i64 0, .int .i64 0]) (cs := [.string ⟨#[]⟩, .int .i64 0, .int .i64 0, .int .i64 0, .int .i64 0, .int .i64 0, .int .i64 0]) rfl (by kernel_rfl) rfl ?_)
  intro b2
  refine G.op rfl (G.val rfl rfl (pv_assign rfl) ?_)
  refine G.nil ?_
  refine G.nThen ?_
  refine G.seq ?_
  refine G.region ?_
  refine G.op rfl (G.val rfl rfl (pv_buildSt (z := [.string ⟨#[]⟩, .int .i64 0, .int .i64 0, .int .i64 0, .int .i64 0, .int .i64 0, .int .i64 0]) (pl := [(0, 1), (1, 1), (2, 1), (3, 1), (4, 1), (5, 1), (6, 1)]) Try.underlying52 (by kernel_rfl) (by kernel_rfl) rfl (by repeat (first | exact Fl.nil | (apply Fl.cons; exact rfl; (first | exact cells_of (by first | rfl | assumption) | exact rfl); exact rfl; exact rfl; repeat (first | exact Sn.nil | (apply Sn.cons; repeat (first | exact St.zero | apply St.succ))))))) ?_)
  refine G.op rfl (G.val rfl rfl (pv_buildSt (z := [.string ⟨#[]⟩, .int .i64 0, .int .i64 0, .int .i64 0, .int .i64 0, .int .i64 0, .int .i64 0]) (pl := [(0, 1), (1, 1), (2, 1), (3, 1), (4, 1), (5, 1), (6, 1)]) Try.underlying52 (by kernel_rfl) (by kernel_rfl) rfl (by repeat (first | exact Fl.nil | (apply Fl.cons; exact rfl; (first | exact cells_of (by first | rfl | assumption) | exact rfl); exact rfl; exact rfl; repeat (first | exact Sn.nil | (apply Sn.cons; repeat (first | exact St.zero | apply St.succ))))))) ?_)
  refine G.op rfl (G.val rfl rfl (pv_buildSt (z := [.string ⟨#[]⟩, .int .i64 0, .int .i64 0, .int .i64 0, .int .i64 0, .int .i64 0, .int .i64 0]) (pl := [(0, 1), (1, 1), (2, 1), (3, 1), (4, 1), (5, 1), (6, 1)]) Try.underlying52 (by kernel_rfl) (by kernel_rfl) rfl (by repeat (first | exact Fl.nil | (apply Fl.cons; exact rfl; (first | exact cells_of (by first | rfl | assumption) | exact rfl); exact rfl; exact rfl; repeat (first | exact Sn.nil | (apply Sn.cons; repeat (first | exact St.zero | apply St.succ))))))) ?_)
  refine G.op rfl (G.val rfl rfl (pv_buildSt (z := [.string ⟨#[]⟩, .int .i64 0, .int .i64 0, .int .i64 0, .int .i64 0, .int .i64 0, .int .i64 0]) (pl := [(0, 1), (1, 1), (2, 1), (3, 1), (4, 1), (5, 1), (6, 1)]) Try.underlying52 (by kernel_rfl) (by kernel_rfl) rfl (by repeat (first | exact Fl.nil | (apply Fl.cons; exact rfl; (first | exact cells_of (by first | rfl | assumption) | exact rfl); exact rfl; exact rfl; repeat (first | exact Sn.nil | (apply Sn.cons; repeat (first | exact St.zero | apply St.succ))))))) ?_)
  refine G.op rfl (G.val rfl rfl (pv_buildSt (z := [.string ⟨#[]⟩, .int .i64 0, .int .i64 0, .int .i64 0, .int .i64 0, .int .i64 0, .int .i64 0]) (pl := [(0, 1), (1, 1), (2, 1), (3, 1), (4, 1), (5, 1), (6, 1)]) Try.underlying52 (by kernel_rfl) (by kernel_rfl) rfl (by repeat (first | exact Fl.nil | (apply Fl.cons; exact rfl; (first | exact cells_of (by first | rfl | assumption) | exact rfl); exact rfl; exact rfl; repeat (first | exact Sn.nil | (apply Sn.cons; repeat (first | exact St.zero | apply St.succ))))))) ?_)
  refine G.op rfl (G.val rfl rfl (pv_buildSt (z := [.string ⟨#[]⟩, .int .i64 0, .int .i64 0, .int .i64 0, .int .i64 0, .int .i64 0, .int .i64 0]) (pl := [(0, 1), (1, 1), (2, 1), (3, 1), (4, 1), (5, 1), (6, 1)]) Try.underlying52 (by kernel_rfl) (by kernel_rfl) rfl (by repeat (first | exact Fl.nil | (apply Fl.cons; exact rfl; (first | exact cells_of (by first | rfl | assumption) | exact rfl); exact rfl; exact rfl; repeat (first | exact Sn.nil | (apply Sn.cons; repeat (first | exact St.zero | apply St.succ))))))) ?_)
  refine G.op rfl (G.val rfl rfl (pv_buildSt (z := [.string ⟨#[]⟩, .int .i64 0, .int .i64 0, .int .i64 0, .int .i64 0, .int .i64 0, .int .i64 0]) (pl := [(0, 1), (1, 1), (2, 1), (3, 1), (4, 1), (5, 1), (6, 1)]) Try.underlying52 (by kernel_rfl) (by kernel_rfl) rfl (by repeat (first | exact Fl.nil | (apply Fl.cons; exact rfl; (first | exact cells_of (by first | rfl | assumption) | exact rfl); exact rfl; exact rfl; repeat (first | exact Sn.nil | (apply Sn.cons; repeat (first | exact St.zero | apply St.succ))))))) ?_)
  refine G.op rfl (G.val rfl rfl (pv_buildSt (z := [.string ⟨#[]⟩, .int .i64 0, .int .i64 0, .int .i64 0, .int .i64 0, .int .i64 0, .int .i64 0]) (pl := [(0, 1), (1, 1), (2, 1), (3, 1), (4, 1), (5, 1), (6, 1)]) Try.underlying52 (by kernel_rfl) (by kernel_rfl) rfl (by repeat (first | exact Fl.nil | (apply Fl.cons; exact rfl; (first | exact cells_of (by first | rfl | assumption) | exact rfl); exact rfl; exact rfl; repeat (first | exact Sn.nil | (apply Sn.cons; repeat (first | exact St.zero | apply St.succ))))))) ?_)
  refine G.op rfl (G.val rfl rfl (pv_buildSt (z := [.string ⟨#[]⟩, .int .i64 0, .int .i64 0, .int .i64 0, .int .i64 0, .int .i64 0, .int .i64 0]) (pl := [(0, 1), (1, 1), (2, 1), (3, 1), (4, 1), (5, 1), (6, 1)]) Try.underlying52 (by kernel_rfl) (by kernel_rfl) rfl (by repeat (first | exact Fl.nil | (apply Fl.cons; exact rfl; (first | exact cells_of (by first | rfl | assumption) | exact rfl); exact rfl; exact rfl; repeat (first | exact Sn.nil | (apply Sn.cons; repeat (first | exact St.zero | apply St.succ))))))) ?_)
  refine G.op rfl (G.val rfl rfl (pv_buildSt (z := [.string ⟨#[]⟩, .int .i64 0, .int .i64 0, .int .i64 0, .int .i64 0, .int .i64 0, .int .i64 0]) (pl := [(0, 1), (1, 1), (2, 1), (3, 1), (4, 1), (5, 1), (6, 1)]) Try.underlying52 (by kernel_rfl) (by kernel_rfl) rfl (by repeat (first | exact Fl.nil | (apply Fl.cons; exact rfl; (first | exact cells_of (by first | rfl | assumption) | exact rfl); exact rfl; exact rfl; repeat (first | exact Sn.nil | (apply Sn.cons; repeat (first | exact St.zero | apply St.succ))))))) ?_)
  refine G.op rfl (G.val rfl rfl (pv_buildSt (z := [.string ⟨#[]⟩, .int .i64 0, .int .i64 0, .int .i64 0, .int .i64 0, .int .i64 0, .int .i64 0]) (pl := [(0, 1), (1, 1), (2, 1), (3, 1), (4, 1), (5, 1), (6, 1)]) Try.underlying52 (by kernel_rfl) (by kernel_rfl) rfl (by repeat (first | exact Fl.nil | (apply Fl.cons; exact rfl; (first | exact cells_of (by first | rfl | assumption) | exact rfl); exact rfl; exact rfl; repeat (first | exact Sn.nil | (apply Sn.cons; repeat (first | exact St.zero | apply St.succ))))))) ?_)
  refine G.op rfl (G.val rfl rfl (pv_buildSt (z := [.string ⟨#[]⟩, .int .i64 0, .int .i64 0, .int .i64 0, .int .i64 0, .int .i64 0, .int .i64 0]) (pl := [(0, 1), (1, 1), (2, 1), (3, 1), (4, 1), (5, 1), (6, 1)]) Try.underlying52 (by kernel_rfl) (by kernel_rfl) rfl (by repeat (first | exact Fl.nil | (apply Fl.cons; exact rfl; (first | exact cells_of (by first | rfl | assumption) | exact rfl); exact rfl; exact rfl; repeat (first | exact Sn.nil | (apply Sn.cons; repeat (first | exact St.zero | apply St.succ))))))) ?_)
  refine G.op rfl (G.val rfl rfl (pv_buildSt (z := [.string ⟨#[]⟩, .int .i64 0, .int .i64 0, .int .i64 0, .int .i64 0, .int .i64 0, .int .i64 0]) (pl := [(0, 1), (1, 1), (2, 1), (3, 1), (4, 1), (5, 1), (6, 1)]) Try.underlying52 (by kernel_rfl) (by kernel_rfl) rfl (by repeat (first | exact Fl.nil | (apply Fl.cons; exact rfl; (first | exact cells_of (by first | rfl | assumption) | exact rfl); exact rfl; exact rfl; repeat (first | exact Sn.nil | (apply Sn.cons; repeat (first | exact St.zero | apply St.succ))))))) ?_)
  refine G.op rfl (G.val rfl rfl (pv_buildSt (z := [.string ⟨#[]⟩, .int .i64 0, .int .i64 0, .int .i64 0, .int .i64 0, .int .i64 0, .int .i64 0]) (pl := [(0, 1), (1, 1), (2, 1), (3, 1), (4, 1), (5, 1), (6, 1)]) Try.underlying52 (by kernel_rfl) (by kernel_rfl) rfl (by repeat (first | exact Fl.nil | (apply Fl.cons; exact rfl; (first | exact cells_of (by first | rfl | assumption) | exact rfl); exact rfl; exact rfl; repeat (first | exact Sn.nil | (apply Sn.cons; repeat (first | exact St.zero | apply St.succ))))))) ?_)
  refine G.op rfl (G.val rfl rfl (pv_buildSt (z := [.string ⟨#[]⟩, .int .i64 0, .int .i64 0, .int .i64 0, .int .i64 0, .int .i64 0, .int .i64 0]) (pl := [(0, 1), (1, 1), (2, 1), (3, 1), (4, 1), (5, 1), (6, 1)]) Try.underlying52 (by kernel_rfl) (by kernel_rfl) rfl (by repeat (first | exact Fl.nil | (apply Fl.cons; exact rfl; (first | exact cells_of (by first | rfl | assumption) | exact rfl); exact rfl; exact rfl; repeat (first | exact Sn.nil | (apply Sn.cons; repeat (first | exact St.zero | apply St.succ))))))) ?_)
  refine G.op rfl (G.val rfl rfl (pv_buildSt (z := [.string ⟨#[]⟩, .int .i64 0, .int .i64 0, .int .i64 0, .int .i64 0, .int .i64 0, .int .i64 0]) (pl := [(0, 1), (1, 1), (2, 1), (3, 1), (4, 1), (5, 1), (6, 1)]) Try.underlying52 (by kernel_rfl) (by kernel_rfl) rfl (by repeat (first | exact Fl.nil | (apply Fl.cons; exact rfl; (first | exact cells_of (by first | rfl | assumption) | exact rfl); exact rfl; exact rfl; repeat (first | exact Sn.nil | (apply Sn.cons; repeat (first | exact St.zero | apply St.succ))))))) ?_)
  refine G.op rfl (G.val rfl rfl (pv_buildSt (z := [.string ⟨#[]⟩, .int .i64 0, .int .i64 0, .int .i64 0, .int .i64 0, .int .i64 0, .int .i64 0]) (pl := [(0, 1), (1, 1), (2, 1), (3, 1), (4, 1), (5, 1), (6, 1)]) Try.underlying52 (by kernel_rfl) (by kernel_rfl) rfl (by repeat (first | exact Fl.nil | (apply Fl.cons; exact rfl; (first | exact cells_of (by first | rfl | assumption) | exact rfl); exact rfl; exact rfl; repeat (first | exact Sn.nil | (apply Sn.cons; repeat (first | exact St.zero | apply St.succ))))))) ?_)
  refine G.op rfl (G.val rfl rfl (pv_buildSt (z := [.string ⟨#[]⟩, .int .i64 0, .int .i64 0, .int .i64 0, .int .i64 0, .int .i64 0, .int .i64 0]) (pl := [(0, 1), (1, 1), (2, 1), (3, 1), (4, 1), (5, 1), (6, 1)]) Try.underlying52 (by kernel_rfl) (by kernel_rfl) rfl (by repeat (first | exact Fl.nil | (apply Fl.cons; exact rfl; (first | exact cells_of (by first | rfl | assumption) | exact rfl); exact rfl; exact rfl; repeat (first | exact Sn.nil | (apply Sn.cons; repeat (first | exact St.zero | apply St.succ))))))) ?_)
  refine G.op rfl (G.val rfl rfl (pv_buildSt (z := [.string ⟨#[]⟩, .int .i64 0, .int .i64 0, .int .i64 0, .int .i64 0, .int .i64 0, .int .i64 0]) (pl := [(0, 1), (1, 1), (2, 1), (3, 1), (4, 1), (5, 1), (6, 1)]) Try.underlying52 (by kernel_rfl) (by kernel_rfl) rfl (by repeat (first | exact Fl.nil | (apply Fl.cons; exact rfl; (first | exact cells_of (by first | rfl | assumption) | exact rfl); exact rfl; exact rfl; repeat (first | exact Sn.nil | (apply Sn.cons; repeat (first | exact St.zero | apply St.succ))))))) ?_)
  refine G.op rfl (G.val rfl rfl (pv_buildSt (z := [.string ⟨#[]⟩, .int .i64 0, .int .i64 0, .int .i64 0, .int .i64 0, .int .i64 0, .int .i64 0]) (pl := [(0, 1), (1, 1), (2, 1), (3, 1), (4, 1), (5, 1), (6, 1)]) Try.underlying52 (by kernel_rfl) (by kernel_rfl) rfl (by repeat (first | exact Fl.nil | (apply Fl.cons; exact rfl; (first | exact cells_of (by first | rfl | assumption) | exact rfl); exact rfl; exact rfl; repeat (first | exact Sn.nil | (apply Sn.cons; repeat (first | exact St.zero | apply St.succ))))))) ?_)
  refine G.op rfl (G.val rfl rfl (pv_buildSt (z := [.string ⟨#[]⟩, .int .i64 0, .int .i64 0, .int .i64 0, .int .i64 0, .int .i64 0, .int .i64 0]) (pl := [(0, 1), (1, 1), (2, 1), (3, 1), (4, 1), (5, 1), (6, 1)]) Try.underlying52 (by kernel_rfl) (by kernel_rfl) rfl (by repeat (first | exact Fl.nil | (apply Fl.cons; exact rfl; (first | exact cells_of (by first | rfl | assumption) | exact rfl); exact rfl; exact rfl; repeat (first | exact Sn.nil | (apply Sn.cons; repeat (first | exact St.zero | apply St.succ))))))) ?_)
  refine G.op rfl (G.val rfl rfl (pv_buildSt (z := [.string ⟨#[]⟩, .int .i64 0, .int .i64 0, .int .i64 0, .int .i64 0, .int .i64 0, .int .i64 0]) (pl := [(0, 1), (1, 1), (2, 1), (3, 1), (4, 1), (5, 1), (6, 1)]) Try.underlying52 (by kernel_rfl) (by kernel_rfl) rfl (by repeat (first | exact Fl.nil | (apply Fl.cons; exact rfl; (first | exact cells_of (by first | rfl | assumption) | exact rfl); exact rfl; exact rfl; repeat (first | exact Sn.nil | (apply Sn.cons; repeat (first | exact St.zero | apply St.succ))))))) ?_)
  refine G.op rfl (G.val rfl rfl (pv_buildSt (z := [.string ⟨#[]⟩, .int .i64 0, .int .i64 0, .int .i64 0, .int .i64 0, .int .i64 0, .int .i64 0]) (pl := [(0, 1), (1, 1), (2, 1), (3, 1), (4, 1), (5, 1), (6, 1)]) Try.underlying52 (by kernel_rfl) (by kernel_rfl) rfl (by repeat (first | exact Fl.nil | (apply Fl.cons; exact rfl; (first | exact cells_of (by first | rfl | assumption) | exact rfl); exact rfl; exact rfl; repeat (first | exact Sn.nil | (apply Sn.cons; repeat (first | exact St.zero | apply St.succ))))))) ?_)
  refine G.op rfl (G.val rfl rfl (pv_buildSt (z := [.string ⟨#[]⟩, .int .i64 0, .int .i64 0, .int .i64 0, .int .i64 0, .int .i64 0, .int .i64 0]) (pl := [(0, 1), (1, 1), (2, 1), (3, 1), (4, 1), (5, 1), (6, 1)]) Try.underlying52 (by kernel_rfl) (by kernel_rfl) rfl (by repeat (first | exact Fl.nil | (apply Fl.cons; exact rfl; (first | exact cells_of (by first | rfl | assumption) | exact rfl); exact rfl; exact rfl; repeat (first | exact Sn.nil | (apply Sn.cons; repeat (first | exact St.zero | apply St.succ))))))) ?_)
  refine G.op rfl (G.buildSlice (sz := 7) (cs := refCells) rfl Try.underlying88 Try.infoShape (by decide) (by decide) rfl (by kernel_rfl) ?_)
  intro b29
  refine G.op rfl (G.val rfl rfl (pv_assign rfl) ?_)
  refine G.nil ?_
  refine G.nThen ?_
  refine G.seq ?_
  refine G.seq ?_
  refine G.region ?_
  refine G.op rfl (G.val rfl rfl (pv_move rfl) ?_)
  refine G.op rfl (G.val rfl rfl (pv_lss rfl rfl) ?_)
  refine G.op rfl (G.val rfl rfl (pv_move rfl) ?_)
  refine G.partP (t := 32) rfl (fun h32 => ?_) (fun h32 => ?_)
  · exfalso; omega
  · refine G.want rfl rfl rfl (G.val rfl rfl (pv_move rfl) ?_)
    refine G.want rfl rfl rfl (G.val rfl rfl (pv_move rfl) ?_)
    refine G.want rfl rfl rfl (G.val rfl rfl (pv_lenSl Try.underlying88 rfl) ?_)
    refine G.want rfl rfl rfl (G.val rfl rfl (pv_gtr rfl rfl) ?_)
    refine G.op rfl (G.val rfl rfl (pv_pick rfl rfl) ?_)
    refine G.nil ?_
    refine G.nThen ?_
    refine G.condF rfl (decide_eq_false (by omega)) ?_
    refine G.skip ?_
    refine G.nThen ?_
    refine G.seq ?_
    refine G.region ?_
    refine G.op rfl (G.val rfl rfl (pv_move rfl) ?_)
    refine G.op rfl (G.val rfl rfl (pv_move rfl) ?_)
    refine G.op rfl (G.val rfl rfl (pv_sub64 rfl rfl (by omega)) ?_)
    refine G.op rfl (G.val rfl rfl (pv_ixSl (sz := 7) (k := j) Try.underlying88 (by kernel_rfl) rfl rfl (fun _ => rfl) (by omega) (by omega)) ?_)
    refine G.op rfl (G.val rfl rfl (pv_loadN (cs := rowS s) Try.underlying52 rfl (by kernel_rfl) rfl (blk_range (k := 7) (o := 0 + j * 7) (b := b29) (by repeat (first | with_reducible exact Sel.here | exact Sel.here | apply Sel.there)) (by rw [Nat.zero_add]; exact hrow))) ?_)
    refine G.op rfl (G.storeN (by kernel_rfl) rfl rfl (by first | rfl | exact List.all_eq_true.2 (vByte_one _) | (repeat (first | exact all1_nil | (apply all1_cons; first | rfl | assumption)))) (by repeat (first | with_reducible exact Sel.here | exact Sel.here | apply Sel.there)) (by first | (simp; done) | exact Nat.le_of_ble_eq_true rfl) ?_)
    refine G.op rfl (G.val rfl rfl (pv_assign rfl) ?_)
    refine G.nil ?_
    refine G.nThen ?_
    refine G.ret ?_
    exact G.done0G rfl (Rv.cellN (cs := rowS s) rfl Try.underlying52 rfl (by kernel_rfl) (by first | exact blk_range (k := 7) (by (repeat (first | with_reducible exact Sel.here | exact Sel.here | apply Sel.there)); done) (by rfl)) (Rv.tmp rfl Rv.nil)) (by first | rfl | exact int_eq (by omega) | (simp; done))
end Go.Proofs.Ytakcffhknnailaa
