/- Contract of layer 22's closure: does the i-th snapshot stay. Conditions: what it captured lies in memory as stated. -/
import Derived.Test.YtjjjonhjofllfaaRetG
set_option linter.unusedVariables false
set_option linter.unusedSimpArgs false
namespace Go.Proofs.Ytjjjonhjofllfaa
open Go.RowKit Go.Maps

def staysP (l : List Snap) (last : Int) (outs : List Int) (i : Nat) : Bool := hasB outs (l.getD i (0, 0)).1 || (decide ((i : Int) = (l.length : Int) - 1) || decide ((l.length : Int) - last ≤ (i : Int)))

theorem SetIs.look {w : World} {b n : Nat} {xs : List Int} (h : SetIs Try.prog 3 w b n xs) {x : Int} (hx : (Lit.int .i64 x).wf = true) :
    (Instr.lookup 46 (.map (some b)) (.int .i64 x) true).run Try.prog w = .ok (.tuple #[.agg #[], .bool (hasB xs x)]) w := by
  obtain ⟨D, h1, h2⟩ := h
  obtain ⟨v, ps, hrun, hv⟩ := h1.look_ok lawInt Try.underlying46 (zeroUnit _) unitElem_mk (keyOf_int_mk Try.underlying3 hx)
  obtain ⟨rfl, _⟩ := unitElem_inv hv
  rw [h2] at hrun
  exact hrun

set_option maxHeartbeats 1000000 in
theorem stays_any (B : Nat) (v : Value) (l : List Snap) (last : Int) (outs : List Int) (i : Nat) (w : World) (b1 b2 b3 mb n : Nat) (hB : B ≤ w.heap.size) (hv : SlPair B w v l) (hl : l.length ≤ 1000) (hi : i < l.length) (hlast : 0 ≤ last ∧ last ≤ 64)
    (c1 : w.cell? ⟨b1, 0, none⟩ = some (.map (some mb))) (c2 : w.cell? ⟨b2, 0, none⟩ = some v) (c3 : w.cell? ⟨b3, 0, none⟩ = some (.int .i64 last)) (hset : SetIs Try.prog 3 w mb n outs) :
    Calls Try.prog 29 #[.int .i64 i, .pointer (some ⟨b1, 0, none⟩), .pointer (some ⟨b2, 0, none⟩), .pointer (some ⟨b3, 0, none⟩)] w fun e w' => e = .returned (.bool (staysP l last outs i)) ∧ Below w.heap.size w w' := by
  obtain ⟨a, b, off, cap, rfl, hcap, hm, -, ha, hc⟩ := hv
  have hbB := (ha (by omega)).2
  obtain rfl := (ha (by omega)).1
  have hcell := (hc i hi).1.1
  have hwf := (hc i hi).1.2.wf
  clear hc ha
  unfold maxLen at hm
  have hrun := SetIs.look (w := w.drew) (hset.below ((Below.refl _ _).drew) hset.lt) hwf
  have hrun2 := SetIs.look (w := (w.alloc (.cells #[] 48)).drew) (hset.below (((Below.refl _ _).alloc (Nat.le_refl _) _).drew) hset.lt) hwf
  have d1 := fun o => ((Below.refl _ w).alloc (Nat.le_refl _) o).cell (p := ⟨b1, 0, none⟩) (cell_lt c1)
  have d2 := fun o => ((Below.refl _ w).alloc (Nat.le_refl _) o).cell (p := ⟨b2, 0, none⟩) (cell_lt c2)
  have d3 := fun o => ((Below.refl _ w).alloc (Nat.le_refl _) o).cell (p := ⟨b3, 0, none⟩) (cell_lt c3)
  have d4 := fun o => ((Below.refl _ w).alloc (Nat.le_refl _) o).cell (p := ⟨b, off + i * 2, none⟩) (cell_lt hcell)
  rw [c1] at d1; rw [c2] at d2; rw [c3] at d3; rw [hcell] at d4
  cases hh : hasB outs l[i].1
  all_goals
    have HH := Lib.hid hh
    rw [hh] at hrun hrun2
    clear hh hset
    go_enter Try.func29, Try.ntmps29
    go_wp2_with fail
    go_region
    all_goals
      have hG := getD_snap hi
      have HG := Lib.hid hG; clear hG
  all_goals
    by_cases e1 : (i : Int) = (l.length : Int) - 1
    · have t1 : ((i : Int) == (l.length : Int) - 1) = true := by simpa using e1
      have E1 := Lib.hid e1; clear e1
      go_wp2
      go_ret
      refine ⟨ret_bool ?_, ?_⟩
      · unfold staysP; rw [HG.out, HH.out]; simp [E1.out]
      · exact ((Below.refl _ _).alloc (Nat.le_refl _) _).drew
    · have t1 : ((i : Int) == (l.length : Int) - 1) = false := by simpa using e1
      have E1 := Lib.hid e1; clear e1
      by_cases e2 : (l.length : Int) - last ≤ (i : Int)
      all_goals
        have E2 := Lib.hid e2
        go_wp2
        go_ret
        refine ⟨ret_bool ?_, ?_⟩
        · unfold staysP; rw [HG.out, HH.out]; simp [E1.out]; try omega
        · exact ((Below.refl _ _).alloc (Nat.le_refl _) _).drew
end Go.Proofs.Ytjjjonhjofllfaa
