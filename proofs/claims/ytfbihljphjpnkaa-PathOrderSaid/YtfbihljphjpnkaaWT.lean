/- A walk by chunks: a slice of the call's own as its block, and back. Conditions: none. -/
import Derived.Test.YtfbihljphjpnkaaWC
set_option linter.unusedVariables false
set_option linter.unusedSimpArgs false
namespace Go.Proofs.Ytfbihljphjpnkaa
open Go.RowKit
section
variable {P : Program} {n : Nat} {w0 : World} {S : Nat → Prop} {l : Fr} {m : List Ck} {Q : Exit → Act → World → Prop} {K : Act → World → Prop}
theorem own_blk {w : World} {e sz k : Nat} {v : Value} {cs : List Value} (hk : 0 < k) (h : w.ownsRow 0 e sz v k cs) : ∃ g cap sp, v = .slice (some ⟨g, 0, none⟩) k cap ∧ k ≤ cap ∧ cap ≤ 9223372036854775807 ∧ (cs ++ sp).length = cap * sz ∧ w.heap[g]? = some (.cells (cs ++ sp).toArray e (0, 0)) := by
  obtain ⟨h1, ⟨rfl, h2⟩ | ⟨g, cap, cur, rfl, _, hg, hc, hm, hs, ht⟩⟩ := h
  · omega
  · have e1 : cs ++ cur.toList.drop (k * sz) = cur.toList := by rw [← ht]; exact List.take_append_drop _ _
    refine ⟨g, cap, cur.toList.drop (k * sz), rfl, hc, by unfold maxLen at hm; omega, ?_, ?_⟩
    · rw [e1]; simpa using hs
    · rw [e1]; simpa using hg
/-- the block of a slice that has elements -/
theorem G.ownTo {e sz k : Nat} {v : Value} {cs : List Value} {r : List Ck} (hs : Sel m (own e sz v k cs) r) (hk : 0 < k)
    (h : ∀ g cap sp, v = .slice (some ⟨g, 0, none⟩) k cap → k ≤ cap → cap ≤ 9223372036854775807 → (cs ++ sp).length = cap * sz → cs.length = k * sz → G n w0 S l (blk g e (cs ++ sp) :: r) K) : G n w0 S l m K := fun a w ha hw => by
  have hw' := hw.sel hs
  have ho : w.ownsRow 0 e sz v k cs := hw'.holds _ (List.mem_cons_self ..)
  obtain ⟨g, cap, sp, rfl, hc, hm, hl, hg⟩ := own_blk hk ho
  refine h g cap sp rfl hc hm hl ho.1 a w ha (hp_view (c := own e sz (.slice (some ⟨g, 0, none⟩) k cap) k cs) (d := blk g e (cs ++ sp)) hw' (fun _ => hg) fun b hb => ?_)
  obtain rfl : b = g := hb
  rfl
/-- .. and back -/
theorem G.ownOf {e sz k g cap : Nat} {cs sp : List Value} {r : List Ck} (hs : Sel m (blk g e (cs ++ sp)) r) (hk : cs.length = k * sz) (hc : k ≤ cap) (hm : cap ≤ 9223372036854775807) (hl : (cs ++ sp).length = cap * sz)
    (h : G n w0 S l (own e sz (.slice (some ⟨g, 0, none⟩) k cap) k cs :: r) K) : G n w0 S l m K := fun a w ha hw => by
  have hw' := hw.sel hs
  refine h a w ha (hp_view (c := blk g e (cs ++ sp)) (d := own e sz (.slice (some ⟨g, 0, none⟩) k cap) k cs) hw' (fun hg => ?_) fun b hb => ?_)
  · have hg : w.heap[g]? = some (.cells (cs ++ sp).toArray e (0, 0)) := hg
    exact ⟨hk, .inr ⟨g, cap, _, rfl, Nat.zero_le _, hg, hc, by unfold maxLen; omega, by simpa using hl, by rw [← hk]; simp⟩⟩
  · have : some g = some b := hb
    injection this with this
    exact this.symm
theorem rd1 {α : Type} {f : α → Value} {xs : List α} {sp : List Value} {i : Nat} (h : i < xs.length) : (xs.map f ++ sp)[0 + i * 1]? = some (f xs[i]) := by
  rw [Nat.zero_add, Nat.mul_one, List.getElem?_append_left (by rw [List.length_map]; exact h), List.getElem?_map, List.getElem?_eq_getElem h]
  rfl
end
end Go.Proofs.Ytfbihljphjpnkaa
