/- The reference's parts, parent, base of a path. Conditions: none. -/
import Derived.Test.YtkhffndeomihhaaDoorPL
set_option linter.unusedVariables false
set_option linter.unusedSimpArgs false
namespace Go.Proofs.YtkhffndeomihhaaDoor
open Go.RowKit

/-- a path's parts -/
def partsM (s : List UInt8) : List (List UInt8) := if okP s then splitM s else []
theorem parent_ref {s : List UInt8} (hs : okP s) (h : 1 < (splitM s).length) : parentM s = (s.take (s.length - ((splitM s)[(splitM s).length - 1]'(by omega)).length - 1), true) ∧ ((splitM s)[(splitM s).length - 1]'(by omega)).length + 1 ≤ s.length := by
  obtain ⟨ini, p, e⟩ := splitM_last s
  have hi : ini ≠ [] := fun h0 => by
    subst h0
    rw [e] at h
    simp at h
  have e2 : (splitM s)[(splitM s).length - 1]'(by omega) = p := by
    have : ∀ (l : List (List UInt8)) (h : l = ini ++ [p]) (hl : l.length - 1 < l.length), l[l.length - 1] = p := by
      rintro l rfl hl
      simp
    exact this _ e (by omega)
  obtain ⟨h1, h2, h3⟩ := last_some e hi
  have hlen : s.length = (joinL ini).length + 1 + p.length := by
    conv => lhs; rw [h1]
    simp
    omega
  refine ⟨?_, by rw [e2]; omega⟩
  rw [parent_some hs e hi]
  congr 1
  rw [e2, show s.length - p.length - 1 = (joinL ini).length by omega]
  conv => rhs; rw [h1]
  simp
theorem base_ref {s : List UInt8} (hs : okP s) : baseM s = (splitM s)[(splitM s).length - 1]'(by have := splitM_pos s; omega) := by
  obtain ⟨ini, p, e⟩ := splitM_last s
  have : ∀ (l : List (List UInt8)) (h : l = ini ++ [p]) (hl : l.length - 1 < l.length), l[l.length - 1] = p := by
    rintro l rfl hl
    simp
  rw [base_last hs e]
  exact (this _ e (by have := splitM_pos s; omega)).symm
theorem parent_one {s : List UInt8} (h : ¬ (1 < (partsM s).length)) : parentM s = ([], false) := by
  unfold partsM at h
  by_cases hs : okP s
  · rw [if_pos hs] at h
    have := splitM_pos s
    obtain ⟨ini, p, e⟩ := splitM_last s
    have hi : ini = [] := by
      rw [e] at h
      simp at h
      exact h
    subst hi
    exact parent_none e
  · unfold parentM
    rw [if_neg (fun h => hs h.2)]
set_option maxRecDepth 20000 in
set_option maxHeartbeats 4000000 in

theorem partsR_tr (s : List UInt8) (hs : s.length ≤ 9223372036854775807) : Tr Tryd.prog 12 #[.string (sB s)] [] [] (TX (fun _ : Value => True) (fun v => v) (fun v => [own 9 1 v (partsM s).length ((partsM s).map vStr)])) := by
  refine Tr.of (l := [(0, .string (sB s))]) Tryd.func12 rfl (n := 8) rfl (.cons rfl .nil) (fun w0 hro => ?_)
  refine G.seq ?_
  refine G.region ?_
  refine G.op rfl (G.val rfl rfl (pv_assign rfl) ?_)
  refine G.nil ?_
  refine G.nThen ?_
  refine G.seq ?_
  refine G.seq ?_
  refine G.region ?_
  refine G.op rfl (G.val rfl rfl (pv_move rfl) ?_)
  refine G.op rfl (G.cR rfl rfl rfl rfl Tryd.func30 rfl rfl may0 (validR_tr _ (by omega)) ?_)
  refine G.op rfl (G.val rfl rfl (pv_notP rfl) ?_)
  refine G.nil ?_
  refine G.nThen ?_
  refine G.condP rfl (fun h5 => ?_) (fun h5 => ?_)
  · refine G.seq ?_
    refine G.region ?_
    refine G.op rfl (G.val rfl rfl (pv_assign rfl) ?_)
    refine G.nil ?_
    refine G.nThen ?_
    refine G.ret ?_
    refine G.rThen ?_
    rw [show partsM s = [] from if_neg (show ¬ okP s from by assumption)]
    refine G.ownNil 9 1 ?_
    exact G.doneX1 (.slice none 0 0) (by first | exact trivial | ((try dsimp only) <;> exact trivial)) rfl rfl rfl (by repeat (first | exact Sub.nil | (apply Sub.cons; (repeat (first | with_reducible exact Sel.here | exact Sel.here | apply Sel.there)))))
  · refine G.skip ?_
    refine G.nThen ?_
    refine G.seq ?_
    refine G.region ?_
    refine G.op rfl (G.val rfl rfl (pv_move rfl) ?_)
    refine G.op rfl (G.cS rfl rfl rfl rfl Tryd.func28 rfl rfl (by repeat (first | exact Sub.nil | (apply Sub.cons; (repeat (first | with_reducible exact Sel.here | exact Sel.here | apply Sel.there))))) may0 (split_tr s (by have := okP_len (s := s) (Decidable.of_not_not (by assumption)); omega)) (by repeat (first | exact Ap.nil | apply Ap.cons)) ?_)
    intro x7 hJ
    try dsimp only at hJ
    try dsimp only
    refine G.op rfl (G.val rfl rfl (pv_assign rfl) ?_)
    refine G.nil ?_
    refine G.nThen ?_
    refine G.ret ?_
    rw [show partsM s = splitM s from if_pos (show okP s from Decidable.of_not_not (by assumption))]
    exact G.doneX1 (x7) (by first | exact trivial | ((try dsimp only) <;> exact trivial)) rfl rfl rfl (by repeat (first | exact Sub.nil | (apply Sub.cons; (repeat (first | with_reducible exact Sel.here | exact Sel.here | apply Sel.there)))))
set_option maxRecDepth 20000 in
set_option maxHeartbeats 4000000 in

theorem parentR_tr (s : List UInt8) (hs : s.length ≤ 9223372036854775807) : Tr Tryd.prog 7 #[.string (sB s)] [] [] (T0 (.tuple #[.string (sB (parentM s).1), .bool (parentM s).2])) := by
  refine Tr.of (l := [(0, .string (sB s))]) Tryd.func7 rfl (n := 23) rfl (.cons rfl .nil) (fun w0 hro => ?_)
  refine G.seq ?_
  refine G.region ?_
  refine G.op rfl (G.val rfl rfl (pv_assign rfl) ?_)
  refine G.op rfl (G.val rfl rfl (pv_assign rfl) ?_)
  refine G.nil ?_
  refine G.nThen ?_
  refine G.seq ?_
  refine G.region ?_
  refine G.op rfl (G.val rfl rfl (pv_move rfl) ?_)
  refine G.op rfl (G.cS rfl rfl rfl rfl Tryd.func12 rfl rfl (by repeat (first | exact Sub.nil | (apply Sub.cons; (repeat (first | with_reducible exact Sel.here | exact Sel.here | apply Sel.there))))) may0 (partsR_tr _ (by omega)) (by repeat (first | exact Ap.nil | apply Ap.cons)) ?_)
  intro x6 hJ
  try dsimp only at hJ
  try dsimp only
  refine G.ownOpen (v := x6) (by repeat (first | with_reducible exact Sel.here | exact Sel.here | apply Sel.there)) (fun ad cap hv hk hm => ?_)
  have hv' := hv
  refine G.op rfl (G.val rfl rfl (pv_assign rfl) ?_)
  refine G.nil ?_
  refine G.nThen ?_
  refine G.seq ?_
  refine G.seq ?_
  refine G.region ?_
  refine G.op rfl (G.val rfl rfl (pv_move rfl) ?_)
  rw [hv]
  refine G.op rfl (G.val rfl rfl (pv_lenSl Tryd.underlying25 rfl) ?_)
  refine G.op rfl (G.val rfl rfl (pv_lss rfl rfl) ?_)
  refine G.nil ?_
  refine G.nThen ?_
  refine G.condP rfl (fun h9 => ?_) (fun h9 => ?_)
  · refine G.seq ?_
    refine G.region ?_
    refine G.op rfl (G.val rfl rfl (pv_assign rfl) ?_)
    refine G.op rfl (G.val rfl rfl (pv_assign rfl) ?_)
    refine G.nil ?_
    refine G.nThen ?_
    refine G.ret ?_
    refine G.rThen ?_
    exact G.done0G rfl (Rv.tmp rfl (Rv.tmp rfl Rv.nil)) (by rw [parent_one (by omega)]; rfl)
  · have h1 : 1 < (partsM s).length := by omega
    have hok : okP s := Decidable.of_not_not fun h => by rw [show partsM s = [] from if_neg h] at h1; simp at h1
    have hps : partsM s = splitM s := if_pos hok
    rw [hps] at h1 hk ⊢
    rw [hps] at hv
    rw [← hv]
    obtain ⟨hpr, hpl⟩ := parent_ref hok h1
    have hlen := splitM_len s
    have hs2 := okP_len hok
    refine G.ownTo (by repeat (first | with_reducible exact Sel.here | exact Sel.here | apply Sel.there)) (by omega) (fun g cap2 sp hv2 hkc hmx hl hlen2 => ?_)
    rw [hv2]
    refine G.skip ?_
    refine G.nThen ?_
    refine G.seq ?_
    refine G.region ?_
    refine G.op rfl (G.val rfl rfl (pv_move rfl) ?_)
    refine G.op rfl (G.val rfl rfl (pv_move rfl) ?_)
    refine G.op rfl (G.val rfl rfl (pv_lenS Tryd.underlying9 rfl) ?_)
    refine G.op rfl (G.val rfl rfl (pv_move rfl) ?_)
    refine G.op rfl (G.val rfl rfl (pv_move rfl) ?_)
    refine G.op rfl (G.val rfl rfl (pv_lenSl Tryd.underlying25 rfl) ?_)
    refine G.op rfl (G.val rfl rfl (pv_sub64 rfl rfl (by omega)) ?_)
    refine G.op rfl (G.val rfl rfl (pv_ixSl (sz := 1) (k := (splitM s).length - 1) Tryd.underlying25 (by kernel_rfl) rfl rfl (fun _ => rfl) (by omega) (by omega)) ?_)
    refine G.op rfl (G.val rfl rfl (pv_load (v := .string (sB ((splitM s)[(splitM s).length - 1]'(by omega)))) Tryd.underlying9 rfl rfl (blk_cell (by (repeat (first | with_reducible exact Sel.here | exact Sel.here | apply Sel.there)); done) (by exact rd1 (by omega)))) ?_)
    refine G.op rfl (G.val rfl rfl (pv_lenS Tryd.underlying9 rfl) ?_)
    refine G.op rfl (G.val rfl rfl (pv_sub64 rfl rfl (by omega)) ?_)
    refine G.op rfl (G.val rfl rfl (pv_sub64 rfl rfl (by omega)) ?_)
    refine G.op rfl (G.val rfl rfl (pv_strH (k := s.length - ((splitM s)[(splitM s).length - 1]'(by omega)).length - 1) Tryd.underlying9 rfl rfl (by omega) (by omega)) ?_)
    refine G.op rfl (G.val rfl rfl (pv_assign rfl) ?_)
    refine G.op rfl (G.val rfl rfl (pv_assign rfl) ?_)
    refine G.nil ?_
    refine G.nThen ?_
    refine G.ret ?_
    exact G.done0G rfl (Rv.tmp rfl (Rv.tmp rfl Rv.nil)) (by rw [hpr]; rfl)
set_option maxRecDepth 20000 in
set_option maxHeartbeats 4000000 in

theorem baseR_tr (s : List UInt8) (hs : s.length ≤ 9223372036854775807) : Tr Tryd.prog 14 #[.string (sB s)] [] [] (T0 (.string (sB (baseM s)))) := by
  refine Tr.of (l := [(0, .string (sB s))]) Tryd.func14 rfl (n := 15) rfl (.cons rfl .nil) (fun w0 hro => ?_)
  refine G.seq ?_
  refine G.region ?_
  refine G.op rfl (G.val rfl rfl (pv_assign rfl) ?_)
  refine G.nil ?_
  refine G.nThen ?_
  refine G.seq ?_
  refine G.region ?_
  refine G.op rfl (G.val rfl rfl (pv_move rfl) ?_)
  refine G.op rfl (G.cS rfl rfl rfl rfl Tryd.func12 rfl rfl (by repeat (first | exact Sub.nil | (apply Sub.cons; (repeat (first | with_reducible exact Sel.here | exact Sel.here | apply Sel.there))))) may0 (partsR_tr _ (by omega)) (by repeat (first | exact Ap.nil | apply Ap.cons)) ?_)
  intro x5 hJ
  try dsimp only at hJ
  try dsimp only
  refine G.ownOpen (v := x5) (by repeat (first | with_reducible exact Sel.here | exact Sel.here | apply Sel.there)) (fun ad cap hv hk hm => ?_)
  have hv' := hv
  refine G.op rfl (G.val rfl rfl (pv_assign rfl) ?_)
  refine G.nil ?_
  refine G.nThen ?_
  refine G.seq ?_
  refine G.seq ?_
  refine G.region ?_
  refine G.op rfl (G.val rfl rfl (pv_move rfl) ?_)
  rw [hv]
  refine G.op rfl (G.val rfl rfl (pv_lenSl Tryd.underlying25 rfl) ?_)
  refine G.op rfl (G.val rfl rfl (pv_eql rfl rfl) ?_)
  refine G.nil ?_
  refine G.nThen ?_
  refine G.condP rfl (fun h8 => ?_) (fun h8 => ?_)
  · refine G.seq ?_
    refine G.region ?_
    refine G.op rfl (G.val rfl rfl (pv_assign rfl) ?_)
    refine G.nil ?_
    refine G.nThen ?_
    refine G.ret ?_
    refine G.rThen ?_
    exact G.done0G rfl (Rv.tmp rfl Rv.nil) (by rw [show baseM s = [] from if_neg (fun h => by rw [show partsM s = splitM s from if_pos h] at *; have := splitM_pos s; omega)]; rfl)
  · have h1 : 0 < (partsM s).length := by omega
    have hok : okP s := Decidable.of_not_not fun h => by rw [show partsM s = [] from if_neg h] at h1; simp at h1
    have hps : partsM s = splitM s := if_pos hok
    rw [hps] at h1 hk ⊢
    rw [hps] at hv
    rw [← hv]
    refine G.ownTo (by repeat (first | with_reducible exact Sel.here | exact Sel.here | apply Sel.there)) (by omega) (fun g cap2 sp hv2 hkc hmx hl hlen2 => ?_)
    rw [hv2]
    refine G.skip ?_
    refine G.nThen ?_
    refine G.seq ?_
    refine G.region ?_
    refine G.op rfl (G.val rfl rfl (pv_move rfl) ?_)
    refine G.op rfl (G.val rfl rfl (pv_move rfl) ?_)
    refine G.op rfl (G.val rfl rfl (pv_lenSl Tryd.underlying25 rfl) ?_)
    refine G.op rfl (G.val rfl rfl (pv_sub64 rfl rfl (by omega)) ?_)
    refine G.op rfl (G.val rfl rfl (pv_ixSl (sz := 1) (k := (splitM s).length - 1) Tryd.underlying25 (by kernel_rfl) rfl rfl (fun _ => rfl) (by omega) (by omega)) ?_)
    refine G.op rfl (G.val rfl rfl (pv_load (v := .string (sB ((splitM s)[(splitM s).length - 1]'(by omega)))) Tryd.underlying9 rfl rfl (blk_cell (by (repeat (first | with_reducible exact Sel.here | exact Sel.here | apply Sel.there)); done) (by exact rd1 (by omega)))) ?_)
    refine G.op rfl (G.val rfl rfl (pv_assign rfl) ?_)
    refine G.nil ?_
    refine G.nThen ?_
    refine G.ret ?_
    exact G.done0G rfl (Rv.tmp rfl Rv.nil) (by rw [base_ref hok]; rfl)
end Go.Proofs.YtkhffndeomihhaaDoor
