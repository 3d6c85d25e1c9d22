/- Contracts: whether two lists of texts are the same; a list of texts is written over. Conditions: each text is not of more than a million bytes. -/
import Derived.Test.YtkhffndeomihhaaDoorPR
set_option linter.unusedVariables false
set_option linter.unusedSimpArgs false
namespace Go.Proofs.YtkhffndeomihhaaDoor
open Go.RowKit

set_option maxRecDepth 20000 in
set_option maxHeartbeats 4000000 in

theorem sameTexts_tr {Ps Pu : Nat → Prop} {p q : List UInt8 → Prop} (v u : Value) (xs ys : List (List UInt8)) : Tr Tryd.prog 11 #[v, u] [slc (r1 vStr p) Ps v xs, slc (r1 vStr q) Pu u ys] [] (T0 (.bool (decide (xs = ys)))) := by
  refine Tr.of (l := [(0, v), (1, u)]) Tryd.func11 rfl (n := 26) rfl (.cons rfl (.cons rfl .nil)) (fun w0 hro => ?_)
  obtain ⟨hv0, hu0⟩ := ro2 hro
  have hv := hv0
  have hv' := hv
  obtain ⟨av, cv, bv, fv, rfl, hcapv, hmaxv, hnilv, hadv, helv⟩ := Ro.open hv
  have hu := hu0
  have hu' := hu
  obtain ⟨au, cu, bu, fu, rfl, hcapu, hmaxu, hnilu, hadu, helu⟩ := Ro.open hu
  refine G.seq ?_
  refine G.region ?_
  refine G.op rfl (G.val rfl rfl (pv_assign rfl) ?_)
  refine G.nil ?_
  refine G.nThen ?_
  refine G.seq ?_
  refine G.seq ?_
  refine G.region ?_
  refine G.op rfl (G.val rfl rfl (pv_move rfl) ?_)
  refine G.op rfl (G.val rfl rfl (pv_lenSl Tryd.underlying25 rfl) ?_)
  refine G.op rfl (G.val rfl rfl (pv_move rfl) ?_)
  refine G.op rfl (G.val rfl rfl (pv_lenSl Tryd.underlying25 rfl) ?_)
  refine G.op rfl (G.val rfl rfl (pv_neq rfl rfl) ?_)
  refine G.nil ?_
  refine G.nThen ?_
  refine G.condP rfl (fun h10 => ?_) (fun h10 => ?_)
  · refine G.seq ?_
    refine G.region ?_
    refine G.op rfl (G.val rfl rfl (pv_assign rfl) ?_)
    refine G.nil ?_
    refine G.nThen ?_
    refine G.ret ?_
    refine G.rThen ?_
    exact G.done0G rfl (Rv.tmp rfl Rv.nil) (by rw [decide_eq_false (fun e => absurd (congrArg List.length e) (by omega))]; rfl)
  · have hxy : xs.length = ys.length := by omega
    refine G.skip ?_
    refine G.nThen ?_
    refine G.seq ?_
    refine G.seq ?_
    refine G.region ?_
    refine G.op rfl (G.val rfl rfl (pv_assign rfl) ?_)
    refine G.nil ?_
    refine G.nThen ?_
    refine G.block ?_
    refine G.loopK (X := Nat) (ts := [0, 1]) (fun i => i ≤ xs.length ∧ (∀ q (hq : q < xs.length), q < i → xs[q] = ys[q]'(by omega))) (fun i => [(5, .int .i64 (i : Int))]) (fun i => []) (fun i => xs.length - i) (x0 := 0) (.cons rfl (.cons rfl .nil)) (by repeat (first | exact Sub.nil | (apply Sub.cons; (repeat (first | with_reducible exact Sel.here | exact Sel.here | apply Sel.there))))) (.cons .nil) (by repeat (first | exact Ap.nil | apply Ap.cons)) (by first | exact trivial | ((try dsimp only) <;> exact ⟨Nat.zero_le _, fun q _ h => absurd h (by omega)⟩)) (.consE rfl (by first | rfl | exact int_eq (by first | omega | (dsimp only; omega)) | exact congrArg _ (by omega)) .nil) (fun i hJ => ?_)
    try dsimp only at hJ
    try dsimp only
    obtain ⟨hki, hJ⟩ := hJ
    refine G.seq ?_
    refine G.seq ?_
    refine G.region ?_
    refine G.op rfl (G.val rfl rfl (pv_move rfl) ?_)
    refine G.op rfl (G.val rfl rfl (pv_move rfl) ?_)
    refine G.op rfl (G.val rfl rfl (pv_lenSl Tryd.underlying25 rfl) ?_)
    refine G.op rfl (G.val rfl rfl (pv_lss rfl rfl) ?_)
    refine G.nil ?_
    refine G.nThen ?_
    refine G.condP rfl (fun h14 => ?_) (fun h14 => ?_)
    · refine G.skip ?_
      refine G.nThen ?_
      refine G.seq ?_
      refine G.block ?_
      refine G.seq ?_
      refine G.drawT (nn := 9) (p := []) (rem := 511) [0, 0, 3, 4, 0, 0, 48, 64, 136] [0, 0, 3, 4, 0, 0, 48, 64, 136] (by kernel_rfl) ⟨rfl, by kernel_rfl, by kernel_rfl⟩ (by repeat (first | exact Sub.nil | (apply Sub.cons; (repeat (first | with_reducible exact Sel.here | exact Sel.here | apply Sel.there))))) (by kernel_rfl) (fun hT6 => ?_)
      refine G.takeT hT6 (i := 0) (rem' := 510) rfl rfl rfl (by kernel_rfl) (fun _ _ _ h => h) rfl (pv_move rfl) (by repeat (first | exact Sub.nil | (apply Sub.cons; (repeat (first | with_reducible exact Sel.here | exact Sel.here | apply Sel.there))))) ?_
      refine G.takeT hT6 (i := 1) (rem' := 508) rfl rfl rfl (by kernel_rfl) (fun _ _ _ h => h) rfl (pv_move rfl) (by repeat (first | exact Sub.nil | (apply Sub.cons; (repeat (first | with_reducible exact Sel.here | exact Sel.here | apply Sel.there))))) ?_
      refine G.takeT hT6 (i := 2) (rem' := 504) rfl rfl rfl (by kernel_rfl) (fun _ _ _ h => h) rfl (pv_ixSl (sz := 1) (k := i) Tryd.underlying25 (by kernel_rfl) rfl rfl (by first | with_reducible assumption | assumption) (by omega) (by omega)) (by repeat (first | exact Sub.nil | (apply Sub.cons; (repeat (first | with_reducible exact Sel.here | exact Sel.here | apply Sel.there))))) ?_
      refine G.takeT hT6 (i := 4) (rem' := 488) rfl rfl rfl (by kernel_rfl) (fun _ _ _ h => h) rfl (pv_move rfl) (by repeat (first | exact Sub.nil | (apply Sub.cons; (repeat (first | with_reducible exact Sel.here | exact Sel.here | apply Sel.there))))) ?_
      refine G.takeT hT6 (i := 5) (rem' := 456) rfl rfl rfl (by kernel_rfl) (fun _ _ _ h => h) rfl (pv_move rfl) (by repeat (first | exact Sub.nil | (apply Sub.cons; (repeat (first | with_reducible exact Sel.here | exact Sel.here | apply Sel.there))))) ?_
      refine G.takeT hT6 (i := 6) (rem' := 392) rfl rfl rfl (by kernel_rfl) (fun _ _ _ h => h) rfl (pv_ixSl (sz := 1) (k := i) Tryd.underlying25 (by kernel_rfl) rfl rfl (by first | with_reducible assumption | assumption) (by omega) (by omega)) (by repeat (first | exact Sub.nil | (apply Sub.cons; (repeat (first | with_reducible exact Sel.here | exact Sel.here | apply Sel.there))))) ?_
      refine G.takeT hT6 (i := 3) (rem' := 384) rfl rfl rfl (by kernel_rfl) (fun _ _ _ h => h) rfl (pv_load (v := .string (sB xs[i])) Tryd.underlying9 rfl rfl (ro_cell (f := vStr) (helv i (by omega)))) (by repeat (first | exact Sub.nil | (apply Sub.cons; (repeat (first | with_reducible exact Sel.here | exact Sel.here | apply Sel.there))))) ?_
      refine G.oneT hT6 (i := 7) (rem' := 256) (by kernel_rfl) (by kernel_rfl) ?_
      refine G.turnOp rfl rfl (G.val rfl rfl (pv_load (v := .string (sB ys[i])) Tryd.underlying9 rfl rfl (ro_cell (f := vStr) (helu i (by omega)))) ?_)
      refine G.back (by repeat (first | exact Sub.nil | (apply Sub.cons; (repeat (first | with_reducible exact Sel.here | exact Sel.here | apply Sel.there))))) ?_
      refine G.takeT hT6 (i := 8) (rem' := 0) rfl rfl rfl (by kernel_rfl) (fun _ _ _ h => h) rfl (pv_neqS rfl rfl) (by repeat (first | exact Sub.nil | (apply Sub.cons; (repeat (first | with_reducible exact Sel.here | exact Sel.here | apply Sel.there))))) ?_
      refine G.overT hT6 (by kernel_rfl) ?_
      refine G.nThen ?_
      refine G.condP rfl (fun h25 => ?_) (fun h25 => ?_)
      · refine G.seq ?_
        refine G.region ?_
        refine G.op rfl (G.val rfl rfl (pv_assign rfl) ?_)
        refine G.nil ?_
        refine G.nThen ?_
        refine G.ret ?_
        refine G.rBlock ?_
        refine G.rThen ?_
        refine G.rThen ?_
        refine G.rBlock ?_
        refine G.rThen ?_
        exact G.done0G rfl (Rv.tmp rfl Rv.nil) (by rw [decide_eq_false (fun e => by subst e; exact absurd rfl (by assumption))]; rfl)
      · refine G.skip ?_
        refine G.nBlock ?_
        refine G.nThen ?_
        refine G.region ?_
        refine G.op rfl (G.val rfl rfl (pv_move rfl) ?_)
        refine G.op rfl (G.val rfl rfl (pv_add64 rfl rfl (by omega)) ?_)
        refine G.op rfl (G.val rfl rfl (pv_assign rfl) ?_)
        refine G.nil ?_
        exact G.next (i + 1) (by first | exact trivial | ((try dsimp only) <;> exact ⟨by omega, fun q hq hqi => by rcases Nat.lt_or_ge q i with h1 | h1; exact hJ q hq h1; obtain rfl : q = i := (by omega); exact Decidable.of_not_not (by assumption)⟩)) (by (try dsimp only); omega) (.consE rfl (by first | rfl | exact int_eq (by first | omega | (dsimp only; omega)) | exact congrArg _ (by omega)) (.cons rfl (.cons rfl .nil))) (by repeat (first | exact Sub.nil | (apply Sub.cons; (repeat (first | with_reducible exact Sel.here | exact Sel.here | apply Sel.there)))))
    · refine G.exit ?_
      refine G.eThen ?_
      refine G.eThen ?_
      refine G.eBlock ?_
      refine G.nThen ?_
      refine G.seq ?_
      refine G.region ?_
      refine G.op rfl (G.val rfl rfl (pv_assign rfl) ?_)
      refine G.nil ?_
      refine G.nThen ?_
      refine G.ret ?_
      exact G.done0G rfl (Rv.tmp rfl Rv.nil) (by rw [decide_eq_true (List.ext_getElem hxy (fun q hq _ => hJ q hq (by omega)))]; rfl)
theorem sameTexts_self {Ps Pu : Nat → Prop} {p q : List UInt8 → Prop} (v u : Value) (xs ys : List (List UInt8)) (h : xs = ys) : Tr Tryd.prog 11 #[v, u] [slc (r1 vStr p) Ps v xs, slc (r1 vStr q) Pu u ys] [] (T0 (.bool true)) := by
  have := sameTexts_tr (Ps := Ps) (Pu := Pu) (p := p) (q := q) v u xs ys
  rwa [decide_eq_true h] at this
/-- the texts, the first of them written over -/
def overC (ps : List (List UInt8)) (i : Nat) : List Value := ((ps.take i).map fun p => vStr (p ++ [33])) ++ (ps.drop i).map vStr
theorem overC_len {ps : List (List UInt8)} {i : Nat} (h : i ≤ ps.length) : (overC ps i).length = ps.length := by
  unfold overC
  simp
  omega
theorem overC_zero (ps : List (List UInt8)) : overC ps 0 = ps.map vStr := by
  unfold overC
  simp
theorem overC_get {ps : List (List UInt8)} {i : Nat} (h : i < ps.length) : (overC ps i)[0 + i * 1]? = some (.string (sB ps[i])) := by
  unfold overC
  rw [List.getElem?_append_right (by simp; omega)]
  simp only [List.length_map, List.length_take]
  rw [show 0 + i * 1 - min i ps.length = 0 by omega, List.drop_eq_getElem_cons h]
  rfl
theorem overC_set {ps : List (List UInt8)} {i : Nat} (h : i < ps.length) : (overC ps i).set (0 + i * 1) (.string (sB (ps[i] ++ [33]))) = overC ps (i + 1) := by
  unfold overC
  rw [List.take_succ_eq_append_getElem h, List.drop_eq_getElem_cons h, List.set_append_right _ _ (by simp; omega)]
  simp only [List.length_map, List.length_take, List.map_cons, List.map_append, List.append_assoc]
  rw [show 0 + i * 1 - min i ps.length = 0 by omega]
  rfl
theorem overC_nil (cs sp : List Value) (k : Nat) (h : (cs ++ sp).length = k * 1) (h2 : cs.length = k * 1) : cs ++ sp = cs := by
  have : sp = [] := List.length_eq_zero_iff.1 (by rw [List.length_append] at h; omega)
  rw [this, List.append_nil]
set_option maxRecDepth 20000 in
set_option maxHeartbeats 4000000 in

theorem overTexts_tr (v : Value) (ps : List (List UInt8)) (hv : exV v) (hb : ∀ p ∈ ps, p.length ≤ 1000000) : Tr Tryd.prog 15 #[v] [] [own 9 1 v ps.length (ps.map vStr)] (TX (fun _ : Unit => True) (fun _ => .tuple #[]) (fun _ => [])) := by
  refine Tr.of (l := [(0, v)]) Tryd.func15 rfl (n := 22) rfl (.cons rfl .nil) (fun w0 hro => ?_)
  refine G.ownOpen (v := v) (by repeat (first | with_reducible exact Sel.here | exact Sel.here | apply Sel.there)) (fun ad cap q1 _ _ => ?_)
  obtain rfl : cap = ps.length := hv _ _ _ q1
  subst q1
  rw [← overC_zero]
  refine G.seq ?_
  refine G.region ?_
  refine G.op rfl (G.val rfl rfl (pv_move rfl) ?_)
  refine G.op rfl (G.val rfl rfl (pv_move rfl) ?_)
  refine G.op rfl (G.val rfl rfl (pv_capSl Tryd.underlying25 rfl) ?_)
  refine G.op rfl (G.val rfl rfl (pv_subH (sz := 1) (k := ps.length) Tryd.underlying25 (by kernel_rfl) rfl rfl rfl (Nat.le_refl _)) ?_)
  refine G.op rfl (G.val rfl rfl (pv_assign rfl) ?_)
  refine G.nil ?_
  refine G.nThen ?_
  refine G.seq ?_
  refine G.region ?_
  refine G.op rfl (G.val rfl rfl (pv_assign rfl) ?_)
  refine G.nil ?_
  refine G.nThen ?_
  refine G.block ?_
  refine G.loopK (X := Nat) (ts := [2]) (fun i => i ≤ ps.length) (fun i => [(3, .int .i64 (i : Int))]) (fun i => [own 9 1 (.slice ad ps.length ps.length) ps.length (overC ps i)]) (fun i => ps.length - i) (x0 := 0) (.cons rfl .nil) (by repeat (first | exact Sub.nil | (apply Sub.cons; (repeat (first | with_reducible exact Sel.here | exact Sel.here | apply Sel.there))))) (.cons .nil) (by repeat (first | exact Ap.nil | apply Ap.cons)) (by first | exact trivial | ((try dsimp only) <;> exact Nat.zero_le _)) (.consE rfl (by first | rfl | exact int_eq (by first | omega | (dsimp only; omega)) | exact congrArg _ (by omega)) .nil) (fun i hJ => ?_)
  try dsimp only at hJ
  try dsimp only
  have hki := hJ
  refine G.seq ?_
  refine G.seq ?_
  refine G.region ?_
  refine G.op rfl (G.val rfl rfl (pv_move rfl) ?_)
  refine G.op rfl (G.val rfl rfl (pv_move rfl) ?_)
  refine G.op rfl (G.val rfl rfl (pv_lenSl Tryd.underlying25 rfl) ?_)
  refine G.op rfl (G.val rfl rfl (pv_lss rfl rfl) ?_)
  refine G.nil ?_
  refine G.nThen ?_
  refine G.condP rfl (fun h11 => ?_) (fun h11 => ?_)
  · have hlt : i < ps.length := by omega
    refine G.ownTo (v := .slice ad ps.length ps.length) (by repeat (first | with_reducible exact Sel.here | exact Sel.here | apply Sel.there)) (by omega) (fun g cap sp hvv hkc hmx hl hlen => ?_)
    injection hvv with e1 e2 e3
    subst e1
    subst e3
    rw [overC_nil _ _ _ hl hlen]
    have hbi := hb _ (List.getElem_mem hlt)
    refine G.skip ?_
    refine G.nThen ?_
    refine G.seq ?_
    refine G.block ?_
    refine G.region ?_
    refine G.op rfl (G.val rfl rfl (pv_move rfl) ?_)
    refine G.op rfl (G.val rfl rfl (pv_move rfl) ?_)
    refine G.op rfl (G.val rfl rfl (pv_move rfl) ?_)
    refine G.op rfl (G.val rfl rfl (pv_move rfl) ?_)
    refine G.op rfl (G.val rfl rfl (pv_ixSl (sz := 1) (k := i) Tryd.underlying25 (by kernel_rfl) rfl rfl (fun _ => rfl) rfl (by omega)) ?_)
    refine G.op rfl (G.val rfl rfl (pv_load (v := .string (sB ps[i])) Tryd.underlying9 rfl rfl (blk_cell (by (repeat (first | with_reducible exact Sel.here | exact Sel.here | apply Sel.there)); done) (overC_get hlt))) ?_)
    refine G.op rfl (G.val rfl rfl (pv_addS rfl rfl (by simp; omega)) ?_)
    refine G.op rfl (G.val rfl rfl (pv_ixSl (sz := 1) (k := i) Tryd.underlying25 (by kernel_rfl) rfl rfl (fun _ => rfl) rfl (by omega)) ?_)
    refine G.op rfl (G.store (by kernel_rfl) rfl rfl rfl (by repeat (first | with_reducible exact Sel.here | exact Sel.here | apply Sel.there)) (by rw [overC_len (by omega)]; omega) ?_)
    rw [overC_set hlt]
    refine G.nil ?_
    refine G.nBlock ?_
    refine G.nThen ?_
    refine G.region ?_
    refine G.op rfl (G.val rfl rfl (pv_move rfl) ?_)
    refine G.op rfl (G.val rfl rfl (pv_add64 rfl rfl (by omega)) ?_)
    refine G.op rfl (G.val rfl rfl (pv_assign rfl) ?_)
    refine G.nil ?_
    refine G.ownOf (sz := 1) (k := ps.length) (cap := ps.length) (cs := overC ps (i + 1)) (sp := []) (by rw [List.append_nil]; exact Sel.here) (by rw [overC_len (by omega)]; omega) (Nat.le_refl _) hmx (by rw [List.append_nil, overC_len (by omega)]; omega) ?_
    exact G.next (i + 1) (by first | exact trivial | ((try dsimp only) <;> exact by omega)) (by (try dsimp only); omega) (.consE rfl (by first | rfl | exact int_eq (by first | omega | (dsimp only; omega)) | exact congrArg _ (by omega)) (.cons rfl .nil)) (by repeat (first | exact Sub.nil | (apply Sub.cons; (repeat (first | with_reducible exact Sel.here | exact Sel.here | apply Sel.there)))))
  · refine G.exit ?_
    refine G.eThen ?_
    refine G.eThen ?_
    refine G.eBlock ?_
    exact G.doneXE (()) (by first | exact trivial | ((try dsimp only) <;> exact trivial)) rfl rfl (by repeat (first | exact Sub.nil | (apply Sub.cons; (repeat (first | with_reducible exact Sel.here | exact Sel.here | apply Sel.there)))))
end Go.Proofs.YtkhffndeomihhaaDoor
