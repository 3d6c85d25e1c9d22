/- Merged of PG, PH, PI, PJ, PL, PQ. Conditions: none. -/
import Derived.Test.YtchgaedidfefoaaGe
import Derived.Test.YtchgaedidfefoaaGc
/- What is wrong with a path: the program's answer. Conditions: the text is not of more than a thousand million bytes. -/
set_option linter.unusedVariables false
set_option linter.unusedSimpArgs false
namespace Go.Proofs.Ytchgaedidfefoaa
open Go.RowKit

set_option maxRecDepth 20000 in
set_option maxHeartbeats 4000000 in

theorem steps_tr (s : List UInt8) : Tr Try.prog 77 #[.string (sB s)] [] [] (TX (fun _ : Nat => True) (fun b => .func (.func 83) #[] #[.pointer (some ⟨b, 0, none⟩)]) (fun b => [blk b 9 [.string (sB s)]])) := by
  refine Tr.of (l := [(0, .string (sB s))]) Try.func77 rfl (n := 4) rfl (.cons rfl .nil) (fun w0 hro => ?_)
  refine G.seq ?_
  refine G.region ?_
  refine G.op rfl (G.box rfl rfl (cs := [_]) rfl ?_)
  intro b1
  refine G.op rfl (G.val rfl rfl (pv_assign rfl) ?_)
  refine G.nil ?_
  refine G.nThen ?_
  refine G.seq ?_
  refine G.region ?_
  refine G.op rfl (G.val rfl rfl (pv_makeFunc rfl rfl) ?_)
  refine G.op rfl (G.val rfl rfl (pv_assign rfl) ?_)
  refine G.nil ?_
  refine G.nThen ?_
  refine G.ret ?_
  exact G.doneX1 (b1) (by first | exact trivial | ((try dsimp only); exact trivial)) rfl rfl rfl (by repeat (first | exact Sub.nil | (apply Sub.cons; (repeat (first | with_reducible exact Sel.here | exact Sel.here | apply Sel.there)))))
theorem badR_of {c : UInt8} (h : ¬ c = 47) : badP c = badR c := by
  unfold badP badR
  have : c.toNat ≠ 47 := fun e => h (UInt8.toNat_inj.1 e)
  simp [this]
theorem findIdx_congr {p q : UInt8 → Bool} : ∀ {l : List UInt8}, (∀ x ∈ l, p x = q x) → l.findIdx p = l.findIdx q
  | [], _ => rfl
  | x :: l, h => by
    rw [List.findIdx_cons, List.findIdx_cons, h x (List.mem_cons_self ..), findIdx_congr fun y hy => h y (List.mem_cons_of_mem _ hy)]
theorem stepB_eq {s : List UInt8} (h : ∀ x ∈ s, ¬ x = 47) : stepB badP s = stepB badR s := by
  unfold stepB
  rw [findIdx_congr (p := badP) (q := badR) fun x hx => badR_of (h x hx)]
theorem step_at (s : List UInt8) (h : ∀ x ∈ s, ¬ x = 47) (hs : s.length ≤ 1000000000) : Tr Try.prog 78 #[.string (sB s)] [] [] (T0 (.tuple #[.int .i64 (stepB badR s).1, .int .i64 (stepB badR s).2])) := by
  have := step_tr s hs
  rwa [stepB_eq h] at this
theorem splitM_no : ∀ s, ∀ p ∈ splitM s, ∀ x ∈ p, ¬ x = 47
  | [], p, hp, x, hx => by
    have : p = [] := by simpa [splitM] using hp
    subst this
    cases hx
  | c :: s, p, hp, x, hx => by
    have ih := splitM_no s
    by_cases hc : c = 47
    · subst hc
      rw [splitM_stroke] at hp
      rcases List.mem_cons.1 hp with rfl | hp
      · cases hx
      · exact ih p hp x hx
    · rw [splitM_char hc] at hp
      cases h : splitM s with
      | nil => exact absurd h (splitM_ne s)
      | cons q r =>
        rw [h] at hp ih
        rcases List.mem_cons.1 hp with rfl | hp
        · rcases List.mem_cons.1 hx with rfl | hx
          · exact hc
          · exact ih q (List.mem_cons_self ..) x hx
        · exact ih p (List.mem_cons_of_mem _ hp) x hx
theorem stepB_pos (bad : UInt8 → Bool) (s : List UInt8) : 0 ≤ (stepB bad s).2 ∧ (stepB bad s).2 ≤ s.length + 60 ∧ 0 ≤ (stepB bad s).1 ∧ (stepB bad s).1 ≤ 4 := by
  unfold stepB
  have := @List.findIdx_le_length _ bad s
  split
  · simp; omega
  · split
    · simp; omega
    · split <;> simp <;> omega
/-- what is wrong with the parts of a path, from the i-th on, which begins at byte o -/
def checkL : List (List UInt8) → Nat → Nat → Int × Int
  | [], _, _ => (0, 0)
  | p :: r, i, o => if i = 20 then (3, (o : Int)) else if (stepB badR p).1 = 0 then checkL r (i + 1) (o + (p.length + 1)) else ((stepB badR p).1, (o : Int) + (stepB badR p).2)
def checkM (s : List UInt8) : Int × Int := if s = [] then (2, 0) else if 200 < s.length then (3, 200) else checkL (splitM s) 0 0
theorem checkM_nil {s : List UInt8} (h : s = []) : checkM s = (2, 0) := if_pos h
theorem checkM_long {s : List UInt8} (h0 : ¬ s = []) (h : (200 : Int) < s.length) : checkM s = (3, 200) := by
  unfold checkM
  rw [if_neg h0, if_pos (by omega)]
theorem checkM_parts {s : List UInt8} (h0 : ¬ s = []) (h : ¬ (200 : Int) < s.length) : checkM s = checkL (splitM s) 0 0 := by
  unfold checkM
  rw [if_neg h0, if_neg (by omega)]
theorem checkL_many {ps : List (List UInt8)} {i : Nat} (hi : i < ps.length) (h : i = 20) : checkL (ps.drop i) i (atL ps i) = (3, (atL ps i : Int)) := by
  rw [List.drop_eq_getElem_cons hi]
  exact if_pos h
theorem checkL_next {ps : List (List UInt8)} {i : Nat} (hi : i < ps.length) (h : ¬ i = 20) (hs : (stepB badR (getL ps i)).1 = 0) : checkL (ps.drop i) i (atL ps i) = checkL (ps.drop (i + 1)) (i + 1) (atL ps (i + 1)) := by
  rw [getL_eq hi] at hs
  rw [List.drop_eq_getElem_cons hi, atL_succ hi]
  unfold checkL
  rw [if_neg h, if_pos hs]
  cases ps.drop (i + 1) <;> rfl
theorem checkL_bad {ps : List (List UInt8)} {i : Nat} (hi : i < ps.length) (h : ¬ i = 20) (hs : ¬ (stepB badR (getL ps i)).1 = 0) : checkL (ps.drop i) i (atL ps i) = ((stepB badR (getL ps i)).1, (atL ps i : Int) + (stepB badR (getL ps i)).2) := by
  rw [getL_eq hi] at hs ⊢
  rw [List.drop_eq_getElem_cons hi]
  unfold checkL
  rw [if_neg h, if_neg hs]
theorem okP_len {s : List UInt8} (h : (checkM s).1 = 0) : s.length ≤ 200 := by
  unfold checkM at h
  split at h
  · cases h
  · split at h
    · cases h
    · omega
set_option maxRecDepth 20000 in
set_option maxHeartbeats 4000000 in

theorem check_tr (s : List UInt8) (hs : s.length ≤ 9223372036854775807) : Tr Try.prog 61 #[.string (sB s)] [] [] (T0 (.agg #[.int .i64 (checkM s).1, .int .i64 (checkM s).2])) := by
  refine Tr.ofM (l := [(0, .string (sB s))]) Try.func61 rfl (n := 40) rfl (.cons rfl .nil) (fun w0 hro => ?_)
  refine I.seq ?_
  refine I.region (by kernel_rfl) (by rintro ⟨_, _, h⟩; first | exact h | exact noOut h) ?_
  refine G.op rfl (G.alloc (z := .agg #[.int .i64 0, .int .i64 0]) (cs := [.int .i64 0, .int .i64 0]) rfl (by kernel_rfl) rfl ?_)
  intro b2
  refine I.nil ?_
  refine I.nThen ?_
  refine I.seq ?_
  refine I.block ?_
  refine I.seq ?_
  refine I.region (by kernel_rfl) (by rintro ⟨_, _, h⟩; first | exact h | exact noOut h) ?_
  refine G.op rfl (G.val rfl rfl (pv_move rfl) ?_)
  refine G.op rfl (G.val rfl rfl (pv_eqlS rfl rfl) ?_)
  refine G.op rfl (G.val rfl rfl (pv_assign rfl) ?_)
  refine I.nil ?_
  refine I.nThen ?_
  refine I.condP rfl (fun h8 => ?_) (fun h8 => ?_)
  · refine I.seq ?_
    refine I.region (by kernel_rfl) (by rintro ⟨_, _, h⟩; first | exact h | exact noOut h) ?_
    refine G.op rfl (G.val rfl rfl (pv_buildSt (z := [.int .i64 0, .int .i64 0]) (pl := [(0, 1), (1, 1)]) Try.underlying73 (by kernel_rfl) (by kernel_rfl) rfl (by repeat (first | exact Fl.nil | (apply Fl.cons; exact rfl; (first | exact cells_of (by first | rfl | with_reducible assumption) | exact rfl); exact rfl; exact rfl; repeat (first | exact Sn.nil | (apply Sn.cons; repeat (first | exact St.zero | apply St.succ))))))) ?_)
    refine G.op rfl (G.storeN (by kernel_rfl) rfl rfl (by first | exact (all1_cons (by first | rfl | with_reducible assumption) (all1_cons (by first | rfl | with_reducible assumption) all1_nil)) | exact List.all_eq_true.2 (vByte_one _) | rfl) (by repeat (first | with_reducible exact Sel.here | exact Sel.here | apply Sel.there)) (by first | (simp; done) | exact Nat.le_of_ble_eq_true rfl) ?_)
    refine I.nil ?_
    refine I.nThen ?_
    refine I.ret ?_
    refine I.rBlock ?_
    refine I.rThen ?_
    exact I.doneT0 rfl (Rv.cellN (cs := [_, _]) rfl Try.underlying73 rfl (by kernel_rfl) (by first | exact blk_range (k := 2) (by (repeat (first | with_reducible exact Sel.here | exact Sel.here | apply Sel.there)); done) (by rfl)) Rv.nil) (by rw [checkM_nil (by assumption)]; rfl)
  · refine I.seq ?_
    refine I.region (by kernel_rfl) (by rintro ⟨_, _, h⟩; first | exact h | exact noOut h) ?_
    refine G.op rfl (G.val rfl rfl (pv_move rfl) ?_)
    refine G.op rfl (G.val rfl rfl (pv_lenS Try.underlying9 rfl) ?_)
    refine G.op rfl (G.val rfl rfl (pv_gtr rfl rfl) ?_)
    refine G.op rfl (G.val rfl rfl (pv_assign rfl) ?_)
    refine I.nil ?_
    refine I.nThen ?_
    refine I.condP rfl (fun h12 => ?_) (fun h12 => ?_)
    · refine I.seq ?_
      refine I.region (by kernel_rfl) (by rintro ⟨_, _, h⟩; first | exact h | exact noOut h) ?_
      refine G.op rfl (G.val rfl rfl (pv_buildSt (z := [.int .i64 0, .int .i64 0]) (pl := [(0, 1), (1, 1)]) Try.underlying73 (by kernel_rfl) (by kernel_rfl) rfl (by repeat (first | exact Fl.nil | (apply Fl.cons; exact rfl; (first | exact cells_of (by first | rfl | with_reducible assumption) | exact rfl); exact rfl; exact rfl; repeat (first | exact Sn.nil | (apply Sn.cons; repeat (first | exact St.zero | apply St.succ))))))) ?_)
      refine G.op rfl (G.storeN (by kernel_rfl) rfl rfl (by first | exact (all1_cons (by first | rfl | with_reducible assumption) (all1_cons (by first | rfl | with_reducible assumption) all1_nil)) | exact List.all_eq_true.2 (vByte_one _) | rfl) (by repeat (first | with_reducible exact Sel.here | exact Sel.here | apply Sel.there)) (by first | (simp; done) | exact Nat.le_of_ble_eq_true rfl) ?_)
      refine I.nil ?_
      refine I.nThen ?_
      refine I.ret ?_
      refine I.rBlock ?_
      refine I.rThen ?_
      exact I.doneT0 rfl (Rv.cellN (cs := [_, _]) rfl Try.underlying73 rfl (by kernel_rfl) (by first | exact blk_range (k := 2) (by (repeat (first | with_reducible exact Sel.here | exact Sel.here | apply Sel.there)); done) (by rfl)) Rv.nil) (by rw [checkM_long (by assumption) (by assumption)]; rfl)
    · refine I.skip ?_
      refine I.nBlock ?_
      refine I.nThen ?_
      refine I.seq ?_
      refine I.region (by kernel_rfl) (by rintro ⟨_, _, h⟩; first | exact h | exact noOut h) ?_
      refine G.op rfl (G.alloc (z := .int .i64 0) (cs := [.int .i64 0]) rfl (by kernel_rfl) rfl ?_)
      intro b3
      refine G.op rfl (G.store (by kernel_rfl) rfl rfl (by first | rfl | with_reducible assumption) (by repeat (first | with_reducible exact Sel.here | exact Sel.here | apply Sel.there)) (by first | (simp; done) | exact Nat.le_of_ble_eq_true rfl) ?_)
      refine I.nil ?_
      refine I.nThen ?_
      refine I.seq ?_
      refine I.seq ?_
      refine I.region (by kernel_rfl) (by rintro ⟨_, _, h⟩; first | exact h | exact noOut h) ?_
      refine G.op rfl (G.val rfl rfl (pv_move rfl) ?_)
      refine G.op rfl (G.cS rfl rfl rfl rfl Try.func77 rfl rfl (by repeat (first | exact Sub.nil | (apply Sub.cons; (repeat (first | with_reducible exact Sel.here | exact Sel.here | apply Sel.there))))) may0 (steps_tr _) (by repeat (first | exact Ap.nil | apply Ap.cons)) ?_)
      intro x18 hJ
      try dsimp only at hJ
      try dsimp only
      refine I.nil ?_
      refine I.nThen ?_
      refine I.block ?_
      refine I.rangeK (X := Int × Int) (encs := fun i => (.int .i64 (atL (splitM s) i : Int), .string (sB (getL (splitM s) i)))) (ts := [2, 3]) (fun b i st => (b = true → st.1 = 0 ∧ st.2 = 0 ∧ i ≤ 20 ∧ checkL (splitM s) 0 0 = checkL ((splitM s).drop i) i (atL (splitM s) i)) ∧ (b = false → checkL (splitM s) 0 0 = (st.1, st.2))) (fun b i st => [blk b2 73 [.int .i64 st.1, .int .i64 st.2], blk b3 3 [.int .i64 (i : Int)]]) (fun st => .ret) (fun i => [(4, .int .i64 (atL (splitM s) i : Int)), (5, .string (sB (getL (splitM s) i)))]) (x0 := (0, 0)) rfl Try.func83 rfl rfl (steps_seq s (by omega) x18) (by show Sub _ [blk b2 73 [.int .i64 0, .int .i64 0], blk b3 3 [.int .i64 0], blk x18 9 [.string (sB s)]] _; repeat (first | exact Sub.nil | (apply Sub.cons; (repeat (first | with_reducible exact Sel.here | exact Sel.here | apply Sel.there))))) may0 (by first | exact trivial | (exact ⟨fun _ => ⟨rfl, rfl, by omega, rfl⟩, fun h => (by cases h)⟩)) rfl rfl (.cons rfl (.cons rfl .nil)) (.cons (.cons .nil)) ?_ ?_ ?_ ?_
      · intro w1 S1 lp m1 i hi
        try dsimp only at hJ
        try dsimp only
        refine I.seq ?_
        refine I.region (by kernel_rfl) (by rintro ⟨_, _, h⟩; first | exact h | exact noOut h) ?_
        refine G.op rfl (G.val rfl rfl (pv_assign rfl) ?_)
        refine I.nil ?_
        refine I.nThen ?_
        refine I.region (by kernel_rfl) (by rintro ⟨_, _, h⟩; first | exact h | exact noOut h) ?_
        refine G.op rfl (G.val rfl rfl (pv_assign rfl) ?_)
        refine I.nil ?_
        exact I.asg (.consE rfl (by first | rfl | exact int_eq (by first | omega | (dsimp only; omega)) | exact congrArg _ (by omega)) (.consE rfl (by first | rfl | exact int_eq (by first | omega | (dsimp only; omega)) | exact congrArg _ (by omega)) (.cons rfl (.cons rfl .nil))))
      · intro w1 S1 lp c i st hi hJ
        obtain ⟨x, y⟩ := st
        try dsimp only at hJ
        try dsimp only
        obtain ⟨hT, -⟩ := hJ
        obtain ⟨rfl, rfl, hi20, hck⟩ := hT rfl
        have hlen := part_le hi
        rw [← getL_eq hi] at hlen
        have hno : ∀ c ∈ getL (splitM s) i, ¬ c = 47 := by rw [getL_eq hi]; exact splitM_no s _ (List.getElem_mem hi)
        have hb := stepB_pos badR (getL (splitM s) i)
        refine I.block ?_
        refine I.seq ?_
        refine I.region (by kernel_rfl) (by rintro ⟨_, _, h⟩; first | exact h | exact noOut h) ?_
        refine G.op rfl (G.val rfl rfl (pv_load Try.underlying3 rfl rfl (by first | exact blk_cell (by (repeat (first | with_reducible exact Sel.here | exact Sel.here | apply Sel.there)); done) (by rfl) | exact rng_cell (by (repeat (first | with_reducible exact Sel.here | exact Sel.here | apply Sel.there)); done) (by rfl) | exact ro_blk (by assumption) (by rfl) | exact ro_rngC (by assumption) (by rfl) | exact ro_int (by assumption) | exact ro_byte (by assumption) | exact ro_str (by assumption) | with_reducible assumption | assumption)) ?_)
        refine G.op rfl (G.val rfl rfl ((pv_add64 rfl rfl (by omega)).int (b := ((i + 1 : Nat) : Int)) (by omega)) ?_)
        refine G.op rfl (G.store (by kernel_rfl) rfl rfl (by first | rfl | with_reducible assumption) (by repeat (first | with_reducible exact Sel.here | exact Sel.here | apply Sel.there)) (by first | (simp; done) | exact Nat.le_of_ble_eq_true rfl) ?_)
        refine I.nil ?_
        refine I.nThen ?_
        refine I.seq ?_
        refine I.seq ?_
        refine I.region (by kernel_rfl) (by rintro ⟨_, _, h⟩; first | exact h | exact noOut h) ?_
        refine G.op rfl (G.val rfl rfl (pv_load Try.underlying3 rfl rfl (by first | exact blk_cell (by (repeat (first | with_reducible exact Sel.here | exact Sel.here | apply Sel.there)); done) (by rfl) | exact rng_cell (by (repeat (first | with_reducible exact Sel.here | exact Sel.here | apply Sel.there)); done) (by rfl) | exact ro_blk (by assumption) (by rfl) | exact ro_rngC (by assumption) (by rfl) | exact ro_int (by assumption) | exact ro_byte (by assumption) | exact ro_str (by assumption) | with_reducible assumption | assumption)) ?_)
        refine G.op rfl (G.val rfl rfl (pv_gtr rfl rfl) ?_)
        refine I.nil ?_
        refine I.nThen ?_
        refine I.condP rfl (fun h24 => ?_) (fun h24 => ?_)
        · refine I.seq ?_
          refine I.region (by kernel_rfl) (by rintro ⟨_, _, h⟩; first | exact h | exact noOut h) ?_
          refine G.op rfl (G.val rfl rfl (pv_move rfl) ?_)
          refine G.op rfl (G.val rfl rfl (pv_buildSt (z := [.int .i64 0, .int .i64 0]) (pl := [(0, 1), (1, 1)]) Try.underlying73 (by kernel_rfl) (by kernel_rfl) rfl (by repeat (first | exact Fl.nil | (apply Fl.cons; exact rfl; (first | exact cells_of (by first | rfl | with_reducible assumption) | exact rfl); exact rfl; exact rfl; repeat (first | exact Sn.nil | (apply Sn.cons; repeat (first | exact St.zero | apply St.succ))))))) ?_)
          refine G.op rfl (G.storeN (by kernel_rfl) rfl rfl (by first | exact (all1_cons (by first | rfl | with_reducible assumption) (all1_cons (by first | rfl | with_reducible assumption) all1_nil)) | exact List.all_eq_true.2 (vByte_one _) | rfl) (by repeat (first | with_reducible exact Sel.here | exact Sel.here | apply Sel.there)) (by first | (simp; done) | exact Nat.le_of_ble_eq_true rfl) ?_)
          refine I.nil ?_
          refine I.nThen ?_
          refine I.ret ?_
          refine I.rThen ?_
          refine I.rBlock ?_
          exact I.rR ((3, (atL (splitM s) i : Int))) (by first | exact trivial | ((try dsimp only); exact ⟨fun h => (by cases h), fun _ => hck.trans (checkL_many hi (by omega))⟩)) rfl (by repeat (first | exact Sub.nil | (apply Sub.cons; (repeat (first | with_reducible exact Sel.here | exact Sel.here | apply Sel.there)))))
        · refine I.skip ?_
          refine I.nThen ?_
          refine I.seq ?_
          refine I.region (by kernel_rfl) (by rintro ⟨_, _, h⟩; first | exact h | exact noOut h) ?_
          refine G.op rfl (G.val rfl rfl (pv_move rfl) ?_)
          refine G.op rfl (G.cR rfl rfl rfl rfl Try.func78 rfl rfl may0 (step_at (getL (splitM s) i) hno (by omega)) ?_)
          refine G.op rfl (G.val rfl rfl (pv_move rfl) ?_)
          refine G.op rfl (G.val rfl rfl (pv_extract rfl rfl) ?_)
          refine G.op rfl (G.val rfl rfl (pv_extract rfl rfl) ?_)
          refine G.op rfl (G.val rfl rfl (pv_assign rfl) ?_)
          refine G.op rfl (G.val rfl rfl (pv_assign rfl) ?_)
          refine I.nil ?_
          refine I.nThen ?_
          refine I.seq ?_
          refine I.region (by kernel_rfl) (by rintro ⟨_, _, h⟩; first | exact h | exact noOut h) ?_
          refine G.op rfl (G.val rfl rfl (pv_move rfl) ?_)
          refine G.op rfl (G.val rfl rfl (pv_neq rfl rfl) ?_)
          refine I.nil ?_
          refine I.nThen ?_
          refine I.condP rfl (fun h33 => ?_) (fun h33 => ?_)
          · refine I.seq ?_
            refine I.region (by kernel_rfl) (by rintro ⟨_, _, h⟩; first | exact h | exact noOut h) ?_
            refine G.op rfl (G.val rfl rfl (pv_move rfl) ?_)
            refine G.op rfl (G.val rfl rfl (pv_move rfl) ?_)
            refine G.op rfl (G.val rfl rfl (pv_move rfl) ?_)
            refine G.op rfl (G.val rfl rfl (pv_add64 rfl rfl (by omega)) ?_)
            refine G.op rfl (G.val rfl rfl (pv_buildSt (z := [.int .i64 0, .int .i64 0]) (pl := [(0, 1), (1, 1)]) Try.underlying73 (by kernel_rfl) (by kernel_rfl) rfl (by repeat (first | exact Fl.nil | (apply Fl.cons; exact rfl; (first | exact cells_of (by first | rfl | with_reducible assumption) | exact rfl); exact rfl; exact rfl; repeat (first | exact Sn.nil | (apply Sn.cons; repeat (first | exact St.zero | apply St.succ))))))) ?_)
            refine G.op rfl (G.storeN (by kernel_rfl) rfl rfl (by first | exact (all1_cons (by first | rfl | with_reducible assumption) (all1_cons (by first | rfl | with_reducible assumption) all1_nil)) | exact List.all_eq_true.2 (vByte_one _) | rfl) (by repeat (first | with_reducible exact Sel.here | exact Sel.here | apply Sel.there)) (by first | (simp; done) | exact Nat.le_of_ble_eq_true rfl) ?_)
            refine I.nil ?_
            refine I.nThen ?_
            refine I.ret ?_
            refine I.rBlock ?_
            exact I.rR (((stepB badR (getL (splitM s) i)).1, (atL (splitM s) i : Int) + (stepB badR (getL (splitM s) i)).2)) (by first | exact trivial | ((try dsimp only); exact ⟨fun h => (by cases h), fun _ => hck.trans (checkL_bad hi (by omega) (by omega))⟩)) rfl (by repeat (first | exact Sub.nil | (apply Sub.cons; (repeat (first | with_reducible exact Sel.here | exact Sel.here | apply Sel.there)))))
          · refine I.skip ?_
            refine I.nBlock ?_
            exact I.rN ((0, 0)) (by first | exact trivial | ((try dsimp only); exact ⟨fun _ => ⟨rfl, rfl, by omega, hck.trans (checkL_next hi (by omega) (by omega))⟩, fun h => (by cases h)⟩)) (by repeat (first | exact Sub.nil | (apply Sub.cons; (repeat (first | with_reducible exact Sel.here | exact Sel.here | apply Sel.there)))))
      · intro D st hJ
        obtain ⟨x, y⟩ := st
        try dsimp only at hJ
        try dsimp only
        obtain ⟨hT, -⟩ := hJ
        obtain ⟨rfl, rfl, hi20, hck⟩ := hT rfl
        refine I.nBlock ?_
        refine I.nThen ?_
        refine I.seq ?_
        refine I.region (by kernel_rfl) (by rintro ⟨_, _, h⟩; first | exact h | exact noOut h) ?_
        refine G.op rfl (G.val rfl rfl (pv_buildSt (z := [.int .i64 0, .int .i64 0]) (pl := [(0, 1), (1, 1)]) Try.underlying73 (by kernel_rfl) (by kernel_rfl) rfl (by repeat (first | exact Fl.nil | (apply Fl.cons; exact rfl; (first | exact cells_of (by first | rfl | with_reducible assumption) | exact rfl); exact rfl; exact rfl; repeat (first | exact Sn.nil | (apply Sn.cons; repeat (first | exact St.zero | apply St.succ))))))) ?_)
        refine G.op rfl (G.storeN (by kernel_rfl) rfl rfl (by first | exact (all1_cons (by first | rfl | with_reducible assumption) (all1_cons (by first | rfl | with_reducible assumption) all1_nil)) | exact List.all_eq_true.2 (vByte_one _) | rfl) (by repeat (first | with_reducible exact Sel.here | exact Sel.here | apply Sel.there)) (by first | (simp; done) | exact Nat.le_of_ble_eq_true rfl) ?_)
        refine I.nil ?_
        refine I.nThen ?_
        refine I.ret ?_
        exact I.doneT rfl (by (repeat (first | with_reducible exact Sel.here | exact Sel.here | apply Sel.there))) (Rv.cellN (cs := [_, _]) rfl Try.underlying73 rfl (by kernel_rfl) (by first | exact blk_range (k := 2) (by (repeat (first | with_reducible exact Sel.here | exact Sel.here | apply Sel.there)); done) (by rfl)) Rv.nil) (by rw [checkM_parts (by assumption) (by assumption), hck, List.drop_length]; rfl)
      · intro D i st hle hJ
        obtain ⟨x, y⟩ := st
        try dsimp only at hJ
        try dsimp only
        obtain ⟨-, hF⟩ := hJ
        have hxy := hF rfl
        refine I.ret ?_
        refine I.rBlock ?_
        refine I.rThen ?_
        exact I.doneT rfl (by (repeat (first | with_reducible exact Sel.here | exact Sel.here | apply Sel.there))) (Rv.cellN (cs := [_, _]) rfl Try.underlying73 rfl (by kernel_rfl) (by first | exact blk_range (k := 2) (by (repeat (first | with_reducible exact Sel.here | exact Sel.here | apply Sel.there)); done) (by rfl)) Rv.nil) (by rw [checkM_parts (by assumption) (by assumption), hxy]; rfl)
set_option maxRecDepth 20000 in
set_option maxHeartbeats 4000000 in

theorem valid_tr (s : List UInt8) (hs : s.length ≤ 9223372036854775807) : Tr Try.prog 43 #[.string (sB s)] [] [] (T0 (.bool (decide ((checkM s).1 = 0)))) := by
  refine Tr.of (l := [(0, .string (sB s))]) Try.func43 rfl (n := 7) rfl (.cons rfl .nil) (fun w0 hro => ?_)
  refine G.seq ?_
  refine G.region ?_
  refine G.op rfl (G.val rfl rfl (pv_assign rfl) ?_)
  refine G.nil ?_
  refine G.nThen ?_
  refine G.seq ?_
  refine G.region ?_
  refine G.op rfl (G.val rfl rfl (pv_move rfl) ?_)
  refine G.op rfl (G.cR rfl rfl rfl rfl Try.func61 rfl rfl may0 (check_tr _ (by omega)) ?_)
  refine G.op rfl (G.val rfl rfl (pv_field1 Try.underlying73 rfl Try.underlying24 rfl rfl rfl) ?_)
  refine G.op rfl (G.val rfl rfl (pv_eql rfl rfl) ?_)
  refine G.op rfl (G.val rfl rfl (pv_assign rfl) ?_)
  refine G.nil ?_
  refine G.nThen ?_
  refine G.ret ?_
  exact G.done0G rfl (Rv.tmp rfl Rv.nil) (by first | rfl | exact int_eq (by omega) | (simp; done))
end Go.Proofs.Ytchgaedidfefoaa

/- The reference's parts of a text, and what is wrong with a path. Conditions: the text is not of more than a million bytes. -/
set_option linter.unusedVariables false
set_option linter.unusedSimpArgs false
namespace Go.Proofs.Ytchgaedidfefoaa
open Go.RowKit

theorem splitM_snoc47 : ∀ s, splitM (s ++ [47]) = splitM s ++ [[]]
  | [] => rfl
  | c :: s => by
    have ih := splitM_snoc47 s
    rw [List.cons_append]
    by_cases hc : c = 47
    · subst hc
      rw [splitM_stroke, splitM_stroke, ih]
      rfl
    · rw [splitM_char hc, splitM_char hc, ih]
      cases h : splitM s with
      | nil => exact absurd h (splitM_ne s)
      | cons p r => rfl
theorem splitM_snoc {c : UInt8} (hc : ¬ c = 47) : ∀ (s : List UInt8) (ini : List (List UInt8)) (p : List UInt8), splitM s = ini ++ [p] → splitM (s ++ [c]) = ini ++ [p ++ [c]]
  | [], ini, p, h => by
    have h : [[]] = ini ++ [p] := h
    have h1 : ini = [] := by
      cases ini with
      | nil => rfl
      | cons a l => simp at h
    subst h1
    have h2 : p = [] := by simpa using h.symm
    subst h2
    show splitM [c] = _
    rw [splitM_char hc]
    rfl
  | d :: s, ini, p, h => by
    rw [List.cons_append]
    by_cases hd : d = 47
    · subst hd
      rw [splitM_stroke] at h ⊢
      cases ini with
      | nil =>
        have h2 : splitM s = [] := by
          have := congrArg List.tail h
          simpa using this
        exact absurd h2 (splitM_ne s)
      | cons a l =>
        rw [List.cons_append] at h
        injection h with h1 h2
        rw [splitM_snoc hc s l p h2, ← h1]
        rfl
    · rw [splitM_char hd] at h ⊢
      obtain ⟨i2, q, hq⟩ : ∃ i2 q, splitM s = i2 ++ [q] := ⟨_, _, (List.dropLast_concat_getLast (splitM_ne s)).symm⟩
      rw [splitM_snoc hc s i2 q hq]
      rw [hq] at h
      cases i2 with
      | nil =>
        have h : [d :: q] = ini ++ [p] := h
        have h1 : ini = [] := by
          cases ini with
          | nil => rfl
          | cons a l => simp at h
        subst h1
        have h2 : p = d :: q := by simpa using h.symm
        subst h2
        rfl
      | cons a l =>
        have h : (d :: a) :: (l ++ [q]) = ini ++ [p] := h
        have e : ((d :: a) :: l) ++ [q] = ini ++ [p] := h
        have e1 := List.append_inj' e rfl
        have e2 : q = p := by simpa using e1.2
        rw [← e1.1, ← e2]
        rfl
theorem splitM_last (s : List UInt8) : ∃ ini p, splitM s = ini ++ [p] := ⟨_, _, (List.dropLast_concat_getLast (splitM_ne s)).symm⟩
theorem splitM_len (s : List UInt8) : (splitM s).length ≤ s.length + 1 := by
  have h := splitM_sum s
  have : ∀ l : List (List UInt8), l.length ≤ (l.map fun p => p.length + 1).sum := by
    intro l
    induction l with
    | nil => simp
    | cons a l ih => simp; omega
  have := this (splitM s)
  omega
theorem mem_len {s p : List UInt8} (h : p ∈ splitM s) : p.length ≤ s.length := by
  have h1 := splitM_sum s
  have : ∀ l : List (List UInt8), p ∈ l → p.length + 1 ≤ (l.map fun p => p.length + 1).sum := by
    intro l
    induction l with
    | nil => intro h; cases h
    | cons a l ih =>
      intro h
      rcases List.mem_cons.1 h with rfl | h
      · simp
      · have := ih h
        simp; omega
  have := this _ h
  omega
theorem Try.infoStr' : (Try.prog.info? 9).map (fun i => (i.zero.map (·.cells.size), i.size, i.bytes)) = some (some 1, 1, 16) := by kernel_rfl
theorem own_str {e : TypeId} {v : Value} {k : Nat} {ps qs : List (List UInt8)} (h : qs = ps) (hk : k = ps.length) : own e 1 v k (ps.map vStr) = own e 1 v qs.length (qs.map vStr) := by
  subst h
  rw [hk]
theorem own_str1 {e : TypeId} {v : Value} {ps qs : List (List UInt8)} {p : List UInt8} (h : qs = ps ++ [p]) : own e 1 v (ps.length + 1) (ps.map vStr ++ [vStr p]) = own e 1 v qs.length (qs.map vStr) := by
  subst h
  simp
theorem rdLast {ini : List (List UInt8)} {p : List UInt8} {sp : List Value} : ((ini ++ [p]).map vStr ++ sp)[0 + ini.length * 1]? = some (.string (sB p)) := by
  rw [Nat.zero_add, Nat.mul_one, List.map_append, List.append_assoc, List.getElem?_append_right (by simp)]
  simp
  rfl
theorem setLast {ini : List (List UInt8)} {p q : List UInt8} {sp : List Value} : ((ini ++ [p]).map vStr ++ sp).set (0 + ini.length * 1) (.string (sB q)) = (ini ++ [q]).map vStr ++ sp := by
  rw [Nat.zero_add, Nat.mul_one, List.map_append, List.append_assoc, List.set_append_right _ _ (by simp), List.map_append, List.append_assoc]
  simp
  rfl
theorem take_succ_app {s : List UInt8} {k : Nat} (h : k < s.length) : s.take (k + 1) = s.take k ++ [s[k]] := List.take_succ_eq_append_getElem h
theorem take_drop_one {s : List UInt8} {k : Nat} (h : k < s.length) : (s.take (k + 1)).drop k = [s[k]] := by
  rw [take_succ_app h, List.drop_append_of_le_length (by simp; omega), List.drop_of_length_le (by simp; omega), List.nil_append]
theorem split47 {s : List UInt8} {k : Nat} (hk : k < s.length) (h : (s[k].toNat : Int) = 47) : splitM (s.take (k + 1)) = splitM (s.take k) ++ [[]] := by
  have e : s[k] = 47 := UInt8.toNat_inj.1 (show s[k].toNat = 47 by omega)
  rw [take_succ_app hk, e, splitM_snoc47]
theorem splitC {s : List UInt8} {k : Nat} {ini : List (List UInt8)} {p : List UInt8} (hk : k < s.length) (h : ¬ (s[k].toNat : Int) = 47) (hi : splitM (s.take k) = ini ++ [p]) : splitM (s.take (k + 1)) = ini ++ [p ++ [s[k]]] := by
  have e : ¬ s[k] = 47 := fun e => h (by rw [e]; rfl)
  rw [take_succ_app hk]
  exact splitM_snoc e _ _ _ hi
set_option maxRecDepth 20000 in
set_option maxHeartbeats 4000000 in

theorem split_tr (s : List UInt8) (hs : s.length ≤ 1000000) : Tr Try.prog 70 #[.string (sB s)] [] [] (TX (fun _ : Value => True) (fun v => v) (fun v => [own 9 1 v (splitM s).length ((splitM s).map vStr)])) := by
  refine Tr.of (l := [(0, .string (sB s))]) Try.func70 rfl (n := 37) rfl (.cons rfl .nil) (fun w0 hro => ?_)
  refine G.seq ?_
  refine G.region ?_
  refine G.op rfl (G.val rfl rfl (pv_assign rfl) ?_)
  refine G.nil ?_
  refine G.nThen ?_
  refine G.seq ?_
  refine G.region ?_
  refine G.op rfl (G.lit1 (vs := [_]) rfl Try.underlying44 (by kernel_rfl) rfl (by decide) (by decide) rfl rfl ?_)
  intro b5
  refine G.op rfl (G.val rfl rfl (pv_assign rfl) ?_)
  refine G.nil ?_
  refine G.nThen ?_
  refine G.seq ?_
  refine G.seq ?_
  refine G.region ?_
  refine G.op rfl (G.val rfl rfl (pv_assign rfl) ?_)
  refine G.nil ?_
  refine G.nThen ?_
  refine G.block ?_
  refine G.ownBlk (b := b5) (k := 1) (sz := 1) (by repeat (first | with_reducible exact Sel.here | exact Sel.here | apply Sel.there)) rfl (by omega) ?_
  refine G.loopK (X := Nat × Value) (ts := [0, 2]) (fun st => st.1 ≤ s.length) (fun st => [(4, .int .i64 (st.1 : Int)), (3, st.2)]) (fun st => [own 9 1 st.2 (splitM (s.take st.1)).length ((splitM (s.take st.1)).map vStr)]) (fun st => s.length - st.1) (x0 := (0, .slice (some ⟨b5, 0, none⟩) 1 1)) (.cons rfl (.cons rfl .nil)) (by show Sub _ [own 9 1 (.slice (some ⟨b5, 0, none⟩) 1 1) 1 [vStr []]] _; repeat (first | exact Sub.nil | (apply Sub.cons; (repeat (first | with_reducible exact Sel.here | exact Sel.here | apply Sel.there))))) (.cons (.cons .nil)) (by repeat (first | exact Ap.nil | apply Ap.cons)) (by first | exact trivial | ((try dsimp only); exact Nat.zero_le _)) (.consE rfl (by first | rfl | exact int_eq (by first | omega | (dsimp only; omega)) | exact congrArg _ (by omega)) (.consE rfl (by first | rfl | exact int_eq (by first | omega | (dsimp only; omega)) | exact congrArg _ (by omega)) .nil)) (fun st hJ => ?_)
  obtain ⟨k, v⟩ := st
  try dsimp only at hJ
  try dsimp only
  have hkk := hJ
  have hle := splitM_len (s.take k)
  have htk : (s.take k).length ≤ k := by simp; omega
  refine G.seq ?_
  refine G.seq ?_
  refine G.region ?_
  refine G.op rfl (G.val rfl rfl (pv_move rfl) ?_)
  refine G.op rfl (G.val rfl rfl (pv_move rfl) ?_)
  refine G.op rfl (G.val rfl rfl (pv_lenS Try.underlying9 rfl) ?_)
  refine G.op rfl (G.val rfl rfl (pv_lss rfl rfl) ?_)
  refine G.nil ?_
  refine G.nThen ?_
  refine G.condP rfl (fun h9 => ?_) (fun h9 => ?_)
  · refine G.skip ?_
    refine G.nThen ?_
    refine G.seq ?_
    refine G.block ?_
    refine G.seq ?_
    refine G.seq ?_
    refine G.region ?_
    refine G.op rfl (G.val rfl rfl (pv_move rfl) ?_)
    refine G.op rfl (G.val rfl rfl (pv_move rfl) ?_)
    refine G.op rfl (G.val rfl rfl (pv_ixS Try.underlying9 rfl rfl rfl (by omega)) ?_)
    refine G.op rfl (G.val rfl rfl (pv_eql rfl rfl) ?_)
    refine G.nil ?_
    refine G.nThen ?_
    have hkl : k < s.length := by omega
    refine G.condP rfl (fun h15 => ?_) (fun h15 => ?_)
    · refine G.seq ?_
      refine G.region ?_
      refine G.op rfl (G.val rfl rfl (pv_move rfl) ?_)
      refine G.op rfl (G.lit1 (vs := [_]) rfl Try.underlying44 (by kernel_rfl) rfl (by decide) (by decide) rfl rfl ?_)
      intro b17
      refine G.op rfl (G.append (k := (splitM (s.take k)).length) (j := 1) (cs := (splitM (s.take k)).map vStr) (news := [vStr []]) (b := b17) (off := 0) rfl Try.underlying44 Try.infoStr' rfl rfl rfl (by repeat (first | with_reducible exact Sel.here | exact Sel.here | apply Sel.there)) (fun _ => rfl) (fun h => by cases h) rfl (blk_news (k := 1) (by repeat (first | with_reducible exact Sel.here | exact Sel.here | apply Sel.there)) rfl) (by intro u hu; obtain rfl : u = _ := (by simpa using hu); rfl) (by omega) (by omega) ?_)
      intro vn
      rw [own_str1 (split47 hkl (by assumption))]
      refine G.op rfl (G.val rfl rfl (pv_assign rfl) ?_)
      refine G.nil ?_
      refine G.nThen ?_
      refine G.exit ?_
      refine G.eThen ?_
      refine G.eBlock ?_
      refine G.nThen ?_
      refine G.region ?_
      refine G.op rfl (G.val rfl rfl (pv_move rfl) ?_)
      refine G.op rfl (G.val rfl rfl (pv_add64 rfl rfl (by omega)) ?_)
      refine G.op rfl (G.val rfl rfl (pv_assign rfl) ?_)
      refine G.nil ?_
      exact G.next ((k + 1, vn)) (by first | exact trivial | ((try dsimp only); exact by omega)) (by (try dsimp only); omega) (.consE rfl (by first | rfl | exact int_eq (by first | omega | (dsimp only; omega)) | exact congrArg _ (by omega)) (.consE rfl (by first | rfl | exact int_eq (by first | omega | (dsimp only; omega)) | exact congrArg _ (by omega)) (.cons rfl (.cons rfl .nil)))) (by repeat (first | exact Sub.nil | (apply Sub.cons; (repeat (first | with_reducible exact Sel.here | exact Sel.here | apply Sel.there)))))
    · refine G.skip ?_
      refine G.nThen ?_
      obtain ⟨ini, p, hip⟩ := splitM_last (s.take k)
      have hpl : p.length ≤ (s.take k).length := mem_len (by rw [hip]; simp)
      rw [hip] at hle
      rw [hip]
      have hn : (ini ++ [p]).length = ini.length + 1 := by simp
      refine G.ownTo (by repeat (first | with_reducible exact Sel.here | exact Sel.here | apply Sel.there)) (by omega) (fun g cap sp hv hkc hmx hl hlen => ?_)
      subst hv
      rw [hn] at hkc ⊢
      refine G.drawT (nn := 18) (p := [blk g _ _]) (rem := 262143) [0, 0, 2, 4, 0, 0, 32, 64, 144, 256, 0, 0, 0, 4096, 11264, 16896, 65535, 131071] [0, 0, 2, 4, 0, 0, 32, 64, 144, 256, 0, 0, 0, 4096, 11264, 16896, 9, 98304] (by kernel_rfl) ⟨rfl, by kernel_rfl, by kernel_rfl⟩ (by repeat (first | exact Sub.nil | (apply Sub.cons; (repeat (first | with_reducible exact Sel.here | exact Sel.here | apply Sel.there))))) (by kernel_rfl) (fun hT7 => ?_)
      refine G.takeT hT7 (i := 0) (rem' := 262142) rfl rfl rfl (by kernel_rfl) (fun _ _ _ h => h) rfl (pv_move rfl) (by repeat (first | exact Sub.nil | (apply Sub.cons; (repeat (first | with_reducible exact Sel.here | exact Sel.here | apply Sel.there))))) ?_
      refine G.takeT hT7 (i := 1) (rem' := 262140) rfl rfl rfl (by kernel_rfl) (fun _ _ _ h => h) rfl (pv_move rfl) (by repeat (first | exact Sub.nil | (apply Sub.cons; (repeat (first | with_reducible exact Sel.here | exact Sel.here | apply Sel.there))))) ?_
      refine G.takeT hT7 (i := 2) (rem' := 262136) rfl rfl rfl (by kernel_rfl) (fun _ _ _ h => h) rfl (pv_lenSl Try.underlying44 rfl) (by repeat (first | exact Sub.nil | (apply Sub.cons; (repeat (first | with_reducible exact Sel.here | exact Sel.here | apply Sel.there))))) ?_
      refine G.takeT hT7 (i := 3) (rem' := 262128) rfl rfl rfl (by kernel_rfl) (fun _ _ _ h => h) rfl (pv_sub64 rfl rfl (by omega)) (by repeat (first | exact Sub.nil | (apply Sub.cons; (repeat (first | with_reducible exact Sel.here | exact Sel.here | apply Sel.there))))) ?_
      refine G.takeT hT7 (i := 4) (rem' := 262112) rfl rfl rfl (by kernel_rfl) (fun _ _ _ h => h) rfl (pv_move rfl) (by repeat (first | exact Sub.nil | (apply Sub.cons; (repeat (first | with_reducible exact Sel.here | exact Sel.here | apply Sel.there))))) ?_
      refine G.takeT hT7 (i := 5) (rem' := 262080) rfl rfl rfl (by kernel_rfl) (fun _ _ _ h => h) rfl (pv_move rfl) (by repeat (first | exact Sub.nil | (apply Sub.cons; (repeat (first | with_reducible exact Sel.here | exact Sel.here | apply Sel.there))))) ?_
      refine G.takeT hT7 (i := 6) (rem' := 262016) rfl rfl rfl (by kernel_rfl) (fun _ _ _ h => h) rfl (pv_lenSl Try.underlying44 rfl) (by repeat (first | exact Sub.nil | (apply Sub.cons; (repeat (first | with_reducible exact Sel.here | exact Sel.here | apply Sel.there))))) ?_
      refine G.takeT hT7 (i := 7) (rem' := 261888) rfl rfl rfl (by kernel_rfl) (fun _ _ _ h => h) rfl (pv_sub64 rfl rfl (by omega)) (by repeat (first | exact Sub.nil | (apply Sub.cons; (repeat (first | with_reducible exact Sel.here | exact Sel.here | apply Sel.there))))) ?_
      refine G.takeT hT7 (i := 8) (rem' := 261632) rfl rfl rfl (by kernel_rfl) (fun _ _ _ h => h) rfl (pv_ixSl (sz := 1) (k := ini.length) Try.underlying44 (by kernel_rfl) rfl rfl (fun _ => rfl) (by omega) (by omega)) (by repeat (first | exact Sub.nil | (apply Sub.cons; (repeat (first | with_reducible exact Sel.here | exact Sel.here | apply Sel.there))))) ?_
      refine G.takeT hT7 (i := 10) (rem' := 260608) rfl rfl rfl (by kernel_rfl) (fun _ _ _ h => h) rfl (pv_move rfl) (by repeat (first | exact Sub.nil | (apply Sub.cons; (repeat (first | with_reducible exact Sel.here | exact Sel.here | apply Sel.there))))) ?_
      refine G.takeT hT7 (i := 11) (rem' := 258560) rfl rfl rfl (by kernel_rfl) (fun _ _ _ h => h) rfl (pv_move rfl) (by repeat (first | exact Sub.nil | (apply Sub.cons; (repeat (first | with_reducible exact Sel.here | exact Sel.here | apply Sel.there))))) ?_
      refine G.takeT hT7 (i := 12) (rem' := 254464) rfl rfl rfl (by kernel_rfl) (fun _ _ _ h => h) rfl (pv_move rfl) (by repeat (first | exact Sub.nil | (apply Sub.cons; (repeat (first | with_reducible exact Sel.here | exact Sel.here | apply Sel.there))))) ?_
      refine G.takeT hT7 (i := 13) (rem' := 246272) rfl rfl rfl (by kernel_rfl) (fun _ _ _ h => h) rfl (pv_add64 rfl rfl (by omega)) (by repeat (first | exact Sub.nil | (apply Sub.cons; (repeat (first | with_reducible exact Sel.here | exact Sel.here | apply Sel.there))))) ?_
      refine G.takeT hT7 (i := 14) (rem' := 229888) rfl rfl rfl (by kernel_rfl) (fun _ _ _ h => h) rfl ((pv_strLH (k := k) (k' := k + 1) Try.underlying9 rfl rfl rfl rfl (by omega) (by omega) (by omega)).cast (congrArg (fun x => Value.string (sB x)) (take_drop_one hkl))) (by repeat (first | exact Sub.nil | (apply Sub.cons; (repeat (first | with_reducible exact Sel.here | exact Sel.here | apply Sel.there))))) ?_
      refine G.oneT hT7 (i := 9) (rem' := 229376) (by kernel_rfl) (by kernel_rfl) ?_
      refine G.turnOp rfl rfl (G.val rfl rfl (pv_load (v := .string (sB p)) Try.underlying9 rfl rfl (blk_cell (by (repeat (first | with_reducible exact Sel.here | exact Sel.here | apply Sel.there)); done) rdLast)) ?_)
      refine G.back (by repeat (first | exact Sub.nil | (apply Sub.cons; (repeat (first | with_reducible exact Sel.here | exact Sel.here | apply Sel.there))))) ?_
      refine G.takeT hT7 (i := 15) (rem' := 196608) rfl rfl rfl (by kernel_rfl) (fun _ _ _ h => h) rfl (pv_addS rfl rfl (by simp; omega)) (by repeat (first | exact Sub.nil | (apply Sub.cons; (repeat (first | with_reducible exact Sel.here | exact Sel.here | apply Sel.there))))) ?_
      refine G.takeT hT7 (i := 16) (rem' := 131072) rfl rfl rfl (by kernel_rfl) (fun _ _ _ h => h) rfl (pv_ixSl (sz := 1) (k := ini.length) Try.underlying44 (by kernel_rfl) rfl rfl (fun _ => rfl) (by omega) (by omega)) (by repeat (first | exact Sub.nil | (apply Sub.cons; (repeat (first | with_reducible exact Sel.here | exact Sel.here | apply Sel.there))))) ?_
      refine G.oneT hT7 (i := 17) (rem' := 0) (by kernel_rfl) (by kernel_rfl) ?_
      refine G.turnOp rfl rfl (G.store (by kernel_rfl) rfl rfl rfl (by repeat (first | with_reducible exact Sel.here | exact Sel.here | apply Sel.there)) (by simp) ?_)
      rw [setLast]
      refine G.back (by repeat (first | exact Sub.nil | (apply Sub.cons; (repeat (first | with_reducible exact Sel.here | exact Sel.here | apply Sel.there))))) ?_
      refine G.overT hT7 (by kernel_rfl) ?_
      refine G.nBlock ?_
      refine G.nThen ?_
      refine G.region ?_
      refine G.op rfl (G.val rfl rfl (pv_move rfl) ?_)
      refine G.op rfl (G.val rfl rfl (pv_add64 rfl rfl (by omega)) ?_)
      refine G.op rfl (G.val rfl rfl (pv_assign rfl) ?_)
      refine G.nil ?_
      refine G.ownOf (sz := 1) (k := ini.length + 1) (cs := (ini ++ [p ++ [s[k]]]).map vStr) (sp := sp) (by repeat (first | with_reducible exact Sel.here | exact Sel.here | apply Sel.there)) (by simp) hkc hmx (by simpa using hl) ?_
      rw [own_str (splitC hkl (by assumption) hip) (by simp)]
      exact G.next ((k + 1, .slice (some ⟨g, 0, none⟩) (ini.length + 1) cap)) (by first | exact trivial | ((try dsimp only); exact by omega)) (by (try dsimp only); omega) (.consE rfl (by first | rfl | exact int_eq (by first | omega | (dsimp only; omega)) | exact congrArg _ (by omega)) (.consE rfl (by first | rfl | exact int_eq (by first | omega | (dsimp only; omega)) | exact congrArg _ (by omega)) (.cons rfl (.cons rfl .nil)))) (by repeat (first | exact Sub.nil | (apply Sub.cons; (repeat (first | with_reducible exact Sel.here | exact Sel.here | apply Sel.there)))))
  · refine G.exit ?_
    refine G.eThen ?_
    refine G.eThen ?_
    refine G.eBlock ?_
    refine G.nThen ?_
    refine G.seq ?_
    refine G.region ?_
    refine G.op rfl (G.val rfl rfl (pv_move rfl) ?_)
    refine G.op rfl (G.val rfl rfl (pv_assign rfl) ?_)
    refine G.nil ?_
    refine G.nThen ?_
    refine G.ret ?_
    obtain rfl : k = s.length := by omega
    rw [List.take_length]
    exact G.doneX1 (v) (by first | exact trivial | ((try dsimp only); exact trivial)) rfl rfl rfl (by repeat (first | exact Sub.nil | (apply Sub.cons; (repeat (first | with_reducible exact Sel.here | exact Sel.here | apply Sel.there)))))
theorem splitM_pos (s : List UInt8) : 0 < (splitM s).length := List.length_pos_iff.2 (splitM_ne s)
set_option maxRecDepth 20000 in
set_option maxHeartbeats 4000000 in

theorem checkR_tr (s : List UInt8) (hs : s.length ≤ 9223372036854775807) : Tr Try.prog 80 #[.string (sB s)] [] [] (T0 (.agg #[.int .i64 (checkM s).1, .int .i64 (checkM s).2])) := by
  refine Tr.of (l := [(0, .string (sB s))]) Try.func80 rfl (n := 51) rfl (.cons rfl .nil) (fun w0 hro => ?_)
  refine G.seq ?_
  refine G.region ?_
  refine G.op rfl (G.alloc (z := .agg #[.int .i64 0, .int .i64 0]) (cs := [.int .i64 0, .int .i64 0]) rfl (by kernel_rfl) rfl ?_)
  intro b2
  refine G.nil ?_
  refine G.nThen ?_
  refine G.seq ?_
  refine G.seq ?_
  refine G.region ?_
  refine G.op rfl (G.val rfl rfl (pv_move rfl) ?_)
  refine G.op rfl (G.val rfl rfl (pv_eqlS rfl rfl) ?_)
  refine G.nil ?_
  refine G.nThen ?_
  refine G.condP rfl (fun h9 => ?_) (fun h9 => ?_)
  · refine G.seq ?_
    refine G.region ?_
    refine G.op rfl (G.val rfl rfl (pv_buildSt (z := [.int .i64 0, .int .i64 0]) (pl := [(0, 1), (1, 1)]) Try.underlying73 (by kernel_rfl) (by kernel_rfl) rfl (by repeat (first | exact Fl.nil | (apply Fl.cons; exact rfl; (first | exact cells_of (by first | rfl | with_reducible assumption) | exact rfl); exact rfl; exact rfl; repeat (first | exact Sn.nil | (apply Sn.cons; repeat (first | exact St.zero | apply St.succ))))))) ?_)
    refine G.op rfl (G.storeN (by kernel_rfl) rfl rfl (by first | exact (all1_cons (by first | rfl | with_reducible assumption) (all1_cons (by first | rfl | with_reducible assumption) all1_nil)) | exact List.all_eq_true.2 (vByte_one _) | rfl) (by repeat (first | with_reducible exact Sel.here | exact Sel.here | apply Sel.there)) (by first | (simp; done) | exact Nat.le_of_ble_eq_true rfl) ?_)
    refine G.nil ?_
    refine G.nThen ?_
    refine G.ret ?_
    refine G.rThen ?_
    exact G.done0G rfl (Rv.cellN (cs := [_, _]) rfl Try.underlying73 rfl (by kernel_rfl) (by first | exact blk_range (k := 2) (by (repeat (first | with_reducible exact Sel.here | exact Sel.here | apply Sel.there)); done) (by rfl)) Rv.nil) (by rw [checkM_nil (by assumption)]; rfl)
  · refine G.skip ?_
    refine G.nThen ?_
    refine G.seq ?_
    refine G.seq ?_
    refine G.region ?_
    refine G.op rfl (G.val rfl rfl (pv_move rfl) ?_)
    refine G.op rfl (G.val rfl rfl (pv_lenS Try.underlying9 rfl) ?_)
    refine G.op rfl (G.val rfl rfl (pv_gtr rfl rfl) ?_)
    refine G.nil ?_
    refine G.nThen ?_
    refine G.condP rfl (fun h13 => ?_) (fun h13 => ?_)
    · refine G.seq ?_
      refine G.region ?_
      refine G.op rfl (G.val rfl rfl (pv_buildSt (z := [.int .i64 0, .int .i64 0]) (pl := [(0, 1), (1, 1)]) Try.underlying73 (by kernel_rfl) (by kernel_rfl) rfl (by repeat (first | exact Fl.nil | (apply Fl.cons; exact rfl; (first | exact cells_of (by first | rfl | with_reducible assumption) | exact rfl); exact rfl; exact rfl; repeat (first | exact Sn.nil | (apply Sn.cons; repeat (first | exact St.zero | apply St.succ))))))) ?_)
      refine G.op rfl (G.storeN (by kernel_rfl) rfl rfl (by first | exact (all1_cons (by first | rfl | with_reducible assumption) (all1_cons (by first | rfl | with_reducible assumption) all1_nil)) | exact List.all_eq_true.2 (vByte_one _) | rfl) (by repeat (first | with_reducible exact Sel.here | exact Sel.here | apply Sel.there)) (by first | (simp; done) | exact Nat.le_of_ble_eq_true rfl) ?_)
      refine G.nil ?_
      refine G.nThen ?_
      refine G.ret ?_
      refine G.rThen ?_
      exact G.done0G rfl (Rv.cellN (cs := [_, _]) rfl Try.underlying73 rfl (by kernel_rfl) (by first | exact blk_range (k := 2) (by (repeat (first | with_reducible exact Sel.here | exact Sel.here | apply Sel.there)); done) (by rfl)) Rv.nil) (by rw [checkM_long (by assumption) (by assumption)]; rfl)
    · refine G.skip ?_
      refine G.nThen ?_
      refine G.seq ?_
      refine G.region ?_
      refine G.op rfl (G.val rfl rfl (pv_move rfl) ?_)
      refine G.op rfl (G.cS rfl rfl rfl rfl Try.func70 rfl rfl (by repeat (first | exact Sub.nil | (apply Sub.cons; (repeat (first | with_reducible exact Sel.here | exact Sel.here | apply Sel.there))))) may0 (split_tr s (by omega)) (by repeat (first | exact Ap.nil | apply Ap.cons)) ?_)
      intro x16 hJ
      try dsimp only at hJ
      try dsimp only
      have hpos := splitM_pos s
      have hlen := splitM_len s
      refine G.ownTo (by repeat (first | with_reducible exact Sel.here | exact Sel.here | apply Sel.there)) hpos (fun g cap sp hv hkc hmx hl hlen2 => ?_)
      subst hv
      refine G.op rfl (G.val rfl rfl (pv_assign rfl) ?_)
      refine G.nil ?_
      refine G.nThen ?_
      refine G.seq ?_
      refine G.region ?_
      refine G.op rfl (G.val rfl rfl (pv_assign rfl) ?_)
      refine G.nil ?_
      refine G.nThen ?_
      refine G.seq ?_
      refine G.seq ?_
      refine G.region ?_
      refine G.op rfl (G.val rfl rfl (pv_assign rfl) ?_)
      refine G.nil ?_
      refine G.nThen ?_
      refine G.block ?_
      refine G.loopK (X := Nat) (ts := [2, 3]) (fun i => i ≤ (splitM s).length ∧ (i ≤ 20 ∧ checkL (splitM s) 0 0 = checkL ((splitM s).drop i) i (atL (splitM s) i))) (fun i => [(5, .int .i64 (i : Int)), (4, .int .i64 (atL (splitM s) i : Int))]) (fun i => []) (fun i => (splitM s).length - i) (x0 := 0) (.cons rfl (.cons rfl .nil)) (by repeat (first | exact Sub.nil | (apply Sub.cons; (repeat (first | with_reducible exact Sel.here | exact Sel.here | apply Sel.there))))) (.cons (.cons .nil)) (by repeat (first | exact Ap.nil | apply Ap.cons)) (by first | exact trivial | ((try dsimp only); exact ⟨Nat.zero_le _, ⟨by omega, rfl⟩⟩)) (.consE rfl (by first | rfl | exact int_eq (by first | omega | (dsimp only; omega)) | exact congrArg _ (by omega)) (.consE rfl (by first | rfl | exact int_eq (by first | omega | (dsimp only; omega)) | exact congrArg _ (by omega)) .nil)) (fun i hJ => ?_)
      try dsimp only at hJ
      try dsimp only
      obtain ⟨hki, hJ⟩ := hJ
      refine G.seq ?_
      refine G.seq ?_
      refine G.region ?_
      refine G.op rfl (G.val rfl rfl (pv_move rfl) ?_)
      refine G.op rfl (G.val rfl rfl (pv_move rfl) ?_)
      refine G.op rfl (G.val rfl rfl (pv_lenSl Try.underlying44 rfl) ?_)
      refine G.op rfl (G.val rfl rfl (pv_lss rfl rfl) ?_)
      refine G.nil ?_
      refine G.nThen ?_
      refine G.condP rfl (fun h20 => ?_) (fun h20 => ?_)
      · obtain ⟨hi20, hck⟩ := hJ
        have hil : i < (splitM s).length := by omega
        have hpl := part_le hil
        have hge := getL_eq hil
        have hb := stepB_pos badR (getL (splitM s) i)
        have hat := atL_succ hil
        rw [← hge] at hpl hat
        refine G.skip ?_
        refine G.nThen ?_
        refine G.seq ?_
        refine G.block ?_
        refine G.seq ?_
        refine G.seq ?_
        refine G.region ?_
        refine G.op rfl (G.val rfl rfl (pv_move rfl) ?_)
        refine G.op rfl (G.val rfl rfl (pv_eql rfl rfl) ?_)
        refine G.nil ?_
        refine G.nThen ?_
        refine G.condP rfl (fun h24 => ?_) (fun h24 => ?_)
        · refine G.seq ?_
          refine G.region ?_
          refine G.op rfl (G.val rfl rfl (pv_move rfl) ?_)
          refine G.op rfl (G.val rfl rfl (pv_buildSt (z := [.int .i64 0, .int .i64 0]) (pl := [(0, 1), (1, 1)]) Try.underlying73 (by kernel_rfl) (by kernel_rfl) rfl (by repeat (first | exact Fl.nil | (apply Fl.cons; exact rfl; (first | exact cells_of (by first | rfl | with_reducible assumption) | exact rfl); exact rfl; exact rfl; repeat (first | exact Sn.nil | (apply Sn.cons; repeat (first | exact St.zero | apply St.succ))))))) ?_)
          refine G.op rfl (G.storeN (by kernel_rfl) rfl rfl (by first | exact (all1_cons (by first | rfl | with_reducible assumption) (all1_cons (by first | rfl | with_reducible assumption) all1_nil)) | exact List.all_eq_true.2 (vByte_one _) | rfl) (by repeat (first | with_reducible exact Sel.here | exact Sel.here | apply Sel.there)) (by first | (simp; done) | exact Nat.le_of_ble_eq_true rfl) ?_)
          refine G.nil ?_
          refine G.nThen ?_
          refine G.ret ?_
          refine G.rThen ?_
          refine G.rBlock ?_
          refine G.rThen ?_
          refine G.rThen ?_
          refine G.rBlock ?_
          refine G.rThen ?_
          exact G.done0G rfl (Rv.cellN (cs := [_, _]) rfl Try.underlying73 rfl (by kernel_rfl) (by first | exact blk_range (k := 2) (by (repeat (first | with_reducible exact Sel.here | exact Sel.here | apply Sel.there)); done) (by rfl)) Rv.nil) (by rw [checkM_parts (by assumption) (by assumption), hck, checkL_many hil (by omega)]; rfl)
        · refine G.skip ?_
          refine G.nThen ?_
          refine G.seq ?_
          refine G.region ?_
          refine G.op rfl (G.val rfl rfl (pv_move rfl) ?_)
          refine G.op rfl (G.val rfl rfl (pv_move rfl) ?_)
          refine G.op rfl (G.val rfl rfl (pv_ixSl (sz := 1) Try.underlying44 (by kernel_rfl) rfl rfl (by first | with_reducible assumption | assumption | exact fun _ => rfl) rfl (by omega)) ?_)
          refine G.op rfl (G.val rfl rfl (pv_load (v := .string (sB (getL (splitM s) i))) Try.underlying9 rfl rfl (blk_cell (by (repeat (first | with_reducible exact Sel.here | exact Sel.here | apply Sel.there)); done) (by rw [hge]; exact rd1 hil))) ?_)
          refine G.op rfl (G.cR rfl rfl rfl rfl Try.func85 rfl rfl may0 (part_tr _ (by omega)) ?_)
          refine G.op rfl (G.val rfl rfl (pv_move rfl) ?_)
          refine G.op rfl (G.val rfl rfl (pv_extract rfl rfl) ?_)
          refine G.op rfl (G.val rfl rfl (pv_extract rfl rfl) ?_)
          refine G.op rfl (G.val rfl rfl (pv_assign rfl) ?_)
          refine G.op rfl (G.val rfl rfl (pv_assign rfl) ?_)
          refine G.nil ?_
          refine G.nThen ?_
          refine G.seq ?_
          refine G.seq ?_
          refine G.region ?_
          refine G.op rfl (G.val rfl rfl (pv_move rfl) ?_)
          refine G.op rfl (G.val rfl rfl (pv_neq rfl rfl) ?_)
          refine G.nil ?_
          refine G.nThen ?_
          refine G.condP rfl (fun h36 => ?_) (fun h36 => ?_)
          · refine G.seq ?_
            refine G.region ?_
            refine G.op rfl (G.val rfl rfl (pv_move rfl) ?_)
            refine G.op rfl (G.val rfl rfl (pv_move rfl) ?_)
            refine G.op rfl (G.val rfl rfl (pv_move rfl) ?_)
            refine G.op rfl (G.val rfl rfl (pv_add64 rfl rfl (by omega)) ?_)
            refine G.op rfl (G.val rfl rfl (pv_buildSt (z := [.int .i64 0, .int .i64 0]) (pl := [(0, 1), (1, 1)]) Try.underlying73 (by kernel_rfl) (by kernel_rfl) rfl (by repeat (first | exact Fl.nil | (apply Fl.cons; exact rfl; (first | exact cells_of (by first | rfl | with_reducible assumption) | exact rfl); exact rfl; exact rfl; repeat (first | exact Sn.nil | (apply Sn.cons; repeat (first | exact St.zero | apply St.succ))))))) ?_)
            refine G.op rfl (G.storeN (by kernel_rfl) rfl rfl (by first | exact (all1_cons (by first | rfl | with_reducible assumption) (all1_cons (by first | rfl | with_reducible assumption) all1_nil)) | exact List.all_eq_true.2 (vByte_one _) | rfl) (by repeat (first | with_reducible exact Sel.here | exact Sel.here | apply Sel.there)) (by first | (simp; done) | exact Nat.le_of_ble_eq_true rfl) ?_)
            refine G.nil ?_
            refine G.nThen ?_
            refine G.ret ?_
            refine G.rThen ?_
            refine G.rBlock ?_
            refine G.rThen ?_
            refine G.rThen ?_
            refine G.rBlock ?_
            refine G.rThen ?_
            exact G.done0G rfl (Rv.cellN (cs := [_, _]) rfl Try.underlying73 rfl (by kernel_rfl) (by first | exact blk_range (k := 2) (by (repeat (first | with_reducible exact Sel.here | exact Sel.here | apply Sel.there)); done) (by rfl)) Rv.nil) (by rw [checkM_parts (by assumption) (by assumption), hck, checkL_bad hil (by omega) (by omega)]; rfl)
          · refine G.skip ?_
            refine G.nThen ?_
            refine G.region ?_
            refine G.op rfl (G.val rfl rfl (pv_move rfl) ?_)
            refine G.op rfl (G.val rfl rfl (pv_move rfl) ?_)
            refine G.op rfl (G.val rfl rfl (pv_move rfl) ?_)
            refine G.op rfl (G.val rfl rfl (pv_ixSl (sz := 1) Try.underlying44 (by kernel_rfl) rfl rfl (by first | with_reducible assumption | assumption | exact fun _ => rfl) rfl (by omega)) ?_)
            refine G.op rfl (G.val rfl rfl (pv_load (v := .string (sB (getL (splitM s) i))) Try.underlying9 rfl rfl (blk_cell (by (repeat (first | with_reducible exact Sel.here | exact Sel.here | apply Sel.there)); done) (by rw [hge]; exact rd1 hil))) ?_)
            refine G.op rfl (G.val rfl rfl (pv_lenS Try.underlying9 rfl) ?_)
            refine G.op rfl (G.val rfl rfl (pv_add64 rfl rfl (by omega)) ?_)
            refine G.op rfl (G.val rfl rfl (pv_add64 rfl rfl (by omega)) ?_)
            refine G.op rfl (G.val rfl rfl (pv_assign rfl) ?_)
            refine G.nil ?_
            refine G.nBlock ?_
            refine G.nThen ?_
            refine G.region ?_
            refine G.op rfl (G.val rfl rfl (pv_move rfl) ?_)
            refine G.op rfl (G.val rfl rfl (pv_add64 rfl rfl (by omega)) ?_)
            refine G.op rfl (G.val rfl rfl (pv_assign rfl) ?_)
            refine G.nil ?_
            exact G.next (i + 1) (by first | exact trivial | ((try dsimp only); exact ⟨by omega, ⟨by omega, hck.trans (checkL_next hil (by omega) (by omega))⟩⟩)) (by (try dsimp only); omega) (.consE rfl (by first | rfl | exact int_eq (by first | omega | (dsimp only; omega)) | exact congrArg _ (by omega)) (.consE rfl (by first | rfl | exact int_eq (by first | omega | (dsimp only; omega)) | exact congrArg _ (by omega)) (.cons rfl (.cons rfl .nil)))) (by repeat (first | exact Sub.nil | (apply Sub.cons; (repeat (first | with_reducible exact Sel.here | exact Sel.here | apply Sel.there)))))
      · refine G.exit ?_
        refine G.eThen ?_
        refine G.eThen ?_
        refine G.eBlock ?_
        refine G.nThen ?_
        refine G.seq ?_
        refine G.region ?_
        refine G.op rfl (G.val rfl rfl (pv_buildSt (z := [.int .i64 0, .int .i64 0]) (pl := [(0, 1), (1, 1)]) Try.underlying73 (by kernel_rfl) (by kernel_rfl) rfl (by repeat (first | exact Fl.nil | (apply Fl.cons; exact rfl; (first | exact cells_of (by first | rfl | with_reducible assumption) | exact rfl); exact rfl; exact rfl; repeat (first | exact Sn.nil | (apply Sn.cons; repeat (first | exact St.zero | apply St.succ))))))) ?_)
        refine G.op rfl (G.storeN (by kernel_rfl) rfl rfl (by first | exact (all1_cons (by first | rfl | with_reducible assumption) (all1_cons (by first | rfl | with_reducible assumption) all1_nil)) | exact List.all_eq_true.2 (vByte_one _) | rfl) (by repeat (first | with_reducible exact Sel.here | exact Sel.here | apply Sel.there)) (by first | (simp; done) | exact Nat.le_of_ble_eq_true rfl) ?_)
        refine G.nil ?_
        refine G.nThen ?_
        refine G.ret ?_
        obtain ⟨hi20, hck⟩ := hJ
        obtain rfl : i = (splitM s).length := by omega
        exact G.done0G rfl (Rv.cellN (cs := [_, _]) rfl Try.underlying73 rfl (by kernel_rfl) (by first | exact blk_range (k := 2) (by (repeat (first | with_reducible exact Sel.here | exact Sel.here | apply Sel.there)); done) (by rfl)) Rv.nil) (by rw [checkM_parts (by assumption) (by assumption), hck, List.drop_length]; rfl)
set_option maxRecDepth 20000 in
set_option maxHeartbeats 4000000 in

theorem validR_tr (s : List UInt8) (hs : s.length ≤ 9223372036854775807) : Tr Try.prog 68 #[.string (sB s)] [] [] (T0 (.bool (decide ((checkM s).1 = 0)))) := by
  refine Tr.of (l := [(0, .string (sB s))]) Try.func68 rfl (n := 7) rfl (.cons rfl .nil) (fun w0 hro => ?_)
  refine G.seq ?_
  refine G.region ?_
  refine G.op rfl (G.val rfl rfl (pv_assign rfl) ?_)
  refine G.nil ?_
  refine G.nThen ?_
  refine G.seq ?_
  refine G.region ?_
  refine G.op rfl (G.val rfl rfl (pv_move rfl) ?_)
  refine G.op rfl (G.cR rfl rfl rfl rfl Try.func80 rfl rfl may0 (checkR_tr s hs) ?_)
  refine G.op rfl (G.val rfl rfl (pv_field1 Try.underlying73 rfl Try.underlying24 rfl rfl rfl) ?_)
  refine G.op rfl (G.val rfl rfl (pv_eql rfl rfl) ?_)
  refine G.op rfl (G.val rfl rfl (pv_assign rfl) ?_)
  refine G.nil ?_
  refine G.nThen ?_
  refine G.ret ?_
  exact G.done0G rfl (Rv.tmp rfl Rv.nil) (by first | rfl | exact int_eq (by omega) | (simp; done))
end Go.Proofs.Ytchgaedidfefoaa

/- Contracts of layer 7: which path is ahead, which lies under which, what a path's parent is, its last part, a path joined. Conditions: the texts are not of more than a million bytes. -/
set_option linter.unusedVariables false
set_option linter.unusedSimpArgs false
namespace Go.Proofs.Ytchgaedidfefoaa
open Go.RowKit

theorem retV1 (v : Value) : retV [v] = v := rfl
theorem retV2 (a b : Value) : retV [a, b] = .tuple #[a, b] := rfl
theorem sB_nil : sB [] = ⟨#[]⟩ := rfl
/-- is a text a path? -/
def okP (s : List UInt8) : Prop := (checkM s).1 = 0
instance (s : List UInt8) : Decidable (okP s) := inferInstanceAs (Decidable (_ = _))
def cmpL : List (List UInt8) → List (List UInt8) → Int
  | [], [] => 0
  | [], _ :: _ => -1
  | _ :: _, [] => 1
  | x :: xs, y :: ys => if x = y then cmpL xs ys else bytesM x y
theorem cut_split {t p t' : List UInt8} {m : Bool} (h : cutM t = (p, t', m)) : splitM t = if m then p :: splitM t' else [p] := by
  rw [splitM_cut, h]
theorem cutM_lt {t p t' : List UInt8} (h : cutM t = (p, t', true)) : t'.length < t.length ∧ p.length ≤ t.length := by
  unfold cutM at h
  split at h
  · injection h with h1 h2
    injection h2 with h2 h3
    rw [← h1, ← h2]
    simp
    omega
  · injection h with h1 h2
    injection h2 with h2 h3
    cases h3
theorem ord_ne {x y a b : List UInt8} {m k : Bool} {s t : List UInt8} (hs : cutM s = (x, a, m)) (ht : cutM t = (y, b, k)) (h : x ≠ y) : cmpL (splitM s) (splitM t) = bytesM x y := by
  rw [cut_split hs, cut_split ht]
  cases m <;> cases k <;> exact if_neg h
theorem ord_eq {x y a b : List UInt8} {m k : Bool} {s t : List UInt8} (hs : cutM s = (x, a, m)) (ht : cutM t = (y, b, k)) (h : ¬ x ≠ y) : cmpL (splitM s) (splitM t) = if m then (if k then cmpL (splitM a) (splitM b) else 1) else if k then -1 else 0 := by
  have h : x = y := Decidable.of_not_not h
  rw [cut_split hs, cut_split ht]
  have e : ∀ xs ys, cmpL (x :: xs) (y :: ys) = cmpL xs ys := fun xs ys => if_pos h
  cases m <;> cases k <;> simp [e]
  · rfl
  · cases h2 : splitM b with
    | nil => exact absurd h2 (splitM_ne b)
    | cons p r => rfl
  · cases h2 : splitM a with
    | nil => exact absurd h2 (splitM_ne a)
    | cons p r => rfl
set_option maxRecDepth 20000 in
set_option maxHeartbeats 4000000 in

theorem order_all (k : Nat) : ∀ a b : List UInt8, a.length = k → a.length ≤ 1000000 → b.length ≤ 1000000 → Tr Try.prog 45 #[.string (sB a), .string (sB b)] [] [] (T0 (.int .i64 (cmpL (splitM a) (splitM b)))) := by
  induction k using Nat.strongRecOn
  rename_i k ih
  intro a b hk ha hb
  obtain ⟨x, a', m, hx⟩ : ∃ x a' m, cutM a = (x, a', m) := ⟨_, _, _, rfl⟩
  obtain ⟨y, b', j, hy⟩ : ∃ y b' j, cutM b = (y, b', j) := ⟨_, _, _, rfl⟩
  have hbl := cutM_len b
  rw [hy] at hbl
  have hbl : b'.length ≤ b.length := hbl
  refine Tr.of (l := [(0, .string (sB a)), (1, .string (sB b))]) Try.func45 rfl (n := 40) rfl (.cons rfl (.cons rfl .nil)) (fun w0 hro => ?_)
  refine G.seq ?_
  refine G.region ?_
  refine G.op rfl (G.val rfl rfl (pv_assign rfl) ?_)
  refine G.nil ?_
  refine G.nThen ?_
  refine G.seq ?_
  refine G.region ?_
  refine G.op rfl (G.val rfl rfl (pv_move rfl) ?_)
  refine G.op rfl (G.cR rfl rfl rfl rfl Try.func66 rfl rfl may0 (cut_at a _ _ _ (by omega) hx) ?_)
  refine G.op rfl (G.val rfl rfl (pv_move rfl) ?_)
  refine G.op rfl (G.val rfl rfl (pv_extract rfl rfl) ?_)
  refine G.op rfl (G.val rfl rfl (pv_extract rfl rfl) ?_)
  refine G.op rfl (G.val rfl rfl (pv_extract rfl rfl) ?_)
  refine G.op rfl (G.val rfl rfl (pv_assign rfl) ?_)
  refine G.op rfl (G.val rfl rfl (pv_assign rfl) ?_)
  refine G.op rfl (G.val rfl rfl (pv_assign rfl) ?_)
  refine G.nil ?_
  refine G.nThen ?_
  refine G.seq ?_
  refine G.region ?_
  refine G.op rfl (G.val rfl rfl (pv_move rfl) ?_)
  refine G.op rfl (G.cR rfl rfl rfl rfl Try.func66 rfl rfl may0 (cut_at b _ _ _ (by omega) hy) ?_)
  refine G.op rfl (G.val rfl rfl (pv_move rfl) ?_)
  refine G.op rfl (G.val rfl rfl (pv_extract rfl rfl) ?_)
  refine G.op rfl (G.val rfl rfl (pv_extract rfl rfl) ?_)
  refine G.op rfl (G.val rfl rfl (pv_extract rfl rfl) ?_)
  refine G.op rfl (G.val rfl rfl (pv_assign rfl) ?_)
  refine G.op rfl (G.val rfl rfl (pv_assign rfl) ?_)
  refine G.op rfl (G.val rfl rfl (pv_assign rfl) ?_)
  refine G.nil ?_
  refine G.nThen ?_
  refine G.seq ?_
  refine G.block ?_
  refine G.seq ?_
  refine G.region ?_
  refine G.op rfl (G.val rfl rfl (pv_move rfl) ?_)
  refine G.op rfl (G.val rfl rfl (pv_move rfl) ?_)
  refine G.op rfl (G.val rfl rfl (pv_neqS rfl rfl) ?_)
  refine G.op rfl (G.val rfl rfl (pv_assign rfl) ?_)
  refine G.nil ?_
  refine G.nThen ?_
  refine G.condP rfl (fun h21 => ?_) (fun h21 => ?_)
  · refine G.seq ?_
    refine G.region ?_
    refine G.op rfl (G.val rfl rfl (pv_move rfl) ?_)
    refine G.op rfl (G.val rfl rfl (pv_move rfl) ?_)
    refine G.op rfl (G.cR rfl rfl rfl rfl Try.func46 rfl rfl may0 (cmp_tr _ _) ?_)
    refine G.op rfl (G.val rfl rfl (pv_assign rfl) ?_)
    refine G.nil ?_
    refine G.nThen ?_
    refine G.ret ?_
    refine G.rBlock ?_
    refine G.rThen ?_
    exact G.done0G rfl (Rv.tmp rfl Rv.nil) (by rw [ord_ne hx hy (by assumption)]; rfl)
  · refine G.seq ?_
    refine G.region ?_
    refine G.op rfl (G.val rfl rfl (pv_move rfl) ?_)
    refine G.op rfl (G.val rfl rfl (pv_move rfl) ?_)
    refine G.part (t := 30) rfl (fun h30 => ?_) (fun h30 => ?_)
    · refine G.want rfl rfl rfl (G.val rfl rfl (pv_move rfl) ?_)
      refine G.op rfl (G.val rfl rfl (pv_pick rfl rfl) ?_)
      refine G.op rfl (G.val rfl rfl (pv_assign rfl) ?_)
      refine G.nil ?_
      refine G.nThen ?_
      refine G.cond rfl (fun h28 => ?_) (fun h28 => ?_)
      · refine G.seq ?_
        refine G.region ?_
        refine G.op rfl (G.val rfl rfl (pv_move rfl) ?_)
        refine G.op rfl (G.val rfl rfl (pv_move rfl) ?_)
        have hm : m = true := by simp_all
        subst hm
        have hal := (cutM_lt hx).1
        refine G.op rfl (G.cR rfl rfl rfl rfl Try.func45 rfl rfl may0 (ih a'.length (by have := (cutM_lt (by assumption)).1; omega) a' b' rfl (by have := (cutM_lt (by assumption)).1; omega) (by omega)) ?_)
        refine G.op rfl (G.val rfl rfl (pv_assign rfl) ?_)
        refine G.nil ?_
        refine G.nThen ?_
        refine G.ret ?_
        refine G.rBlock ?_
        refine G.rThen ?_
        exact G.done0G rfl (Rv.tmp rfl Rv.nil) (by rw [ord_eq hx hy (by assumption)]; simp_all [retV1])
      · refine G.seq ?_
        refine G.region ?_
        refine G.op rfl (G.val rfl rfl (pv_move rfl) ?_)
        refine G.op rfl (G.val rfl rfl (pv_assign rfl) ?_)
        refine G.nil ?_
        refine G.nThen ?_
        refine G.cond rfl (fun h36 => ?_) (fun h36 => ?_)
        · refine G.seq ?_
          refine G.region ?_
          refine G.op rfl (G.val rfl rfl (pv_assign rfl) ?_)
          refine G.nil ?_
          refine G.nThen ?_
          refine G.ret ?_
          refine G.rBlock ?_
          refine G.rThen ?_
          exact G.done0G rfl (Rv.tmp rfl Rv.nil) (by rw [ord_eq hx hy (by assumption)]; simp_all [retV1])
        · refine G.seq ?_
          refine G.region ?_
          refine G.op rfl (G.val rfl rfl (pv_move rfl) ?_)
          refine G.op rfl (G.val rfl rfl (pv_assign rfl) ?_)
          refine G.nil ?_
          refine G.nThen ?_
          refine G.cond rfl (fun h38 => ?_) (fun h38 => ?_)
          · refine G.seq ?_
            refine G.region ?_
            refine G.op rfl (G.val rfl rfl (pv_assign rfl) ?_)
            refine G.nil ?_
            refine G.nThen ?_
            refine G.ret ?_
            refine G.rBlock ?_
            refine G.rThen ?_
            exact G.done0G rfl (Rv.tmp rfl Rv.nil) (by rw [ord_eq hx hy (by assumption)]; simp_all [retV1])
          · refine G.skip ?_
            refine G.nBlock ?_
            refine G.nThen ?_
            refine G.seq ?_
            refine G.region ?_
            refine G.op rfl (G.val rfl rfl (pv_assign rfl) ?_)
            refine G.nil ?_
            refine G.nThen ?_
            refine G.ret ?_
            exact G.done0G rfl (Rv.tmp rfl Rv.nil) (by rw [ord_eq hx hy (by assumption)]; simp_all [retV1])
    · refine G.pass rfl rfl rfl rfl rfl rfl ?_
      refine G.op rfl (G.val rfl rfl (pv_pick rfl rfl) ?_)
      refine G.op rfl (G.val rfl rfl (pv_assign rfl) ?_)
      refine G.nil ?_
      refine G.nThen ?_
      refine G.condF rfl (rfl) ?_
      refine G.seq ?_
      refine G.region ?_
      refine G.op rfl (G.val rfl rfl (pv_move rfl) ?_)
      refine G.op rfl (G.val rfl rfl (pv_assign rfl) ?_)
      refine G.nil ?_
      refine G.nThen ?_
      refine G.cond rfl (fun h36 => ?_) (fun h36 => ?_)
      · refine G.seq ?_
        refine G.region ?_
        refine G.op rfl (G.val rfl rfl (pv_assign rfl) ?_)
        refine G.nil ?_
        refine G.nThen ?_
        refine G.ret ?_
        refine G.rBlock ?_
        refine G.rThen ?_
        exact G.done0G rfl (Rv.tmp rfl Rv.nil) (by rw [ord_eq hx hy (by assumption)]; simp_all [retV1])
      · refine G.seq ?_
        refine G.region ?_
        refine G.op rfl (G.val rfl rfl (pv_move rfl) ?_)
        refine G.op rfl (G.val rfl rfl (pv_assign rfl) ?_)
        refine G.nil ?_
        refine G.nThen ?_
        refine G.cond rfl (fun h38 => ?_) (fun h38 => ?_)
        · refine G.seq ?_
          refine G.region ?_
          refine G.op rfl (G.val rfl rfl (pv_assign rfl) ?_)
          refine G.nil ?_
          refine G.nThen ?_
          refine G.ret ?_
          refine G.rBlock ?_
          refine G.rThen ?_
          exact G.done0G rfl (Rv.tmp rfl Rv.nil) (by rw [ord_eq hx hy (by assumption)]; simp_all [retV1])
        · refine G.skip ?_
          refine G.nBlock ?_
          refine G.nThen ?_
          refine G.seq ?_
          refine G.region ?_
          refine G.op rfl (G.val rfl rfl (pv_assign rfl) ?_)
          refine G.nil ?_
          refine G.nThen ?_
          refine G.ret ?_
          exact G.done0G rfl (Rv.tmp rfl Rv.nil) (by rw [ord_eq hx hy (by assumption)]; simp_all [retV1])
theorem order_tr (a b : List UInt8) (ha : a.length ≤ 1000000) (hb : b.length ≤ 1000000) : Tr Try.prog 45 #[.string (sB a), .string (sB b)] [] [] (T0 (.int .i64 (cmpL (splitM a) (splitM b)))) := order_all _ a b rfl ha hb
/-- which of two texts is ahead -/
def compareM (a b : List UInt8) : Int := if okP a then (if okP b then cmpL (splitM a) (splitM b) else 1) else if okP b then -1 else bytesM a b
def underM (s d : List UInt8) : Prop := okP s ∧ okP d ∧ preM s (d ++ [47]) = true
instance (s d : List UInt8) : Decidable (underM s d) := inferInstanceAs (Decidable (_ ∧ _ ∧ _))
def parentM (s : List UInt8) : List UInt8 × Bool := if 0 < lastM s s.length ∧ okP s then (s.take (lastM s s.length - 1), true) else ([], false)
def baseM (s : List UInt8) : List UInt8 := if okP s then s.drop (lastM s s.length) else []
def joinM (d p : List UInt8) : List UInt8 × Int := if (stepB badP p).1 ≠ 0 ∨ (d ≠ [] ∧ ¬ okP d) then ([], 2) else if d = [] then (p, 0) else if ¬ okP (d ++ [47] ++ p) then ([], 3) else (d ++ [47] ++ p, 0)
theorem lastM_le (s : List UInt8) : ∀ k, lastM s k ≤ k
  | 0 => Nat.le_refl _
  | k + 1 => by
    unfold lastM
    split
    · exact Nat.le_refl _
    · have := lastM_le s k
      omega
set_option maxRecDepth 20000 in
set_option maxHeartbeats 4000000 in

theorem compare_tr (a b : List UInt8) (ha : a.length ≤ 9223372036854775807) (hb : b.length ≤ 9223372036854775807) : Tr Try.prog 17 #[.string (sB a), .string (sB b)] [] [] (T0 (.int .i64 (compareM a b))) := by
  refine Tr.of (l := [(0, .string (sB a)), (1, .string (sB b))]) Try.func17 rfl (n := 26) rfl (.cons rfl (.cons rfl .nil)) (fun w0 hro => ?_)
  refine G.seq ?_
  refine G.region ?_
  refine G.op rfl (G.val rfl rfl (pv_assign rfl) ?_)
  refine G.nil ?_
  refine G.nThen ?_
  refine G.seq ?_
  refine G.region ?_
  refine G.op rfl (G.val rfl rfl (pv_move rfl) ?_)
  refine G.op rfl (G.cR rfl rfl rfl rfl Try.func43 rfl rfl may0 (valid_tr _ (by omega)) ?_)
  refine G.op rfl (G.val rfl rfl (pv_move rfl) ?_)
  refine G.op rfl (G.cR rfl rfl rfl rfl Try.func43 rfl rfl may0 (valid_tr _ (by omega)) ?_)
  refine G.op rfl (G.val rfl rfl (pv_assign rfl) ?_)
  refine G.op rfl (G.val rfl rfl (pv_assign rfl) ?_)
  refine G.nil ?_
  refine G.nThen ?_
  refine G.seq ?_
  refine G.block ?_
  refine G.seq ?_
  refine G.region ?_
  refine G.op rfl (G.val rfl rfl (pv_move rfl) ?_)
  refine G.op rfl (G.val rfl rfl (pv_move rfl) ?_)
  refine G.partP (t := 13) rfl (fun h13 => ?_) (fun h13 => ?_)
  · refine G.want rfl rfl rfl (G.val rfl rfl (pv_move rfl) ?_)
    refine G.op rfl (G.val rfl rfl (pv_pick rfl rfl) ?_)
    refine G.op rfl (G.val rfl rfl (pv_assign rfl) ?_)
    refine G.nil ?_
    refine G.nThen ?_
    refine G.condP rfl (fun h11 => ?_) (fun h11 => ?_)
    · refine G.seq ?_
      refine G.region ?_
      refine G.op rfl (G.val rfl rfl (pv_move rfl) ?_)
      refine G.op rfl (G.val rfl rfl (pv_move rfl) ?_)
      refine G.op rfl (G.cR rfl rfl rfl rfl Try.func45 rfl rfl may0 (order_tr _ _ (by have := okP_len (s := a) (by assumption); omega) (by have := okP_len (s := b) (by assumption); omega)) ?_)
      refine G.op rfl (G.val rfl rfl (pv_assign rfl) ?_)
      refine G.nil ?_
      refine G.nThen ?_
      refine G.ret ?_
      refine G.rBlock ?_
      refine G.rThen ?_
      exact G.done0G rfl (Rv.tmp rfl Rv.nil) (by simp_all [compareM, okP, retV1])
    · refine G.seq ?_
      refine G.region ?_
      refine G.op rfl (G.val rfl rfl (pv_move rfl) ?_)
      refine G.op rfl (G.val rfl rfl (pv_assign rfl) ?_)
      refine G.nil ?_
      refine G.nThen ?_
      refine G.condP rfl (fun h19 => ?_) (fun h19 => ?_)
      · refine G.seq ?_
        refine G.region ?_
        refine G.op rfl (G.val rfl rfl (pv_assign rfl) ?_)
        refine G.nil ?_
        refine G.nThen ?_
        refine G.ret ?_
        refine G.rBlock ?_
        refine G.rThen ?_
        exact G.done0G rfl (Rv.tmp rfl Rv.nil) (by simp_all [compareM, okP, retV1])
      · refine G.seq ?_
        refine G.region ?_
        refine G.op rfl (G.val rfl rfl (pv_move rfl) ?_)
        refine G.op rfl (G.val rfl rfl (pv_assign rfl) ?_)
        refine G.nil ?_
        refine G.nThen ?_
        refine G.condP rfl (fun h21 => ?_) (fun h21 => ?_)
        · refine G.seq ?_
          refine G.region ?_
          refine G.op rfl (G.val rfl rfl (pv_assign rfl) ?_)
          refine G.nil ?_
          refine G.nThen ?_
          refine G.ret ?_
          refine G.rBlock ?_
          refine G.rThen ?_
          exact G.done0G rfl (Rv.tmp rfl Rv.nil) (by simp_all [compareM, okP, retV1])
        · refine G.skip ?_
          refine G.nBlock ?_
          refine G.nThen ?_
          refine G.seq ?_
          refine G.region ?_
          refine G.op rfl (G.val rfl rfl (pv_move rfl) ?_)
          refine G.op rfl (G.val rfl rfl (pv_move rfl) ?_)
          refine G.op rfl (G.cR rfl rfl rfl rfl Try.func46 rfl rfl may0 (cmp_tr _ _) ?_)
          refine G.op rfl (G.val rfl rfl (pv_assign rfl) ?_)
          refine G.nil ?_
          refine G.nThen ?_
          refine G.ret ?_
          exact G.done0G rfl (Rv.tmp rfl Rv.nil) (by simp_all [compareM, okP, retV1])
  · refine G.pass rfl rfl rfl rfl rfl rfl ?_
    refine G.op rfl (G.val rfl rfl (pv_pick rfl rfl) ?_)
    refine G.op rfl (G.val rfl rfl (pv_assign rfl) ?_)
    refine G.nil ?_
    refine G.nThen ?_
    refine G.condF rfl (rfl) ?_
    refine G.seq ?_
    refine G.region ?_
    refine G.op rfl (G.val rfl rfl (pv_move rfl) ?_)
    refine G.op rfl (G.val rfl rfl (pv_assign rfl) ?_)
    refine G.nil ?_
    refine G.nThen ?_
    refine G.condP rfl (fun h19 => ?_) (fun h19 => ?_)
    · refine G.seq ?_
      refine G.region ?_
      refine G.op rfl (G.val rfl rfl (pv_assign rfl) ?_)
      refine G.nil ?_
      refine G.nThen ?_
      refine G.ret ?_
      refine G.rBlock ?_
      refine G.rThen ?_
      exact G.done0G rfl (Rv.tmp rfl Rv.nil) (by simp_all [compareM, okP, retV1])
    · refine G.seq ?_
      refine G.region ?_
      refine G.op rfl (G.val rfl rfl (pv_move rfl) ?_)
      refine G.op rfl (G.val rfl rfl (pv_assign rfl) ?_)
      refine G.nil ?_
      refine G.nThen ?_
      refine G.condP rfl (fun h21 => ?_) (fun h21 => ?_)
      · refine G.seq ?_
        refine G.region ?_
        refine G.op rfl (G.val rfl rfl (pv_assign rfl) ?_)
        refine G.nil ?_
        refine G.nThen ?_
        refine G.ret ?_
        refine G.rBlock ?_
        refine G.rThen ?_
        exact G.done0G rfl (Rv.tmp rfl Rv.nil) (by simp_all [compareM, okP, retV1])
      · refine G.skip ?_
        refine G.nBlock ?_
        refine G.nThen ?_
        refine G.seq ?_
        refine G.region ?_
        refine G.op rfl (G.val rfl rfl (pv_move rfl) ?_)
        refine G.op rfl (G.val rfl rfl (pv_move rfl) ?_)
        refine G.op rfl (G.cR rfl rfl rfl rfl Try.func46 rfl rfl may0 (cmp_tr _ _) ?_)
        refine G.op rfl (G.val rfl rfl (pv_assign rfl) ?_)
        refine G.nil ?_
        refine G.nThen ?_
        refine G.ret ?_
        exact G.done0G rfl (Rv.tmp rfl Rv.nil) (by simp_all [compareM, okP, retV1])
set_option maxRecDepth 20000 in
set_option maxHeartbeats 4000000 in

theorem under_tr (s d : List UInt8) (hs : s.length ≤ 9223372036854775807) (hd : d.length ≤ 9223372036854775807) : Tr Try.prog 37 #[.string (sB s), .string (sB d)] [] [] (T0 (.bool (decide (underM s d)))) := by
  refine Tr.of (l := [(0, .string (sB s)), (1, .string (sB d))]) Try.func37 rfl (n := 17) rfl (.cons rfl (.cons rfl .nil)) (fun w0 hro => ?_)
  have h47 : ([47] : List UInt8).length = 1 := rfl
  refine G.seq ?_
  refine G.region ?_
  refine G.op rfl (G.val rfl rfl (pv_assign rfl) ?_)
  refine G.nil ?_
  refine G.nThen ?_
  refine G.seq ?_
  refine G.region ?_
  refine G.op rfl (G.val rfl rfl (pv_move rfl) ?_)
  refine G.op rfl (G.cR rfl rfl rfl rfl Try.func43 rfl rfl may0 (valid_tr _ (by omega)) ?_)
  refine G.op rfl (G.val rfl rfl (pv_move rfl) ?_)
  refine G.partP (t := 7) rfl (fun h7 => ?_) (fun h7 => ?_)
  · refine G.want rfl rfl rfl (G.val rfl rfl (pv_move rfl) ?_)
    refine G.want rfl rfl rfl (G.cR rfl rfl rfl rfl Try.func43 rfl rfl may0 (valid_tr _ (by omega)) ?_)
    refine G.op rfl (G.val rfl rfl (pv_pick rfl rfl) ?_)
    refine G.op rfl (G.val rfl rfl (pv_move rfl) ?_)
    refine G.partP (t := 11) rfl (fun h11 => ?_) (fun h11 => ?_)
    · refine G.want rfl rfl rfl (G.val rfl rfl (pv_move rfl) ?_)
      refine G.want rfl rfl rfl (G.val rfl rfl (pv_move rfl) ?_)
      have hdl := okP_len (s := d) (by assumption)
      refine G.want rfl rfl rfl (G.val rfl rfl (pv_addS rfl rfl (by omega)) ?_)
      refine G.want rfl rfl rfl (G.cR rfl rfl rfl rfl Try.func60 rfl rfl may0 (pre_tr _ _ (by omega) (by simp; omega)) ?_)
      refine G.op rfl (G.val rfl rfl (pv_pick rfl rfl) ?_)
      refine G.op rfl (G.val rfl rfl (pv_assign rfl) ?_)
      refine G.nil ?_
      refine G.nThen ?_
      refine G.ret ?_
      exact G.done0G rfl (Rv.tmp rfl Rv.nil) (by simp_all [underM, okP, retV1])
    · refine G.pass rfl rfl rfl rfl rfl rfl ?_
      refine G.pass rfl rfl rfl rfl rfl rfl ?_
      refine G.pass rfl rfl rfl rfl rfl rfl ?_
      refine G.pass rfl rfl rfl rfl rfl rfl ?_
      refine G.op rfl (G.val rfl rfl (pv_pick rfl rfl) ?_)
      refine G.op rfl (G.val rfl rfl (pv_assign rfl) ?_)
      refine G.nil ?_
      refine G.nThen ?_
      refine G.ret ?_
      exact G.done0G rfl (Rv.tmp rfl Rv.nil) (by simp_all [underM, okP, retV1])
  · refine G.pass rfl rfl rfl rfl rfl rfl ?_
    refine G.pass rfl rfl rfl rfl rfl rfl ?_
    refine G.op rfl (G.val rfl rfl (pv_pick rfl rfl) ?_)
    refine G.op rfl (G.val rfl rfl (pv_move rfl) ?_)
    refine G.pass rfl rfl rfl rfl rfl rfl ?_
    refine G.pass rfl rfl rfl rfl rfl rfl ?_
    refine G.pass rfl rfl rfl rfl rfl rfl ?_
    refine G.pass rfl rfl rfl rfl rfl rfl ?_
    refine G.op rfl (G.val rfl rfl (pv_pick rfl rfl) ?_)
    refine G.op rfl (G.val rfl rfl (pv_assign rfl) ?_)
    refine G.nil ?_
    refine G.nThen ?_
    refine G.ret ?_
    exact G.done0G rfl (Rv.tmp rfl Rv.nil) (by simp_all [underM, okP, retV1])
set_option maxRecDepth 20000 in
set_option maxHeartbeats 4000000 in

theorem parent_tr (s : List UInt8) (hs : s.length ≤ 9223372036854775807) : Tr Try.prog 15 #[.string (sB s)] [] [] (T0 (.tuple #[.string (sB (parentM s).1), .bool (parentM s).2])) := by
  refine Tr.of (l := [(0, .string (sB s))]) Try.func15 rfl (n := 17) rfl (.cons rfl .nil) (fun w0 hro => ?_)
  have hlast := lastM_le s s.length
  refine G.seq ?_
  refine G.region ?_
  refine G.op rfl (G.val rfl rfl (pv_assign rfl) ?_)
  refine G.op rfl (G.val rfl rfl (pv_assign rfl) ?_)
  refine G.nil ?_
  refine G.nThen ?_
  refine G.seq ?_
  refine G.region ?_
  refine G.op rfl (G.val rfl rfl (pv_move rfl) ?_)
  refine G.op rfl (G.cR rfl rfl rfl rfl Try.func42 rfl rfl may0 (last_tr _ (by omega)) ?_)
  refine G.op rfl (G.val rfl rfl (pv_assign rfl) ?_)
  refine G.nil ?_
  refine G.nThen ?_
  refine G.seq ?_
  refine G.seq ?_
  refine G.region ?_
  refine G.op rfl (G.val rfl rfl (pv_move rfl) ?_)
  refine G.op rfl (G.val rfl rfl (pv_lss rfl rfl) ?_)
  refine G.op rfl (G.val rfl rfl (pv_move rfl) ?_)
  refine G.partP (t := 9) rfl (fun h9 => ?_) (fun h9 => ?_)
  · refine G.pass rfl rfl rfl rfl rfl rfl ?_
    refine G.pass rfl rfl rfl rfl rfl rfl ?_
    refine G.pass rfl rfl rfl rfl rfl rfl ?_
    refine G.op rfl (G.val rfl rfl (pv_pick rfl rfl) ?_)
    refine G.nil ?_
    refine G.nThen ?_
    refine G.condT rfl (rfl) ?_
    refine G.seq ?_
    refine G.region ?_
    refine G.op rfl (G.val rfl rfl (pv_assign rfl) ?_)
    refine G.op rfl (G.val rfl rfl (pv_assign rfl) ?_)
    refine G.nil ?_
    refine G.nThen ?_
    refine G.ret ?_
    refine G.rThen ?_
    exact G.done0G rfl (Rv.tmp rfl (Rv.tmp rfl Rv.nil)) (by unfold parentM; rw [if_neg (show ¬ (0 < lastM s s.length ∧ okP s) from fun h => by first | omega | exact absurd h.2 (by assumption))]; rfl)
  · refine G.want rfl rfl rfl (G.val rfl rfl (pv_move rfl) ?_)
    refine G.want rfl rfl rfl (G.cR rfl rfl rfl rfl Try.func43 rfl rfl may0 (valid_tr _ (by omega)) ?_)
    refine G.want rfl rfl rfl (G.val rfl rfl (pv_notP rfl) ?_)
    refine G.op rfl (G.val rfl rfl (pv_pick rfl rfl) ?_)
    refine G.nil ?_
    refine G.nThen ?_
    refine G.condP rfl (fun h13 => ?_) (fun h13 => ?_)
    · refine G.seq ?_
      refine G.region ?_
      refine G.op rfl (G.val rfl rfl (pv_assign rfl) ?_)
      refine G.op rfl (G.val rfl rfl (pv_assign rfl) ?_)
      refine G.nil ?_
      refine G.nThen ?_
      refine G.ret ?_
      refine G.rThen ?_
      exact G.done0G rfl (Rv.tmp rfl (Rv.tmp rfl Rv.nil)) (by unfold parentM; rw [if_neg (show ¬ (0 < lastM s s.length ∧ okP s) from fun h => by first | omega | exact absurd h.2 (by assumption))]; rfl)
    · refine G.skip ?_
      refine G.nThen ?_
      refine G.seq ?_
      refine G.region ?_
      refine G.op rfl (G.val rfl rfl (pv_move rfl) ?_)
      refine G.op rfl (G.val rfl rfl (pv_move rfl) ?_)
      refine G.op rfl (G.val rfl rfl (pv_strH (k := lastM s s.length - 1) Try.underlying9 rfl rfl (by omega) (by omega)) ?_)
      refine G.op rfl (G.val rfl rfl (pv_assign rfl) ?_)
      refine G.op rfl (G.val rfl rfl (pv_assign rfl) ?_)
      refine G.nil ?_
      refine G.nThen ?_
      refine G.ret ?_
      exact G.done0G rfl (Rv.tmp rfl (Rv.tmp rfl Rv.nil)) (by unfold parentM; rw [if_pos (show 0 < lastM s s.length ∧ okP s from ⟨by omega, Decidable.of_not_not (by assumption)⟩)]; rfl)
end Go.Proofs.Ytchgaedidfefoaa

/- The reference's answers of layer 7: Compare, Under, Join. Conditions: the texts are not of more than a hundred thousand bytes. -/
set_option linter.unusedVariables false
set_option linter.unusedSimpArgs false
namespace Go.Proofs.Ytchgaedidfefoaa
open Go.RowKit

theorem cmp_ne {xs ys : List (List UInt8)} {i : Nat} (hx : i < xs.length) (hy : i < ys.length) (h : xs[i] ≠ ys[i]) : cmpL (xs.drop i) (ys.drop i) = bytesM xs[i] ys[i] := by
  rw [List.drop_eq_getElem_cons hx, List.drop_eq_getElem_cons hy]
  exact if_neg h
theorem cmp_next {xs ys : List (List UInt8)} {i : Nat} (hx : i < xs.length) (hy : i < ys.length) (h : ¬ xs[i] ≠ ys[i]) : cmpL (xs.drop i) (ys.drop i) = cmpL (xs.drop (i + 1)) (ys.drop (i + 1)) := by
  rw [List.drop_eq_getElem_cons hx, List.drop_eq_getElem_cons hy]
  exact if_pos (Decidable.of_not_not h)
theorem cmp_end {xs ys : List (List UInt8)} {i : Nat} (hx : i ≤ xs.length) (hy : i ≤ ys.length) (h : ¬ (i < xs.length ∧ i < ys.length)) : cmpL (xs.drop i) (ys.drop i) = if xs.length < ys.length then -1 else if ys.length < xs.length then 1 else 0 := by
  rcases Nat.lt_or_ge i xs.length with h1 | h1
  · have h2 : ys.length ≤ i := by omega
    rw [List.drop_of_length_le h2, if_neg (by omega), if_pos (by omega), List.drop_eq_getElem_cons h1]
    rfl
  · rw [List.drop_of_length_le h1]
    rcases Nat.lt_or_ge i ys.length with h2 | h2
    · rw [if_pos (by omega), List.drop_eq_getElem_cons h2]
      rfl
    · rw [List.drop_of_length_le h2, if_neg (by omega), if_neg (by omega)]
      rfl
theorem preM_iff {s d : List UInt8} : preM s (d ++ [47]) = true ↔ ∃ h : d.length < s.length, s.take d.length = d ∧ s[d.length] = 47 := by
  have e : (d ++ [47]).length = d.length + 1 := by simp
  unfold preM
  rw [e]
  constructor
  · intro h
    split at h
    · rename_i hl
      have h := of_decide_eq_true h
      have hlt : d.length < s.length := by omega
      refine ⟨hlt, ?_⟩
      rw [take_succ_app hlt] at h
      have := List.append_inj' h rfl
      exact ⟨this.1, by simpa using this.2⟩
    · cases h
  · rintro ⟨hl, h1, h2⟩
    rw [if_pos (by omega)]
    refine decide_eq_true ?_
    rw [take_succ_app hl, h1, h2]
theorem pre_no1 {s d : List UInt8} (h : ¬ (d.length : Int) < s.length) : preM s (d ++ [47]) = false := by
  cases h2 : preM s (d ++ [47]) with
  | false => rfl
  | true => obtain ⟨h3, _⟩ := preM_iff.1 h2; omega
theorem pre_no2 {s d : List UInt8} (h : ¬ s.take d.length = d) : preM s (d ++ [47]) = false := by
  cases h2 : preM s (d ++ [47]) with
  | false => rfl
  | true => obtain ⟨_, h3, _⟩ := preM_iff.1 h2; exact absurd h3 h
theorem pre_yes {s d : List UInt8} (hl : d.length < s.length) (h : s.take d.length = d) : preM s (d ++ [47]) = decide ((s[d.length].toNat : Int) = 47) := by
  by_cases h3 : (s[d.length].toNat : Int) = 47
  · rw [decide_eq_true h3]
    exact preM_iff.2 ⟨hl, h, UInt8.toNat_inj.1 (show s[d.length].toNat = 47 by omega)⟩
  · rw [decide_eq_false h3]
    cases h2 : preM s (d ++ [47]) with
    | false => rfl
    | true =>
      obtain ⟨_, _, h4⟩ := preM_iff.1 h2
      exact absurd (by rw [h4]; rfl) h3
theorem split_one {p : List UInt8} (h : ∀ x ∈ p, ¬ x = 47) : splitM p = [p] := by
  induction p with
  | nil => rfl
  | cons c s ih =>
    rw [splitM_char (h c (List.mem_cons_self ..)), ih fun x hx => h x (List.mem_cons_of_mem _ hx)]
    rfl
theorem headP_len {c : UInt8} {ps : List (List UInt8)} (h : ps ≠ []) : (headP c ps).length = ps.length := by
  cases ps with
  | nil => exact absurd rfl h
  | cons p r => rfl
theorem split_one' : ∀ {p : List UInt8}, (splitM p).length = 1 → ∀ x ∈ p, ¬ x = 47
  | [], _, x, hx => by cases hx
  | c :: s, h, x, hx => by
    by_cases hc : c = 47
    · subst hc
      rw [splitM_stroke] at h
      have := splitM_pos s
      have h : (splitM s).length + 1 = 1 := h
      omega
    · rw [splitM_char hc, headP_len (splitM_ne s)] at h
      rcases List.mem_cons.1 hx with rfl | hx
      · exact hc
      · exact split_one' h x hx
theorem stepP_no {p : List UInt8} (h : (stepB badP p).1 = 0) : ∀ x ∈ p, ¬ x = 47 := fun x hx e => by
  subst e
  unfold stepB at h
  split at h
  · cases h
  · split at h
    · cases h
    · rename_i h2
      have : p.findIdx badP < p.length := List.findIdx_lt_length_of_exists ⟨47, hx, rfl⟩
      exact h2 this
theorem step_join (p : List UInt8) : (stepB badP p).1 = 0 ↔ (stepB badR p).1 = 0 ∧ (splitM p).length = 1 := by
  constructor
  · intro h
    have hn := stepP_no h
    exact ⟨by rw [← stepB_eq hn]; exact h, by rw [split_one hn]; rfl⟩
  · rintro ⟨h1, h2⟩
    rw [stepB_eq (split_one' h2)]
    exact h1
theorem okP_one {p : List UInt8} (h : (stepB badP p).1 = 0) : okP p := by
  have h1 := (step_join p).1 h
  have hs := split_one (stepP_no h)
  have hn : ¬ p = [] := fun e => by
    subst e
    cases h
  have hl : ¬ 200 < p.length := fun hl => by
    have h2 := h1.1
    unfold stepB at h2
    split at h2
    · cases h2
    · split at h2
      · cases h2
      · split at h2
        · cases h2
        · omega
  unfold okP
  rw [show checkM p = checkL (splitM p) 0 0 from (if_neg hn).trans (if_neg hl), hs]
  show (if 0 = 20 then _ else if (stepB badR p).1 = 0 then checkL [] _ _ else _ : Int × Int).1 = 0
  rw [if_neg (by decide), if_pos h1.1]
  rfl
theorem joinM_bad {d p : List UInt8} (h : (stepB badP p).1 ≠ 0 ∨ (d ≠ [] ∧ ¬ okP d)) : joinM d p = ([], 2) := if_pos h
theorem joinM_nil {d p : List UInt8} (h : ¬ ((stepB badP p).1 ≠ 0 ∨ (d ≠ [] ∧ ¬ okP d))) (hd : d = []) : joinM d p = (p, 0) := (if_neg h).trans (if_pos hd)
theorem joinM_long {d p : List UInt8} (h : ¬ ((stepB badP p).1 ≠ 0 ∨ (d ≠ [] ∧ ¬ okP d))) (hd : ¬ d = []) (h2 : ¬ okP (d ++ [47] ++ p)) : joinM d p = ([], 3) := (if_neg h).trans ((if_neg hd).trans (if_pos h2))
theorem joinM_ok {d p : List UInt8} (h : ¬ ((stepB badP p).1 ≠ 0 ∨ (d ≠ [] ∧ ¬ okP d))) (hd : ¬ d = []) (h2 : okP (d ++ [47] ++ p)) : joinM d p = (d ++ [47] ++ p, 0) := (if_neg h).trans ((if_neg hd).trans (if_neg (fun h => h h2)))
set_option maxRecDepth 20000 in
set_option maxHeartbeats 4000000 in

theorem compareR_tr (a b : List UInt8) (ha : a.length ≤ 9223372036854775807) (hb : b.length ≤ 9223372036854775807) : Tr Try.prog 49 #[.string (sB a), .string (sB b)] [] [] (T0 (.int .i64 (compareM a b))) := by
  refine Tr.of (l := [(0, .string (sB a)), (1, .string (sB b))]) Try.func49 rfl (n := 71) rfl (.cons rfl (.cons rfl .nil)) (fun w0 hro => ?_)
  have hla := splitM_len a
  have hlb := splitM_len b
  refine G.seq ?_
  refine G.region ?_
  refine G.op rfl (G.val rfl rfl (pv_assign rfl) ?_)
  refine G.nil ?_
  refine G.nThen ?_
  refine G.seq ?_
  refine G.region ?_
  refine G.op rfl (G.val rfl rfl (pv_move rfl) ?_)
  refine G.op rfl (G.cR rfl rfl rfl rfl Try.func68 rfl rfl may0 (validR_tr _ (by omega)) ?_)
  refine G.op rfl (G.val rfl rfl (pv_move rfl) ?_)
  refine G.op rfl (G.cR rfl rfl rfl rfl Try.func68 rfl rfl may0 (validR_tr _ (by omega)) ?_)
  refine G.op rfl (G.val rfl rfl (pv_assign rfl) ?_)
  refine G.op rfl (G.val rfl rfl (pv_assign rfl) ?_)
  refine G.nil ?_
  refine G.nThen ?_
  refine G.seq ?_
  refine G.seq ?_
  refine G.cutK (X := Unit) (ts := [0, 1, 4, 5, 6]) (p := []) (fun _ => True) (fun _ => [(19, .bool (decide (¬ (checkM a).1 = 0 ∧ ¬ (checkM b).1 = 0)))]) (fun _ => []) (.cons rfl (.cons rfl (.cons rfl (.cons rfl (.cons rfl .nil))))) (by repeat (first | exact Sub.nil | (apply Sub.cons; (repeat (first | with_reducible exact Sel.here | exact Sel.here | apply Sel.there))))) (.cons .nil) (by repeat (first | exact Ap.nil | apply Ap.cons)) ?_ ?_
  · refine G.region ?_
    refine G.op rfl (G.val rfl rfl (pv_move rfl) ?_)
    refine G.op rfl (G.val rfl rfl (pv_notP rfl) ?_)
    refine G.op rfl (G.val rfl rfl (pv_move rfl) ?_)
    refine G.partP (t := 16) rfl (fun h16 => ?_) (fun h16 => ?_)
    · refine G.want rfl rfl rfl (G.val rfl rfl (pv_move rfl) ?_)
      refine G.want rfl rfl rfl (G.val rfl rfl (pv_notP rfl) ?_)
      refine G.op rfl (G.val rfl rfl (pv_pick rfl rfl) ?_)
      refine G.nil ?_
      exact G.meet (()) (by first | exact trivial | ((try dsimp only); exact trivial)) (.consE rfl (congrArg Value.bool (by simp_all)) (.cons rfl (.cons rfl (.cons rfl (.cons rfl (.cons rfl .nil)))))) (by repeat (first | exact Sub.nil | (apply Sub.cons; (repeat (first | with_reducible exact Sel.here | exact Sel.here | apply Sel.there)))))
    · refine G.pass rfl rfl rfl rfl rfl rfl ?_
      refine G.pass rfl rfl rfl rfl rfl rfl ?_
      refine G.op rfl (G.val rfl rfl (pv_pick rfl rfl) ?_)
      refine G.nil ?_
      exact G.meet (()) (by first | exact trivial | ((try dsimp only); exact trivial)) (.consE rfl (congrArg Value.bool (by simp_all)) (.cons rfl (.cons rfl (.cons rfl (.cons rfl (.cons rfl .nil)))))) (by repeat (first | exact Sub.nil | (apply Sub.cons; (repeat (first | with_reducible exact Sel.here | exact Sel.here | apply Sel.there)))))
  · intro _ hJ
    try dsimp only at hJ
    try dsimp only
    refine G.condP rfl (fun h19 => ?_) (fun h19 => ?_)
    · refine G.seq ?_
      refine G.region ?_
      refine G.op rfl (G.val rfl rfl (pv_move rfl) ?_)
      refine G.op rfl (G.val rfl rfl (pv_move rfl) ?_)
      refine G.op rfl (G.cR rfl rfl rfl rfl Try.func69 rfl rfl may0 (bytes_tr _ _) ?_)
      refine G.op rfl (G.val rfl rfl (pv_assign rfl) ?_)
      refine G.nil ?_
      refine G.nThen ?_
      refine G.ret ?_
      refine G.rThen ?_
      exact G.done0G rfl (Rv.tmp rfl Rv.nil) (by simp_all [compareM, okP, retV1])
    · refine G.skip ?_
      refine G.nThen ?_
      refine G.seq ?_
      refine G.seq ?_
      refine G.region ?_
      refine G.op rfl (G.val rfl rfl (pv_move rfl) ?_)
      refine G.op rfl (G.val rfl rfl (pv_notP rfl) ?_)
      refine G.nil ?_
      refine G.nThen ?_
      refine G.condP rfl (fun h24 => ?_) (fun h24 => ?_)
      · refine G.seq ?_
        refine G.region ?_
        refine G.op rfl (G.val rfl rfl (pv_assign rfl) ?_)
        refine G.nil ?_
        refine G.nThen ?_
        refine G.ret ?_
        refine G.rThen ?_
        exact G.done0G rfl (Rv.tmp rfl Rv.nil) (by simp_all [compareM, okP, retV1])
      · refine G.skip ?_
        refine G.nThen ?_
        refine G.seq ?_
        refine G.seq ?_
        refine G.region ?_
        refine G.op rfl (G.val rfl rfl (pv_move rfl) ?_)
        refine G.op rfl (G.val rfl rfl (pv_notP rfl) ?_)
        refine G.nil ?_
        refine G.nThen ?_
        refine G.condP rfl (fun h26 => ?_) (fun h26 => ?_)
        · refine G.seq ?_
          refine G.region ?_
          refine G.op rfl (G.val rfl rfl (pv_assign rfl) ?_)
          refine G.nil ?_
          refine G.nThen ?_
          refine G.ret ?_
          refine G.rThen ?_
          exact G.done0G rfl (Rv.tmp rfl Rv.nil) (by simp_all [compareM, okP, retV1])
        · refine G.skip ?_
          refine G.nThen ?_
          refine G.seq ?_
          refine G.region ?_
          have hal := okP_len (s := a) (by first | assumption | exact Decidable.of_not_not (by assumption))
          have hbl := okP_len (s := b) (by first | assumption | exact Decidable.of_not_not (by assumption))
          refine G.op rfl (G.val rfl rfl (pv_move rfl) ?_)
          refine G.op rfl (G.cS rfl rfl rfl rfl Try.func70 rfl rfl (by repeat (first | exact Sub.nil | (apply Sub.cons; (repeat (first | with_reducible exact Sel.here | exact Sel.here | apply Sel.there))))) may0 (split_tr _ (by omega)) (by repeat (first | exact Ap.nil | apply Ap.cons)) ?_)
          intro x28 hJ
          try dsimp only at hJ
          try dsimp only
          refine G.ownTo (by repeat (first | with_reducible exact Sel.here | exact Sel.here | apply Sel.there)) (splitM_pos _) (fun g1 cap1 sp1 hv1 hkc1 hmx1 hl1 hlen1 => ?_)
          subst hv1
          refine G.op rfl (G.val rfl rfl (pv_move rfl) ?_)
          refine G.op rfl (G.cS rfl rfl rfl rfl Try.func70 rfl rfl (by repeat (first | exact Sub.nil | (apply Sub.cons; (repeat (first | with_reducible exact Sel.here | exact Sel.here | apply Sel.there))))) may0 (split_tr _ (by omega)) (by repeat (first | exact Ap.nil | apply Ap.cons)) ?_)
          intro x30 hJ
          try dsimp only at hJ
          try dsimp only
          refine G.ownTo (by repeat (first | with_reducible exact Sel.here | exact Sel.here | apply Sel.there)) (splitM_pos _) (fun g2 cap2 sp2 hv2 hkc2 hmx2 hl2 hlen2 => ?_)
          subst hv2
          refine G.op rfl (G.val rfl rfl (pv_assign rfl) ?_)
          refine G.op rfl (G.val rfl rfl (pv_assign rfl) ?_)
          refine G.nil ?_
          refine G.nThen ?_
          refine G.seq ?_
          refine G.seq ?_
          refine G.region ?_
          refine G.op rfl (G.val rfl rfl (pv_assign rfl) ?_)
          refine G.nil ?_
          refine G.nThen ?_
          refine G.block ?_
          have hcmp : compareM a b = cmpL (splitM a) (splitM b) := (if_pos (show okP a from by first | assumption | exact Decidable.of_not_not (by assumption))).trans (if_pos (show okP b from by first | assumption | exact Decidable.of_not_not (by assumption)))
          refine G.loopK (X := Nat) (ts := [7, 8]) (fun i => i ≤ (splitM a).length ∧ i ≤ (splitM b).length ∧ cmpL (splitM a) (splitM b) = cmpL ((splitM a).drop i) ((splitM b).drop i)) (fun i => [(9, .int .i64 (i : Int))]) (fun i => []) (fun i => (splitM a).length - i) (x0 := 0) (.cons rfl (.cons rfl .nil)) (by repeat (first | exact Sub.nil | (apply Sub.cons; (repeat (first | with_reducible exact Sel.here | exact Sel.here | apply Sel.there))))) (.cons .nil) (by repeat (first | exact Ap.nil | apply Ap.cons)) (by first | exact trivial | ((try dsimp only); exact ⟨Nat.zero_le _, Nat.zero_le _, rfl⟩)) (.consE rfl (by first | rfl | exact int_eq (by first | omega | (dsimp only; omega)) | exact congrArg _ (by omega)) .nil) (fun i hJ => ?_)
          try dsimp only at hJ
          try dsimp only
          refine G.seq ?_
          refine G.seq ?_
          have hJ9 := hJ
          refine G.cutK (X := Unit) (ts := [7, 8, 9]) (p := []) (fun _ => True) (fun _ => [(40, .bool (decide (i < (splitM a).length ∧ i < (splitM b).length)))]) (fun _ => []) (.cons rfl (.cons rfl (.cons rfl .nil))) (by repeat (first | exact Sub.nil | (apply Sub.cons; (repeat (first | with_reducible exact Sel.here | exact Sel.here | apply Sel.there))))) (.cons .nil) (by repeat (first | exact Ap.nil | apply Ap.cons)) ?_ ?_
          · refine G.region ?_
            refine G.op rfl (G.val rfl rfl (pv_move rfl) ?_)
            refine G.op rfl (G.val rfl rfl (pv_move rfl) ?_)
            refine G.op rfl (G.val rfl rfl (pv_lenSl Try.underlying44 rfl) ?_)
            refine G.op rfl (G.val rfl rfl (pv_lss rfl rfl) ?_)
            refine G.op rfl (G.val rfl rfl (pv_move rfl) ?_)
            refine G.partP (t := 35) rfl (fun h35 => ?_) (fun h35 => ?_)
            · refine G.want rfl rfl rfl (G.val rfl rfl (pv_move rfl) ?_)
              refine G.want rfl rfl rfl (G.val rfl rfl (pv_move rfl) ?_)
              refine G.want rfl rfl rfl (G.val rfl rfl (pv_lenSl Try.underlying44 rfl) ?_)
              refine G.want rfl rfl rfl (G.val rfl rfl (pv_lss rfl rfl) ?_)
              refine G.op rfl (G.val rfl rfl (pv_pick rfl rfl) ?_)
              refine G.nil ?_
              exact G.meet (()) (by first | exact trivial | ((try dsimp only); exact trivial)) (.consE rfl (congrArg Value.bool (by simp_all; try omega)) (.cons rfl (.cons rfl (.cons rfl .nil)))) (by repeat (first | exact Sub.nil | (apply Sub.cons; (repeat (first | with_reducible exact Sel.here | exact Sel.here | apply Sel.there)))))
            · refine G.pass rfl rfl rfl rfl rfl rfl ?_
              refine G.pass rfl rfl rfl rfl rfl rfl ?_
              refine G.pass rfl rfl rfl rfl rfl rfl ?_
              refine G.pass rfl rfl rfl rfl rfl rfl ?_
              refine G.op rfl (G.val rfl rfl (pv_pick rfl rfl) ?_)
              refine G.nil ?_
              exact G.meet (()) (by first | exact trivial | ((try dsimp only); exact trivial)) (.consE rfl (congrArg Value.bool (by simp_all; try omega)) (.cons rfl (.cons rfl (.cons rfl .nil)))) (by repeat (first | exact Sub.nil | (apply Sub.cons; (repeat (first | with_reducible exact Sel.here | exact Sel.here | apply Sel.there)))))
          · intro _ hJ
            try dsimp only at hJ
            try dsimp only
            have hJ := hJ9
            refine G.condP rfl (fun h40 => ?_) (fun h40 => ?_)
            · refine G.skip ?_
              refine G.nThen ?_
              refine G.seq ?_
              refine G.block ?_
              refine G.seq ?_
              refine G.drawT (nn := 9) (p := []) (rem := 511) [0, 0, 3, 4, 0, 0, 48, 64, 136] [0, 0, 3, 4, 0, 0, 48, 64, 136] (by kernel_rfl) ⟨rfl, by kernel_rfl, by kernel_rfl⟩ (by repeat (first | exact Sub.nil | (apply Sub.cons; (repeat (first | with_reducible exact Sel.here | exact Sel.here | apply Sel.there))))) (by kernel_rfl) (fun hT12 => ?_)
              refine G.takeT hT12 (i := 0) (rem' := 510) rfl rfl rfl (by kernel_rfl) (fun _ _ _ h => h) rfl (pv_move rfl) (by repeat (first | exact Sub.nil | (apply Sub.cons; (repeat (first | with_reducible exact Sel.here | exact Sel.here | apply Sel.there))))) ?_
              refine G.takeT hT12 (i := 1) (rem' := 508) rfl rfl rfl (by kernel_rfl) (fun _ _ _ h => h) rfl (pv_move rfl) (by repeat (first | exact Sub.nil | (apply Sub.cons; (repeat (first | with_reducible exact Sel.here | exact Sel.here | apply Sel.there))))) ?_
              refine G.takeT hT12 (i := 2) (rem' := 504) rfl rfl rfl (by kernel_rfl) (fun _ _ _ h => h) rfl (pv_ixSl (sz := 1) Try.underlying44 (by kernel_rfl) rfl rfl (by first | with_reducible assumption | assumption | exact fun _ => rfl) rfl (by omega)) (by repeat (first | exact Sub.nil | (apply Sub.cons; (repeat (first | with_reducible exact Sel.here | exact Sel.here | apply Sel.there))))) ?_
              refine G.takeT hT12 (i := 4) (rem' := 488) rfl rfl rfl (by kernel_rfl) (fun _ _ _ h => h) rfl (pv_move rfl) (by repeat (first | exact Sub.nil | (apply Sub.cons; (repeat (first | with_reducible exact Sel.here | exact Sel.here | apply Sel.there))))) ?_
              refine G.takeT hT12 (i := 5) (rem' := 456) rfl rfl rfl (by kernel_rfl) (fun _ _ _ h => h) rfl (pv_move rfl) (by repeat (first | exact Sub.nil | (apply Sub.cons; (repeat (first | with_reducible exact Sel.here | exact Sel.here | apply Sel.there))))) ?_
              refine G.takeT hT12 (i := 6) (rem' := 392) rfl rfl rfl (by kernel_rfl) (fun _ _ _ h => h) rfl (pv_ixSl (sz := 1) Try.underlying44 (by kernel_rfl) rfl rfl (by first | with_reducible assumption | assumption | exact fun _ => rfl) rfl (by omega)) (by repeat (first | exact Sub.nil | (apply Sub.cons; (repeat (first | with_reducible exact Sel.here | exact Sel.here | apply Sel.there))))) ?_
              refine G.takeT hT12 (i := 3) (rem' := 384) rfl rfl rfl (by kernel_rfl) (fun _ _ _ h => h) rfl (pv_load (v := .string (sB (splitM a)[i])) Try.underlying9 rfl rfl (blk_cell (by (repeat (first | with_reducible exact Sel.here | exact Sel.here | apply Sel.there)); done) (by exact rd1 (by omega)))) (by repeat (first | exact Sub.nil | (apply Sub.cons; (repeat (first | with_reducible exact Sel.here | exact Sel.here | apply Sel.there))))) ?_
              refine G.oneT hT12 (i := 7) (rem' := 256) (by kernel_rfl) (by kernel_rfl) ?_
              refine G.turnOp rfl rfl (G.val rfl rfl (pv_load (v := .string (sB (splitM b)[i])) Try.underlying9 rfl rfl (blk_cell (by (repeat (first | with_reducible exact Sel.here | exact Sel.here | apply Sel.there)); done) (by exact rd1 (by omega)))) ?_)
              refine G.back (by repeat (first | exact Sub.nil | (apply Sub.cons; (repeat (first | with_reducible exact Sel.here | exact Sel.here | apply Sel.there))))) ?_
              refine G.takeT hT12 (i := 8) (rem' := 0) rfl rfl rfl (by kernel_rfl) (fun _ _ _ h => h) rfl (pv_neqS rfl rfl) (by repeat (first | exact Sub.nil | (apply Sub.cons; (repeat (first | with_reducible exact Sel.here | exact Sel.here | apply Sel.there))))) ?_
              refine G.overT hT12 (by kernel_rfl) ?_
              refine G.nThen ?_
              refine G.condP rfl (fun h51 => ?_) (fun h51 => ?_)
              · refine G.seq ?_
                refine G.drawT (nn := 10) (p := []) (rem := 1023) [0, 0, 3, 4, 0, 0, 48, 64, 136, 511] [0, 0, 3, 4, 0, 0, 48, 64, 136, 256] (by kernel_rfl) ⟨rfl, by kernel_rfl, by kernel_rfl⟩ (by repeat (first | exact Sub.nil | (apply Sub.cons; (repeat (first | with_reducible exact Sel.here | exact Sel.here | apply Sel.there))))) (by kernel_rfl) (fun hT13 => ?_)
                refine G.takeT hT13 (i := 0) (rem' := 1022) rfl rfl rfl (by kernel_rfl) (fun _ _ _ h => h) rfl (pv_move rfl) (by repeat (first | exact Sub.nil | (apply Sub.cons; (repeat (first | with_reducible exact Sel.here | exact Sel.here | apply Sel.there))))) ?_
                refine G.takeT hT13 (i := 1) (rem' := 1020) rfl rfl rfl (by kernel_rfl) (fun _ _ _ h => h) rfl (pv_move rfl) (by repeat (first | exact Sub.nil | (apply Sub.cons; (repeat (first | with_reducible exact Sel.here | exact Sel.here | apply Sel.there))))) ?_
                refine G.takeT hT13 (i := 2) (rem' := 1016) rfl rfl rfl (by kernel_rfl) (fun _ _ _ h => h) rfl (pv_ixSl (sz := 1) Try.underlying44 (by kernel_rfl) rfl rfl (by first | with_reducible assumption | assumption | exact fun _ => rfl) rfl (by omega)) (by repeat (first | exact Sub.nil | (apply Sub.cons; (repeat (first | with_reducible exact Sel.here | exact Sel.here | apply Sel.there))))) ?_
                refine G.takeT hT13 (i := 4) (rem' := 1000) rfl rfl rfl (by kernel_rfl) (fun _ _ _ h => h) rfl (pv_move rfl) (by repeat (first | exact Sub.nil | (apply Sub.cons; (repeat (first | with_reducible exact Sel.here | exact Sel.here | apply Sel.there))))) ?_
                refine G.takeT hT13 (i := 5) (rem' := 968) rfl rfl rfl (by kernel_rfl) (fun _ _ _ h => h) rfl (pv_move rfl) (by repeat (first | exact Sub.nil | (apply Sub.cons; (repeat (first | with_reducible exact Sel.here | exact Sel.here | apply Sel.there))))) ?_
                refine G.takeT hT13 (i := 6) (rem' := 904) rfl rfl rfl (by kernel_rfl) (fun _ _ _ h => h) rfl (pv_ixSl (sz := 1) Try.underlying44 (by kernel_rfl) rfl rfl (by first | with_reducible assumption | assumption | exact fun _ => rfl) rfl (by omega)) (by repeat (first | exact Sub.nil | (apply Sub.cons; (repeat (first | with_reducible exact Sel.here | exact Sel.here | apply Sel.there))))) ?_
                refine G.takeT hT13 (i := 3) (rem' := 896) rfl rfl rfl (by kernel_rfl) (fun _ _ _ h => h) rfl (pv_load (v := .string (sB (splitM a)[i])) Try.underlying9 rfl rfl (blk_cell (by (repeat (first | with_reducible exact Sel.here | exact Sel.here | apply Sel.there)); done) (by exact rd1 (by omega)))) (by repeat (first | exact Sub.nil | (apply Sub.cons; (repeat (first | with_reducible exact Sel.here | exact Sel.here | apply Sel.there))))) ?_
                refine G.oneT hT13 (i := 7) (rem' := 768) (by kernel_rfl) (by kernel_rfl) ?_
                refine G.turnOp rfl rfl (G.val rfl rfl (pv_load (v := .string (sB (splitM b)[i])) Try.underlying9 rfl rfl (blk_cell (by (repeat (first | with_reducible exact Sel.here | exact Sel.here | apply Sel.there)); done) (by exact rd1 (by omega)))) ?_)
                refine G.back (by repeat (first | exact Sub.nil | (apply Sub.cons; (repeat (first | with_reducible exact Sel.here | exact Sel.here | apply Sel.there))))) ?_
                refine G.oneT hT13 (i := 8) (rem' := 512) (by kernel_rfl) (by kernel_rfl) ?_
                refine G.turnOp rfl rfl (G.cR rfl rfl rfl rfl Try.func69 rfl rfl may0 (bytes_tr _ _) ?_)
                refine G.back (by repeat (first | exact Sub.nil | (apply Sub.cons; (repeat (first | with_reducible exact Sel.here | exact Sel.here | apply Sel.there))))) ?_
                refine G.takeT hT13 (i := 9) (rem' := 0) rfl rfl rfl (by kernel_rfl) (fun _ _ _ h => h) rfl (pv_assign rfl) (by repeat (first | exact Sub.nil | (apply Sub.cons; (repeat (first | with_reducible exact Sel.here | exact Sel.here | apply Sel.there))))) ?_
                refine G.overT hT13 (by kernel_rfl) ?_
                refine G.nThen ?_
                refine G.ret ?_
                refine G.rBlock ?_
                refine G.rThen ?_
                refine G.rThen ?_
                refine G.rBlock ?_
                refine G.rThen ?_
                obtain ⟨hi1, hi2, hck⟩ := hJ
                exact G.done0G rfl (Rv.tmp rfl Rv.nil) (by rw [hcmp, hck, cmp_ne (by omega) (by omega) (by assumption)]; rfl)
              · refine G.skip ?_
                refine G.nBlock ?_
                refine G.nThen ?_
                refine G.region ?_
                refine G.op rfl (G.val rfl rfl (pv_move rfl) ?_)
                refine G.op rfl (G.val rfl rfl (pv_add64 rfl rfl (by omega)) ?_)
                refine G.op rfl (G.val rfl rfl (pv_assign rfl) ?_)
                refine G.nil ?_
                obtain ⟨hi1, hi2, hck⟩ := hJ
                exact G.next (i + 1) (by first | exact trivial | ((try dsimp only); exact ⟨by omega, by omega, hck.trans (cmp_next (by omega) (by omega) (by assumption))⟩)) (by (try dsimp only); omega) (.consE rfl (by first | rfl | exact int_eq (by first | omega | (dsimp only; omega)) | exact congrArg _ (by omega)) (.cons rfl (.cons rfl .nil))) (by repeat (first | exact Sub.nil | (apply Sub.cons; (repeat (first | with_reducible exact Sel.here | exact Sel.here | apply Sel.there)))))
            · refine G.exit ?_
              refine G.eThen ?_
              refine G.eThen ?_
              refine G.eBlock ?_
              refine G.nThen ?_
              refine G.seq ?_
              refine G.seq ?_
              refine G.region ?_
              refine G.op rfl (G.val rfl rfl (pv_move rfl) ?_)
              refine G.op rfl (G.val rfl rfl (pv_lenSl Try.underlying44 rfl) ?_)
              refine G.op rfl (G.val rfl rfl (pv_move rfl) ?_)
              refine G.op rfl (G.val rfl rfl (pv_lenSl Try.underlying44 rfl) ?_)
              refine G.op rfl (G.val rfl rfl (pv_lss rfl rfl) ?_)
              refine G.nil ?_
              refine G.nThen ?_
              refine G.condP rfl (fun h65 => ?_) (fun h65 => ?_)
              · refine G.seq ?_
                refine G.region ?_
                refine G.op rfl (G.val rfl rfl (pv_assign rfl) ?_)
                refine G.nil ?_
                refine G.nThen ?_
                refine G.ret ?_
                refine G.rThen ?_
                obtain ⟨hi1, hi2, hck⟩ := hJ
                have hend := cmp_end (xs := splitM a) (ys := splitM b) (i := i) hi1 hi2 (by assumption)
                exact G.done0G rfl (Rv.tmp rfl Rv.nil) (by rw [hcmp, hck, hend, if_pos (by omega)]; rfl)
              · refine G.skip ?_
                refine G.nThen ?_
                refine G.seq ?_
                refine G.seq ?_
                refine G.region ?_
                refine G.op rfl (G.val rfl rfl (pv_move rfl) ?_)
                refine G.op rfl (G.val rfl rfl (pv_lenSl Try.underlying44 rfl) ?_)
                refine G.op rfl (G.val rfl rfl (pv_move rfl) ?_)
                refine G.op rfl (G.val rfl rfl (pv_lenSl Try.underlying44 rfl) ?_)
                refine G.op rfl (G.val rfl rfl (pv_gtr rfl rfl) ?_)
                refine G.nil ?_
                refine G.nThen ?_
                refine G.condP rfl (fun h70 => ?_) (fun h70 => ?_)
                · refine G.seq ?_
                  refine G.region ?_
                  refine G.op rfl (G.val rfl rfl (pv_assign rfl) ?_)
                  refine G.nil ?_
                  refine G.nThen ?_
                  refine G.ret ?_
                  refine G.rThen ?_
                  obtain ⟨hi1, hi2, hck⟩ := hJ
                  have hend := cmp_end (xs := splitM a) (ys := splitM b) (i := i) hi1 hi2 (by assumption)
                  exact G.done0G rfl (Rv.tmp rfl Rv.nil) (by rw [hcmp, hck, hend, if_neg (by omega), if_pos (by omega)]; rfl)
                · refine G.skip ?_
                  refine G.nThen ?_
                  refine G.seq ?_
                  refine G.region ?_
                  refine G.op rfl (G.val rfl rfl (pv_assign rfl) ?_)
                  refine G.nil ?_
                  refine G.nThen ?_
                  refine G.ret ?_
                  obtain ⟨hi1, hi2, hck⟩ := hJ
                  have hend := cmp_end (xs := splitM a) (ys := splitM b) (i := i) hi1 hi2 (by assumption)
                  exact G.done0G rfl (Rv.tmp rfl Rv.nil) (by rw [hcmp, hck, hend, if_neg (by omega), if_neg (by omega)]; rfl)
set_option maxRecDepth 20000 in
set_option maxHeartbeats 4000000 in

theorem underR_tr (s d : List UInt8) (hs : s.length ≤ 9223372036854775807) (hd : d.length ≤ 9223372036854775807) : Tr Try.prog 59 #[.string (sB s), .string (sB d)] [] [] (T0 (.bool (decide (underM s d)))) := by
  refine Tr.of (l := [(0, .string (sB s)), (1, .string (sB d))]) Try.func59 rfl (n := 33) rfl (.cons rfl (.cons rfl .nil)) (fun w0 hro => ?_)
  refine G.seq ?_
  refine G.region ?_
  refine G.op rfl (G.val rfl rfl (pv_assign rfl) ?_)
  refine G.nil ?_
  refine G.nThen ?_
  refine G.seq ?_
  refine G.seq ?_
  refine G.region ?_
  refine G.op rfl (G.val rfl rfl (pv_move rfl) ?_)
  refine G.op rfl (G.cR rfl rfl rfl rfl Try.func68 rfl rfl may0 (validR_tr _ (by omega)) ?_)
  refine G.op rfl (G.val rfl rfl (pv_notP rfl) ?_)
  refine G.op rfl (G.val rfl rfl (pv_move rfl) ?_)
  refine G.partP (t := 8) rfl (fun h8 => ?_) (fun h8 => ?_)
  · refine G.pass rfl rfl rfl rfl rfl rfl ?_
    refine G.pass rfl rfl rfl rfl rfl rfl ?_
    refine G.pass rfl rfl rfl rfl rfl rfl ?_
    refine G.op rfl (G.val rfl rfl (pv_pick rfl rfl) ?_)
    refine G.nil ?_
    refine G.nThen ?_
    refine G.condT rfl (rfl) ?_
    refine G.seq ?_
    refine G.region ?_
    refine G.op rfl (G.val rfl rfl (pv_assign rfl) ?_)
    refine G.nil ?_
    refine G.nThen ?_
    refine G.ret ?_
    refine G.rThen ?_
    exact G.done0G rfl (Rv.tmp rfl Rv.nil) (by simp_all [underM, okP, retV1])
  · refine G.want rfl rfl rfl (G.val rfl rfl (pv_move rfl) ?_)
    refine G.want rfl rfl rfl (G.cR rfl rfl rfl rfl Try.func68 rfl rfl may0 (validR_tr _ (by omega)) ?_)
    refine G.want rfl rfl rfl (G.val rfl rfl (pv_notP rfl) ?_)
    refine G.op rfl (G.val rfl rfl (pv_pick rfl rfl) ?_)
    refine G.nil ?_
    refine G.nThen ?_
    refine G.condP rfl (fun h12 => ?_) (fun h12 => ?_)
    · refine G.seq ?_
      refine G.region ?_
      refine G.op rfl (G.val rfl rfl (pv_assign rfl) ?_)
      refine G.nil ?_
      refine G.nThen ?_
      refine G.ret ?_
      refine G.rThen ?_
      exact G.done0G rfl (Rv.tmp rfl Rv.nil) (by simp_all [underM, okP, retV1])
    · refine G.skip ?_
      refine G.nThen ?_
      refine G.seq ?_
      refine G.region ?_
      refine G.op rfl (G.val rfl rfl (pv_move rfl) ?_)
      refine G.op rfl (G.val rfl rfl (pv_lenS Try.underlying9 rfl) ?_)
      refine G.op rfl (G.val rfl rfl (pv_move rfl) ?_)
      refine G.op rfl (G.val rfl rfl (pv_lenS Try.underlying9 rfl) ?_)
      refine G.op rfl (G.val rfl rfl (pv_gtr rfl rfl) ?_)
      refine G.op rfl (G.val rfl rfl (pv_move rfl) ?_)
      refine G.partP (t := 18) rfl (fun h18 => ?_) (fun h18 => ?_)
      · refine G.want rfl rfl rfl (G.val rfl rfl (pv_move rfl) ?_)
        refine G.want rfl rfl rfl (G.val rfl rfl (pv_move rfl) ?_)
        refine G.want rfl rfl rfl (G.val rfl rfl (pv_lenS Try.underlying9 rfl) ?_)
        refine G.want rfl rfl rfl (G.val rfl rfl (pv_strH (k := d.length) Try.underlying9 rfl rfl rfl (by omega)) ?_)
        refine G.want rfl rfl rfl (G.val rfl rfl (pv_move rfl) ?_)
        refine G.want rfl rfl rfl (G.val rfl rfl (pv_eqlS rfl rfl) ?_)
        refine G.op rfl (G.val rfl rfl (pv_pick rfl rfl) ?_)
        refine G.op rfl (G.val rfl rfl (pv_move rfl) ?_)
        refine G.partP (t := 26) rfl (fun h26 => ?_) (fun h26 => ?_)
        · refine G.want rfl rfl rfl (G.val rfl rfl (pv_move rfl) ?_)
          refine G.want rfl rfl rfl (G.val rfl rfl (pv_move rfl) ?_)
          refine G.want rfl rfl rfl (G.val rfl rfl (pv_lenS Try.underlying9 rfl) ?_)
          refine G.want rfl rfl rfl (G.val rfl rfl (pv_ixS (k := d.length) Try.underlying9 rfl rfl rfl (by omega)) ?_)
          refine G.want rfl rfl rfl (G.val rfl rfl (pv_eql rfl rfl) ?_)
          refine G.op rfl (G.val rfl rfl (pv_pick rfl rfl) ?_)
          refine G.op rfl (G.val rfl rfl (pv_assign rfl) ?_)
          refine G.nil ?_
          refine G.nThen ?_
          refine G.ret ?_
          exact G.done0G rfl (Rv.tmp rfl Rv.nil) (by have h := pre_yes (s := s) (d := d) (by omega) (by assumption); simp_all [underM, okP, retV1])
        · refine G.pass rfl rfl rfl rfl rfl rfl ?_
          refine G.pass rfl rfl rfl rfl rfl rfl ?_
          refine G.pass rfl rfl rfl rfl rfl rfl ?_
          refine G.pass rfl rfl rfl rfl rfl rfl ?_
          refine G.pass rfl rfl rfl rfl rfl rfl ?_
          refine G.op rfl (G.val rfl rfl (pv_pick rfl rfl) ?_)
          refine G.op rfl (G.val rfl rfl (pv_assign rfl) ?_)
          refine G.nil ?_
          refine G.nThen ?_
          refine G.ret ?_
          exact G.done0G rfl (Rv.tmp rfl Rv.nil) (by have h := pre_no2 (s := s) (d := d) (by assumption); simp_all [underM, okP, retV1])
      · refine G.pass rfl rfl rfl rfl rfl rfl ?_
        refine G.pass rfl rfl rfl rfl rfl rfl ?_
        refine G.pass rfl rfl rfl rfl rfl rfl ?_
        refine G.pass rfl rfl rfl rfl rfl rfl ?_
        refine G.pass rfl rfl rfl rfl rfl rfl ?_
        refine G.pass rfl rfl rfl rfl rfl rfl ?_
        refine G.op rfl (G.val rfl rfl (pv_pick rfl rfl) ?_)
        refine G.op rfl (G.val rfl rfl (pv_move rfl) ?_)
        refine G.pass rfl rfl rfl rfl rfl rfl ?_
        refine G.pass rfl rfl rfl rfl rfl rfl ?_
        refine G.pass rfl rfl rfl rfl rfl rfl ?_
        refine G.pass rfl rfl rfl rfl rfl rfl ?_
        refine G.pass rfl rfl rfl rfl rfl rfl ?_
        refine G.op rfl (G.val rfl rfl (pv_pick rfl rfl) ?_)
        refine G.op rfl (G.val rfl rfl (pv_assign rfl) ?_)
        refine G.nil ?_
        refine G.nThen ?_
        refine G.ret ?_
        exact G.done0G rfl (Rv.tmp rfl Rv.nil) (by have h := pre_no1 (s := s) (d := d) (by assumption); simp_all [underM, okP, retV1])
end Go.Proofs.Ytchgaedidfefoaa

/- Plain laws of paths: the order is one; what lies under a path; what a path's parent is. Conditions: none. -/
set_option linter.unusedVariables false
set_option linter.unusedSimpArgs false
namespace Go.Proofs.Ytchgaedidfefoaa
open Go.RowKit

/-! which of two texts is ahead, as bytes -/
theorem bl_irrefl : ∀ a, Op.bytesLess a a = false
  | [] => rfl
  | a :: x => by
    have h := bl_irrefl x
    simp [Op.bytesLess, h]
theorem bl_cons {a b : UInt8} {x y : List UInt8} : Op.bytesLess (a :: x) (b :: y) = true ↔ a.toNat < b.toNat ∨ (a = b ∧ Op.bytesLess x y = true) := by
  simp only [Op.bytesLess, Bool.or_eq_true, decide_eq_true_eq, Bool.and_eq_true, beq_iff_eq, UInt8.lt_iff_toNat_lt]
theorem bl_asymm : ∀ a b, Op.bytesLess a b = true → Op.bytesLess b a = true → False
  | a, [], h, _ => by cases a <;> cases h
  | [], b :: y, _, h => by cases h
  | a :: x, b :: y, h, k => by
    rcases bl_cons.1 h with h | ⟨rfl, h2⟩
    · rcases bl_cons.1 k with k | ⟨rfl, k⟩
      · omega
      · omega
    · rcases bl_cons.1 k with k | ⟨_, k2⟩
      · omega
      · exact bl_asymm x y h2 k2
theorem bl_trans : ∀ a b c, Op.bytesLess a b = true → Op.bytesLess b c = true → Op.bytesLess a c = true
  | a, [], c, h, _ => by cases a <;> cases h
  | a, b :: y, [], _, k => by cases k
  | [], b :: y, c :: z, _, _ => rfl
  | a :: x, b :: y, c :: z, h, k => by
    refine bl_cons.2 ?_
    rcases bl_cons.1 h with h1 | ⟨rfl, h2⟩
    · rcases bl_cons.1 k with k1 | ⟨rfl, k2⟩
      · exact .inl (by omega)
      · exact .inl h1
    · rcases bl_cons.1 k with k1 | ⟨rfl, k2⟩
      · exact .inl k1
      · exact .inr ⟨rfl, bl_trans x y z h2 k2⟩
theorem bl_total : ∀ a b, Op.bytesLess a b = false → Op.bytesLess b a = false → a = b
  | [], [], _, _ => rfl
  | [], b :: y, h, _ => by cases h
  | a :: x, [], _, h => by cases h
  | a :: x, b :: y, h, k => by
    have h' : ¬ (a.toNat < b.toNat ∨ (a = b ∧ Op.bytesLess x y = true)) := fun e => by rw [bl_cons.2 e] at h; cases h
    have k' : ¬ (b.toNat < a.toNat ∨ (b = a ∧ Op.bytesLess y x = true)) := fun e => by rw [bl_cons.2 e] at k; cases k
    have e : a = b := UInt8.toNat_inj.1 (by omega)
    subst e
    have h2 : Op.bytesLess x y = false := by
      cases hh : Op.bytesLess x y with
      | false => rfl
      | true => exact absurd (.inr ⟨rfl, hh⟩) h'
    have k2 : Op.bytesLess y x = false := by
      cases hh : Op.bytesLess y x with
      | false => rfl
      | true => exact absurd (.inr ⟨rfl, hh⟩) k'
    rw [bl_total x y h2 k2]
/-- an order that tells -1, 0, 1 -/
structure OrdF {α : Type} (f : α → α → Int) : Prop where
  rng : ∀ a b, f a b = -1 ∨ f a b = 0 ∨ f a b = 1
  zero : ∀ a b, f a b = 0 ↔ a = b
  anti : ∀ a b, f b a = - f a b
  trans : ∀ a b c, f a b = -1 → f b c = -1 → f a c = -1
theorem bytesM_neg {a b : List UInt8} : bytesM a b = -1 ↔ Op.bytesLess a b = true := by
  unfold bytesM
  cases h : Op.bytesLess a b <;> simp
  by_cases e : a = b <;> simp [e]
theorem bytesM_eq {a b : List UInt8} (h : Op.bytesLess a b = false) : bytesM a b = if a = b then 0 else 1 := by
  unfold bytesM
  rw [h]
  by_cases e : a = b <;> simp [e]
theorem bytesM_ord : OrdF bytesM where
  rng a b := by
    cases h : Op.bytesLess a b with
    | true => exact .inl (bytesM_neg.2 h)
    | false =>
      rw [bytesM_eq h]
      by_cases e : a = b <;> simp [e]
  zero a b := by
    cases h : Op.bytesLess a b with
    | true =>
      rw [bytesM_neg.2 h]
      constructor
      · intro h; cases h
      · rintro rfl
        rw [bl_irrefl] at h
        cases h
    | false =>
      rw [bytesM_eq h]
      by_cases e : a = b <;> simp [e]
  anti a b := by
    cases h : Op.bytesLess a b with
    | true =>
      have h2 : Op.bytesLess b a = false := by
        cases k : Op.bytesLess b a with
        | false => rfl
        | true => exact (bl_asymm _ _ h k).elim
      have h3 : ¬ b = a := fun e => by
        subst e
        rw [bl_irrefl] at h
        cases h
      rw [bytesM_neg.2 h, bytesM_eq h2, if_neg h3]
      rfl
    | false =>
      cases k : Op.bytesLess b a with
      | true =>
        have h3 : ¬ a = b := fun e => by
          subst e
          rw [bl_irrefl] at k
          cases k
        rw [bytesM_neg.2 k, bytesM_eq h, if_neg h3]
      | false =>
        have := bl_total _ _ h k
        subst this
        rw [bytesM_eq h, if_pos rfl]
        rfl
  trans a b c h k := bytesM_neg.2 (bl_trans _ _ _ (bytesM_neg.1 h) (bytesM_neg.1 k))
theorem OrdF.self {α : Type} {f : α → α → Int} (h : OrdF f) (a : α) : f a a = 0 := (h.zero a a).2 rfl
theorem cmpL_cons_eq {x : List UInt8} {xs ys : List (List UInt8)} : cmpL (x :: xs) (x :: ys) = cmpL xs ys := if_pos rfl
theorem cmpL_cons_ne {x y : List UInt8} {xs ys : List (List UInt8)} (h : ¬ x = y) : cmpL (x :: xs) (y :: ys) = bytesM x y := if_neg h
theorem cmpL_rng : ∀ a b, cmpL a b = -1 ∨ cmpL a b = 0 ∨ cmpL a b = 1
  | [], [] => .inr (.inl rfl)
  | [], _ :: _ => .inl rfl
  | _ :: _, [] => .inr (.inr rfl)
  | x :: xs, y :: ys => by
    by_cases h : x = y
    · subst h
      rw [cmpL_cons_eq]
      exact cmpL_rng xs ys
    · rw [cmpL_cons_ne h]
      exact bytesM_ord.rng x y
theorem cmpL_zero : ∀ a b, cmpL a b = 0 ↔ a = b
  | [], [] => ⟨fun _ => rfl, fun _ => rfl⟩
  | [], _ :: _ => ⟨fun h => (by cases h), fun h => (by cases h)⟩
  | _ :: _, [] => ⟨fun h => (by cases h), fun h => (by cases h)⟩
  | x :: xs, y :: ys => by
    by_cases h : x = y
    · subst h
      rw [cmpL_cons_eq, cmpL_zero xs ys]
      simp
    · rw [cmpL_cons_ne h, bytesM_ord.zero]
      simp [h]
theorem cmpL_anti : ∀ a b, cmpL b a = - cmpL a b
  | [], [] => rfl
  | [], _ :: _ => rfl
  | _ :: _, [] => rfl
  | x :: xs, y :: ys => by
    by_cases h : x = y
    · subst h
      rw [cmpL_cons_eq, cmpL_cons_eq]
      exact cmpL_anti xs ys
    · rw [cmpL_cons_ne h, cmpL_cons_ne (fun e => h e.symm)]
      exact bytesM_ord.anti x y
theorem cmpL_trans : ∀ a b c, cmpL a b = -1 → cmpL b c = -1 → cmpL a c = -1
  | [], [], _, h, _ => by cases h
  | _ :: _, [], _, h, _ => by cases h
  | _, _ :: _, [], _, k => by cases k
  | [], _ :: _, _ :: _, _, _ => rfl
  | x :: xs, y :: ys, z :: zs, h, k => by
    by_cases e : x = y
    · subst e
      rw [cmpL_cons_eq] at h
      by_cases e2 : x = z
      · subst e2
        rw [cmpL_cons_eq] at k ⊢
        exact cmpL_trans xs ys zs h k
      · rw [cmpL_cons_ne e2] at k ⊢
        exact k
    · rw [cmpL_cons_ne e] at h
      by_cases e2 : y = z
      · subst e2
        rw [cmpL_cons_ne e]
        exact h
      · rw [cmpL_cons_ne e2] at k
        have h3 := bytesM_ord.trans x y z h k
        have e3 : ¬ x = z := fun e => by
          subst e
          rw [bytesM_ord.self] at h3
          cases h3
        rw [cmpL_cons_ne e3]
        exact h3
/-! parts joined -/
def joinL : List (List UInt8) → List UInt8
  | [] => []
  | [p] => p
  | p :: q :: r => p ++ 47 :: joinL (q :: r)
theorem joinL_cons {p : List UInt8} {r : List (List UInt8)} (h : r ≠ []) : joinL (p :: r) = p ++ 47 :: joinL r := by
  cases r with
  | nil => exact absurd rfl h
  | cons q r => rfl
theorem joinL_head {c : UInt8} {ps : List (List UInt8)} (h : ps ≠ []) : joinL (headP c ps) = c :: joinL ps := by
  cases ps with
  | nil => exact absurd rfl h
  | cons p r => cases r <;> rfl
theorem joinL_split : ∀ s, joinL (splitM s) = s
  | [] => rfl
  | c :: s => by
    have ih := joinL_split s
    by_cases h : c = 47
    · subst h
      rw [splitM_stroke, joinL_cons (splitM_ne s), ih]
      rfl
    · rw [splitM_char h, joinL_head (splitM_ne s), ih]
theorem split_inj {a b : List UInt8} (h : splitM a = splitM b) : a = b := by
  rw [← joinL_split a, h, joinL_split]
theorem split_app : ∀ d t, splitM (d ++ 47 :: t) = splitM d ++ splitM t
  | [], t => splitM_stroke t
  | c :: d, t => by
    have ih := split_app d t
    rw [List.cons_append]
    by_cases h : c = 47
    · subst h
      rw [splitM_stroke, splitM_stroke, ih]
      rfl
    · rw [splitM_char h, splitM_char h, ih]
      cases e : splitM d with
      | nil => exact absurd e (splitM_ne d)
      | cons p r => rfl
theorem joinL_app : ∀ {a b : List (List UInt8)}, a ≠ [] → b ≠ [] → joinL (a ++ b) = joinL a ++ 47 :: joinL b
  | [], _, h, _ => absurd rfl h
  | [p], b, _, hb => joinL_cons hb
  | p :: q :: r, b, _, hb => by
    have ih := joinL_app (a := q :: r) (b := b) (by simp) hb
    show p ++ 47 :: joinL (q :: r ++ b) = _
    rw [ih]
    show _ = (p ++ 47 :: joinL (q :: r)) ++ 47 :: joinL b
    simp
theorem pre_app {s d : List UInt8} : preM s (d ++ [47]) = true ↔ ∃ t, s = d ++ 47 :: t := by
  rw [preM_iff]
  constructor
  · rintro ⟨h, h1, h2⟩
    refine ⟨s.drop (d.length + 1), ?_⟩
    have e := List.take_append_drop d.length s
    rw [h1, List.drop_eq_getElem_cons h, h2] at e
    exact e.symm
  · rintro ⟨t, rfl⟩
    exact ⟨by simp, by simp, by simp⟩
/-- what lies under a path has its parts, and more behind them -/
theorem under_iff {s d : List UInt8} : underM s d ↔ okP s ∧ okP d ∧ ∃ T, T ≠ [] ∧ splitM s = splitM d ++ T := by
  unfold underM
  rw [pre_app]
  constructor
  · rintro ⟨h1, h2, t, rfl⟩
    exact ⟨h1, h2, splitM t, splitM_ne t, split_app d t⟩
  · rintro ⟨h1, h2, T, hT, h⟩
    refine ⟨h1, h2, joinL T, ?_⟩
    have := joinL_app (splitM_ne d) hT
    rw [← h, joinL_split, joinL_split] at this
    exact this
/-! which texts are paths -/
theorem checkL_ok : ∀ {ps : List (List UInt8)} {i o : Nat}, i ≤ 20 → ((checkL ps i o).1 = 0 ↔ i + ps.length ≤ 20 ∧ ∀ p ∈ ps, (stepB badR p).1 = 0)
  | [], i, o, h => ⟨fun _ => ⟨by simpa using h, fun p hp => by cases hp⟩, fun _ => rfl⟩
  | p :: r, i, o, h => by
    unfold checkL
    by_cases hi : i = 20
    · rw [if_pos hi]
      subst hi
      constructor
      · intro h; cases h
      · rintro ⟨h, _⟩
        simp at h
        omega
    · rw [if_neg hi]
      by_cases hp : (stepB badR p).1 = 0
      · rw [if_pos hp, checkL_ok (ps := r) (by omega)]
        simp [hp]
        intro _
        omega
      · rw [if_neg hp]
        constructor
        · intro h; exact absurd h hp
        · rintro ⟨_, h⟩
          exact absurd (h p (List.mem_cons_self ..)) hp
theorem okP_iff {s : List UInt8} : okP s ↔ s ≠ [] ∧ s.length ≤ 200 ∧ (splitM s).length ≤ 20 ∧ ∀ p ∈ splitM s, (stepB badR p).1 = 0 := by
  unfold okP checkM
  by_cases h : s = []
  · rw [if_pos h]
    simp [h]
  · rw [if_neg h]
    by_cases h2 : 200 < s.length
    · rw [if_pos h2]
      simp
      intro _ h
      omega
    · rw [if_neg h2, checkL_ok (by omega)]
      simp [h]
      intro _ _
      omega
theorem step_ne {p : List UInt8} (h : (stepB badR p).1 = 0) : p ≠ [] := fun e => by
  subst e
  cases h
/-! the last part -/
theorem last_at {a p : List UInt8} (hp : ∀ x ∈ p, ¬ x = 47) (ha : a = [] ∨ ∃ a', a = a' ++ [47]) : ∀ k, a.length ≤ k → k ≤ (a ++ p).length → lastM (a ++ p) k = a.length
  | 0, h, _ => by
    unfold lastM
    omega
  | k + 1, h, h2 => by
    rw [lastM.eq_2]
    by_cases e : a.length = k + 1
    · rcases ha with rfl | ⟨a', rfl⟩
      · simp at e
      · have e2 : a'.length = k := by simpa using e
        rw [if_pos]
        · exact e.symm
        · rw [List.getElem?_append_left (by omega), List.getElem?_append_right (by omega), e2]
          simp
    · have hk : k - a.length < p.length := by
        simp at h2
        omega
      rw [if_neg, last_at hp ha k (by omega) (by omega)]
      rw [List.getElem?_append_right (by omega), List.getElem?_eq_getElem hk]
      intro e3
      injection e3 with e3
      exact hp _ (List.getElem_mem hk) e3
theorem last_none {s p : List UInt8} (h : splitM s = [p]) : lastM s s.length = 0 ∧ s = p := by
  have e : s = p := by
    have := joinL_split s
    rw [h] at this
    exact this.symm
  subst e
  exact ⟨last_at (a := []) (split_one' (by rw [h]; rfl)) (.inl rfl) s.length (Nat.zero_le _) (Nat.le_refl _), rfl⟩
theorem last_some {s p : List UInt8} {ini : List (List UInt8)} (h : splitM s = ini ++ [p]) (hi : ini ≠ []) : s = joinL ini ++ 47 :: p ∧ lastM s s.length = (joinL ini).length + 1 ∧ splitM (joinL ini) = ini := by
  have e : s = joinL ini ++ 47 :: p := by
    have := joinL_app hi (b := [p]) (by simp)
    rw [← h, joinL_split] at this
    exact this
  have hno : ∀ x ∈ p, ¬ x = 47 := splitM_no s p (by rw [h]; simp)
  refine ⟨e, ?_, ?_⟩
  · have := last_at (a := joinL ini ++ [47]) hno (.inr ⟨_, rfl⟩) (joinL ini ++ [47] ++ p).length (by simp) (Nat.le_refl _)
    have e2 : joinL ini ++ [47] ++ p = s := by rw [e]; simp
    rw [e2] at this
    rw [this]
    simp
  · have e3 := split_app (joinL ini) p
    rw [← e, split_one hno, h] at e3
    exact (List.append_inj' e3 rfl).1.symm
theorem ini_ok {s p : List UInt8} {ini : List (List UInt8)} (hs : okP s) (h : splitM s = ini ++ [p]) (hi : ini ≠ []) : okP (joinL ini) := by
  obtain ⟨e, _, e3⟩ := last_some h hi
  obtain ⟨h1, h2, h4, h5⟩ := okP_iff.1 hs
  refine okP_iff.2 ⟨fun e4 => ?_, ?_, ?_, ?_⟩
  · rw [e4] at e3
    have := h5 [] (by rw [h, ← e3]; simp [splitM])
    exact step_ne this rfl
  · rw [e] at h2
    simp at h2
    omega
  · rw [e3]
    rw [h] at h4
    simp at h4
    omega
  · rw [e3]
    intro q hq
    exact h5 q (by rw [h]; exact List.mem_append_left _ hq)
theorem parent_some {s p : List UInt8} {ini : List (List UInt8)} (hs : okP s) (h : splitM s = ini ++ [p]) (hi : ini ≠ []) : parentM s = (joinL ini, true) := by
  obtain ⟨e, e2, _⟩ := last_some h hi
  unfold parentM
  rw [if_pos ⟨by omega, hs⟩, e2, Nat.add_sub_cancel]
  congr 1
  conv => lhs; rw [e]
  simp
theorem parent_none {s p : List UInt8} (h : splitM s = [p]) : parentM s = ([], false) := by
  unfold parentM
  rw [if_neg (fun h2 => by rw [(last_none h).1] at h2; omega)]
theorem base_last {s p : List UInt8} {ini : List (List UInt8)} (hs : okP s) (h : splitM s = ini ++ [p]) : baseM s = p := by
  unfold baseM
  rw [if_pos hs]
  by_cases hi : ini = []
  · subst hi
    rw [(last_none h).1, (last_none h).2]
    rfl
  · obtain ⟨e, e2, _⟩ := last_some h hi
    rw [e2]
    conv => lhs; rw [e]
    simp
theorem parent_yes {s : List UInt8} (h : (parentM s).2 = true) : okP s ∧ ∃ ini p, ini ≠ [] ∧ splitM s = ini ++ [p] := by
  unfold parentM at h
  split at h
  · rename_i h2
    refine ⟨h2.2, ?_⟩
    obtain ⟨ini, p, hip⟩ := splitM_last s
    refine ⟨ini, p, fun e => ?_, hip⟩
    subst e
    have := (last_none hip).1
    omega
  · cases h
theorem parentM_len (s : List UInt8) : (parentM s).1.length ≤ s.length := by
  unfold parentM
  split
  · simp
    omega
  · simp
/-! the order of texts -/
theorem compareM_ok {a b : List UInt8} (ha : okP a) (hb : okP b) : compareM a b = cmpL (splitM a) (splitM b) := (if_pos ha).trans (if_pos hb)
theorem compareM_l {a b : List UInt8} (ha : okP a) (hb : ¬ okP b) : compareM a b = 1 := (if_pos ha).trans (if_neg hb)
theorem compareM_r {a b : List UInt8} (ha : ¬ okP a) (hb : okP b) : compareM a b = -1 := (if_neg ha).trans (if_pos hb)
theorem compareM_no {a b : List UInt8} (ha : ¬ okP a) (hb : ¬ okP b) : compareM a b = bytesM a b := (if_neg ha).trans (if_neg hb)
theorem compareM_ord : OrdF compareM where
  rng a b := by
    by_cases ha : okP a <;> by_cases hb : okP b
    · rw [compareM_ok ha hb]; exact cmpL_rng _ _
    · rw [compareM_l ha hb]; simp
    · rw [compareM_r ha hb]; simp
    · rw [compareM_no ha hb]; exact bytesM_ord.rng _ _
  zero a b := by
    by_cases ha : okP a <;> by_cases hb : okP b
    · rw [compareM_ok ha hb, cmpL_zero]
      exact ⟨split_inj, fun h => by rw [h]⟩
    · rw [compareM_l ha hb]
      exact ⟨fun h => (by cases h), fun h => absurd (h ▸ ha) hb⟩
    · rw [compareM_r ha hb]
      exact ⟨fun h => (by cases h), fun h => absurd (h ▸ hb) ha⟩
    · rw [compareM_no ha hb]; exact bytesM_ord.zero _ _
  anti a b := by
    by_cases ha : okP a <;> by_cases hb : okP b
    · rw [compareM_ok ha hb, compareM_ok hb ha]; exact cmpL_anti _ _
    · rw [compareM_l ha hb, compareM_r hb ha]
    · rw [compareM_r ha hb, compareM_l hb ha]; rfl
    · rw [compareM_no ha hb, compareM_no hb ha]; exact bytesM_ord.anti _ _
  trans a b c h k := by
    by_cases ha : okP a
    · by_cases hb : okP b
      · rw [compareM_ok ha hb] at h
        by_cases hc : okP c
        · rw [compareM_ok hb hc] at k
          rw [compareM_ok ha hc]
          exact cmpL_trans _ _ _ h k
        · rw [compareM_l hb hc] at k
          cases k
      · rw [compareM_l ha hb] at h
        cases h
    · by_cases hc : okP c
      · exact compareM_r ha hc
      · by_cases hb : okP b
        · rw [compareM_l hb hc] at k
          cases k
        · rw [compareM_no ha hb] at h
          rw [compareM_no hb hc] at k
          rw [compareM_no ha hc]
          exact bytesM_ord.trans _ _ _ h k
theorem OrdF.le {α : Type} {f : α → α → Int} (h : OrdF f) {a b c : α} (h1 : ¬ 0 < f a b) (h2 : ¬ 0 < f b c) : f a c ≤ 0 := by
  rcases h.rng a b with e | e | e
  · rcases h.rng b c with k | k | k
    · rw [h.trans a b c e k]; omega
    · rw [← (h.zero b c).1 k, e]; omega
    · omega
  · rw [(h.zero a b).1 e]; omega
  · omega
theorem OrdF.ge {α : Type} {f : α → α → Int} (h : OrdF f) {a b c : α} (h1 : ¬ f a b < 0) (h2 : ¬ f b c < 0) : 0 ≤ f a c := by
  have e1 := h.anti a b
  have e2 := h.anti b c
  have e3 := h.anti a c
  have := h.le (a := c) (b := b) (c := a) (by omega) (by omega)
  omega
/-! the laws of PathUnder -/
theorem cmpL_pre : ∀ (D : List (List UInt8)) {T : List (List UInt8)}, T ≠ [] → cmpL D (D ++ T) = -1
  | [], T, h => by
    cases T with
    | nil => exact absurd rfl h
    | cons _ _ => rfl
  | x :: D, T, h => by
    rw [List.cons_append, cmpL_cons_eq]
    exact cmpL_pre D h
theorem under_ahead {s d : List UInt8} (h : underM s d) : compareM d s = -1 := by
  obtain ⟨h1, h2, T, hT, e⟩ := under_iff.1 h
  rw [compareM_ok h2 h1, e]
  exact cmpL_pre _ hT
theorem under_trans {s p d : List UInt8} (h : underM s p) (k : underM p d) : underM s d := by
  obtain ⟨h1, h2, T, hT, e⟩ := under_iff.1 h
  obtain ⟨k1, k2, U, hU, e2⟩ := under_iff.1 k
  exact under_iff.2 ⟨h1, k2, U ++ T, by simp [hU], by rw [e, e2, List.append_assoc]⟩
theorem under_asymm {s d : List UInt8} (h : underM s d) : ¬ underM d s := fun k => by
  have h1 := under_ahead h
  have h2 := under_ahead k
  have := compareM_ord.anti s d
  omega
theorem parent_under {s : List UInt8} (h : (parentM s).2 = true) : underM s (parentM s).1 := by
  obtain ⟨hs, ini, p, hi, e⟩ := parent_yes h
  rw [parent_some hs e hi]
  obtain ⟨_, _, e3⟩ := last_some e hi
  exact under_iff.2 ⟨hs, ini_ok hs e hi, [p], by simp, by rw [e, e3]⟩
theorem under_parent {s d : List UInt8} (h : underM s d) : (parentM s).2 = true ∧ ((parentM s).1 ≠ d → underM (parentM s).1 d) := by
  obtain ⟨hs, hd, T, hT, e⟩ := under_iff.1 h
  obtain ⟨T0, q, hq⟩ : ∃ T0 q, T = T0 ++ [q] := ⟨_, _, (List.dropLast_concat_getLast hT).symm⟩
  subst hq
  have e' : splitM s = (splitM d ++ T0) ++ [q] := by rw [e, List.append_assoc]
  have hi : splitM d ++ T0 ≠ [] := by simp [splitM_ne d]
  rw [parent_some hs e' hi]
  refine ⟨rfl, fun hne => ?_⟩
  obtain ⟨_, _, e3⟩ := last_some e' hi
  refine under_iff.2 ⟨ini_ok hs e' hi, hd, T0, fun h0 => ?_, e3⟩
  subst h0
  rw [List.append_nil] at hne e3
  exact hne (split_inj (by rw [e3]))
theorem cmpL_behind : ∀ {D T O : List (List UInt8)}, cmpL O D = 1 → (¬ ∃ R, R ≠ [] ∧ O = D ++ R) → cmpL O (D ++ T) = 1
  | [], T, [], h, _ => by cases h
  | [], T, o :: O, _, hn => absurd ⟨o :: O, by simp, rfl⟩ hn
  | x :: D, T, [], h, _ => by cases h
  | x :: D, T, o :: O, h, hn => by
    rw [List.cons_append]
    by_cases e : o = x
    · subst e
      rw [cmpL_cons_eq] at h ⊢
      exact cmpL_behind h fun ⟨R, h1, h2⟩ => hn ⟨R, h1, by rw [h2]; rfl⟩
    · rw [cmpL_cons_ne e] at h ⊢
      exact h
theorem under_behind {s d o : List UInt8} (h : underM s d) (ho : okP o) (h1 : ¬ underM o d) (h2 : ¬ compareM o d ≤ 0) : compareM o s = 1 := by
  obtain ⟨hs, hd, T, hT, e⟩ := under_iff.1 h
  rw [compareM_ok ho hd] at h2
  have h3 : cmpL (splitM o) (splitM d) = 1 := by
    rcases cmpL_rng (splitM o) (splitM d) with k | k | k <;> omega
  rw [compareM_ok ho hs, e]
  exact cmpL_behind h3 fun ⟨R, hR, e2⟩ => h1 (under_iff.2 ⟨ho, hd, R, hR, e2⟩)
end Go.Proofs.Ytchgaedidfefoaa

/- The reference's parts, parent, base of a path. Conditions: none. -/
set_option linter.unusedVariables false
set_option linter.unusedSimpArgs false
namespace Go.Proofs.Ytchgaedidfefoaa
open Go.RowKit

/-- a path's parts -/
def partsM (s : List UInt8) : List (List UInt8) := if okP s then splitM s else []
theorem parent_ref {s : List UInt8} (hs : okP s) (h : 1 < (splitM s).length) : parentM s = (s.take (s.length - ((splitM s)[(splitM s).length - 1]'(by omega)).length - 1), true) ∧ ((splitM s)[(splitM s).length - 1]'(by omega)).length + 1 ≤ s.length := by
  obtain ⟨ini, p, e⟩ := splitM_last s
  have hi : ini ≠ [] := fun h0 => by
    subst h0
    rw [e] at h
    simp at h
  have e2 : (splitM s)[(splitM s).length - 1]'(by omega) = p := by
    have : ∀ (l : List (List UInt8)) (h : l = ini ++ [p]) (hl : l.length - 1 < l.length), l[l.length - 1] = p := by
      rintro l rfl hl
      simp
    exact this _ e (by omega)
  obtain ⟨h1, h2, h3⟩ := last_some e hi
  have hlen : s.length = (joinL ini).length + 1 + p.length := by
    conv => lhs; rw [h1]
    simp
    omega
  refine ⟨?_, by rw [e2]; omega⟩
  rw [parent_some hs e hi]
  congr 1
  rw [e2, show s.length - p.length - 1 = (joinL ini).length by omega]
  conv => rhs; rw [h1]
  simp
theorem parent_one {s : List UInt8} (h : ¬ (1 < (partsM s).length)) : parentM s = ([], false) := by
  unfold partsM at h
  by_cases hs : okP s
  · rw [if_pos hs] at h
    have := splitM_pos s
    obtain ⟨ini, p, e⟩ := splitM_last s
    have hi : ini = [] := by
      rw [e] at h
      simp at h
      exact h
    subst hi
    exact parent_none e
  · unfold parentM
    rw [if_neg (fun h => hs h.2)]
set_option maxRecDepth 20000 in
set_option maxHeartbeats 4000000 in

theorem partsR_tr (s : List UInt8) (hs : s.length ≤ 9223372036854775807) : Tr Try.prog 81 #[.string (sB s)] [] [] (TX (fun _ : Value => True) (fun v => v) (fun v => [own 9 1 v (partsM s).length ((partsM s).map vStr)])) := by
  refine Tr.of (l := [(0, .string (sB s))]) Try.func81 rfl (n := 8) rfl (.cons rfl .nil) (fun w0 hro => ?_)
  refine G.seq ?_
  refine G.region ?_
  refine G.op rfl (G.val rfl rfl (pv_assign rfl) ?_)
  refine G.nil ?_
  refine G.nThen ?_
  refine G.seq ?_
  refine G.seq ?_
  refine G.region ?_
  refine G.op rfl (G.val rfl rfl (pv_move rfl) ?_)
  refine G.op rfl (G.cR rfl rfl rfl rfl Try.func68 rfl rfl may0 (validR_tr _ (by omega)) ?_)
  refine G.op rfl (G.val rfl rfl (pv_notP rfl) ?_)
  refine G.nil ?_
  refine G.nThen ?_
  refine G.condP rfl (fun h5 => ?_) (fun h5 => ?_)
  · refine G.seq ?_
    refine G.region ?_
    refine G.op rfl (G.val rfl rfl (pv_assign rfl) ?_)
    refine G.nil ?_
    refine G.nThen ?_
    refine G.ret ?_
    refine G.rThen ?_
    rw [show partsM s = [] from if_neg (show ¬ okP s from by assumption)]
    refine G.ownNil 9 1 ?_
    exact G.doneX1 (.slice none 0 0) (by first | exact trivial | ((try dsimp only); exact trivial)) rfl rfl rfl (by repeat (first | exact Sub.nil | (apply Sub.cons; (repeat (first | with_reducible exact Sel.here | exact Sel.here | apply Sel.there)))))
  · refine G.skip ?_
    refine G.nThen ?_
    refine G.seq ?_
    refine G.region ?_
    refine G.op rfl (G.val rfl rfl (pv_move rfl) ?_)
    refine G.op rfl (G.cS rfl rfl rfl rfl Try.func70 rfl rfl (by repeat (first | exact Sub.nil | (apply Sub.cons; (repeat (first | with_reducible exact Sel.here | exact Sel.here | apply Sel.there))))) may0 (split_tr s (by have := okP_len (s := s) (Decidable.of_not_not (by assumption)); omega)) (by repeat (first | exact Ap.nil | apply Ap.cons)) ?_)
    intro x7 hJ
    try dsimp only at hJ
    try dsimp only
    refine G.op rfl (G.val rfl rfl (pv_assign rfl) ?_)
    refine G.nil ?_
    refine G.nThen ?_
    refine G.ret ?_
    rw [show partsM s = splitM s from if_pos (show okP s from Decidable.of_not_not (by assumption))]
    exact G.doneX1 (x7) (by first | exact trivial | ((try dsimp only); exact trivial)) rfl rfl rfl (by repeat (first | exact Sub.nil | (apply Sub.cons; (repeat (first | with_reducible exact Sel.here | exact Sel.here | apply Sel.there)))))
set_option maxRecDepth 20000 in
set_option maxHeartbeats 4000000 in

theorem parentR_tr (s : List UInt8) (hs : s.length ≤ 9223372036854775807) : Tr Try.prog 71 #[.string (sB s)] [] [] (T0 (.tuple #[.string (sB (parentM s).1), .bool (parentM s).2])) := by
  refine Tr.of (l := [(0, .string (sB s))]) Try.func71 rfl (n := 23) rfl (.cons rfl .nil) (fun w0 hro => ?_)
  refine G.seq ?_
  refine G.region ?_
  refine G.op rfl (G.val rfl rfl (pv_assign rfl) ?_)
  refine G.op rfl (G.val rfl rfl (pv_assign rfl) ?_)
  refine G.nil ?_
  refine G.nThen ?_
  refine G.seq ?_
  refine G.region ?_
  refine G.op rfl (G.val rfl rfl (pv_move rfl) ?_)
  refine G.op rfl (G.cS rfl rfl rfl rfl Try.func81 rfl rfl (by repeat (first | exact Sub.nil | (apply Sub.cons; (repeat (first | with_reducible exact Sel.here | exact Sel.here | apply Sel.there))))) may0 (partsR_tr _ (by omega)) (by repeat (first | exact Ap.nil | apply Ap.cons)) ?_)
  intro x6 hJ
  try dsimp only at hJ
  try dsimp only
  refine G.ownOpen (v := x6) (by repeat (first | with_reducible exact Sel.here | exact Sel.here | apply Sel.there)) (fun ad cap hv hk hm => ?_)
  have hv' := hv
  refine G.op rfl (G.val rfl rfl (pv_assign rfl) ?_)
  refine G.nil ?_
  refine G.nThen ?_
  refine G.seq ?_
  refine G.seq ?_
  refine G.region ?_
  refine G.op rfl (G.val rfl rfl (pv_move rfl) ?_)
  rw [hv]
  refine G.op rfl (G.val rfl rfl (pv_lenSl Try.underlying44 rfl) ?_)
  refine G.op rfl (G.val rfl rfl (pv_lss rfl rfl) ?_)
  refine G.nil ?_
  refine G.nThen ?_
  refine G.condP rfl (fun h9 => ?_) (fun h9 => ?_)
  · refine G.seq ?_
    refine G.region ?_
    refine G.op rfl (G.val rfl rfl (pv_assign rfl) ?_)
    refine G.op rfl (G.val rfl rfl (pv_assign rfl) ?_)
    refine G.nil ?_
    refine G.nThen ?_
    refine G.ret ?_
    refine G.rThen ?_
    exact G.done0G rfl (Rv.tmp rfl (Rv.tmp rfl Rv.nil)) (by rw [parent_one (by omega)]; rfl)
  · have h1 : 1 < (partsM s).length := by omega
    have hok : okP s := Decidable.of_not_not fun h => by rw [show partsM s = [] from if_neg h] at h1; simp at h1
    have hps : partsM s = splitM s := if_pos hok
    rw [hps] at h1 hk ⊢
    rw [hps] at hv
    rw [← hv]
    obtain ⟨hpr, hpl⟩ := parent_ref hok h1
    have hlen := splitM_len s
    have hs2 := okP_len hok
    refine G.ownTo (by repeat (first | with_reducible exact Sel.here | exact Sel.here | apply Sel.there)) (by omega) (fun g cap2 sp hv2 hkc hmx hl hlen2 => ?_)
    rw [hv2]
    refine G.skip ?_
    refine G.nThen ?_
    refine G.seq ?_
    refine G.region ?_
    refine G.op rfl (G.val rfl rfl (pv_move rfl) ?_)
    refine G.op rfl (G.val rfl rfl (pv_move rfl) ?_)
    refine G.op rfl (G.val rfl rfl (pv_lenS Try.underlying9 rfl) ?_)
    refine G.op rfl (G.val rfl rfl (pv_move rfl) ?_)
    refine G.op rfl (G.val rfl rfl (pv_move rfl) ?_)
    refine G.op rfl (G.val rfl rfl (pv_lenSl Try.underlying44 rfl) ?_)
    refine G.op rfl (G.val rfl rfl (pv_sub64 rfl rfl (by omega)) ?_)
    refine G.op rfl (G.val rfl rfl (pv_ixSl (sz := 1) (k := (splitM s).length - 1) Try.underlying44 (by kernel_rfl) rfl rfl (fun _ => rfl) (by omega) (by omega)) ?_)
    refine G.op rfl (G.val rfl rfl (pv_load (v := .string (sB ((splitM s)[(splitM s).length - 1]'(by omega)))) Try.underlying9 rfl rfl (blk_cell (by (repeat (first | with_reducible exact Sel.here | exact Sel.here | apply Sel.there)); done) (by exact rd1 (by omega)))) ?_)
    refine G.op rfl (G.val rfl rfl (pv_lenS Try.underlying9 rfl) ?_)
    refine G.op rfl (G.val rfl rfl (pv_sub64 rfl rfl (by omega)) ?_)
    refine G.op rfl (G.val rfl rfl (pv_sub64 rfl rfl (by omega)) ?_)
    refine G.op rfl (G.val rfl rfl (pv_strH (k := s.length - ((splitM s)[(splitM s).length - 1]'(by omega)).length - 1) Try.underlying9 rfl rfl (by omega) (by omega)) ?_)
    refine G.op rfl (G.val rfl rfl (pv_assign rfl) ?_)
    refine G.op rfl (G.val rfl rfl (pv_assign rfl) ?_)
    refine G.nil ?_
    refine G.nThen ?_
    refine G.ret ?_
    exact G.done0G rfl (Rv.tmp rfl (Rv.tmp rfl Rv.nil)) (by rw [hpr]; rfl)
end Go.Proofs.Ytchgaedidfefoaa
