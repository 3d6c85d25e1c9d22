/- Parts of a text, one behind the other: the iterator. Conditions: the text is not of more than a thousand million bytes. -/
import Derived.Test.YtkhffndeomihhaaDoorPE
import Derived.Test.YtkhffndeomihhaaDoorWS
set_option linter.unusedVariables false
set_option linter.unusedSimpArgs false
namespace Go.Proofs.YtkhffndeomihhaaDoor
open Go.RowKit

/-- a text by its strokes -/
def headP (c : UInt8) : List (List UInt8) → List (List UInt8)
  | [] => [[c]]
  | p :: r => (c :: p) :: r
def splitM : List UInt8 → List (List UInt8)
  | [] => [[]]
  | c :: s => if c = 47 then [] :: splitM s else headP c (splitM s)
theorem splitM_stroke (s : List UInt8) : splitM (47 :: s) = [] :: splitM s := if_pos rfl
theorem splitM_char {c : UInt8} (h : ¬ c = 47) (s : List UInt8) : splitM (c :: s) = headP c (splitM s) := if_neg h
theorem splitM_ne : ∀ s, splitM s ≠ []
  | [] => by unfold splitM; simp
  | c :: s => by
    unfold splitM
    split
    · simp
    · cases h : splitM s <;> simp [headP]
theorem splitM_cut : ∀ s, splitM s = if (cutM s).2.2 then (cutM s).1 :: splitM (cutM s).2.1 else [(cutM s).1]
  | [] => rfl
  | c :: s => by
    have ih := splitM_cut s
    by_cases hc : c = 47
    · subst hc
      have e : at1 (47 :: s) = 0 := by simp [at1, List.findIdx_cons]
      have e2 : cutM (47 :: s) = ([], s, true) := by
        unfold cutM
        rw [e, if_pos (by simp)]
        rfl
      rw [e2, splitM_stroke]
      rfl
    · have hb : (c == 47) = false := by simpa using hc
      have e : at1 (c :: s) = at1 s + 1 := by simp [at1, List.findIdx_cons, hb]
      have e2 : cutM (c :: s) = (c :: (cutM s).1, (cutM s).2.1, (cutM s).2.2) := by
        unfold cutM
        rw [e]
        by_cases h : at1 s < s.length
        · rw [if_pos h, if_pos (show at1 s + 1 < (c :: s).length by simp; omega)]
          rfl
        · rw [if_neg h, if_neg (show ¬ at1 s + 1 < (c :: s).length by simp; omega)]
      rw [e2, splitM_char hc, ih]
      cases h : (cutM s).2.2 <;> simp [headP]
def atL (ps : List (List UInt8)) (i : Nat) : Nat := ((ps.take i).map fun p => p.length + 1).sum
theorem atL_zero (ps : List (List UInt8)) : atL ps 0 = 0 := by simp [atL]
theorem atL_succ {ps : List (List UInt8)} {i : Nat} (h : i < ps.length) : atL ps (i + 1) = atL ps i + (ps[i].length + 1) := by
  unfold atL
  rw [List.take_succ_eq_append_getElem h, List.map_append, List.sum_append]
  simp
theorem splitM_sum : ∀ s, ((splitM s).map fun p => p.length + 1).sum = s.length + 1
  | [] => rfl
  | c :: s => by
    have ih := splitM_sum s
    unfold splitM
    split
    · simp [ih]; omega
    · cases h : splitM s with
      | nil => exact absurd h (splitM_ne s)
      | cons p r =>
        rw [h] at ih
        simp [headP] at ih ⊢
        omega
theorem sum_take_le (l : List Nat) (i : Nat) : (l.take i).sum ≤ l.sum := by
  have := congrArg List.sum (List.take_append_drop i l)
  rw [List.sum_append] at this
  omega
theorem atL_le (s : List UInt8) (i : Nat) : atL (splitM s) i ≤ s.length + 1 := by
  unfold atL
  rw [List.map_take, ← splitM_sum s]
  exact sum_take_le _ i
theorem part_le {s : List UInt8} {i : Nat} (h : i < (splitM s).length) : atL (splitM s) i + ((splitM s)[i].length + 1) ≤ s.length + 1 := by
  rw [← atL_succ h]
  exact atL_le s _
def getL (ps : List (List UInt8)) (i : Nat) : List UInt8 := ps.getD i []
theorem getL_eq {ps : List (List UInt8)} {i : Nat} (h : i < ps.length) : getL ps i = ps[i] := by
  unfold getL
  rw [List.getD_eq_getElem?_getD, List.getElem?_eq_getElem h]
  rfl
theorem cutM_len (t : List UInt8) : (cutM t).2.1.length ≤ t.length := by
  unfold cutM
  split
  · simp
  · simp
/-- a cut, told by the parts -/
theorem cut_drop {ps : List (List UInt8)} {t : List UInt8} {i : Nat} (hi : i < ps.length) (h : splitM t = ps.drop i) : ∃ t', cutM t = (getL ps i, t', decide (i + 1 < ps.length)) ∧ t'.length ≤ t.length ∧ (i + 1 < ps.length → splitM t' = ps.drop (i + 1)) := by
  refine ⟨(cutM t).2.1, ?_, cutM_len t, ?_⟩
  · rw [splitM_cut, List.drop_eq_getElem_cons hi] at h
    rw [getL_eq hi]
    cases hm : (cutM t).2.2 with
    | true =>
      rw [hm, if_pos rfl] at h
      injection h with h1 h2
      have : i + 1 < ps.length := by
        rcases Nat.lt_or_ge (i + 1) ps.length with h3 | h3
        · exact h3
        · rw [List.drop_eq_nil_of_le h3] at h2
          exact absurd h2 (splitM_ne _)
      rw [decide_eq_true this, ← h1, ← hm]
    | false =>
      rw [hm, if_neg (by simp)] at h
      injection h with h1 h2
      have : ¬ i + 1 < ps.length := fun h3 => by
        rw [List.drop_eq_getElem_cons h3] at h2
        cases h2
      rw [decide_eq_false this, ← h1, ← hm]
  · intro h3
    rw [splitM_cut, List.drop_eq_getElem_cons hi] at h
    cases hm : (cutM t).2.2 with
    | true =>
      rw [hm, if_pos rfl] at h
      injection h
    | false =>
      rw [hm, if_neg (by simp)] at h
      injection h with h1 h2
      rw [List.drop_eq_getElem_cons h3] at h2
      cases h2
theorem cut_at (t p t' : List UInt8) (m : Bool) (ht : t.length ≤ 1000000000) (h : cutM t = (p, t', m)) : Tr Tryd.prog 40 #[.string (sB t), .string (sB [47])] [] [] (T0 (.tuple #[.string (sB p), .string (sB t'), .bool m])) := by
  have := cut_tr t ht
  rwa [h] at this
set_option maxRecDepth 20000 in
set_option maxHeartbeats 4000000 in

theorem steps_seq (s : List UInt8) (hs : s.length ≤ 1000000000) (b : Nat) : SeqT Tryd.prog 39 #[.pointer (some ⟨b, 0, none⟩)] [] [blk b 9 [.string (sB s)]] (splitM s).length (fun i => [.int .i64 (atL (splitM s) i : Int), .string (sB (getL (splitM s) i))]) := by
  intro lp X J C x0 h0 hY
  show Tr _ _ #[.func (.yield lp) #[] #[], .pointer (some ⟨b, 0, none⟩)] _ _ _
  refine Tr.ofI (l := [(0, .func (.yield lp) #[] #[]), (1, .pointer (some ⟨b, 0, none⟩))]) Tryd.func39 rfl (n := 23) rfl (.cons rfl (.cons rfl .nil)) (fun w0 hro => ?_)
  refine I.seq ?_
  refine I.region (by kernel_rfl) (by rintro ⟨_, _, h⟩; first | exact h | exact noOut h) ?_
  refine G.op rfl (G.val rfl rfl (pv_assign rfl) ?_)
  refine G.op rfl (G.val rfl rfl (pv_assign rfl) ?_)
  refine I.nil ?_
  refine I.nThen ?_
  refine I.block ?_
  have hpos : 0 < (splitM s).length := List.length_pos_iff.2 (splitM_ne s)
  refine I.loopK (X := Nat × (List UInt8) × X) (ts := [0, 1]) (fun st => st.1 ≤ (splitM s).length ∧ st.2.1.length ≤ s.length ∧ (st.1 < (splitM s).length → splitM st.2.1 = (splitM s).drop st.1) ∧ J true st.1 st.2.2) (fun st => [(3, .int .i64 (atL (splitM s) st.1 : Int)), (4, .bool (decide (st.1 < (splitM s).length)))]) (fun st => [blk b 9 [.string (sB st.2.1)], C true st.1 st.2.2]) (fun st => (splitM s).length - st.1) (x0 := (0, s, x0)) (.cons rfl (.cons rfl .nil)) (by repeat (first | exact Sub.nil | (apply Sub.cons; (repeat (first | with_reducible exact Sel.here | exact Sel.here | apply Sel.there))))) (.cons (.cons .nil)) (by repeat (first | exact Ap.nil | apply Ap.cons)) (by first | exact trivial | ((try dsimp only) <;> exact ⟨Nat.zero_le _, Nat.le_refl _, fun _ => rfl, h0⟩)) (.consE rfl (by first | rfl | exact int_eq (by rw [atL_zero]; rfl)) (.consE rfl (by rw [decide_eq_true hpos]) .nil)) (fun st hJ => ?_)
  obtain ⟨i, t, x⟩ := st
  try dsimp only at hJ
  try dsimp only
  obtain ⟨hi, ht, hsp, hJ0⟩ := hJ
  refine I.seq ?_
  refine I.seq ?_
  refine I.region (by kernel_rfl) (by rintro ⟨_, _, h⟩; first | exact h | exact noOut h) ?_
  refine G.op rfl (G.val rfl rfl (pv_move rfl) ?_)
  refine I.nil ?_
  refine I.nThen ?_
  refine I.condP rfl (fun h6 => ?_) (fun h6 => ?_)
  · have hil : i < (splitM s).length := by assumption
    obtain ⟨t', hcut, ht', hsp'⟩ := cut_drop hil (hsp hil)
    refine I.skip ?_
    refine I.nThen ?_
    refine I.block ?_
    refine I.seq ?_
    refine I.region (by kernel_rfl) (by rintro ⟨_, _, h⟩; first | exact h | exact noOut h) ?_
    refine G.op rfl (G.val rfl rfl (pv_assign rfl) ?_)
    refine I.nil ?_
    refine I.nThen ?_
    refine I.seq ?_
    refine I.region (by kernel_rfl) (by rintro ⟨_, _, h⟩; first | exact h | exact noOut h) ?_
    refine G.op rfl (G.val rfl rfl (pv_load Tryd.underlying9 rfl rfl (by first | exact blk_cell (by (repeat (first | with_reducible exact Sel.here | exact Sel.here | apply Sel.there)); done) (by rfl) | exact rng_cell (by (repeat (first | with_reducible exact Sel.here | exact Sel.here | apply Sel.there)); done) (by rfl) | exact ro_blk (by assumption) (by rfl) | exact ro_rngC (by assumption) (by rfl) | exact ro_int (by assumption) | exact ro_byte (by assumption) | exact ro_str (by assumption) | with_reducible assumption | assumption)) ?_)
    refine G.op rfl (G.cR rfl rfl rfl rfl Tryd.func40 rfl rfl may0 (cut_at t _ t' _ (by omega) hcut) ?_)
    refine G.op rfl (G.val rfl rfl (pv_move rfl) ?_)
    refine G.op rfl (G.val rfl rfl (pv_extract rfl rfl) ?_)
    refine G.op rfl (G.val rfl rfl (pv_extract rfl rfl) ?_)
    refine G.op rfl (G.val rfl rfl (pv_extract rfl rfl) ?_)
    refine G.op rfl (G.val rfl rfl (pv_assign rfl) ?_)
    refine G.op rfl (G.store (by kernel_rfl) rfl rfl (by first | rfl | with_reducible assumption) (by repeat (first | with_reducible exact Sel.here | exact Sel.here | apply Sel.there)) (by first | (simp; done) | exact Nat.le_of_ble_eq_true rfl) ?_)
    refine G.op rfl (G.val rfl rfl (pv_assign rfl) ?_)
    refine I.nil ?_
    refine I.nThen ?_
    refine I.seq ?_
    refine I.seq ?_
    refine IL.region ?_
    refine IL.op rfl (IL.lift (by kernel_rfl) (G.val rfl rfl (pv_move rfl) ?_))
    refine IL.op rfl (IL.lift (by kernel_rfl) (G.val rfl rfl (pv_move rfl) ?_))
    refine IL.op rfl (IL.lift (by kernel_rfl) (G.val rfl rfl (pv_move rfl) ?_))
    refine IL.op rfl (IL.yield rfl rfl rfl rfl rfl (by repeat (first | exact Sub.nil | (apply Sub.cons; (repeat (first | with_reducible exact Sel.here | exact Sel.here | apply Sel.there))))) (hY i x hil hJ0) (by repeat (first | exact Ap.nil | apply Ap.cons)) ?_)
    intro x16 hJ
    obtain ⟨v, y⟩ := x16
    try dsimp only at hJ
    try dsimp only
    have hJ2 := hJ
    refine IL.op rfl (IL.lift (by kernel_rfl) (G.val rfl rfl (pv_not rfl) ?_))
    refine IL.nil ?_
    refine I.nThen ?_
    have hlen := part_le hil
    rw [← getL_eq hil] at hlen
    have hat := atL_succ hil
    rw [← getL_eq hil] at hat
    refine I.cond rfl (fun h17 => ?_) (fun h17 => ?_)
    · obtain rfl : v = false := by cases v <;> simp_all
      refine I.ret ?_
      refine I.rThen ?_
      refine I.rBlock ?_
      refine I.rThen ?_
      refine I.rBlock ?_
      exact I.doneIr ((false, i + 1, y)) (by first | exact trivial | ((try dsimp only) <;> exact ⟨hJ2, hil, fun h => by cases h⟩)) rfl rfl (by repeat (first | exact Sub.nil | (apply Sub.cons; (repeat (first | with_reducible exact Sel.here | exact Sel.here | apply Sel.there)))))
    · obtain rfl : v = true := by cases v <;> simp_all
      refine I.skip ?_
      refine I.nThen ?_
      refine I.region (by kernel_rfl) (by rintro ⟨_, _, h⟩; first | exact h | exact noOut h) ?_
      refine G.op rfl (G.val rfl rfl (pv_move rfl) ?_)
      refine G.op rfl (G.val rfl rfl (pv_move rfl) ?_)
      refine G.op rfl (G.val rfl rfl (pv_lenS Tryd.underlying9 rfl) ?_)
      refine G.op rfl (G.val rfl rfl (pv_add64 rfl rfl (by omega)) ?_)
      refine G.op rfl (G.val rfl rfl (pv_add64 rfl rfl (by omega)) ?_)
      refine G.op rfl (G.val rfl rfl (pv_assign rfl) ?_)
      refine I.nil ?_
      refine I.nBlock ?_
      exact I.next ((i + 1, t', y)) (by first | exact trivial | ((try dsimp only) <;> exact ⟨by omega, by omega, hsp', hJ2⟩)) (by (try dsimp only); omega) (.consE rfl (by first | rfl | exact int_eq (by first | omega | (dsimp only; omega)) | exact congrArg _ (by omega)) (.consE rfl (by first | rfl | exact int_eq (by first | omega | (dsimp only; omega)) | exact congrArg _ (by omega)) (.cons rfl (.cons rfl .nil)))) (by repeat (first | exact Sub.nil | (apply Sub.cons; (repeat (first | with_reducible exact Sel.here | exact Sel.here | apply Sel.there)))))
  · refine I.exit ?_
    refine I.eThen ?_
    refine I.eThen ?_
    refine I.eBlock ?_
    exact I.doneI ((true, i, x)) (by first | exact trivial | ((try dsimp only) <;> exact ⟨hJ0, hi, fun _ => by omega⟩)) rfl rfl (by repeat (first | exact Sub.nil | (apply Sub.cons; (repeat (first | with_reducible exact Sel.here | exact Sel.here | apply Sel.there)))))
end Go.Proofs.YtkhffndeomihhaaDoor
