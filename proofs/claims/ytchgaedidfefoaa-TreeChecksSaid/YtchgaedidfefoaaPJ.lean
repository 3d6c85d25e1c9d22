/- The reference's answers of layer 7: Compare, Under, Join. Conditions: the texts are not of more than a hundred thousand bytes. -/
import Derived.Test.YtchgaedidfefoaaPI
set_option linter.unusedVariables false
set_option linter.unusedSimpArgs false
namespace Go.Proofs.Ytchgaedidfefoaa
open Go.RowKit

theorem cmp_ne {xs ys : List (List UInt8)} {i : Nat} (hx : i < xs.length) (hy : i < ys.length) (h : xs[i] ≠ ys[i]) : cmpL (xs.drop i) (ys.drop i) = bytesM xs[i] ys[i] := by
  rw [List.drop_eq_getElem_cons hx, List.drop_eq_getElem_cons hy]
  exact if_neg h
theorem cmp_next {xs ys : List (List UInt8)} {i : Nat} (hx : i < xs.length) (hy : i < ys.length) (h : ¬ xs[i] ≠ ys[i]) : cmpL (xs.drop i) (ys.drop i) = cmpL (xs.drop (i + 1)) (ys.drop (i + 1)) := by
  rw [List.drop_eq_getElem_cons hx, List.drop_eq_getElem_cons hy]
  exact if_pos (Decidable.of_not_not h)
theorem cmp_end {xs ys : List (List UInt8)} {i : Nat} (hx : i ≤ xs.length) (hy : i ≤ ys.length) (h : ¬ (i < xs.length ∧ i < ys.length)) : cmpL (xs.drop i) (ys.drop i) = if xs.length < ys.length then -1 else if ys.length < xs.length then 1 else 0 := by
  rcases Nat.lt_or_ge i xs.length with h1 | h1
  · have h2 : ys.length ≤ i := by omega
    rw [List.drop_of_length_le h2, if_neg (by omega), if_pos (by omega), List.drop_eq_getElem_cons h1]
    rfl
  · rw [List.drop_of_length_le h1]
    rcases Nat.lt_or_ge i ys.length with h2 | h2
    · rw [if_pos (by omega), List.drop_eq_getElem_cons h2]
      rfl
    · rw [List.drop_of_length_le h2, if_neg (by omega), if_neg (by omega)]
      rfl
theorem preM_iff {s d : List UInt8} : preM s (d ++ [47]) = true ↔ ∃ h : d.length < s.length, s.take d.length = d ∧ s[d.length] = 47 := by
  have e : (d ++ [47]).length = d.length + 1 := by simp
  unfold preM
  rw [e]
  constructor
  · intro h
    split at h
    · rename_i hl
      have h := of_decide_eq_true h
      have hlt : d.length < s.length := by omega
      refine ⟨hlt, ?_⟩
      rw [take_succ_app hlt] at h
      have := List.append_inj' h rfl
      exact ⟨this.1, by simpa using this.2⟩
    · cases h
  · rintro ⟨hl, h1, h2⟩
    rw [if_pos (by omega)]
    refine decide_eq_true ?_
    rw [take_succ_app hl, h1, h2]
theorem pre_no1 {s d : List UInt8} (h : ¬ (d.length : Int) < s.length) : preM s (d ++ [47]) = false := by
  cases h2 : preM s (d ++ [47]) with
  | false => rfl
  | true => obtain ⟨h3, _⟩ := preM_iff.1 h2; omega
theorem pre_no2 {s d : List UInt8} (h : ¬ s.take d.length = d) : preM s (d ++ [47]) = false := by
  cases h2 : preM s (d ++ [47]) with
  | false => rfl
  | true => obtain ⟨_, h3, _⟩ := preM_iff.1 h2; exact absurd h3 h
theorem pre_yes {s d : List UInt8} (hl : d.length < s.length) (h : s.take d.length = d) : preM s (d ++ [47]) = decide ((s[d.length].toNat : Int) = 47) := by
  by_cases h3 : (s[d.length].toNat : Int) = 47
  · rw [decide_eq_true h3]
    exact preM_iff.2 ⟨hl, h, UInt8.toNat_inj.1 (show s[d.length].toNat = 47 by omega)⟩
  · rw [decide_eq_false h3]
    cases h2 : preM s (d ++ [47]) with
    | false => rfl
    | true =>
      obtain ⟨_, _, h4⟩ := preM_iff.1 h2
      exact absurd (by rw [h4]; rfl) h3
theorem split_one {p : List UInt8} (h : ∀ x ∈ p, ¬ x = 47) : splitM p = [p] := by
  induction p with
  | nil => rfl
  | cons c s ih =>
    rw [splitM_char (h c (List.mem_cons_self ..)), ih fun x hx => h x (List.mem_cons_of_mem _ hx)]
    rfl
theorem headP_len {c : UInt8} {ps : List (List UInt8)} (h : ps ≠ []) : (headP c ps).length = ps.length := by
  cases ps with
  | nil => exact absurd rfl h
  | cons p r => rfl
theorem split_one' : ∀ {p : List UInt8}, (splitM p).length = 1 → ∀ x ∈ p, ¬ x = 47
  | [], _, x, hx => by cases hx
  | c :: s, h, x, hx => by
    by_cases hc : c = 47
    · subst hc
      rw [splitM_stroke] at h
      have := splitM_pos s
      have h : (splitM s).length + 1 = 1 := h
      omega
    · rw [splitM_char hc, headP_len (splitM_ne s)] at h
      rcases List.mem_cons.1 hx with rfl | hx
      · exact hc
      · exact split_one' h x hx
theorem stepP_no {p : List UInt8} (h : (stepB badP p).1 = 0) : ∀ x ∈ p, ¬ x = 47 := fun x hx e => by
  subst e
  unfold stepB at h
  split at h
  · cases h
  · split at h
    · cases h
    · rename_i h2
      have : p.findIdx badP < p.length := List.findIdx_lt_length_of_exists ⟨47, hx, rfl⟩
      exact h2 this
theorem step_join (p : List UInt8) : (stepB badP p).1 = 0 ↔ (stepB badR p).1 = 0 ∧ (splitM p).length = 1 := by
  constructor
  · intro h
    have hn := stepP_no h
    exact ⟨by rw [← stepB_eq hn]; exact h, by rw [split_one hn]; rfl⟩
  · rintro ⟨h1, h2⟩
    rw [stepB_eq (split_one' h2)]
    exact h1
theorem okP_one {p : List UInt8} (h : (stepB badP p).1 = 0) : okP p := by
  have h1 := (step_join p).1 h
  have hs := split_one (stepP_no h)
  have hn : ¬ p = [] := fun e => by
    subst e
    cases h
  have hl : ¬ 200 < p.length := fun hl => by
    have h2 := h1.1
    unfold stepB at h2
    split at h2
    · cases h2
    · split at h2
      · cases h2
      · split at h2
        · cases h2
        · omega
  unfold okP
  rw [show checkM p = checkL (splitM p) 0 0 from (if_neg hn).trans (if_neg hl), hs]
  show (if 0 = 20 then _ else if (stepB badR p).1 = 0 then checkL [] _ _ else _ : Int × Int).1 = 0
  rw [if_neg (by decide), if_pos h1.1]
  rfl
theorem joinM_bad {d p : List UInt8} (h : (stepB badP p).1 ≠ 0 ∨ (d ≠ [] ∧ ¬ okP d)) : joinM d p = ([], 2) := if_pos h
theorem joinM_nil {d p : List UInt8} (h : ¬ ((stepB badP p).1 ≠ 0 ∨ (d ≠ [] ∧ ¬ okP d))) (hd : d = []) : joinM d p = (p, 0) := (if_neg h).trans (if_pos hd)
theorem joinM_long {d p : List UInt8} (h : ¬ ((stepB badP p).1 ≠ 0 ∨ (d ≠ [] ∧ ¬ okP d))) (hd : ¬ d = []) (h2 : ¬ okP (d ++ [47] ++ p)) : joinM d p = ([], 3) := (if_neg h).trans ((if_neg hd).trans (if_pos h2))
theorem joinM_ok {d p : List UInt8} (h : ¬ ((stepB badP p).1 ≠ 0 ∨ (d ≠ [] ∧ ¬ okP d))) (hd : ¬ d = []) (h2 : okP (d ++ [47] ++ p)) : joinM d p = (d ++ [47] ++ p, 0) := (if_neg h).trans ((if_neg hd).trans (if_neg (fun h => h h2)))
set_option maxRecDepth 20000 in
set_option maxHeartbeats 4000000 in

theorem compareR_tr (a b : List UInt8) (ha : a.length ≤ 9223372036854775807) (hb : b.length ≤ 9223372036854775807) : Tr Try.prog 49 #[.string (sB a), .string (sB b)] [] [] (T0 (.int .i64 (compareM a b))) := by
  refine Tr.of (l := [(0, .string (sB a)), (1, .string (sB b))]) Try.func49 rfl (n := 71) rfl (.cons rfl (.cons rfl .nil)) (fun w0 hro => ?_)
  have hla := splitM_len a
  have hlb := splitM_len b
  refine G.seq ?_
  refine G.region ?_
  refine G.op rfl (G.val rfl rfl (pv_assign rfl) ?_)
  refine G.nil ?_
  refine G.nThen ?_
  refine G.seq ?_
  refine G.region ?_
  refine G.op rfl (G.val rfl rfl (pv_move rfl) ?_)
  refine G.op rfl (G.cR rfl rfl rfl rfl Try.func68 rfl rfl may0 (validR_tr _ (by omega)) ?_)
  refine G.op rfl (G.val rfl rfl (pv_move rfl) ?_)
  refine G.op rfl (G.cR rfl rfl rfl rfl Try.func68 rfl rfl may0 (validR_tr _ (by omega)) ?_)
  refine G.op rfl (G.val rfl rfl (pv_assign rfl) ?_)
  refine G.op rfl (G.val rfl rfl (pv_assign rfl) ?_)
  refine G.nil ?_
  refine G.nThen ?_
  refine G.seq ?_
  refine G.seq ?_
  refine G.cutK (X := Unit) (ts := [0, 1, 4, 5, 6]) (p := []) (fun _ => True) (fun _ => [(19, .bool (decide (¬ (checkM a).1 = 0 ∧ ¬ (checkM b).1 = 0)))]) (fun _ => []) (.cons rfl (.cons rfl (.cons rfl (.cons rfl (.cons rfl .nil))))) (by repeat (first | exact Sub.nil | (apply Sub.cons; (repeat (first | with_reducible exact Sel.here | exact Sel.here | apply Sel.there))))) (.cons .nil) (by repeat (first | exact Ap.nil | apply Ap.cons)) ?_ ?_
  · refine G.region ?_
    refine G.op rfl (G.val rfl rfl (pv_move rfl) ?_)
    refine G.op rfl (G.val rfl rfl (pv_notP rfl) ?_)
    refine G.op rfl (G.val rfl rfl (pv_move rfl) ?_)
    refine G.partP (t := 16) rfl (fun h16 => ?_) (fun h16 => ?_)
    · refine G.want rfl rfl rfl (G.val rfl rfl (pv_move rfl) ?_)
      refine G.want rfl rfl rfl (G.val rfl rfl (pv_notP rfl) ?_)
      refine G.op rfl (G.val rfl rfl (pv_pick rfl rfl) ?_)
      refine G.nil ?_
      exact G.meet (()) (by first | exact trivial | ((try dsimp only); exact trivial)) (.consE rfl (congrArg Value.bool (by simp_all)) (.cons rfl (.cons rfl (.cons rfl (.cons rfl (.cons rfl .nil)))))) (by repeat (first | exact Sub.nil | (apply Sub.cons; (repeat (first | with_reducible exact Sel.here | exact Sel.here | apply Sel.there)))))
    · refine G.pass rfl rfl rfl rfl rfl rfl ?_
      refine G.pass rfl rfl rfl rfl rfl rfl ?_
      refine G.op rfl (G.val rfl rfl (pv_pick rfl rfl) ?_)
      refine G.nil ?_
      exact G.meet (()) (by first | exact trivial | ((try dsimp only); exact trivial)) (.consE rfl (congrArg Value.bool (by simp_all)) (.cons rfl (.cons rfl (.cons rfl (.cons rfl (.cons rfl .nil)))))) (by repeat (first | exact Sub.nil | (apply Sub.cons; (repeat (first | with_reducible exact Sel.here | exact Sel.here | apply Sel.there)))))
  · intro _ hJ
    try dsimp only at hJ
    try dsimp only
    refine G.condP rfl (fun h19 => ?_) (fun h19 => ?_)
    · refine G.seq ?_
      refine G.region ?_
      refine G.op rfl (G.val rfl rfl (pv_move rfl) ?_)
      refine G.op rfl (G.val rfl rfl (pv_move rfl) ?_)
      refine G.op rfl (G.cR rfl rfl rfl rfl Try.func69 rfl rfl may0 (bytes_tr _ _) ?_)
      refine G.op rfl (G.val rfl rfl (pv_assign rfl) ?_)
      refine G.nil ?_
      refine G.nThen ?_
      refine G.ret ?_
      refine G.rThen ?_
      exact G.done0G rfl (Rv.tmp rfl Rv.nil) (by simp_all [compareM, okP, retV1])
    · refine G.skip ?_
      refine G.nThen ?_
      refine G.seq ?_
      refine G.seq ?_
      refine G.region ?_
      refine G.op rfl (G.val rfl rfl (pv_move rfl) ?_)
      refine G.op rfl (G.val rfl rfl (pv_notP rfl) ?_)
      refine G.nil ?_
      refine G.nThen ?_
      refine G.condP rfl (fun h24 => ?_) (fun h24 => ?_)
      · refine G.seq ?_
        refine G.region ?_
        refine G.op rfl (G.val rfl rfl (pv_assign rfl) ?_)
        refine G.nil ?_
        refine G.nThen ?_
        refine G.ret ?_
        refine G.rThen ?_
        exact G.done0G rfl (Rv.tmp rfl Rv.nil) (by simp_all [compareM, okP, retV1])
      · refine G.skip ?_
        refine G.nThen ?_
        refine G.seq ?_
        refine G.seq ?_
        refine G.region ?_
        refine G.op rfl (G.val rfl rfl (pv_move rfl) ?_)
        refine G.op rfl (G.val rfl rfl (pv_notP rfl) ?_)
        refine G.nil ?_
        refine G.nThen ?_
        refine G.condP rfl (fun h26 => ?_) (fun h26 => ?_)
        · refine G.seq ?_
          refine G.region ?_
          refine G.op rfl (G.val rfl rfl (pv_assign rfl) ?_)
          refine G.nil ?_
          refine G.nThen ?_
          refine G.ret ?_
          refine G.rThen ?_
          exact G.done0G rfl (Rv.tmp rfl Rv.nil) (by simp_all [compareM, okP, retV1])
        · refine G.skip ?_
          refine G.nThen ?_
          refine G.seq ?_
          refine G.region ?_
          have hal := okP_len (s := a) (by first | assumption | exact Decidable.of_not_not (by assumption))
          have hbl := okP_len (s := b) (by first | assumption | exact Decidable.of_not_not (by assumption))
          refine G.op rfl (G.val rfl rfl (pv_move rfl) ?_)
          refine G.op rfl (G.cS rfl rfl rfl rfl Try.func70 rfl rfl (by repeat (first | exact Sub.nil | (apply Sub.cons; (repeat (first | with_reducible exact Sel.here | exact Sel.here | apply Sel.there))))) may0 (split_tr _ (by omega)) (by repeat (first | exact Ap.nil | apply Ap.cons)) ?_)
          intro x28 hJ
          try dsimp only at hJ
          try dsimp only
          refine G.ownTo (by repeat (first | with_reducible exact Sel.here | exact Sel.here | apply Sel.there)) (splitM_pos _) (fun g1 cap1 sp1 hv1 hkc1 hmx1 hl1 hlen1 => ?_)
          subst hv1
          refine G.op rfl (G.val rfl rfl (pv_move rfl) ?_)
          refine G.op rfl (G.cS rfl rfl rfl rfl Try.func70 rfl rfl (by repeat (first | exact Sub.nil | (apply Sub.cons; (repeat (first | with_reducible exact Sel.here | exact Sel.here | apply Sel.there))))) may0 (split_tr _ (by omega)) (by repeat (first | exact Ap.nil | apply Ap.cons)) ?_)
          intro x30 hJ
          try dsimp only at hJ
          try dsimp only
          refine G.ownTo (by repeat (first | with_reducible exact Sel.here | exact Sel.here | apply Sel.there)) (splitM_pos _) (fun g2 cap2 sp2 hv2 hkc2 hmx2 hl2 hlen2 => ?_)
          subst hv2
          refine G.op rfl (G.val rfl rfl (pv_assign rfl) ?_)
          refine G.op rfl (G.val rfl rfl (pv_assign rfl) ?_)
          refine G.nil ?_
          refine G.nThen ?_
          refine G.seq ?_
          refine G.seq ?_
          refine G.region ?_
          refine G.op rfl (G.val rfl rfl (pv_assign rfl) ?_)
          refine G.nil ?_
          refine G.nThen ?_
          refine G.block ?_
          have hcmp : compareM a b = cmpL (splitM a) (splitM b) := (if_pos (show okP a from by first | assumption | exact Decidable.of_not_not (by assumption))).trans (if_pos (show okP b from by first | assumption | exact Decidable.of_not_not (by assumption)))
          refine G.loopK (X := Nat) (ts := [7, 8]) (fun i => i ≤ (splitM a).length ∧ i ≤ (splitM b).length ∧ cmpL (splitM a) (splitM b) = cmpL ((splitM a).drop i) ((splitM b).drop i)) (fun i => [(9, .int .i64 (i : Int))]) (fun i => []) (fun i => (splitM a).length - i) (x0 := 0) (.cons rfl (.cons rfl .nil)) (by repeat (first | exact Sub.nil | (apply Sub.cons; (repeat (first | with_reducible exact Sel.here | exact Sel.here | apply Sel.there))))) (.cons .nil) (by repeat (first | exact Ap.nil | apply Ap.cons)) (by first | exact trivial | ((try dsimp only); exact ⟨Nat.zero_le _, Nat.zero_le _, rfl⟩)) (.consE rfl (by first | rfl | exact int_eq (by first | omega | (dsimp only; omega)) | exact congrArg _ (by omega)) .nil) (fun i hJ => ?_)
          try dsimp only at hJ
          try dsimp only
          refine G.seq ?_
          refine G.seq ?_
          have hJ9 := hJ
          refine G.cutK (X := Unit) (ts := [7, 8, 9]) (p := []) (fun _ => True) (fun _ => [(40, .bool (decide (i < (splitM a).length ∧ i < (splitM b).length)))]) (fun _ => []) (.cons rfl (.cons rfl (.cons rfl .nil))) (by repeat (first | exact Sub.nil | (apply Sub.cons; (repeat (first | with_reducible exact Sel.here | exact Sel.here | apply Sel.there))))) (.cons .nil) (by repeat (first | exact Ap.nil | apply Ap.cons)) ?_ ?_
          · refine G.region ?_
            refine G.op rfl (G.val rfl rfl (pv_move rfl) ?_)
            refine G.op rfl (G.val rfl rfl (pv_move rfl) ?_)
            refine G.op rfl (G.val rfl rfl (pv_lenSl Try.underlying44 rfl) ?_)
            refine G.op rfl (G.val rfl rfl (pv_lss rfl rfl) ?_)
            refine G.op rfl (G.val rfl rfl (pv_move rfl) ?_)
            refine G.partP (t := 35) rfl (fun h35 => ?_) (fun h35 => ?_)
            · refine G.want rfl rfl rfl (G.val rfl rfl (pv_move rfl) ?_)
              refine G.want rfl rfl rfl (G.val rfl rfl (pv_move rfl) ?_)
              refine G.want rfl rfl rfl (G.val rfl rfl (pv_lenSl Try.underlying44 rfl) ?_)
              refine G.want rfl rfl rfl (G.val rfl rfl (pv_lss rfl rfl) ?_)
              refine G.op rfl (G.val rfl rfl (pv_pick rfl rfl) ?_)
              refine G.nil ?_
              exact G.meet (()) (by first | exact trivial | ((try dsimp only); exact trivial)) (.consE rfl (congrArg Value.bool (by simp_all; try omega)) (.cons rfl (.cons rfl (.cons rfl .nil)))) (by repeat (first | exact Sub.nil | (apply Sub.cons; (repeat (first | with_reducible exact Sel.here | exact Sel.here | apply Sel.there)))))
            · refine G.pass rfl rfl rfl rfl rfl rfl ?_
              refine G.pass rfl rfl rfl rfl rfl rfl ?_
              refine G.pass rfl rfl rfl rfl rfl rfl ?_
              refine G.pass rfl rfl rfl rfl rfl rfl ?_
              refine G.op rfl (G.val rfl rfl (pv_pick rfl rfl) ?_)
              refine G.nil ?_
              exact G.meet (()) (by first | exact trivial | ((try dsimp only); exact trivial)) (.consE rfl (congrArg Value.bool (by simp_all; try omega)) (.cons rfl (.cons rfl (.cons rfl .nil)))) (by repeat (first | exact Sub.nil | (apply Sub.cons; (repeat (first | with_reducible exact Sel.here | exact Sel.here | apply Sel.there)))))
          · intro _ hJ
            try dsimp only at hJ
            try dsimp only
            have hJ := hJ9
            refine G.condP rfl (fun h40 => ?_) (fun h40 => ?_)
            · refine G.skip ?_
              refine G.nThen ?_
              refine G.seq ?_
              refine G.block ?_
              refine G.seq ?_
              refine G.drawT (nn := 9) (p := []) (rem := 511) [0, 0, 3, 4, 0, 0, 48, 64, 136] [0, 0, 3, 4, 0, 0, 48, 64, 136] (by kernel_rfl) ⟨rfl, by kernel_rfl, by kernel_rfl⟩ (by repeat (first | exact Sub.nil | (apply Sub.cons; (repeat (first | with_reducible exact Sel.here | exact Sel.here | apply Sel.there))))) (by kernel_rfl) (fun hT12 => ?_)
              refine G.takeT hT12 (i := 0) (rem' := 510) rfl rfl rfl (by kernel_rfl) (fun _ _ _ h => h) rfl (pv_move rfl) (by repeat (first | exact Sub.nil | (apply Sub.cons; (repeat (first | with_reducible exact Sel.here | exact Sel.here | apply Sel.there))))) ?_
              refine G.takeT hT12 (i := 1) (rem' := 508) rfl rfl rfl (by kernel_rfl) (fun _ _ _ h => h) rfl (pv_move rfl) (by repeat (first | exact Sub.nil | (apply Sub.cons; (repeat (first | with_reducible exact Sel.here | exact Sel.here | apply Sel.there))))) ?_
              refine G.takeT hT12 (i := 2) (rem' := 504) rfl rfl rfl (by kernel_rfl) (fun _ _ _ h => h) rfl (pv_ixSl (sz := 1) Try.underlying44 (by kernel_rfl) rfl rfl (by first | with_reducible assumption | assumption | exact fun _ => rfl) rfl (by omega)) (by repeat (first | exact Sub.nil | (apply Sub.cons; (repeat (first | with_reducible exact Sel.here | exact Sel.here | apply Sel.there))))) ?_
              refine G.takeT hT12 (i := 4) (rem' := 488) rfl rfl rfl (by kernel_rfl) (fun _ _ _ h => h) rfl (pv_move rfl) (by repeat (first | exact Sub.nil | (apply Sub.cons; (repeat (first | with_reducible exact Sel.here | exact Sel.here | apply Sel.there))))) ?_
              refine G.takeT hT12 (i := 5) (rem' := 456) rfl rfl rfl (by kernel_rfl) (fun _ _ _ h => h) rfl (pv_move rfl) (by repeat (first | exact Sub.nil | (apply Sub.cons; (repeat (first | with_reducible exact Sel.here | exact Sel.here | apply Sel.there))))) ?_
              refine G.takeT hT12 (i := 6) (rem' := 392) rfl rfl rfl (by kernel_rfl) (fun _ _ _ h => h) rfl (pv_ixSl (sz := 1) Try.underlying44 (by kernel_rfl) rfl rfl (by first | with_reducible assumption | assumption | exact fun _ => rfl) rfl (by omega)) (by repeat (first | exact Sub.nil | (apply Sub.cons; (repeat (first | with_reducible exact Sel.here | exact Sel.here | apply Sel.there))))) ?_
              refine G.takeT hT12 (i := 3) (rem' := 384) rfl rfl rfl (by kernel_rfl) (fun _ _ _ h => h) rfl (pv_load (v := .string (sB (splitM a)[i])) Try.underlying9 rfl rfl (blk_cell (by (repeat (first | with_reducible exact Sel.here | exact Sel.here | apply Sel.there)); done) (by exact rd1 (by omega)))) (by repeat (first | exact Sub.nil | (apply Sub.cons; (repeat (first | with_reducible exact Sel.here | exact Sel.here | apply Sel.there))))) ?_
              refine G.oneT hT12 (i := 7) (rem' := 256) (by kernel_rfl) (by kernel_rfl) ?_
              refine G.turnOp rfl rfl (G.val rfl rfl (pv_load (v := .string (sB (splitM b)[i])) Try.underlying9 rfl rfl (blk_cell (by (repeat (first | with_reducible exact Sel.here | exact Sel.here | apply Sel.there)); done) (by exact rd1 (by omega)))) ?_)
              refine G.back (by repeat (first | exact Sub.nil | (apply Sub.cons; (repeat (first | with_reducible exact Sel.here | exact Sel.here | apply Sel.there))))) ?_
              refine G.takeT hT12 (i := 8) (rem' := 0) rfl rfl rfl (by kernel_rfl) (fun _ _ _ h => h) rfl (pv_neqS rfl rfl) (by repeat (first | exact Sub.nil | (apply Sub.cons; (repeat (first | with_reducible exact Sel.here | exact Sel.here | apply Sel.there))))) ?_
              refine G.overT hT12 (by kernel_rfl) ?_
              refine G.nThen ?_
              refine G.condP rfl (fun h51 => ?_) (fun h51 => ?_)
              · refine G.seq ?_
                refine G.drawT (nn := 10) (p := []) (rem := 1023) [0, 0, 3, 4, 0, 0, 48, 64, 136, 511] [0, 0, 3, 4, 0, 0, 48, 64, 136, 256] (by kernel_rfl) ⟨rfl, by kernel_rfl, by kernel_rfl⟩ (by repeat (first | exact Sub.nil | (apply Sub.cons; (repeat (first | with_reducible exact Sel.here | exact Sel.here | apply Sel.there))))) (by kernel_rfl) (fun hT13 => ?_)
                refine G.takeT hT13 (i := 0) (rem' := 1022) rfl rfl rfl (by kernel_rfl) (fun _ _ _ h => h) rfl (pv_move rfl) (by repeat (first | exact Sub.nil | (apply Sub.cons; (repeat (first | with_reducible exact Sel.here | exact Sel.here | apply Sel.there))))) ?_
                refine G.takeT hT13 (i := 1) (rem' := 1020) rfl rfl rfl (by kernel_rfl) (fun _ _ _ h => h) rfl (pv_move rfl) (by repeat (first | exact Sub.nil | (apply Sub.cons; (repeat (first | with_reducible exact Sel.here | exact Sel.here | apply Sel.there))))) ?_
                refine G.takeT hT13 (i := 2) (rem' := 1016) rfl rfl rfl (by kernel_rfl) (fun _ _ _ h => h) rfl (pv_ixSl (sz := 1) Try.underlying44 (by kernel_rfl) rfl rfl (by first | with_reducible assumption | assumption | exact fun _ => rfl) rfl (by omega)) (by repeat (first | exact Sub.nil | (apply Sub.cons; (repeat (first | with_reducible exact Sel.here | exact Sel.here | apply Sel.there))))) ?_
                refine G.takeT hT13 (i := 4) (rem' := 1000) rfl rfl rfl (by kernel_rfl) (fun _ _ _ h => h) rfl (pv_move rfl) (by repeat (first | exact Sub.nil | (apply Sub.cons; (repeat (first | with_reducible exact Sel.here | exact Sel.here | apply Sel.there))))) ?_
                refine G.takeT hT13 (i := 5) (rem' := 968) rfl rfl rfl (by kernel_rfl) (fun _ _ _ h => h) rfl (pv_move rfl) (by repeat (first | exact Sub.nil | (apply Sub.cons; (repeat (first | with_reducible exact Sel.here | exact Sel.here | apply Sel.there))))) ?_
                refine G.takeT hT13 (i := 6) (rem' := 904) rfl rfl rfl (by kernel_rfl) (fun _ _ _ h => h) rfl (pv_ixSl (sz := 1) Try.underlying44 (by kernel_rfl) rfl rfl (by first | with_reducible assumption | assumption | exact fun _ => rfl) rfl (by omega)) (by repeat (first | exact Sub.nil | (apply Sub.cons; (repeat (first | with_reducible exact Sel.here | exact Sel.here | apply Sel.there))))) ?_
                refine G.takeT hT13 (i := 3) (rem' := 896) rfl rfl rfl (by kernel_rfl) (fun _ _ _ h => h) rfl (pv_load (v := .string (sB (splitM a)[i])) Try.underlying9 rfl rfl (blk_cell (by (repeat (first | with_reducible exact Sel.here | exact Sel.here | apply Sel.there)); done) (by exact rd1 (by omega)))) (by repeat (first | exact Sub.nil | (apply Sub.cons; (repeat (first | with_reducible exact Sel.here | exact Sel.here | apply Sel.there))))) ?_
                refine G.oneT hT13 (i := 7) (rem' := 768) (by kernel_rfl) (by kernel_rfl) ?_
                refine G.turnOp rfl rfl (G.val rfl rfl (pv_load (v := .string (sB (splitM b)[i])) Try.underlying9 rfl rfl (blk_cell (by (repeat (first | with_reducible exact Sel.here | exact Sel.here | apply Sel.there)); done) (by exact rd1 (by omega)))) ?_)
                refine G.back (by repeat (first | exact Sub.nil | (apply Sub.cons; (repeat (first | with_reducible exact Sel.here | exact Sel.here | apply Sel.there))))) ?_
                refine G.oneT hT13 (i := 8) (rem' := 512) (by kernel_rfl) (by kernel_rfl) ?_
                refine G.turnOp rfl rfl (G.cR rfl rfl rfl rfl Try.func69 rfl rfl may0 (bytes_tr _ _) ?_)
                refine G.back (by repeat (first | exact Sub.nil | (apply Sub.cons; (repeat (first | with_reducible exact Sel.here | exact Sel.here | apply Sel.there))))) ?_
                refine G.takeT hT13 (i := 9) (rem' := 0) rfl rfl rfl (by kernel_rfl) (fun _ _ _ h => h) rfl (pv_assign rfl) (by repeat (first | exact Sub.nil | (apply Sub.cons; (repeat (first | with_reducible exact Sel.here | exact Sel.here | apply Sel.there))))) ?_
                refine G.overT hT13 (by kernel_rfl) ?_
                refine G.nThen ?_
                refine G.ret ?_
                refine G.rBlock ?_
                refine G.rThen ?_
                refine G.rThen ?_
                refine G.rBlock ?_
                refine G.rThen ?_
                obtain ⟨hi1, hi2, hck⟩ := hJ
                exact G.done0G rfl (Rv.tmp rfl Rv.nil) (by rw [hcmp, hck, cmp_ne (by omega) (by omega) (by assumption)]; rfl)
              · refine G.skip ?_
                refine G.nBlock ?_
                refine G.nThen ?_
                refine G.region ?_
                refine G.op rfl (G.val rfl rfl (pv_move rfl) ?_)
                refine G.op rfl (G.val rfl rfl (pv_add64 rfl rfl (by omega)) ?_)
                refine G.op rfl (G.val rfl rfl (pv_assign rfl) ?_)
                refine G.nil ?_
                obtain ⟨hi1, hi2, hck⟩ := hJ
                exact G.next (i + 1) (by first | exact trivial | ((try dsimp only); exact ⟨by omega, by omega, hck.trans (cmp_next (by omega) (by omega) (by assumption))⟩)) (by (try dsimp only); omega) (.consE rfl (by first | rfl | exact int_eq (by first | omega | (dsimp only; omega)) | exact congrArg _ (by omega)) (.cons rfl (.cons rfl .nil))) (by repeat (first | exact Sub.nil | (apply Sub.cons; (repeat (first | with_reducible exact Sel.here | exact Sel.here | apply Sel.there)))))
            · refine G.exit ?_
              refine G.eThen ?_
              refine G.eThen ?_
              refine G.eBlock ?_
              refine G.nThen ?_
              refine G.seq ?_
              refine G.seq ?_
              refine G.region ?_
              refine G.op rfl (G.val rfl rfl (pv_move rfl) ?_)
              refine G.op rfl (G.val rfl rfl (pv_lenSl Try.underlying44 rfl) ?_)
              refine G.op rfl (G.val rfl rfl (pv_move rfl) ?_)
              refine G.op rfl (G.val rfl rfl (pv_lenSl Try.underlying44 rfl) ?_)
              refine G.op rfl (G.val rfl rfl (pv_lss rfl rfl) ?_)
              refine G.nil ?_
              refine G.nThen ?_
              refine G.condP rfl (fun h65 => ?_) (fun h65 => ?_)
              · refine G.seq ?_
                refine G.region ?_
                refine G.op rfl (G.val rfl rfl (pv_assign rfl) ?_)
                refine G.nil ?_
                refine G.nThen ?_
                refine G.ret ?_
                refine G.rThen ?_
                obtain ⟨hi1, hi2, hck⟩ := hJ
                have hend := cmp_end (xs := splitM a) (ys := splitM b) (i := i) hi1 hi2 (by assumption)
                exact G.done0G rfl (Rv.tmp rfl Rv.nil) (by rw [hcmp, hck, hend, if_pos (by omega)]; rfl)
              · refine G.skip ?_
                refine G.nThen ?_
                refine G.seq ?_
                refine G.seq ?_
                refine G.region ?_
                refine G.op rfl (G.val rfl rfl (pv_move rfl) ?_)
                refine G.op rfl (G.val rfl rfl (pv_lenSl Try.underlying44 rfl) ?_)
                refine G.op rfl (G.val rfl rfl (pv_move rfl) ?_)
                refine G.op rfl (G.val rfl rfl (pv_lenSl Try.underlying44 rfl) ?_)
                refine G.op rfl (G.val rfl rfl (pv_gtr rfl rfl) ?_)
                refine G.nil ?_
                refine G.nThen ?_
                refine G.condP rfl (fun h70 => ?_) (fun h70 => ?_)
                · refine G.seq ?_
                  refine G.region ?_
                  refine G.op rfl (G.val rfl rfl (pv_assign rfl) ?_)
                  refine G.nil ?_
                  refine G.nThen ?_
                  refine G.ret ?_
                  refine G.rThen ?_
                  obtain ⟨hi1, hi2, hck⟩ := hJ
                  have hend := cmp_end (xs := splitM a) (ys := splitM b) (i := i) hi1 hi2 (by assumption)
                  exact G.done0G rfl (Rv.tmp rfl Rv.nil) (by rw [hcmp, hck, hend, if_neg (by omega), if_pos (by omega)]; rfl)
                · refine G.skip ?_
                  refine G.nThen ?_
                  refine G.seq ?_
                  refine G.region ?_
                  refine G.op rfl (G.val rfl rfl (pv_assign rfl) ?_)
                  refine G.nil ?_
                  refine G.nThen ?_
                  refine G.ret ?_
                  obtain ⟨hi1, hi2, hck⟩ := hJ
                  have hend := cmp_end (xs := splitM a) (ys := splitM b) (i := i) hi1 hi2 (by assumption)
                  exact G.done0G rfl (Rv.tmp rfl Rv.nil) (by rw [hcmp, hck, hend, if_neg (by omega), if_neg (by omega)]; rfl)
set_option maxRecDepth 20000 in
set_option maxHeartbeats 4000000 in

theorem underR_tr (s d : List UInt8) (hs : s.length ≤ 9223372036854775807) (hd : d.length ≤ 9223372036854775807) : Tr Try.prog 59 #[.string (sB s), .string (sB d)] [] [] (T0 (.bool (decide (underM s d)))) := by
  refine Tr.of (l := [(0, .string (sB s)), (1, .string (sB d))]) Try.func59 rfl (n := 33) rfl (.cons rfl (.cons rfl .nil)) (fun w0 hro => ?_)
  refine G.seq ?_
  refine G.region ?_
  refine G.op rfl (G.val rfl rfl (pv_assign rfl) ?_)
  refine G.nil ?_
  refine G.nThen ?_
  refine G.seq ?_
  refine G.seq ?_
  refine G.region ?_
  refine G.op rfl (G.val rfl rfl (pv_move rfl) ?_)
  refine G.op rfl (G.cR rfl rfl rfl rfl Try.func68 rfl rfl may0 (validR_tr _ (by omega)) ?_)
  refine G.op rfl (G.val rfl rfl (pv_notP rfl) ?_)
  refine G.op rfl (G.val rfl rfl (pv_move rfl) ?_)
  refine G.partP (t := 8) rfl (fun h8 => ?_) (fun h8 => ?_)
  · refine G.pass rfl rfl rfl rfl rfl rfl ?_
    refine G.pass rfl rfl rfl rfl rfl rfl ?_
    refine G.pass rfl rfl rfl rfl rfl rfl ?_
    refine G.op rfl (G.val rfl rfl (pv_pick rfl rfl) ?_)
    refine G.nil ?_
    refine G.nThen ?_
    refine G.condT rfl (rfl) ?_
    refine G.seq ?_
    refine G.region ?_
    refine G.op rfl (G.val rfl rfl (pv_assign rfl) ?_)
    refine G.nil ?_
    refine G.nThen ?_
    refine G.ret ?_
    refine G.rThen ?_
    exact G.done0G rfl (Rv.tmp rfl Rv.nil) (by simp_all [underM, okP, retV1])
  · refine G.want rfl rfl rfl (G.val rfl rfl (pv_move rfl) ?_)
    refine G.want rfl rfl rfl (G.cR rfl rfl rfl rfl Try.func68 rfl rfl may0 (validR_tr _ (by omega)) ?_)
    refine G.want rfl rfl rfl (G.val rfl rfl (pv_notP rfl) ?_)
    refine G.op rfl (G.val rfl rfl (pv_pick rfl rfl) ?_)
    refine G.nil ?_
    refine G.nThen ?_
    refine G.condP rfl (fun h12 => ?_) (fun h12 => ?_)
    · refine G.seq ?_
      refine G.region ?_
      refine G.op rfl (G.val rfl rfl (pv_assign rfl) ?_)
      refine G.nil ?_
      refine G.nThen ?_
      refine G.ret ?_
      refine G.rThen ?_
      exact G.done0G rfl (Rv.tmp rfl Rv.nil) (by simp_all [underM, okP, retV1])
    · refine G.skip ?_
      refine G.nThen ?_
      refine G.seq ?_
      refine G.region ?_
      refine G.op rfl (G.val rfl rfl (pv_move rfl) ?_)
      refine G.op rfl (G.val rfl rfl (pv_lenS Try.underlying9 rfl) ?_)
      refine G.op rfl (G.val rfl rfl (pv_move rfl) ?_)
      refine G.op rfl (G.val rfl rfl (pv_lenS Try.underlying9 rfl) ?_)
      refine G.op rfl (G.val rfl rfl (pv_gtr rfl rfl) ?_)
      refine G.op rfl (G.val rfl rfl (pv_move rfl) ?_)
      refine G.partP (t := 18) rfl (fun h18 => ?_) (fun h18 => ?_)
      · refine G.want rfl rfl rfl (G.val rfl rfl (pv_move rfl) ?_)
        refine G.want rfl rfl rfl (G.val rfl rfl (pv_move rfl) ?_)
        refine G.want rfl rfl rfl (G.val rfl rfl (pv_lenS Try.underlying9 rfl) ?_)
        refine G.want rfl rfl rfl (G.val rfl rfl (pv_strH (k := d.length) Try.underlying9 rfl rfl rfl (by omega)) ?_)
        refine G.want rfl rfl rfl (G.val rfl rfl (pv_move rfl) ?_)
        refine G.want rfl rfl rfl (G.val rfl rfl (pv_eqlS rfl rfl) ?_)
        refine G.op rfl (G.val rfl rfl (pv_pick rfl rfl) ?_)
        refine G.op rfl (G.val rfl rfl (pv_move rfl) ?_)
        refine G.partP (t := 26) rfl (fun h26 => ?_) (fun h26 => ?_)
        · refine G.want rfl rfl rfl (G.val rfl rfl (pv_move rfl) ?_)
          refine G.want rfl rfl rfl (G.val rfl rfl (pv_move rfl) ?_)
          refine G.want rfl rfl rfl (G.val rfl rfl (pv_lenS Try.underlying9 rfl) ?_)
          refine G.want rfl rfl rfl (G.val rfl rfl (pv_ixS (k := d.length) Try.underlying9 rfl rfl rfl (by omega)) ?_)
          refine G.want rfl rfl rfl (G.val rfl rfl (pv_eql rfl rfl) ?_)
          refine G.op rfl (G.val rfl rfl (pv_pick rfl rfl) ?_)
          refine G.op rfl (G.val rfl rfl (pv_assign rfl) ?_)
          refine G.nil ?_
          refine G.nThen ?_
          refine G.ret ?_
          exact G.done0G rfl (Rv.tmp rfl Rv.nil) (by have h := pre_yes (s := s) (d := d) (by omega) (by assumption); simp_all [underM, okP, retV1])
        · refine G.pass rfl rfl rfl rfl rfl rfl ?_
          refine G.pass rfl rfl rfl rfl rfl rfl ?_
          refine G.pass rfl rfl rfl rfl rfl rfl ?_
          refine G.pass rfl rfl rfl rfl rfl rfl ?_
          refine G.pass rfl rfl rfl rfl rfl rfl ?_
          refine G.op rfl (G.val rfl rfl (pv_pick rfl rfl) ?_)
          refine G.op rfl (G.val rfl rfl (pv_assign rfl) ?_)
          refine G.nil ?_
          refine G.nThen ?_
          refine G.ret ?_
          exact G.done0G rfl (Rv.tmp rfl Rv.nil) (by have h := pre_no2 (s := s) (d := d) (by assumption); simp_all [underM, okP, retV1])
      · refine G.pass rfl rfl rfl rfl rfl rfl ?_
        refine G.pass rfl rfl rfl rfl rfl rfl ?_
        refine G.pass rfl rfl rfl rfl rfl rfl ?_
        refine G.pass rfl rfl rfl rfl rfl rfl ?_
        refine G.pass rfl rfl rfl rfl rfl rfl ?_
        refine G.pass rfl rfl rfl rfl rfl rfl ?_
        refine G.op rfl (G.val rfl rfl (pv_pick rfl rfl) ?_)
        refine G.op rfl (G.val rfl rfl (pv_move rfl) ?_)
        refine G.pass rfl rfl rfl rfl rfl rfl ?_
        refine G.pass rfl rfl rfl rfl rfl rfl ?_
        refine G.pass rfl rfl rfl rfl rfl rfl ?_
        refine G.pass rfl rfl rfl rfl rfl rfl ?_
        refine G.pass rfl rfl rfl rfl rfl rfl ?_
        refine G.op rfl (G.val rfl rfl (pv_pick rfl rfl) ?_)
        refine G.op rfl (G.val rfl rfl (pv_assign rfl) ?_)
        refine G.nil ?_
        refine G.nThen ?_
        refine G.ret ?_
        exact G.done0G rfl (Rv.tmp rfl Rv.nil) (by have h := pre_no1 (s := s) (d := d) (by assumption); simp_all [underM, okP, retV1])
end Go.Proofs.Ytchgaedidfefoaa
