/- What PathBack computes. Conditions: none. -/
import Derived.Test.YtkhffndeomihhaaDoorPV
import Derived.Test.YtkhffndeomihhaaDoorPU
set_option linter.unusedVariables false
set_option linter.unusedSimpArgs false
namespace Go.Proofs.YtkhffndeomihhaaDoor
open Go.RowKit

theorem pdec_t {p : Prop} [Decidable p] (h : p) : Value.bool true = .bool (decide p) := by rw [decide_eq_true h]
theorem pdec_f {p : Prop} [Decidable p] (h : ¬ p) : Value.bool false = .bool (decide p) := by rw [decide_eq_false h]
theorem pdec_e {p q : Prop} [Decidable p] [Decidable q] (h : p ↔ q) : Value.bool (decide p) = .bool (decide q) := by rw [decide_eq_decide.2 h]
theorem part_no : ∀ {s : List UInt8} {p : List UInt8}, p ∈ splitM s → ∀ x ∈ p, ¬ x = 47
  | [], p, h, x, hx => by
    obtain rfl : p = [] := by simpa [splitM] using h
    cases hx
  | c :: s, p, h, x, hx => by
    by_cases hc : c = 47
    · subst hc
      rw [splitM_stroke] at h
      rcases List.mem_cons.1 h with rfl | h
      · cases hx
      · exact part_no h x hx
    · rw [splitM_char hc] at h
      cases e : splitM s with
      | nil => exact absurd e (splitM_ne s)
      | cons q r =>
        rw [e] at h
        rcases List.mem_cons.1 h with rfl | h
        · rcases List.mem_cons.1 hx with rfl | hx
          · exact hc
          · exact part_no (s := s) (p := q) (by rw [e]; exact List.mem_cons_self ..) x hx
        · exact part_no (s := s) (p := p) (by rw [e]; exact List.mem_cons_of_mem _ h) x hx
theorem split_joinL : ∀ {ps : List (List UInt8)}, ps ≠ [] → (∀ p ∈ ps, ∀ x ∈ p, ¬ x = 47) → splitM (joinL ps) = ps
  | [], h, _ => absurd rfl h
  | [p], _, h => split_one (h p (List.mem_cons_self ..))
  | p :: q :: r, _, h => by
    rw [joinL_cons (by simp), split_app, split_one (h p (List.mem_cons_self ..)), split_joinL (by simp) (fun x hx => h x (List.mem_cons_of_mem _ hx))]
    rfl
/-- the facts of a path's parts -/
theorem okP_parts {s : List UInt8} (hs : okP s) : s ≠ [] ∧ s.length ≤ 200 ∧ (splitM s).length ≤ 20 ∧ (∀ p ∈ splitM s, (stepB badR p).1 = 0) := okP_iff.1 hs
theorem split_total (s : List UInt8) : sumL (splitM s) (splitM s).length + (splitM s).length = s.length + 1 := by
  have h := joinL_len (splitM_ne s)
  rw [joinL_split] at h
  omega
theorem okP_take {s : List UInt8} (hs : okP s) {i : Nat} (h0 : 0 < i) (hi : i ≤ (splitM s).length) : okP (joinL ((splitM s).take i)) := by
  obtain ⟨h1, h2, h3, h4⟩ := okP_parts hs
  have hne := take_ne h0 hi
  have hsp : splitM (joinL ((splitM s).take i)) = (splitM s).take i := split_joinL hne fun p hp => part_no (List.mem_of_mem_take hp)
  have hl := joinL_take_len h0 hi
  have ht := split_total s
  have hle := sumL_le (splitM s) i
  refine okP_iff.2 ⟨fun e => ?_, by omega, ?_, ?_⟩
  · rw [e] at hsp
    have hm : ([] : List UInt8) ∈ (splitM s).take i := by rw [← hsp]; simp [splitM]
    exact step_ne (h4 _ (List.mem_of_mem_take hm)) rfl
  · rw [hsp, List.length_take]
    omega
  · rw [hsp]
    exact fun p hp => h4 p (List.mem_of_mem_take hp)
theorem join_step {s : List UInt8} (hs : okP s) {i : Nat} (hi : i < (splitM s).length) : joinM (joinL ((splitM s).take i)) (splitM s)[i] = (joinL ((splitM s).take (i + 1)), 0) := by
  obtain ⟨h1, h2, h3, h4⟩ := okP_parts hs
  have hm := List.getElem_mem hi
  have hst : (stepB badP (splitM s)[i]).1 = 0 := (step_join _).2 ⟨h4 _ hm, by rw [split_one (part_no hm)]; rfl⟩
  rcases Nat.eq_zero_or_pos i with h0 | h0
  · subst h0
    have e : joinL ((splitM s).take 0) = [] := rfl
    rw [joinM_nil (fun h => h.elim (fun h => h hst) (fun h => h.1 e)) e, joinL_take1 (by omega)]
  · have hok := okP_take hs h0 (by omega)
    have hok2 := okP_take hs (i := i + 1) (by omega) (by omega)
    rw [← joinL_take h0 hi] at hok2 ⊢
    exact joinM_ok (fun h => h.elim (fun h => h hst) (fun h => h.2 hok)) (okP_iff.1 hok).1 hok2
theorem back1 {a b : List UInt8} (h : (joinM a b).2 = 0) : baseM (joinM a b).1 = b ∧ parentM (joinM a b).1 = (a, decide (a ≠ [])) ∧ okP (joinM a b).1 ∧ (joinM a b).1.length ≤ a.length + b.length + 1 := by
  by_cases h1 : (stepB badP b).1 ≠ 0 ∨ (a ≠ [] ∧ ¬ okP a)
  · rw [joinM_bad h1] at h
    cases h
  · have hst : (stepB badP b).1 = 0 := Decidable.of_not_not fun h => h1 (.inl h)
    by_cases h2 : a = []
    · rw [joinM_nil h1 h2]
      have hs : splitM b = [] ++ [b] := split_one (stepP_no hst)
      refine ⟨base_last (okP_one hst) hs, ?_, okP_one hst, by dsimp only; omega⟩
      rw [parent_none hs, h2]
      rfl
    · by_cases h3 : okP (a ++ [47] ++ b)
      · have hoa : okP a := Decidable.of_not_not fun h => h1 (.inr ⟨h2, h⟩)
        rw [joinM_ok h1 h2 h3]
        have hs : splitM (a ++ [47] ++ b) = splitM a ++ [b] := by rw [List.append_assoc]; exact (split_app a b).trans (by rw [split_one (stepP_no hst)])
        refine ⟨base_last h3 hs, ?_, h3, by simp; omega⟩
        rw [parent_some h3 hs (splitM_ne a), joinL_split, decide_eq_true h2]
      · rw [joinM_long h1 h2 h3] at h
        cases h
theorem back2 {a : List UInt8} (ha : okP a) : joinM (parentM a).1 (baseM a) = (a, 0) := by
  have hp := splitM_pos a
  obtain ⟨ini, p, e⟩ := splitM_last a
  have hl : (splitM a).length = ini.length + 1 := by rw [e]; simp
  have h := join_step ha (i := ini.length) (by omega)
  rw [show ini.length + 1 = (splitM a).length by omega, List.take_length, joinL_split] at h
  have e1 : (splitM a).take ini.length = ini := by rw [e]; simp
  have e2 : (splitM a)[ini.length]'(by omega) = p := by simp [e]
  rw [e1, e2] at h
  rw [base_last ha e]
  by_cases hi : ini = []
  · subst hi
    rw [parent_none e]
    exact h
  · rw [parent_some ha e hi]
    exact h
theorem join_is (d p q : List UInt8) (hd : d.length ≤ 100000) (hp : p.length ≤ 100000) (h : joinM d p = (q, 0)) : Tr Tryd.prog 16 #[.string (sB d), .string (sB p)] [] [] (T0 (.tuple #[.string (sB q), .int .i64 0])) := by
  have := join_tr d p hd hp
  rwa [h] at this
theorem parent_is (s q : List UInt8) (b : Bool) (hs : s.length ≤ 1000000) (h : parentM s = (q, b)) : Tr Tryd.prog 6 #[.string (sB s)] [] [] (T0 (.tuple #[.string (sB q), .bool b])) := by
  have := parent_tr s (by omega)
  rwa [h] at this
theorem base_is (s q : List UInt8) (hs : s.length ≤ 1000000) (h : baseM s = q) : Tr Tryd.prog 13 #[.string (sB s)] [] [] (T0 (.string (sB q))) := by
  have := base_tr s (by omega)
  rwa [h] at this
theorem parentM_le (s : List UInt8) : (parentM s).1.length ≤ s.length := parentM_len s
theorem baseM_le (s : List UInt8) : (baseM s).length ≤ s.length := by
  unfold baseM
  split
  · simp
  · simp
set_option maxRecDepth 20000 in
set_option maxHeartbeats 4000000 in

theorem pback (a b : List UInt8) (ha : a.length ≤ 9223372036854775807) (hb : b.length ≤ 9223372036854775807) : Tr Tryd.prog 4 #[.string (sB a), .string (sB b)] [] [] (T0 (.bool true)) := by
  refine Tr.of (l := [(0, .string (sB a)), (1, .string (sB b))]) Tryd.func4 rfl (n := 124) rfl (.cons rfl (.cons rfl .nil)) (fun w0 hro => ?_)
  refine G.seq ?_
  refine G.region ?_
  refine G.op rfl (G.val rfl rfl (pv_assign rfl) ?_)
  refine G.nil ?_
  refine G.nThen ?_
  refine G.seq ?_
  refine G.region ?_
  refine G.op rfl (G.cR rfl rfl rfl rfl Tryd.func5 rfl rfl may0 (awake_tr) ?_)
  refine G.op rfl (G.val rfl rfl (pv_assign rfl) ?_)
  refine G.nil ?_
  refine G.nThen ?_
  refine G.seq ?_
  refine G.seq ?_
  refine G.cutK (X := Unit) (ts := [0, 1, 4, 5]) (p := []) (fun _ => True) (fun _ => [(25, .bool (decide (300 < a.length ∨ 300 < b.length)))]) (fun _ => []) (.cons rfl (.cons rfl (.cons rfl (.cons rfl .nil)))) (by repeat (first | exact Sub.nil | (apply Sub.cons; (repeat (first | with_reducible exact Sel.here | exact Sel.here | apply Sel.there))))) (.cons .nil) (by repeat (first | exact Ap.nil | apply Ap.cons)) ?_ ?_
  · refine G.region ?_
    refine G.op rfl (G.val rfl rfl (pv_move rfl) ?_)
    refine G.op rfl (G.val rfl rfl (pv_lenS Tryd.underlying9 rfl) ?_)
    refine G.op rfl (G.val rfl rfl (pv_gtr rfl rfl) ?_)
    refine G.op rfl (G.val rfl rfl (pv_move rfl) ?_)
    refine G.partP (t := 21) rfl (fun h21 => ?_) (fun h21 => ?_)
    · refine G.pass rfl rfl rfl rfl rfl rfl ?_
      refine G.pass rfl rfl rfl rfl rfl rfl ?_
      refine G.pass rfl rfl rfl rfl rfl rfl ?_
      refine G.op rfl (G.val rfl rfl (pv_pick rfl rfl) ?_)
      refine G.nil ?_
      exact G.meet (()) (by first | exact trivial | ((try dsimp only) <;> exact trivial)) (.consE rfl (by first | exact pdec_t (by omega) | exact pdec_e (by omega) | exact pdec_f (by omega)) (.cons rfl (.cons rfl (.cons rfl (.cons rfl .nil))))) (by repeat (first | exact Sub.nil | (apply Sub.cons; (repeat (first | with_reducible exact Sel.here | exact Sel.here | apply Sel.there)))))
    · refine G.want rfl rfl rfl (G.val rfl rfl (pv_move rfl) ?_)
      refine G.want rfl rfl rfl (G.val rfl rfl (pv_lenS Tryd.underlying9 rfl) ?_)
      refine G.want rfl rfl rfl (G.val rfl rfl (pv_gtr rfl rfl) ?_)
      refine G.op rfl (G.val rfl rfl (pv_pick rfl rfl) ?_)
      refine G.nil ?_
      exact G.meet (()) (by first | exact trivial | ((try dsimp only) <;> exact trivial)) (.consE rfl (by first | exact pdec_t (by omega) | exact pdec_e (by omega) | exact pdec_f (by omega)) (.cons rfl (.cons rfl (.cons rfl (.cons rfl .nil))))) (by repeat (first | exact Sub.nil | (apply Sub.cons; (repeat (first | with_reducible exact Sel.here | exact Sel.here | apply Sel.there)))))
  · intro _ hJ
    try dsimp only at hJ
    try dsimp only
    refine G.condP rfl (fun h25 => ?_) (fun h25 => ?_)
    · refine G.seq ?_
      refine G.region ?_
      refine G.op rfl (G.val rfl rfl (pv_move rfl) ?_)
      refine G.op rfl (G.val rfl rfl (pv_assign rfl) ?_)
      refine G.nil ?_
      refine G.nThen ?_
      refine G.ret ?_
      refine G.rThen ?_
      exact G.done0G rfl (Rv.tmp rfl Rv.nil) (by first | rfl | exact int_eq (by omega) | (simp; done))
    · refine G.skip ?_
      refine G.nThen ?_
      refine G.seq ?_
      refine G.region ?_
      refine G.op rfl (G.val rfl rfl (pv_move rfl) ?_)
      refine G.op rfl (G.val rfl rfl (pv_move rfl) ?_)
      refine G.op rfl (G.cR rfl rfl rfl rfl Tryd.func16 rfl rfl may0 (join_tr _ _ (by omega) (by omega)) ?_)
      refine G.op rfl (G.val rfl rfl (pv_move rfl) ?_)
      refine G.op rfl (G.val rfl rfl (pv_extract rfl rfl) ?_)
      refine G.op rfl (G.val rfl rfl (pv_extract rfl rfl) ?_)
      refine G.op rfl (G.val rfl rfl (pv_assign rfl) ?_)
      refine G.op rfl (G.val rfl rfl (pv_assign rfl) ?_)
      refine G.nil ?_
      refine G.nThen ?_
      refine G.seq ?_
      refine G.seq ?_
      refine G.region ?_
      refine G.op rfl (G.val rfl rfl (pv_move rfl) ?_)
      refine G.op rfl (G.val rfl rfl (pv_eql rfl rfl) ?_)
      refine G.nil ?_
      refine G.nThen ?_
      refine G.condP rfl (fun h34 => ?_) (fun h34 => ?_)
      · obtain ⟨hbase, hpar, hokj, hlj⟩ := back1 (a := a) (b := b) (by assumption)
        refine G.seq ?_
        refine G.region ?_
        refine G.op rfl (G.val rfl rfl (pv_move rfl) ?_)
        refine G.op rfl (G.cR rfl rfl rfl rfl Tryd.func6 rfl rfl may0 (parent_is _ a (decide (a ≠ [])) (by omega) hpar) ?_)
        refine G.op rfl (G.val rfl rfl (pv_move rfl) ?_)
        refine G.op rfl (G.val rfl rfl (pv_extract rfl rfl) ?_)
        refine G.op rfl (G.val rfl rfl (pv_extract rfl rfl) ?_)
        refine G.op rfl (G.val rfl rfl (pv_assign rfl) ?_)
        refine G.op rfl (G.val rfl rfl (pv_assign rfl) ?_)
        refine G.nil ?_
        refine G.nThen ?_
        refine G.seq ?_
        refine G.region ?_
        refine G.op rfl (G.val rfl rfl (pv_move rfl) ?_)
        refine G.op rfl (G.cR rfl rfl rfl rfl Tryd.func13 rfl rfl may0 (base_is _ b (by omega) hbase) ?_)
        refine G.op rfl (G.val rfl rfl (pv_move rfl) ?_)
        refine G.op rfl (G.val rfl rfl ((pv_neqS rfl rfl).cast (v' := .bool false) (congrArg Value.bool (by simp))) ?_)
        refine G.op rfl (G.val rfl rfl (pv_move rfl) ?_)
        refine G.want rfl rfl rfl (G.val rfl rfl (pv_move rfl) ?_)
        refine G.want rfl rfl rfl (G.val rfl rfl (pv_move rfl) ?_)
        refine G.want rfl rfl rfl (G.val rfl rfl ((pv_neqS rfl rfl).cast (v' := .bool false) (congrArg Value.bool (by simp))) ?_)
        refine G.op rfl (G.val rfl rfl (pv_pick rfl rfl) ?_)
        refine G.op rfl (G.val rfl rfl (pv_move rfl) ?_)
        refine G.want rfl rfl rfl (G.val rfl rfl (pv_move rfl) ?_)
        refine G.want rfl rfl rfl (G.val rfl rfl (pv_move rfl) ?_)
        refine G.want rfl rfl rfl (G.val rfl rfl (pv_neqS rfl rfl) ?_)
        refine G.want rfl rfl rfl (G.val rfl rfl ((pv_neqB Tryd.underlying4 rfl rfl).cast (v' := .bool false) (congrArg Value.bool (by simp))) ?_)
        refine G.op rfl (G.val rfl rfl (pv_pick rfl rfl) ?_)
        refine G.op rfl (G.val rfl rfl (pv_move rfl) ?_)
        refine G.want rfl rfl rfl (G.val rfl rfl (pv_move rfl) ?_)
        refine G.want rfl rfl rfl (G.cR rfl rfl rfl rfl Tryd.func17 rfl rfl may0 (lvalid_yes _ (by omega) hokj) ?_)
        refine G.want rfl rfl rfl (G.val rfl rfl (pv_not rfl) ?_)
        refine G.op rfl (G.val rfl rfl (pv_pick rfl rfl) ?_)
        refine G.nil ?_
        refine G.nThen ?_
        refine G.condF rfl (rfl) ?_
        refine G.skip ?_
        refine G.nThen ?_
        refine G.seq ?_
        refine G.region ?_
        refine G.op rfl (G.val rfl rfl (pv_move rfl) ?_)
        refine G.op rfl (G.cS rfl rfl rfl rfl Tryd.func8 rfl rfl (by repeat (first | exact Sub.nil | (apply Sub.cons; (repeat (first | with_reducible exact Sel.here | exact Sel.here | apply Sel.there))))) may0 (parts_tr _ (by omega)) (by repeat (first | exact Ap.nil | apply Ap.cons)) ?_)
        intro x61 hJ
        try dsimp only at hJ
        try dsimp only
        refine G.ownOpen (v := x61) (by repeat (first | with_reducible exact Sel.here | exact Sel.here | apply Sel.there)) (fun ad cap q1 _ _ => ?_)
        have hJx := hJ
        subst q1
        refine G.op rfl (G.val rfl rfl (pv_assign rfl) ?_)
        refine G.nil ?_
        refine G.nThen ?_
        refine G.seq ?_
        refine G.seq ?_
        refine G.region ?_
        refine G.op rfl (G.val rfl rfl (pv_move rfl) ?_)
        refine G.op rfl (G.cR rfl rfl rfl rfl Tryd.func17 rfl rfl may0 (lvalid_tr _ (by omega)) ?_)
        refine G.op rfl (G.val rfl rfl (pv_notP rfl) ?_)
        refine G.nil ?_
        refine G.nThen ?_
        refine G.condP rfl (fun h64 => ?_) (fun h64 => ?_)
        · have hno : ¬ okP a := by assumption
          have hpn : partsM a = [] := if_neg hno
          have hpl : (partsM a).length = 0 := by rw [hpn]; rfl
          refine G.seq ?_
          refine G.region ?_
          refine G.op rfl (G.val rfl rfl (pv_move rfl) ?_)
          refine G.op rfl (G.val rfl rfl (pv_move rfl) ?_)
          refine G.want rfl rfl rfl (G.val rfl rfl (pv_move rfl) ?_)
          refine G.want rfl rfl rfl (G.val rfl rfl (pv_lenSl Tryd.underlying25 rfl) ?_)
          refine G.want rfl rfl rfl (G.val rfl rfl ((pv_eql rfl rfl).cast (v' := .bool true) (congrArg Value.bool (by rw [hpl]; rfl))) ?_)
          refine G.op rfl (G.val rfl rfl (pv_pick rfl rfl) ?_)
          refine G.op rfl (G.val rfl rfl (pv_move rfl) ?_)
          refine G.want rfl rfl rfl (G.val rfl rfl (pv_move rfl) ?_)
          refine G.want rfl rfl rfl (G.cR rfl rfl rfl rfl Tryd.func13 rfl rfl may0 (base_tr _ (by omega)) ?_)
          refine G.want rfl rfl rfl (G.val rfl rfl ((pv_eqlS rfl rfl).cast (v' := .bool true) (congrArg Value.bool (by exact decide_eq_true (show baseM a = [] from if_neg hno)))) ?_)
          refine G.op rfl (G.val rfl rfl (pv_pick rfl rfl) ?_)
          refine G.op rfl (G.val rfl rfl (pv_assign rfl) ?_)
          refine G.nil ?_
          refine G.nThen ?_
          refine G.ret ?_
          refine G.rThen ?_
          exact G.done0G rfl (Rv.tmp rfl Rv.nil) (by first | rfl | exact int_eq (by omega) | (simp; done))
        · have hok : okP a := Decidable.of_not_not (by assumption)
          have hps : partsM a = splitM a := if_pos hok
          have hpos := splitM_pos a
          obtain ⟨_, hl200, hl20, hpr⟩ := okP_parts hok
          have htot := split_total a
          rw [hps] at hJx ⊢
          refine G.ownTo (by repeat (first | with_reducible exact Sel.here | exact Sel.here | apply Sel.there)) (by omega) (fun g cap2 sp hv2 hkc hmx hl hlen2 => ?_)
          injection hv2 with e1 e2 e3
          subst e1
          subst e3
          refine G.skip ?_
          refine G.nThen ?_
          refine G.seq ?_
          refine G.region ?_
          refine G.op rfl (G.val rfl rfl (pv_move rfl) ?_)
          refine G.op rfl (G.cR rfl rfl rfl rfl Tryd.func6 rfl rfl may0 (parent_tr _ (by omega)) ?_)
          refine G.op rfl (G.val rfl rfl (pv_move rfl) ?_)
          refine G.op rfl (G.val rfl rfl (pv_extract rfl rfl) ?_)
          refine G.op rfl (G.val rfl rfl (pv_extract rfl rfl) ?_)
          refine G.op rfl (G.val rfl rfl (pv_assign rfl) ?_)
          refine G.op rfl (G.val rfl rfl (pv_assign rfl) ?_)
          refine G.nil ?_
          refine G.nThen ?_
          refine G.seq ?_
          refine G.region ?_
          refine G.op rfl (G.val rfl rfl (pv_assign rfl) ?_)
          refine G.nil ?_
          refine G.nThen ?_
          refine G.seq ?_
          refine G.seq ?_
          refine G.region ?_
          refine G.op rfl (G.val rfl rfl (pv_assign rfl) ?_)
          refine G.nil ?_
          refine G.nThen ?_
          refine G.block ?_
          refine G.loopK (X := Nat) (ts := [0, 5, 10, 11]) (fun i => i ≤ (splitM a).length ∧ (True)) (fun i => [(14, .int .i64 (i : Int)), (13, .string (sB (joinL ((splitM a).take i))))]) (fun i => []) (fun i => (splitM a).length - i) (x0 := 0) (.cons rfl (.cons rfl (.cons rfl (.cons rfl .nil)))) (by repeat (first | exact Sub.nil | (apply Sub.cons; (repeat (first | with_reducible exact Sel.here | exact Sel.here | apply Sel.there))))) (.cons (.cons .nil)) (by repeat (first | exact Ap.nil | apply Ap.cons)) (by first | exact trivial | ((try dsimp only) <;> exact ⟨Nat.zero_le _, trivial⟩)) (.consE rfl (by first | rfl | exact int_eq (by first | omega | (dsimp only; omega)) | exact congrArg _ (by omega)) (.consE rfl (by first | rfl | exact int_eq (by first | omega | (dsimp only; omega)) | exact congrArg _ (by omega)) .nil)) (fun i hJ => ?_)
          try dsimp only at hJ
          try dsimp only
          obtain ⟨hki, hJ⟩ := hJ
          refine G.seq ?_
          refine G.seq ?_
          refine G.region ?_
          refine G.op rfl (G.val rfl rfl (pv_move rfl) ?_)
          refine G.op rfl (G.val rfl rfl (pv_move rfl) ?_)
          refine G.op rfl (G.val rfl rfl (pv_lenSl Tryd.underlying25 rfl) ?_)
          refine G.op rfl (G.val rfl rfl (pv_lss rfl rfl) ?_)
          refine G.nil ?_
          refine G.nThen ?_
          refine G.condP rfl (fun h84 => ?_) (fun h84 => ?_)
          · have hi : i < (splitM a).length := by omega
            have hjs := join_step hok hi
            have hml := mem_len (List.getElem_mem hi)
            have hjl : (joinL ((splitM a).take i)).length ≤ 100000 := by rcases Nat.eq_zero_or_pos i with h0 | h0; subst h0; simp [joinL]; have h1 := joinL_take_len (ps := splitM a) h0 (by omega); have h2 := sumL_le (splitM a) i; omega
            refine G.skip ?_
            refine G.nThen ?_
            refine G.seq ?_
            refine G.block ?_
            refine G.seq ?_
            refine G.region ?_
            refine G.op rfl (G.val rfl rfl (pv_move rfl) ?_)
            refine G.op rfl (G.val rfl rfl (pv_move rfl) ?_)
            refine G.op rfl (G.val rfl rfl (pv_move rfl) ?_)
            refine G.op rfl (G.val rfl rfl (pv_ixSl (sz := 1) (k := i) Tryd.underlying25 (by kernel_rfl) rfl rfl (fun _ => rfl) (by omega) (by omega)) ?_)
            refine G.op rfl (G.val rfl rfl (pv_load (v := .string (sB ((splitM a)[i]))) Tryd.underlying9 rfl rfl (blk_cell (by (repeat (first | with_reducible exact Sel.here | exact Sel.here | apply Sel.there)); done) (rd1 hi))) ?_)
            refine G.op rfl (G.cR rfl rfl rfl rfl Tryd.func16 rfl rfl may0 (join_is _ _ _ hjl (by omega) hjs) ?_)
            refine G.op rfl (G.val rfl rfl (pv_move rfl) ?_)
            refine G.op rfl (G.val rfl rfl (pv_extract rfl rfl) ?_)
            refine G.op rfl (G.val rfl rfl (pv_extract rfl rfl) ?_)
            refine G.op rfl (G.val rfl rfl (pv_assign rfl) ?_)
            refine G.op rfl (G.val rfl rfl (pv_assign rfl) ?_)
            refine G.nil ?_
            refine G.nThen ?_
            refine G.seq ?_
            refine G.seq ?_
            refine G.region ?_
            refine G.op rfl (G.val rfl rfl (pv_move rfl) ?_)
            refine G.op rfl (G.val rfl rfl (pv_neq rfl rfl) ?_)
            refine G.nil ?_
            refine G.nThen ?_
            refine G.condP rfl (fun h97 => ?_) (fun h97 => ?_)
            · exfalso; omega
            · refine G.skip ?_
              refine G.nThen ?_
              refine G.region ?_
              refine G.op rfl (G.val rfl rfl (pv_move rfl) ?_)
              refine G.op rfl (G.val rfl rfl (pv_assign rfl) ?_)
              refine G.nil ?_
              refine G.nBlock ?_
              refine G.nThen ?_
              refine G.region ?_
              refine G.op rfl (G.val rfl rfl (pv_move rfl) ?_)
              refine G.op rfl (G.val rfl rfl (pv_add64 rfl rfl (by omega)) ?_)
              refine G.op rfl (G.val rfl rfl (pv_assign rfl) ?_)
              refine G.nil ?_
              exact G.next (i + 1) (by first | exact trivial | ((try dsimp only) <;> exact ⟨by omega, trivial⟩)) (by (try dsimp only); omega) (.consE rfl (by first | rfl | exact int_eq (by first | omega | (dsimp only; omega)) | exact congrArg _ (by omega)) (.consE rfl (by first | rfl | exact int_eq (by first | omega | (dsimp only; omega)) | exact congrArg _ (by omega)) (.cons rfl (.cons rfl (.cons rfl (.cons rfl .nil)))))) (by repeat (first | exact Sub.nil | (apply Sub.cons; (repeat (first | with_reducible exact Sel.here | exact Sel.here | apply Sel.there)))))
          · obtain rfl : i = (splitM a).length := by omega
            rw [List.take_length, joinL_split]
            refine G.ownOf (sz := 1) (k := (splitM a).length) (cs := (splitM a).map vStr) (sp := sp) (by repeat (first | with_reducible exact Sel.here | exact Sel.here | apply Sel.there)) (by simp) hkc hmx hl ?_
            refine G.exit ?_
            refine G.eThen ?_
            refine G.eThen ?_
            refine G.eBlock ?_
            refine G.nThen ?_
            refine G.seq ?_
            refine G.region ?_
            refine G.op rfl (G.val rfl rfl (pv_move rfl) ?_)
            refine G.op rfl (G.val rfl rfl (pv_move rfl) ?_)
            refine G.want rfl rfl rfl (G.val rfl rfl (pv_move rfl) ?_)
            refine G.want rfl rfl rfl (G.val rfl rfl (pv_move rfl) ?_)
            refine G.want rfl rfl rfl (G.val rfl rfl ((pv_eqlS rfl rfl).cast (v' := .bool true) (congrArg Value.bool (by simp))) ?_)
            refine G.op rfl (G.val rfl rfl (pv_pick rfl rfl) ?_)
            refine G.op rfl (G.val rfl rfl (pv_move rfl) ?_)
            refine G.want rfl rfl rfl (G.val rfl rfl (pv_move rfl) ?_)
            refine G.want rfl rfl rfl (G.val rfl rfl (pv_move rfl) ?_)
            have hbl := baseM_le a
            have hpll := parentM_le a
            refine G.want rfl rfl rfl (G.cR rfl rfl rfl rfl Tryd.func13 rfl rfl may0 (base_tr _ (by omega)) ?_)
            refine G.want rfl rfl rfl (G.val rfl rfl (pv_move rfl) ?_)
            refine G.want rfl rfl rfl (G.cR rfl rfl rfl rfl Tryd.func18 rfl rfl may0 (ljoins_yes _ _ a (by omega) (by omega) (back2 hok)) ?_)
            refine G.op rfl (G.val rfl rfl (pv_pick rfl rfl) ?_)
            refine G.op rfl (G.val rfl rfl (pv_move rfl) ?_)
            refine G.want rfl rfl rfl (G.val rfl rfl (pv_move rfl) ?_)
            refine G.want rfl rfl rfl (G.cS rfl rfl rfl rfl Tryd.func8 rfl rfl (by repeat (first | exact Sub.nil | (apply Sub.cons; (repeat (first | with_reducible exact Sel.here | exact Sel.here | apply Sel.there))))) may0 (parts_tr _ (by omega)) (by repeat (first | exact Ap.nil | apply Ap.cons)) ?_)
            intro x114 hJ
            try dsimp only at hJ
            try dsimp only
            refine G.want rfl rfl rfl (G.val rfl rfl (pv_move rfl) ?_)
            refine G.want rfl rfl rfl (G.cR rfl rfl rfl rfl Tryd.func11 rfl rfl (may2 (may_own (f := vStr) (p := fun _ => True) (xs := partsM a) (by repeat (first | with_reducible exact Sel.here | exact Sel.here | apply Sel.there)) rfl (fun _ _ => trivial)) (may_own (f := vStr) (p := fun _ => True) (xs := splitM a) (by repeat (first | with_reducible exact Sel.here | exact Sel.here | apply Sel.there)) rfl (fun _ _ => trivial))) (sameTexts_self _ _ (partsM a) (splitM a) hps) ?_)
            refine G.op rfl (G.val rfl rfl (pv_pick rfl rfl) ?_)
            refine G.op rfl (G.val rfl rfl (pv_move rfl) ?_)
            refine G.want rfl rfl rfl (G.val rfl rfl (pv_move rfl) ?_)
            refine G.want rfl rfl rfl (G.cR rfl rfl rfl rfl Tryd.func19 rfl rfl (may1 (may_own (f := vStr) (p := fun _ => True) (xs := splitM a) (by repeat (first | with_reducible exact Sel.here | exact Sel.here | apply Sel.there)) rfl (fun _ _ => trivial))) (sjoin_tr _ (splitM a) hpos (by omega) (by omega)) ?_)
            refine G.want rfl rfl rfl (G.val rfl rfl (pv_move rfl) ?_)
            refine G.want rfl rfl rfl (G.val rfl rfl ((pv_eqlS rfl rfl).cast (v' := .bool true) (congrArg Value.bool (by exact decide_eq_true (joinL_split a)))) ?_)
            refine G.op rfl (G.val rfl rfl (pv_pick rfl rfl) ?_)
            refine G.op rfl (G.val rfl rfl (pv_assign rfl) ?_)
            refine G.nil ?_
            refine G.nThen ?_
            refine G.ret ?_
            exact G.done0G rfl (Rv.tmp rfl Rv.nil) (by first | rfl | exact int_eq (by omega) | (simp; done))
      · refine G.skip ?_
        refine G.nThen ?_
        refine G.seq ?_
        refine G.region ?_
        refine G.op rfl (G.val rfl rfl (pv_move rfl) ?_)
        refine G.op rfl (G.cS rfl rfl rfl rfl Tryd.func8 rfl rfl (by repeat (first | exact Sub.nil | (apply Sub.cons; (repeat (first | with_reducible exact Sel.here | exact Sel.here | apply Sel.there))))) may0 (parts_tr _ (by omega)) (by repeat (first | exact Ap.nil | apply Ap.cons)) ?_)
        intro x61 hJ
        try dsimp only at hJ
        try dsimp only
        refine G.ownOpen (v := x61) (by repeat (first | with_reducible exact Sel.here | exact Sel.here | apply Sel.there)) (fun ad cap q1 _ _ => ?_)
        have hJx := hJ
        subst q1
        refine G.op rfl (G.val rfl rfl (pv_assign rfl) ?_)
        refine G.nil ?_
        refine G.nThen ?_
        refine G.seq ?_
        refine G.seq ?_
        refine G.region ?_
        refine G.op rfl (G.val rfl rfl (pv_move rfl) ?_)
        refine G.op rfl (G.cR rfl rfl rfl rfl Tryd.func17 rfl rfl may0 (lvalid_tr _ (by omega)) ?_)
        refine G.op rfl (G.val rfl rfl (pv_notP rfl) ?_)
        refine G.nil ?_
        refine G.nThen ?_
        refine G.condP rfl (fun h64 => ?_) (fun h64 => ?_)
        · have hno : ¬ okP a := by assumption
          have hpn : partsM a = [] := if_neg hno
          have hpl : (partsM a).length = 0 := by rw [hpn]; rfl
          refine G.seq ?_
          refine G.region ?_
          refine G.op rfl (G.val rfl rfl (pv_move rfl) ?_)
          refine G.op rfl (G.val rfl rfl (pv_move rfl) ?_)
          refine G.want rfl rfl rfl (G.val rfl rfl (pv_move rfl) ?_)
          refine G.want rfl rfl rfl (G.val rfl rfl (pv_lenSl Tryd.underlying25 rfl) ?_)
          refine G.want rfl rfl rfl (G.val rfl rfl ((pv_eql rfl rfl).cast (v' := .bool true) (congrArg Value.bool (by rw [hpl]; rfl))) ?_)
          refine G.op rfl (G.val rfl rfl (pv_pick rfl rfl) ?_)
          refine G.op rfl (G.val rfl rfl (pv_move rfl) ?_)
          refine G.want rfl rfl rfl (G.val rfl rfl (pv_move rfl) ?_)
          refine G.want rfl rfl rfl (G.cR rfl rfl rfl rfl Tryd.func13 rfl rfl may0 (base_tr _ (by omega)) ?_)
          refine G.want rfl rfl rfl (G.val rfl rfl ((pv_eqlS rfl rfl).cast (v' := .bool true) (congrArg Value.bool (by exact decide_eq_true (show baseM a = [] from if_neg hno)))) ?_)
          refine G.op rfl (G.val rfl rfl (pv_pick rfl rfl) ?_)
          refine G.op rfl (G.val rfl rfl (pv_assign rfl) ?_)
          refine G.nil ?_
          refine G.nThen ?_
          refine G.ret ?_
          refine G.rThen ?_
          exact G.done0G rfl (Rv.tmp rfl Rv.nil) (by first | rfl | exact int_eq (by omega) | (simp; done))
        · have hok : okP a := Decidable.of_not_not (by assumption)
          have hps : partsM a = splitM a := if_pos hok
          have hpos := splitM_pos a
          obtain ⟨_, hl200, hl20, hpr⟩ := okP_parts hok
          have htot := split_total a
          rw [hps] at hJx ⊢
          refine G.ownTo (by repeat (first | with_reducible exact Sel.here | exact Sel.here | apply Sel.there)) (by omega) (fun g cap2 sp hv2 hkc hmx hl hlen2 => ?_)
          injection hv2 with e1 e2 e3
          subst e1
          subst e3
          refine G.skip ?_
          refine G.nThen ?_
          refine G.seq ?_
          refine G.region ?_
          refine G.op rfl (G.val rfl rfl (pv_move rfl) ?_)
          refine G.op rfl (G.cR rfl rfl rfl rfl Tryd.func6 rfl rfl may0 (parent_tr _ (by omega)) ?_)
          refine G.op rfl (G.val rfl rfl (pv_move rfl) ?_)
          refine G.op rfl (G.val rfl rfl (pv_extract rfl rfl) ?_)
          refine G.op rfl (G.val rfl rfl (pv_extract rfl rfl) ?_)
          refine G.op rfl (G.val rfl rfl (pv_assign rfl) ?_)
          refine G.op rfl (G.val rfl rfl (pv_assign rfl) ?_)
          refine G.nil ?_
          refine G.nThen ?_
          refine G.seq ?_
          refine G.region ?_
          refine G.op rfl (G.val rfl rfl (pv_assign rfl) ?_)
          refine G.nil ?_
          refine G.nThen ?_
          refine G.seq ?_
          refine G.seq ?_
          refine G.region ?_
          refine G.op rfl (G.val rfl rfl (pv_assign rfl) ?_)
          refine G.nil ?_
          refine G.nThen ?_
          refine G.block ?_
          refine G.loopK (X := Nat) (ts := [0, 5, 10, 11]) (fun i => i ≤ (splitM a).length ∧ (True)) (fun i => [(14, .int .i64 (i : Int)), (13, .string (sB (joinL ((splitM a).take i))))]) (fun i => []) (fun i => (splitM a).length - i) (x0 := 0) (.cons rfl (.cons rfl (.cons rfl (.cons rfl .nil)))) (by repeat (first | exact Sub.nil | (apply Sub.cons; (repeat (first | with_reducible exact Sel.here | exact Sel.here | apply Sel.there))))) (.cons (.cons .nil)) (by repeat (first | exact Ap.nil | apply Ap.cons)) (by first | exact trivial | ((try dsimp only) <;> exact ⟨Nat.zero_le _, trivial⟩)) (.consE rfl (by first | rfl | exact int_eq (by first | omega | (dsimp only; omega)) | exact congrArg _ (by omega)) (.consE rfl (by first | rfl | exact int_eq (by first | omega | (dsimp only; omega)) | exact congrArg _ (by omega)) .nil)) (fun i hJ => ?_)
          try dsimp only at hJ
          try dsimp only
          obtain ⟨hki, hJ⟩ := hJ
          refine G.seq ?_
          refine G.seq ?_
          refine G.region ?_
          refine G.op rfl (G.val rfl rfl (pv_move rfl) ?_)
          refine G.op rfl (G.val rfl rfl (pv_move rfl) ?_)
          refine G.op rfl (G.val rfl rfl (pv_lenSl Tryd.underlying25 rfl) ?_)
          refine G.op rfl (G.val rfl rfl (pv_lss rfl rfl) ?_)
          refine G.nil ?_
          refine G.nThen ?_
          refine G.condP rfl (fun h84 => ?_) (fun h84 => ?_)
          · have hi : i < (splitM a).length := by omega
            have hjs := join_step hok hi
            have hml := mem_len (List.getElem_mem hi)
            have hjl : (joinL ((splitM a).take i)).length ≤ 100000 := by rcases Nat.eq_zero_or_pos i with h0 | h0; subst h0; simp [joinL]; have h1 := joinL_take_len (ps := splitM a) h0 (by omega); have h2 := sumL_le (splitM a) i; omega
            refine G.skip ?_
            refine G.nThen ?_
            refine G.seq ?_
            refine G.block ?_
            refine G.seq ?_
            refine G.region ?_
            refine G.op rfl (G.val rfl rfl (pv_move rfl) ?_)
            refine G.op rfl (G.val rfl rfl (pv_move rfl) ?_)
            refine G.op rfl (G.val rfl rfl (pv_move rfl) ?_)
            refine G.op rfl (G.val rfl rfl (pv_ixSl (sz := 1) (k := i) Tryd.underlying25 (by kernel_rfl) rfl rfl (fun _ => rfl) (by omega) (by omega)) ?_)
            refine G.op rfl (G.val rfl rfl (pv_load (v := .string (sB ((splitM a)[i]))) Tryd.underlying9 rfl rfl (blk_cell (by (repeat (first | with_reducible exact Sel.here | exact Sel.here | apply Sel.there)); done) (rd1 hi))) ?_)
            refine G.op rfl (G.cR rfl rfl rfl rfl Tryd.func16 rfl rfl may0 (join_is _ _ _ hjl (by omega) hjs) ?_)
            refine G.op rfl (G.val rfl rfl (pv_move rfl) ?_)
            refine G.op rfl (G.val rfl rfl (pv_extract rfl rfl) ?_)
            refine G.op rfl (G.val rfl rfl (pv_extract rfl rfl) ?_)
            refine G.op rfl (G.val rfl rfl (pv_assign rfl) ?_)
            refine G.op rfl (G.val rfl rfl (pv_assign rfl) ?_)
            refine G.nil ?_
            refine G.nThen ?_
            refine G.seq ?_
            refine G.seq ?_
            refine G.region ?_
            refine G.op rfl (G.val rfl rfl (pv_move rfl) ?_)
            refine G.op rfl (G.val rfl rfl (pv_neq rfl rfl) ?_)
            refine G.nil ?_
            refine G.nThen ?_
            refine G.condP rfl (fun h97 => ?_) (fun h97 => ?_)
            · exfalso; omega
            · refine G.skip ?_
              refine G.nThen ?_
              refine G.region ?_
              refine G.op rfl (G.val rfl rfl (pv_move rfl) ?_)
              refine G.op rfl (G.val rfl rfl (pv_assign rfl) ?_)
              refine G.nil ?_
              refine G.nBlock ?_
              refine G.nThen ?_
              refine G.region ?_
              refine G.op rfl (G.val rfl rfl (pv_move rfl) ?_)
              refine G.op rfl (G.val rfl rfl (pv_add64 rfl rfl (by omega)) ?_)
              refine G.op rfl (G.val rfl rfl (pv_assign rfl) ?_)
              refine G.nil ?_
              exact G.next (i + 1) (by first | exact trivial | ((try dsimp only) <;> exact ⟨by omega, trivial⟩)) (by (try dsimp only); omega) (.consE rfl (by first | rfl | exact int_eq (by first | omega | (dsimp only; omega)) | exact congrArg _ (by omega)) (.consE rfl (by first | rfl | exact int_eq (by first | omega | (dsimp only; omega)) | exact congrArg _ (by omega)) (.cons rfl (.cons rfl (.cons rfl (.cons rfl .nil)))))) (by repeat (first | exact Sub.nil | (apply Sub.cons; (repeat (first | with_reducible exact Sel.here | exact Sel.here | apply Sel.there)))))
          · obtain rfl : i = (splitM a).length := by omega
            rw [List.take_length, joinL_split]
            refine G.ownOf (sz := 1) (k := (splitM a).length) (cs := (splitM a).map vStr) (sp := sp) (by repeat (first | with_reducible exact Sel.here | exact Sel.here | apply Sel.there)) (by simp) hkc hmx hl ?_
            refine G.exit ?_
            refine G.eThen ?_
            refine G.eThen ?_
            refine G.eBlock ?_
            refine G.nThen ?_
            refine G.seq ?_
            refine G.region ?_
            refine G.op rfl (G.val rfl rfl (pv_move rfl) ?_)
            refine G.op rfl (G.val rfl rfl (pv_move rfl) ?_)
            refine G.want rfl rfl rfl (G.val rfl rfl (pv_move rfl) ?_)
            refine G.want rfl rfl rfl (G.val rfl rfl (pv_move rfl) ?_)
            refine G.want rfl rfl rfl (G.val rfl rfl ((pv_eqlS rfl rfl).cast (v' := .bool true) (congrArg Value.bool (by simp))) ?_)
            refine G.op rfl (G.val rfl rfl (pv_pick rfl rfl) ?_)
            refine G.op rfl (G.val rfl rfl (pv_move rfl) ?_)
            refine G.want rfl rfl rfl (G.val rfl rfl (pv_move rfl) ?_)
            refine G.want rfl rfl rfl (G.val rfl rfl (pv_move rfl) ?_)
            have hbl := baseM_le a
            have hpll := parentM_le a
            refine G.want rfl rfl rfl (G.cR rfl rfl rfl rfl Tryd.func13 rfl rfl may0 (base_tr _ (by omega)) ?_)
            refine G.want rfl rfl rfl (G.val rfl rfl (pv_move rfl) ?_)
            refine G.want rfl rfl rfl (G.cR rfl rfl rfl rfl Tryd.func18 rfl rfl may0 (ljoins_yes _ _ a (by omega) (by omega) (back2 hok)) ?_)
            refine G.op rfl (G.val rfl rfl (pv_pick rfl rfl) ?_)
            refine G.op rfl (G.val rfl rfl (pv_move rfl) ?_)
            refine G.want rfl rfl rfl (G.val rfl rfl (pv_move rfl) ?_)
            refine G.want rfl rfl rfl (G.cS rfl rfl rfl rfl Tryd.func8 rfl rfl (by repeat (first | exact Sub.nil | (apply Sub.cons; (repeat (first | with_reducible exact Sel.here | exact Sel.here | apply Sel.there))))) may0 (parts_tr _ (by omega)) (by repeat (first | exact Ap.nil | apply Ap.cons)) ?_)
            intro x114 hJ
            try dsimp only at hJ
            try dsimp only
            refine G.want rfl rfl rfl (G.val rfl rfl (pv_move rfl) ?_)
            refine G.want rfl rfl rfl (G.cR rfl rfl rfl rfl Tryd.func11 rfl rfl (may2 (may_own (f := vStr) (p := fun _ => True) (xs := partsM a) (by repeat (first | with_reducible exact Sel.here | exact Sel.here | apply Sel.there)) rfl (fun _ _ => trivial)) (may_own (f := vStr) (p := fun _ => True) (xs := splitM a) (by repeat (first | with_reducible exact Sel.here | exact Sel.here | apply Sel.there)) rfl (fun _ _ => trivial))) (sameTexts_self _ _ (partsM a) (splitM a) hps) ?_)
            refine G.op rfl (G.val rfl rfl (pv_pick rfl rfl) ?_)
            refine G.op rfl (G.val rfl rfl (pv_move rfl) ?_)
            refine G.want rfl rfl rfl (G.val rfl rfl (pv_move rfl) ?_)
            refine G.want rfl rfl rfl (G.cR rfl rfl rfl rfl Tryd.func19 rfl rfl (may1 (may_own (f := vStr) (p := fun _ => True) (xs := splitM a) (by repeat (first | with_reducible exact Sel.here | exact Sel.here | apply Sel.there)) rfl (fun _ _ => trivial))) (sjoin_tr _ (splitM a) hpos (by omega) (by omega)) ?_)
            refine G.want rfl rfl rfl (G.val rfl rfl (pv_move rfl) ?_)
            refine G.want rfl rfl rfl (G.val rfl rfl ((pv_eqlS rfl rfl).cast (v' := .bool true) (congrArg Value.bool (by exact decide_eq_true (joinL_split a)))) ?_)
            refine G.op rfl (G.val rfl rfl (pv_pick rfl rfl) ?_)
            refine G.op rfl (G.val rfl rfl (pv_assign rfl) ?_)
            refine G.nil ?_
            refine G.nThen ?_
            refine G.ret ?_
            exact G.done0G rfl (Rv.tmp rfl Rv.nil) (by first | rfl | exact int_eq (by omega) | (simp; done))
end Go.Proofs.YtkhffndeomihhaaDoor
