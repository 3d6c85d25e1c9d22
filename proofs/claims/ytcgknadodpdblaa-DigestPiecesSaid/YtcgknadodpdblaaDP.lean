/- The statement DigestPieces. Conditions: none. -/
import Derived.Test.YtcgknadodpdblaaDK
import Derived.Test.YtcgknadodpdblaaWC
import Derived.Test.YtcgknadodpdblaaOpg
set_option linter.unusedVariables false
set_option linter.unusedSimpArgs false
namespace Go.Proofs.Ytcgknadodpdblaa
open Go.RowKit

/-- a running digest that has taken m -/
def dgc (D : Nat) (m : List UInt8) : Ck := ⟨(· = D), fun w => DigOf w D m, fun w w' h hw => by
  obtain ⟨wait, h1, h2⟩ := hw
  exact ⟨wait, h1, h2.of_block (h D rfl)⟩⟩
theorem dgNew : Tr Try.prog 17 #[] [] [] (TX (fun _ : Nat => True) (fun D => .pointer (some ⟨D, 0, none⟩)) fun D => [dgc D []]) := fun w _ _ => by
  refine (new_any w).mono ?_
  rintro e w' ⟨D, he, hD, hdg, hb⟩
  refine ⟨_, _, he, ⟨D, trivial, rfl, rfl⟩, (Chg.none_of_below hb).mono fun b hb => hb.elim, fun c hc => ?_, fun c hc k hk => ?_, by simp⟩
  · obtain rfl : c = _ := by simpa using hc
    exact hdg
  · obtain rfl : c = _ := by simpa using hc
    obtain rfl : k = D := hk
    obtain ⟨_, _, hr⟩ := hdg
    exact ⟨.inr hD, hr.lt⟩
theorem dgWrite {Pu : Nat → Prop} (D : Nat) (v : Value) (m xs : List UInt8) (hs : m.length + xs.length ≤ 1000000000) : Tr Try.prog 18 #[.pointer (some ⟨D, 0, none⟩), v] [slc rByte Pu v xs] [dgc D m] (TX (fun _ : Unit => True) (fun _ => .tuple #[]) fun _ => [dgc D (m ++ xs)]) := fun w hro hp => by
  have hr := hro _ (List.mem_cons_self ..)
  have hd : DigOf w D m := hp.holds _ (List.mem_cons_self ..)
  obtain ⟨⟨ad, cap, bb, off, rfl, hsl⟩, hP⟩ := hr
  refine (write_any D _ m xs w hd ⟨ad, bb, off, cap, rfl, hsl.hcap, by unfold maxLen; have := hsl.hmax; omega, hsl.hnil, fun h0 => ⟨hsl.had h0, fun e => (hP _ (hsl.cell 0 h0).1).2 ⟨_, List.mem_cons_self .., e⟩⟩, fun i hi => (hsl.cell i hi).2.1⟩ hs).mono ?_
  rintro e w' ⟨he, hdg, hc⟩
  refine ⟨_, _, he, ⟨(), trivial, rfl, rfl⟩, hc.mono fun b hb => ⟨_, List.mem_cons_self .., hb⟩, fun c hc => ?_, fun c hc k hk => ?_, by simp⟩
  · obtain rfl : c = _ := by simpa using hc
    exact hdg
  · obtain rfl : c = _ := by simpa using hc
    obtain rfl : k = D := hk
    obtain ⟨_, _, hr⟩ := hdg
    exact ⟨.inl ⟨_, List.mem_cons_self .., rfl⟩, hr.lt⟩
theorem dgSum (D : Nat) (m : List UInt8) (hs : m.length ≤ 1000000) : Tr Try.prog 20 #[.pointer (some ⟨D, 0, none⟩)] [dgc D m] [] (T0 (.agg ((sumM m).map vByte).toArray)) := fun w hro _ => by
  rw [← aggB_eq]
  refine (sumD_any D m w (hro _ (List.mem_cons_self ..)).1 hs).mono ?_
  rintro e w' ⟨he, hb⟩
  exact ⟨_, [], he, ⟨rfl, rfl⟩, (Chg.none_of_below hb).mono fun b hb => hb.elim, by simp, by simp, .nil⟩
theorem dgLen (D : Nat) (m : List UInt8) (hs : m.length ≤ 1000000000) : Tr Try.prog 21 #[.pointer (some ⟨D, 0, none⟩)] [dgc D m] [] (T0 (.int .i64 (m.length : Int))) := fun w hro _ => by
  refine (len_any w D m (hro _ (List.mem_cons_self ..)).1 hs).mono ?_
  rintro e w' ⟨he, rfl⟩
  exact ⟨_, [], he, ⟨rfl, rfl⟩, Chg.refl _ _, by simp, by simp, .nil⟩
theorem sumT {Pu : Nat → Prop} (v : Value) (b : List UInt8) (hl : b.length ≤ 1000000) : Tr Try.prog 12 #[v] [slc rByte Pu v b] [] (T0 (.agg ((sumM b).map vByte).toArray)) := fun w hro _ => by
  have hr := hro _ (List.mem_cons_self ..)
  rw [← aggB_eq]
  refine (sum_any w.heap.size v b w (Nat.le_refl _) (slByte_of hr.1 fun k hk => (hr.2 k hk).1) hl).mono ?_
  rintro e w' ⟨he, hb⟩
  exact ⟨_, [], he, ⟨rfl, rfl⟩, (Chg.none_of_below hb).mono fun b hb => hb.elim, by simp, by simp, .nil⟩
theorem take_drop_take {α : Type} (l : List α) {i j : Nat} (h : i ≤ j) : l.take i ++ (l.take j).drop i = l.take j := by
  have e : (l.take j).take i = l.take i := by rw [List.take_take, Nat.min_eq_left h]
  rw [← e, List.take_append_drop]
set_option maxRecDepth 20000 in
set_option maxHeartbeats 4000000 in

theorem pieces_tr {Pb Pc : Nat → Prop} (bv cv : Value) (b : List UInt8) (cuts : List Int) : Tr Try.prog 9 #[bv, cv] [slc rByte Pb bv b, slc rInt Pc cv cuts] [] (T0 (.bool true)) := by
  refine Tr.of (l := [(0, bv), (1, cv)]) Try.func9 rfl (n := 91) rfl (.cons rfl (.cons rfl .nil)) (fun w0 hro => ?_)
  obtain ⟨hb, hc⟩ := ro2 hro
  have hb0 := hb
  have hc0 := hc
  obtain ⟨ad, cap, bb, off, rfl, hcap, hmax, hnil, had, hel⟩ := Ro.open hb
  obtain ⟨adc, capc, bc, offc, rfl, hcapc, hmaxc, hnilc, hadc, helc⟩ := Ro.open hc
  obtain ⟨sm, hsm⟩ : ∃ s, sumM b = s := ⟨_, rfl⟩
  have hs0 := sumM_length b
  rw [hsm] at hs0
  obtain ⟨nm, hnm⟩ : ∃ s, sm.take 16 = s := ⟨_, rfl⟩
  have ht0 : nm.length = 16 := by rw [← hnm, List.length_take, hs0]; rfl
  refine G.seq ?_
  refine G.region ?_
  refine G.op rfl (G.val rfl rfl (pv_assign rfl) ?_)
  refine G.nil ?_
  refine G.nThen ?_
  refine G.seq ?_
  refine G.region ?_
  refine G.op rfl (G.cR rfl rfl rfl rfl Try.func8 rfl rfl may0 (dknown_tr) ?_)
  refine G.op rfl (G.val rfl rfl (pv_assign rfl) ?_)
  refine G.nil ?_
  refine G.nThen ?_
  refine G.seq ?_
  refine G.seq ?_
  refine G.region ?_
  refine G.op rfl (G.val rfl rfl (pv_move rfl) ?_)
  refine G.op rfl (G.val rfl rfl (pv_lenSl Try.underlying22 rfl) ?_)
  refine G.op rfl (G.val rfl rfl (pv_gtr rfl rfl) ?_)
  refine G.op rfl (G.val rfl rfl (pv_move rfl) ?_)
  refine G.partP (t := 18) rfl (fun h18 => ?_) (fun h18 => ?_)
  · refine G.pass rfl rfl rfl rfl rfl rfl ?_
    refine G.pass rfl rfl rfl rfl rfl rfl ?_
    refine G.pass rfl rfl rfl rfl rfl rfl ?_
    refine G.op rfl (G.val rfl rfl (pv_pick rfl rfl) ?_)
    refine G.nil ?_
    refine G.nThen ?_
    refine G.condT rfl (rfl) ?_
    refine G.seq ?_
    refine G.region ?_
    refine G.op rfl (G.val rfl rfl (pv_move rfl) ?_)
    refine G.op rfl (G.val rfl rfl (pv_assign rfl) ?_)
    refine G.nil ?_
    refine G.nThen ?_
    refine G.ret ?_
    refine G.rThen ?_
    exact G.done0G rfl (Rv.tmp rfl Rv.nil) (by first | rfl | exact int_eq (by omega) | (simp; done))
  · refine G.want rfl rfl rfl (G.val rfl rfl (pv_move rfl) ?_)
    refine G.want rfl rfl rfl (G.val rfl rfl (pv_lenSl Try.underlying55 rfl) ?_)
    refine G.want rfl rfl rfl (G.val rfl rfl (pv_gtr rfl rfl) ?_)
    refine G.op rfl (G.val rfl rfl (pv_pick rfl rfl) ?_)
    refine G.nil ?_
    refine G.nThen ?_
    refine G.condP rfl (fun h22 => ?_) (fun h22 => ?_)
    · refine G.seq ?_
      refine G.region ?_
      refine G.op rfl (G.val rfl rfl (pv_move rfl) ?_)
      refine G.op rfl (G.val rfl rfl (pv_assign rfl) ?_)
      refine G.nil ?_
      refine G.nThen ?_
      refine G.ret ?_
      refine G.rThen ?_
      exact G.done0G rfl (Rv.tmp rfl Rv.nil) (by first | rfl | exact int_eq (by omega) | (simp; done))
    · have hbl : b.length ≤ 1000 := by omega
      refine G.skip ?_
      refine G.nThen ?_
      refine G.seq ?_
      refine G.region ?_
      refine G.op rfl (G.cS rfl rfl rfl rfl Try.func17 rfl rfl (by repeat (first | exact Sub.nil | (apply Sub.cons; (repeat (first | with_reducible exact Sel.here | exact Sel.here | apply Sel.there))))) may0 (dgNew) (by repeat (first | exact Ap.nil | apply Ap.cons)) ?_)
      intro x24 hJ
      try dsimp only at hJ
      try dsimp only
      refine G.op rfl (G.val rfl rfl (pv_assign rfl) ?_)
      refine G.nil ?_
      refine G.nThen ?_
      refine G.seq ?_
      refine G.seq ?_
      refine G.region ?_
      refine G.op rfl (G.val rfl rfl (pv_move rfl) ?_)
      refine G.op rfl (G.val rfl rfl ((pv_eqlP0 Try.underlying33 rfl rfl).cast (v' := .bool false) rfl) ?_)
      refine G.nil ?_
      refine G.nThen ?_
      refine G.condF rfl (rfl) ?_
      refine G.skip ?_
      refine G.nThen ?_
      refine G.seq ?_
      refine G.region ?_
      refine G.op rfl (G.val rfl rfl (pv_assign rfl) ?_)
      refine G.nil ?_
      refine G.nThen ?_
      refine G.seq ?_
      refine G.seq ?_
      refine G.region ?_
      refine G.op rfl (G.val rfl rfl (pv_assign rfl) ?_)
      refine G.nil ?_
      refine G.nThen ?_
      refine G.block ?_
      refine G.loopK (X := Nat × Nat) (ts := [0, 1, 4, 5, 6]) (fun st => st.1 ≤ cuts.length ∧ (st.2 ≤ b.length)) (fun st => [(8, .int .i64 (st.1 : Int)), (7, .int .i64 (st.2 : Int))]) (fun st => [dgc x24 (b.take st.2)]) (fun st => cuts.length - st.1) (x0 := (0, 0)) (.cons rfl (.cons rfl (.cons rfl (.cons rfl (.cons rfl .nil))))) (by repeat (first | exact Sub.nil | (apply Sub.cons; (repeat (first | with_reducible exact Sel.here | exact Sel.here | apply Sel.there))))) (.cons (.cons .nil)) (by repeat (first | exact Ap.nil | apply Ap.cons)) (by first | exact trivial | ((try dsimp only) <;> exact ⟨Nat.zero_le _, Nat.zero_le _⟩)) (.consE rfl (by first | rfl | exact int_eq (by first | omega | (dsimp only; omega)) | exact congrArg _ (by omega)) (.consE rfl (by first | rfl | exact int_eq (by first | omega | (dsimp only; omega)) | exact congrArg _ (by omega)) .nil)) (fun st hJ => ?_)
      obtain ⟨i, a⟩ := st
      try dsimp only at hJ
      try dsimp only
      obtain ⟨hki, hJ⟩ := hJ
      refine G.seq ?_
      refine G.seq ?_
      refine G.region ?_
      refine G.op rfl (G.val rfl rfl (pv_move rfl) ?_)
      refine G.op rfl (G.val rfl rfl (pv_move rfl) ?_)
      refine G.op rfl (G.val rfl rfl (pv_lenSl Try.underlying55 rfl) ?_)
      refine G.op rfl (G.val rfl rfl (pv_lss rfl rfl) ?_)
      refine G.nil ?_
      refine G.nThen ?_
      refine G.condP rfl (fun h30 => ?_) (fun h30 => ?_)
      · have hlt : i < cuts.length := by omega
        have hE := helc i hlt
        have hJa := hJ
        obtain ⟨r, hr1, hr2, hr3⟩ : ∃ r : Int, cuts[i].tmod 130 = r ∧ -130 < r ∧ r < 130 := ⟨_, rfl, Int.lt_tmod_of_pos _ (by decide), Int.tmod_lt_of_pos _ (by decide)⟩
        refine G.skip ?_
        refine G.nThen ?_
        refine G.seq ?_
        refine G.block ?_
        refine G.seq ?_
        refine G.region ?_
        refine G.op rfl (G.val rfl rfl (pv_move rfl) ?_)
        refine G.op rfl (G.val rfl rfl (pv_move rfl) ?_)
        refine G.op rfl (G.val rfl rfl (pv_ixSl (sz := 1) Try.underlying55 (by kernel_rfl) rfl rfl (by first | with_reducible assumption | assumption | exact fun _ => rfl) rfl (by omega)) ?_)
        refine G.op rfl (G.val rfl rfl (pv_load Try.underlying3 rfl rfl (by first | exact blk_cell (by (repeat (first | with_reducible exact Sel.here | exact Sel.here | apply Sel.there)); done) (by rfl) | exact rng_cell (by (repeat (first | with_reducible exact Sel.here | exact Sel.here | apply Sel.there)); done) (by rfl) | exact ro_blk (by assumption) (by rfl) | exact ro_rngC (by assumption) (by rfl) | exact ro_int (by assumption) | exact ro_byte (by assumption) | exact ro_str (by assumption) | with_reducible assumption | assumption)) ?_)
        refine G.op rfl (G.val rfl rfl ((pv_remk rfl rfl (by decide)).int (b := r) hr1) ?_)
        refine G.op rfl (G.val rfl rfl (pv_assign rfl) ?_)
        refine G.nil ?_
        refine G.nThen ?_
        refine G.seq ?_
        refine G.cutK (X := Nat) (ts := [0, 1, 4, 5, 6, 7, 8]) (p := []) (fun n => n < 130) (fun n => [(9, .int .i64 (n : Int))]) (fun n => []) (.cons rfl (.cons rfl (.cons rfl (.cons rfl (.cons rfl (.cons rfl (.cons rfl .nil))))))) (by repeat (first | exact Sub.nil | (apply Sub.cons; (repeat (first | with_reducible exact Sel.here | exact Sel.here | apply Sel.there))))) (.cons .nil) (by repeat (first | exact Ap.nil | apply Ap.cons)) ?_ ?_
        · refine G.seq ?_
          refine G.region ?_
          refine G.op rfl (G.val rfl rfl (pv_move rfl) ?_)
          refine G.op rfl (G.val rfl rfl (pv_lss rfl rfl) ?_)
          refine G.nil ?_
          refine G.nThen ?_
          refine G.condP rfl (fun h39 => ?_) (fun h39 => ?_)
          · refine G.region ?_
            refine G.op rfl (G.val rfl rfl (pv_move rfl) ?_)
            refine G.op rfl (G.val rfl rfl (pv_neg64 rfl (by omega)) ?_)
            refine G.op rfl (G.val rfl rfl (pv_assign rfl) ?_)
            refine G.nil ?_
            exact G.meet ((-r).toNat) (by first | exact trivial | ((try dsimp only) <;> exact by omega)) (.consE rfl (by first | rfl | exact int_eq (by first | omega | (dsimp only; omega)) | exact congrArg _ (by omega)) (.cons rfl (.cons rfl (.cons rfl (.cons rfl (.cons rfl (.cons rfl (.cons rfl .nil)))))))) (by repeat (first | exact Sub.nil | (apply Sub.cons; (repeat (first | with_reducible exact Sel.here | exact Sel.here | apply Sel.there)))))
          · refine G.skip ?_
            exact G.meet (r.toNat) (by first | exact trivial | ((try dsimp only) <;> exact by omega)) (.consE rfl (by first | rfl | exact int_eq (by first | omega | (dsimp only; omega)) | exact congrArg _ (by omega)) (.cons rfl (.cons rfl (.cons rfl (.cons rfl (.cons rfl (.cons rfl (.cons rfl .nil)))))))) (by repeat (first | exact Sub.nil | (apply Sub.cons; (repeat (first | with_reducible exact Sel.here | exact Sel.here | apply Sel.there)))))
        · intro n hJ
          try dsimp only at hJ
          try dsimp only
          refine G.seq ?_
          refine G.region ?_
          refine G.op rfl (G.val rfl rfl (pv_move rfl) ?_)
          refine G.op rfl (G.val rfl rfl (pv_move rfl) ?_)
          refine G.op rfl (G.val rfl rfl (pv_add64 rfl rfl (by omega)) ?_)
          refine G.op rfl (G.val rfl rfl (pv_move rfl) ?_)
          refine G.op rfl (G.val rfl rfl (pv_lenSl Try.underlying22 rfl) ?_)
          refine G.op rfl (G.val rfl rfl ((pv_min rfl rfl).int rfl) ?_)
          obtain ⟨t, ht0', ht1, ht2⟩ : ∃ t : Nat, (if (b.length : Int) < (a : Int) + (n : Int) then (b.length : Int) else (a : Int) + (n : Int)) = (t : Int) ∧ a ≤ t ∧ t ≤ b.length := (by split; exact ⟨b.length, rfl, by omega, Nat.le_refl _⟩; exact ⟨a + n, by omega, by omega, by omega⟩)
          rw [ht0']
          have hsub := Ro.sub hb0 ht1 ht2
          have hln : ((b.take t).drop a).length = t - a := by rw [List.length_drop, List.length_take, Nat.min_eq_left ht2]
          refine G.op rfl (G.val rfl rfl (pv_assign rfl) ?_)
          refine G.nil ?_
          refine G.nThen ?_
          refine G.seq ?_
          refine G.region ?_
          refine G.op rfl (G.val rfl rfl (pv_move rfl) ?_)
          refine G.op rfl (G.val rfl rfl (pv_move rfl) ?_)
          refine G.op rfl (G.val rfl rfl (pv_move rfl) ?_)
          refine G.op rfl (G.val rfl rfl (pv_move rfl) ?_)
          refine G.op rfl (G.val rfl rfl (pv_subLH (sz := 1) (k := a) (k' := t) Try.underlying22 (by kernel_rfl) rfl rfl rfl rfl rfl ht1 (Nat.le_trans ht2 hcap)) ?_)
          refine G.op rfl (G.cS rfl rfl rfl rfl Try.func18 rfl rfl (by repeat (first | exact Sub.nil | (apply Sub.cons; (repeat (first | with_reducible exact Sel.here | exact Sel.here | apply Sel.there))))) (may1 (.old hsub)) (dgWrite _ _ (b.take a) ((b.take t).drop a) (by rw [List.length_take]; have := hln; have := hbl; omega)) (by repeat (first | exact Ap.nil | apply Ap.cons)) ?_)
          intro x53 hJ
          try dsimp only at hJ
          try dsimp only
          rw [take_drop_take _ ht1]
          refine G.nil ?_
          refine G.nThen ?_
          refine G.seq ?_
          refine G.region ?_
          refine G.op rfl (G.val rfl rfl (pv_move rfl) ?_)
          refine G.op rfl (G.cR rfl rfl rfl rfl Try.func20 rfl rfl (may1 (Sel.may (by repeat (first | with_reducible exact Sel.here | exact Sel.here | apply Sel.there)))) (dgSum _ (b.take t) (by rw [List.length_take]; omega)) ?_)
          refine G.nil ?_
          refine G.nThen ?_
          refine G.region ?_
          refine G.op rfl (G.val rfl rfl (pv_move rfl) ?_)
          refine G.op rfl (G.val rfl rfl (pv_assign rfl) ?_)
          refine G.nil ?_
          refine G.nBlock ?_
          refine G.nThen ?_
          refine G.region ?_
          refine G.op rfl (G.val rfl rfl (pv_move rfl) ?_)
          refine G.op rfl (G.val rfl rfl (pv_add64 rfl rfl (by omega)) ?_)
          refine G.op rfl (G.val rfl rfl (pv_assign rfl) ?_)
          refine G.nil ?_
          exact G.next ((i + 1, t)) (by first | exact trivial | ((try dsimp only) <;> exact ⟨by omega, ht2⟩)) (by (try dsimp only); omega) (.consE rfl (by first | rfl | exact int_eq (by first | omega | (dsimp only; omega)) | exact congrArg _ (by omega)) (.consE rfl (by first | rfl | exact int_eq (by first | omega | (dsimp only; omega)) | exact congrArg _ (by omega)) (.cons rfl (.cons rfl (.cons rfl (.cons rfl (.cons rfl .nil))))))) (by repeat (first | exact Sub.nil | (apply Sub.cons; (repeat (first | with_reducible exact Sel.here | exact Sel.here | apply Sel.there)))))
      · refine G.exit ?_
        refine G.eThen ?_
        refine G.eThen ?_
        refine G.eBlock ?_
        refine G.nThen ?_
        refine G.seq ?_
        refine G.region ?_
        refine G.op rfl (G.val rfl rfl (pv_move rfl) ?_)
        refine G.op rfl (G.val rfl rfl (pv_move rfl) ?_)
        refine G.op rfl (G.val rfl rfl (pv_move rfl) ?_)
        refine G.op rfl (G.val rfl rfl (pv_subL (sz := 1) (k := a) Try.underlying22 (by kernel_rfl) rfl rfl rfl hJ) ?_)
        have hJb := hJ
        have hsub := Ro.sub hb0 hJ (Nat.le_refl _)
        have hln : ((b.take b.length).drop a).length = b.length - a := by rw [List.length_drop, List.length_take, Nat.min_self]
        refine G.op rfl (G.cS rfl rfl rfl rfl Try.func18 rfl rfl (by repeat (first | exact Sub.nil | (apply Sub.cons; (repeat (first | with_reducible exact Sel.here | exact Sel.here | apply Sel.there))))) (may1 (.old hsub)) (dgWrite _ _ (b.take a) ((b.take b.length).drop a) (by rw [List.length_take]; have := hln; have := hbl; omega)) (by repeat (first | exact Ap.nil | apply Ap.cons)) ?_)
        intro x61 hJ
        try dsimp only at hJ
        try dsimp only
        rw [take_drop_take _ hJb, List.take_length]
        refine G.nil ?_
        refine G.nThen ?_
        refine G.seq ?_
        refine G.region ?_
        refine G.op rfl (G.val rfl rfl (pv_move rfl) ?_)
        refine G.op rfl (G.cR rfl rfl rfl rfl Try.func12 rfl rfl (may1 (.old hb0)) (sumT _ b (by omega)) ?_)
        rw [hsm]
        refine G.op rfl (G.alloc (z := .agg #[.int .u8 0, .int .u8 0, .int .u8 0, .int .u8 0, .int .u8 0, .int .u8 0, .int .u8 0, .int .u8 0, .int .u8 0, .int .u8 0, .int .u8 0, .int .u8 0, .int .u8 0, .int .u8 0, .int .u8 0, .int .u8 0, .int .u8 0, .int .u8 0, .int .u8 0, .int .u8 0, .int .u8 0, .int .u8 0, .int .u8 0, .int .u8 0, .int .u8 0, .int .u8 0, .int .u8 0, .int .u8 0, .int .u8 0, .int .u8 0, .int .u8 0, .int .u8 0]) (cs := [.int .u8 0, .int .u8 0, .int .u8 0, .int .u8 0, .int .u8 0, .int .u8 0, .int .u8 0, .int .u8 0, .int .u8 0, .int .u8 0, .int .u8 0, .int .u8 0, .int .u8 0, .int .u8 0, .int .u8 0, .int .u8 0, .int .u8 0, .int .u8 0, .int .u8 0, .int .u8 0, .int .u8 0, .int .u8 0, .int .u8 0, .int .u8 0, .int .u8 0, .int .u8 0, .int .u8 0, .int .u8 0, .int .u8 0, .int .u8 0, .int .u8 0, .int .u8 0]) rfl (by kernel_rfl) rfl ?_)
        intro b11
        refine G.op rfl (G.storeN (vs := sm.map vByte) (by rw [List.length_map, hs0]; kernel_rfl) rfl rfl (List.all_eq_true.2 (vByte_one _)) (by repeat (first | with_reducible exact Sel.here | exact Sel.here | apply Sel.there)) (by simp [hs0]) ?_)
        rw [show putN [Value.int .u8 0, Value.int .u8 0, Value.int .u8 0, Value.int .u8 0, Value.int .u8 0, Value.int .u8 0, Value.int .u8 0, Value.int .u8 0, Value.int .u8 0, Value.int .u8 0, Value.int .u8 0, Value.int .u8 0, Value.int .u8 0, Value.int .u8 0, Value.int .u8 0, Value.int .u8 0, Value.int .u8 0, Value.int .u8 0, Value.int .u8 0, Value.int .u8 0, Value.int .u8 0, Value.int .u8 0, Value.int .u8 0, Value.int .u8 0, Value.int .u8 0, Value.int .u8 0, Value.int .u8 0, Value.int .u8 0, Value.int .u8 0, Value.int .u8 0, Value.int .u8 0, Value.int .u8 0] 0 (sm.map vByte) = sm.map vByte from putN_all _ _ [] (by rw [List.length_map, hs0]; rfl)]
        refine G.nil ?_
        refine G.nThen ?_
        refine G.seq ?_
        refine G.region ?_
        refine G.op rfl (G.val rfl rfl (pv_move rfl) ?_)
        refine G.op rfl (G.cR rfl rfl rfl rfl Try.func14 rfl rfl (may1 (.old hb0)) (idT _ b (by omega)) ?_)
        rw [hsm, hnm]
        refine G.op rfl (G.alloc (z := .agg #[.int .u8 0, .int .u8 0, .int .u8 0, .int .u8 0, .int .u8 0, .int .u8 0, .int .u8 0, .int .u8 0, .int .u8 0, .int .u8 0, .int .u8 0, .int .u8 0, .int .u8 0, .int .u8 0, .int .u8 0, .int .u8 0]) (cs := [.int .u8 0, .int .u8 0, .int .u8 0, .int .u8 0, .int .u8 0, .int .u8 0, .int .u8 0, .int .u8 0, .int .u8 0, .int .u8 0, .int .u8 0, .int .u8 0, .int .u8 0, .int .u8 0, .int .u8 0, .int .u8 0]) rfl (by kernel_rfl) rfl ?_)
        intro b12
        refine G.op rfl (G.storeN (vs := nm.map vByte) (by rw [List.length_map, ht0]; kernel_rfl) rfl rfl (List.all_eq_true.2 (vByte_one _)) (by repeat (first | with_reducible exact Sel.here | exact Sel.here | apply Sel.there)) (by simp [ht0]) ?_)
        rw [show putN [Value.int .u8 0, Value.int .u8 0, Value.int .u8 0, Value.int .u8 0, Value.int .u8 0, Value.int .u8 0, Value.int .u8 0, Value.int .u8 0, Value.int .u8 0, Value.int .u8 0, Value.int .u8 0, Value.int .u8 0, Value.int .u8 0, Value.int .u8 0, Value.int .u8 0, Value.int .u8 0] 0 (nm.map vByte) = nm.map vByte from putN_all _ _ [] (by rw [List.length_map, ht0]; rfl)]
        refine G.nil ?_
        refine G.nThen ?_
        refine G.seq ?_
        refine G.seq ?_
        refine G.region ?_
        refine G.op rfl (G.val rfl rfl (pv_assign rfl) ?_)
        refine G.nil ?_
        refine G.nThen ?_
        refine G.block ?_
        refine G.loopK (X := Nat) (ts := [0, 5, 6, 11, 12]) (fun i => i ≤ 16 ∧ (True)) (fun i => [(13, .int .i64 (i : Int))]) (fun i => []) (fun i => 16 - i) (x0 := 0) (.cons rfl (.cons rfl (.cons rfl (.cons rfl (.cons rfl .nil))))) (by repeat (first | exact Sub.nil | (apply Sub.cons; (repeat (first | with_reducible exact Sel.here | exact Sel.here | apply Sel.there))))) (.cons .nil) (by repeat (first | exact Ap.nil | apply Ap.cons)) (by first | exact trivial | ((try dsimp only) <;> exact ⟨Nat.zero_le _, trivial⟩)) (.consE rfl (by first | rfl | exact int_eq (by first | omega | (dsimp only; omega)) | exact congrArg _ (by omega)) .nil) (fun i hJ => ?_)
        try dsimp only at hJ
        try dsimp only
        obtain ⟨hki, hJ⟩ := hJ
        refine G.seq ?_
        refine G.seq ?_
        refine G.region ?_
        refine G.op rfl (G.val rfl rfl (pv_move rfl) ?_)
        refine G.op rfl (G.val rfl rfl (pv_lss rfl rfl) ?_)
        refine G.nil ?_
        refine G.nThen ?_
        refine G.condP rfl (fun h67 => ?_) (fun h67 => ?_)
        · have hlt : i < 16 := by omega
          have e1 : (nm.map vByte)[0 + i * 1]? = some (.int .u8 (sm[i]'(by omega)).toNat) := (by rw [← hnm, List.getElem?_map, List.getElem?_take, if_pos (by omega), List.getElem?_eq_getElem (by omega)]; simp [vByte])
          have e2 : (sm.map vByte)[0 + i * 1]? = some (.int .u8 (sm[i]'(by omega)).toNat) := (by rw [List.getElem?_map, List.getElem?_eq_getElem (by omega)]; simp [vByte])
          refine G.skip ?_
          refine G.nThen ?_
          refine G.seq ?_
          refine G.block ?_
          refine G.seq ?_
          refine G.drawT (nn := 7) (p := []) (rem := 127) [0, 1, 2, 0, 8, 16, 36] [0, 1, 2, 0, 8, 16, 36] (by kernel_rfl) ⟨rfl, by kernel_rfl, by kernel_rfl⟩ (by repeat (first | exact Sub.nil | (apply Sub.cons; (repeat (first | with_reducible exact Sel.here | exact Sel.here | apply Sel.there))))) (by kernel_rfl) (fun hT24 => ?_)
          refine G.takeT hT24 (i := 0) (rem' := 126) rfl rfl rfl (by kernel_rfl) (fun _ _ _ h => h) rfl (pv_move rfl) (by repeat (first | exact Sub.nil | (apply Sub.cons; (repeat (first | with_reducible exact Sel.here | exact Sel.here | apply Sel.there))))) ?_
          refine G.takeT hT24 (i := 1) (rem' := 124) rfl rfl rfl (by kernel_rfl) (fun _ _ _ h => h) rfl (pv_ixA (sz := 1) (k := i) Try.underlying28 (by kernel_rfl) rfl rfl (by omega) (by omega)) (by repeat (first | exact Sub.nil | (apply Sub.cons; (repeat (first | with_reducible exact Sel.here | exact Sel.here | apply Sel.there))))) ?_
          refine G.takeT hT24 (i := 3) (rem' := 116) rfl rfl rfl (by kernel_rfl) (fun _ _ _ h => h) rfl (pv_move rfl) (by repeat (first | exact Sub.nil | (apply Sub.cons; (repeat (first | with_reducible exact Sel.here | exact Sel.here | apply Sel.there))))) ?_
          refine G.takeT hT24 (i := 4) (rem' := 100) rfl rfl rfl (by kernel_rfl) (fun _ _ _ h => h) rfl (pv_ixA (sz := 1) (k := i) Try.underlying25 (by kernel_rfl) rfl rfl (by omega) (by omega)) (by repeat (first | exact Sub.nil | (apply Sub.cons; (repeat (first | with_reducible exact Sel.here | exact Sel.here | apply Sel.there))))) ?_
          refine G.takeT hT24 (i := 2) (rem' := 96) rfl rfl rfl (by kernel_rfl) (fun _ _ _ h => h) rfl (pv_load Try.underlying5 rfl rfl (blk_cell (by (repeat (first | with_reducible exact Sel.here | exact Sel.here | apply Sel.there)); done) e1)) (by repeat (first | exact Sub.nil | (apply Sub.cons; (repeat (first | with_reducible exact Sel.here | exact Sel.here | apply Sel.there))))) ?_
          refine G.oneT hT24 (i := 5) (rem' := 64) (by kernel_rfl) (by kernel_rfl) ?_
          refine G.turnOp rfl rfl (G.val rfl rfl (pv_load Try.underlying5 rfl rfl (blk_cell (by (repeat (first | with_reducible exact Sel.here | exact Sel.here | apply Sel.there)); done) e2)) ?_)
          refine G.back (by repeat (first | exact Sub.nil | (apply Sub.cons; (repeat (first | with_reducible exact Sel.here | exact Sel.here | apply Sel.there))))) ?_
          refine G.takeT hT24 (i := 6) (rem' := 0) rfl rfl rfl (by kernel_rfl) (fun _ _ _ h => h) rfl ((pv_neq rfl rfl).cast (v' := .bool false) (congrArg Value.bool (by simp))) (by repeat (first | exact Sub.nil | (apply Sub.cons; (repeat (first | with_reducible exact Sel.here | exact Sel.here | apply Sel.there))))) ?_
          refine G.overT hT24 (by kernel_rfl) ?_
          refine G.nThen ?_
          refine G.condF rfl (rfl) ?_
          refine G.skip ?_
          refine G.nBlock ?_
          refine G.nThen ?_
          refine G.region ?_
          refine G.op rfl (G.val rfl rfl (pv_move rfl) ?_)
          refine G.op rfl (G.val rfl rfl (pv_add64 rfl rfl (by omega)) ?_)
          refine G.op rfl (G.val rfl rfl (pv_assign rfl) ?_)
          refine G.nil ?_
          exact G.next (i + 1) (by first | exact trivial | ((try dsimp only) <;> exact ⟨by omega, trivial⟩)) (by (try dsimp only); omega) (.consE rfl (by first | rfl | exact int_eq (by first | omega | (dsimp only; omega)) | exact congrArg _ (by omega)) (.cons rfl (.cons rfl (.cons rfl (.cons rfl (.cons rfl .nil)))))) (by repeat (first | exact Sub.nil | (apply Sub.cons; (repeat (first | with_reducible exact Sel.here | exact Sel.here | apply Sel.there)))))
        · refine G.exit ?_
          refine G.eThen ?_
          refine G.eThen ?_
          refine G.eBlock ?_
          refine G.nThen ?_
          refine G.seq ?_
          refine G.drawT (nn := 15) (p := []) (rem := 32767) [0, 1, 2, 6, 2, 26, 34, 72, 128, 384, 128, 1152, 2688, 4224, 16383] [0, 1, 2, 6, 2, 26, 34, 64, 128, 384, 128, 1152, 2688, 4224, 8192] (by kernel_rfl) ⟨rfl, by kernel_rfl, by kernel_rfl⟩ (by repeat (first | exact Sub.nil | (apply Sub.cons; (repeat (first | with_reducible exact Sel.here | exact Sel.here | apply Sel.there))))) (by kernel_rfl) (fun hT26 => ?_)
          refine G.takeT hT26 (i := 0) (rem' := 32766) rfl rfl rfl (by kernel_rfl) (fun _ _ _ h => h) rfl (pv_move rfl) (by repeat (first | exact Sub.nil | (apply Sub.cons; (repeat (first | with_reducible exact Sel.here | exact Sel.here | apply Sel.there))))) ?_
          refine G.takeT hT26 (i := 1) (rem' := 32764) rfl rfl rfl (by kernel_rfl) (fun _ _ _ h => h) rfl (pv_move rfl) (by repeat (first | exact Sub.nil | (apply Sub.cons; (repeat (first | with_reducible exact Sel.here | exact Sel.here | apply Sel.there))))) ?_
          refine G.takeT hT26 (i := 2) (rem' := 32760) rfl rfl rfl (by kernel_rfl) (fun _ _ _ h => h) rfl (pv_move rfl) (by repeat (first | exact Sub.nil | (apply Sub.cons; (repeat (first | with_reducible exact Sel.here | exact Sel.here | apply Sel.there))))) ?_
          refine G.takeT hT26 (i := 4) (rem' := 32744) rfl rfl rfl (by kernel_rfl) (fun _ _ _ h => h) rfl (pv_loadN (cs := sm.map vByte) Try.underlying25 rfl (by rw [List.length_map, hs0]; kernel_rfl) rfl (blk_range (k := 32) (by repeat (first | with_reducible exact Sel.here | exact Sel.here | apply Sel.there)) (List.take_of_length_le (by rw [List.drop_zero, List.length_map, hs0]; exact Nat.le_refl _)))) (by repeat (first | exact Sub.nil | (apply Sub.cons; (repeat (first | with_reducible exact Sel.here | exact Sel.here | apply Sel.there))))) ?_
          refine G.oneT hT26 (i := 3) (rem' := 32736) (by kernel_rfl) (by kernel_rfl) ?_
          refine G.turnOp rfl rfl (G.cR rfl rfl rfl rfl Try.func20 rfl rfl (may1 (Sel.may (by repeat (first | with_reducible exact Sel.here | exact Sel.here | apply Sel.there)))) (dgSum _ (b) (by omega)) ?_)
          rw [hsm]
          refine G.back (by repeat (first | exact Sub.nil | (apply Sub.cons; (repeat (first | with_reducible exact Sel.here | exact Sel.here | apply Sel.there))))) ?_
          refine G.takeT hT26 (i := 5) (rem' := 32704) rfl rfl rfl (by kernel_rfl) (fun _ _ _ h => h) rfl ((pv_eqlAr8 (a := sm) (b := sm) Try.underlying25 rfl (by kernel_rfl) Try.underlying5 (by kernel_rfl) rfl rfl hs0 hs0).cast (v' := .bool true) (congrArg Value.bool (by exact decide_eq_true rfl))) (by repeat (first | exact Sub.nil | (apply Sub.cons; (repeat (first | with_reducible exact Sel.here | exact Sel.here | apply Sel.there))))) ?_
          refine G.takeT hT26 (i := 6) (rem' := 32640) rfl rfl rfl (by kernel_rfl) (fun _ _ _ h => h) rfl (pv_pick rfl rfl) (by repeat (first | exact Sub.nil | (apply Sub.cons; (repeat (first | with_reducible exact Sel.here | exact Sel.here | apply Sel.there))))) ?_
          refine G.takeT hT26 (i := 7) (rem' := 32512) rfl rfl rfl (by kernel_rfl) (fun _ _ _ h => h) rfl (pv_move rfl) (by repeat (first | exact Sub.nil | (apply Sub.cons; (repeat (first | with_reducible exact Sel.here | exact Sel.here | apply Sel.there))))) ?_
          refine G.takeT hT26 (i := 8) (rem' := 32256) rfl rfl rfl (by kernel_rfl) (fun _ _ _ h => h) rfl (pv_move rfl) (by repeat (first | exact Sub.nil | (apply Sub.cons; (repeat (first | with_reducible exact Sel.here | exact Sel.here | apply Sel.there))))) ?_
          refine G.takeT hT26 (i := 10) (rem' := 31232) rfl rfl rfl (by kernel_rfl) (fun _ _ _ h => h) rfl (pv_move rfl) (by repeat (first | exact Sub.nil | (apply Sub.cons; (repeat (first | with_reducible exact Sel.here | exact Sel.here | apply Sel.there))))) ?_
          refine G.takeT hT26 (i := 11) (rem' := 29184) rfl rfl rfl (by kernel_rfl) (fun _ _ _ h => h) rfl (pv_lenSl Try.underlying22 rfl) (by repeat (first | exact Sub.nil | (apply Sub.cons; (repeat (first | with_reducible exact Sel.here | exact Sel.here | apply Sel.there))))) ?_
          refine G.oneT hT26 (i := 9) (rem' := 28672) (by kernel_rfl) (by kernel_rfl) ?_
          refine G.turnOp rfl rfl (G.cR rfl rfl rfl rfl Try.func21 rfl rfl (may1 (Sel.may (by repeat (first | with_reducible exact Sel.here | exact Sel.here | apply Sel.there)))) (dgLen _ b (by omega)) ?_)
          refine G.back (by repeat (first | exact Sub.nil | (apply Sub.cons; (repeat (first | with_reducible exact Sel.here | exact Sel.here | apply Sel.there))))) ?_
          refine G.takeT hT26 (i := 12) (rem' := 24576) rfl rfl rfl (by kernel_rfl) (fun _ _ _ h => h) rfl ((pv_eql rfl rfl).cast (v' := .bool true) (congrArg Value.bool (by exact decide_eq_true rfl))) (by repeat (first | exact Sub.nil | (apply Sub.cons; (repeat (first | with_reducible exact Sel.here | exact Sel.here | apply Sel.there))))) ?_
          refine G.takeT hT26 (i := 13) (rem' := 16384) rfl rfl rfl (by kernel_rfl) (fun _ _ _ h => h) rfl (pv_pick rfl rfl) (by repeat (first | exact Sub.nil | (apply Sub.cons; (repeat (first | with_reducible exact Sel.here | exact Sel.here | apply Sel.there))))) ?_
          refine G.takeT hT26 (i := 14) (rem' := 0) rfl rfl rfl (by kernel_rfl) (fun _ _ _ h => h) rfl (pv_assign rfl) (by repeat (first | exact Sub.nil | (apply Sub.cons; (repeat (first | with_reducible exact Sel.here | exact Sel.here | apply Sel.there))))) ?_
          refine G.overT hT26 (by kernel_rfl) ?_
          refine G.nThen ?_
          refine G.ret ?_
          exact G.done0G rfl (Rv.tmp rfl Rv.nil) (by first | rfl | exact int_eq (by omega) | (simp; done))
end Go.Proofs.Ytcgknadodpdblaa
