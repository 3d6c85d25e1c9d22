/- RetainLater, for inputs up to a bulk: who goes would go, too, if more snapshots had come by then. Conditions: none. -/
import Derived.Test.YtjjjonhjofllfaaRetP
import Derived.Test.YtjjjonhjofllfaaFrame
import Derived.Test.YtjjjonhjofllfaaRows
set_option linter.unusedVariables false
set_option linter.unusedSimpArgs false
namespace Go.Proofs.Ytjjjonhjofllfaa
open Go.RowKit Go.Maps Go.ChangeShapes Go.WideShapes Go.ChangeAt

theorem dcountFrom_append (p : Int → Bool) (xs ys : List Int) : ∀ seen, dcountFrom p seen (xs ++ ys) = dcountFrom p seen xs + dcountFrom p (seen ++ xs) ys := by
  induction xs with
  | nil => intro seen; simp [dcountFrom]
  | cons x r ih => intro seen; simp only [List.cons_append, dcountFrom, ih, List.append_assoc, List.nil_append]; omega
theorem laterM_append (l m : List Snap) (span x : Int) : laterM l span x ≤ laterM (l ++ m) span x := by
  unfold laterM dcount spansOf
  rw [List.map_append, dcountFrom_append]
  omega
theorem lastOf_append (l m : List Snap) (span : Int) (i : Nat) (hi : i < l.length) (h : lastOf (l ++ m) span i = true) : lastOf l span i = true := by
  have hi' : i < (l ++ m).length := by simp; omega
  rw [lastOf_eq _ _ _ hi'] at h
  rw [lastOf_eq _ _ _ hi]
  rw [List.getElem_append_left hi] at h
  simp only [Bool.not_eq_true', hasB, spansOf, List.map_append] at h ⊢
  rw [List.drop_append_of_le_length (by simp; omega)] at h
  simp only [List.contains_eq_mem, decide_eq_false_iff_not, List.mem_append, not_or] at h ⊢
  exact h.1
theorem getD_append (l m : List Snap) (i : Nat) (hi : i < l.length) : (l ++ m).getD i (0, 0) = l.getD i (0, 0) := by
  simp [List.getD, List.getElem?_append_left hi]
theorem staysM_append {l m : List Snap} {last span spans : Int} {i : Nat} (hi : i < l.length) (h : staysM (l ++ m) last span spans i = true) : staysM l last span spans i = true := by
  unfold staysM at h ⊢
  rw [getD_append l m i hi] at h
  have hl := laterM_append l m span ((l.getD i (0, 0)).2 / span)
  have hn : ((l ++ m).length : Int) = l.length + m.length := by simp
  simp only [Bool.or_eq_true, Bool.and_eq_true, decide_eq_true_eq] at h ⊢
  rcases h with (h | h) | ⟨h3, h4, h5⟩
  · exact .inl (.inl (by omega))
  · exact .inl (.inr (by omega))
  · exact .inr ⟨h3, lastOf_append l m span i hi h4, by omega⟩
theorem soundM_left {l m : List Snap} (h : soundM (l ++ m) = true) : soundM l = true := by
  unfold soundM at h ⊢
  rw [soundFrom_append] at h
  simp at h
  exact h.1
theorem told_later {l m : List Snap} {last span spans : Int} (hs : soundM (l ++ m) = true) (hc : checkM last span spans = 0) :
    ∀ x ∈ toldM l last span spans false, hasB (toldM (l ++ m) last span spans false) x = true := by
  intro x hx
  unfold toldM at hx ⊢
  rw [if_pos hc, if_pos (soundM_left hs)] at hx
  rw [if_pos hc, if_pos hs]
  unfold hasB
  rw [List.contains_iff_mem]
  simp only [toldTo, List.mem_map, List.mem_filter, List.mem_range, beq_iff_eq] at hx ⊢
  obtain ⟨i, ⟨hi, hst⟩, rfl⟩ := hx
  refine ⟨i, ⟨by simp; omega, ?_⟩, by rw [getD_append l m i hi]⟩
  cases hh : staysM (l ++ m) last span spans i with
  | false => rfl
  | true => rw [staysM_append hi hh] at hst; cases hst

/-- behind the two appends -/
structure LaterAt (w0 w : World) (last span spans : Int) (l all : List Snap) (v y : Value) : Prop where
  p : PolAt w0 w w0.heap.size last span spans
  arg : SlPair w.heap.size w v l
  own : SlPair w.heap.size w y all
theorem LaterAt.after {w0 w w' : World} {last span spans : Int} {l all : List Snap} {v y : Value} (h : LaterAt w0 w last span spans l all v y) (hb : Below w.heap.size w w') : LaterAt w0 w' last span spans l all v y :=
  ⟨h.p.after hb, SlPair.below h.arg hb hb.size, SlPair.below h.own hb hb.size⟩

set_option maxHeartbeats 2000000 in
theorem laterLaw_any (v u : Value) (l m : List Snap) (last span spans : Int) (w : World) (hv : SlPair w.heap.size w v l) (hu : SlPair w.heap.size w u m) (hk : l.length + m.length ≤ 1048576) :
    Calls Try.prog 7 #[v, u, .agg #[.int .i64 last, .int .i64 span, .int .i64 spans]] w fun e w' => e = .returned (.bool true) ∧ Below w.heap.size w w' := by
  have HV := Lib.hid hv; have HU := Lib.hid hu
  have HI := Lib.hid (SlPair.all hv); have HJ := Lib.hid (SlPair.all hu)
  obtain ⟨i0, hi, hj0, hj1, hj2⟩ := info_parts Try.infoSnap
  clear hv hu
  have HP := Lib.hid (PolAt.start w last span spans 24)
  go_enter Try.func7, Try.ntmps7
  go_wp2_with fail
  refine (awake_any _).mono ?_
  rintro e w1 ⟨rfl, hb1⟩
  have hP1 := HP.out.after hb1
  have hL1 : SlPair w1.heap.size w1 v l := SlPair.below HV.out hP1.below hP1.below.size
  have hM1 : SlPair w1.heap.size w1 u m := SlPair.below HU.out hP1.below hP1.below.size
  have c0 := hP1.c0; have c1 := hP1.c1; have c2 := hP1.c2
  have HP1 := Lib.hid hP1; have HL1 := Lib.hid hL1; have HM1 := Lib.hid hM1
  clear hP1 hL1 hM1 hb1
  have hown := World.ownsRow_lit (base := w1.heap.size) (e := 37) (size := 2) w1 #[] 0 (Nat.le_refl _) (by decide) rfl
  have HO := Lib.hid hown; clear hown
  have HB2 := Lib.hid (show Below w1.heap.size w1 (w1.alloc (.cells #[] 37)) from (Below.refl _ _).alloc (Nat.le_refl _) _)
  go_wp2_with (at_builtin; refine wpList_append_slice rfl (.tmp 15) (.tmp 16) 22 rfl w1.heap.size 37 i0 (.agg #[.int .i64 0, .int .i64 0]) 2 16 Try.underlying22 hi hj0 hj1 hj2 rfl (by decide) _ _ _ rfl HO.out encPair l _ rfl (SlPair.below HL1.out HB2.out (Nat.le_refl _)) (fun _ => rfl) (fun _ _ _ h => RPair.enc h) (oneCell_flat _ encPair_one _) (by unfold maxLen; omega) (by omega) (by simp) ?_)
  intro x w2 hown2 hgrow2
  have hb2 : Below w1.heap.size w1 w2 := HB2.out.grown hgrow2 (by simp) (fun k hk => by cases hk; exact Nat.le_refl _)
  have HB3 := Lib.hid hb2
  have hown3 : w2.ownsRow w1.heap.size 37 2 x l.length (l.flatMap encPair) := by simpa using hown2
  have HO3 := Lib.hid hown3
  have hz2 := hb2.size
  clear hb2 hown2 hown3 hgrow2
  go_wp2_with (at_builtin; refine wpList_append_slice rfl (.tmp 17) (.tmp 18) 22 rfl w1.heap.size 37 i0 (.agg #[.int .i64 0, .int .i64 0]) 2 16 Try.underlying22 hi hj0 hj1 hj2 rfl (by decide) _ _ _ rfl HO3.out encPair m _ rfl (SlPair.below HM1.out HB3.out (Nat.le_refl _)) (fun _ => rfl) (fun _ _ _ h => RPair.enc h) (oneCell_flat _ encPair_one _) (by unfold maxLen; omega) (by omega) (by omega) ?_)
  intro y w3 hown4 hgrow4
  have hb3 : Below w1.heap.size w1 w3 := HB3.out.grown hgrow4 hz2 (fun k hk => (HO3.out.lt k hk).1)
  have hy : SlPair w3.heap.size w3 y (l ++ m) := SlPair.of_owns (by simpa using hown4) (by simp) (fun s hs => (List.mem_append.1 hs).elim (HI.out s) (HJ.out s))
  have hA : LaterAt w w3 last span spans l (l ++ m) v y := ⟨HP1.out.after hb3, SlPair.below HL1.out hb3 hb3.size, hy⟩
  clear hb3 hown4 hgrow4 c0 c1 c2 hz2
  have HA := Lib.hid hA
  have c0 := hA.p.c0; have c1 := hA.p.c1; have c2 := hA.p.c2
  clear hA hy
  obtain ⟨all, hall⟩ : ∃ all, all = l ++ m := ⟨_, rfl⟩
  rw [← hall] at HA
  have HT := Lib.hid (show soundM all = true → checkM last span spans = 0 → ∀ x ∈ toldM l last span spans false, hasB (toldM all last span spans false) x = true by rw [hall]; exact fun h1 h2 => told_later h1 h2)
  have HS := Lib.hid (show soundM all = true → soundM l = true by rw [hall]; exact soundM_left)
  have hla : all.length = l.length + m.length := by rw [hall]; simp
  have HLA := Lib.hid (show all.length ≤ 100 → l.length ≤ 1000 by omega)
  clear hall hla
  obtain ⟨ay, capy, rfl, hmy⟩ := Sl.len HA.out.own
  by_cases hl : all.length ≤ 100
  · have hl' : ¬ 100 < all.length := by omega
    go_wp2_with fail
    refine (sound_any _ _ _ _ (Nat.le_refl _) HA.out.own).mono ?_
    rintro e w4 ⟨rfl, hb4⟩
    have hA4 := HA.out.after hb4
    clear c0 c1 c2
    have c0 := hA4.p.c0; have c1 := hA4.p.c1; have c2 := hA4.p.c2
    have HA4 := Lib.hid hA4
    clear hA4 hb4
    cases hs : soundM all with
    | false =>
      go_wp2
      go_ret
      exact ⟨rfl, HA4.out.p.below⟩
    | true =>
      go_wp2_with fail
      refine (check_any _ _ _ _).mono ?_
      rintro e w5 ⟨rfl, hb5⟩
      have hA5 := HA4.out.after hb5
      clear c0 c1 c2
      have c0 := hA5.p.c0; have c1 := hA5.p.c1; have c2 := hA5.p.c2
      have HA5 := Lib.hid hA5
      clear hA5 hb5
      by_cases hc : checkM last span spans = 0
      · have hcq : (checkM last span spans != 0) = false := by simp [hc]
        have HT := Lib.hid (HT.out hs hc)
        have he1 : toldE l last span spans = 0 := by unfold toldE; rw [if_pos hc, if_pos (HS.out hs)]
        have he2 : toldE all last span spans = 0 := by unfold toldE; rw [if_pos hc, if_pos hs]
        go_wp2_with fail
        refine (go_any _ _ l last span spans _ (Nat.le_refl _) HA5.out.arg (HLA.out hl)).mono ?_
        rintro e W6 ⟨y1, rfl, hy1, hb6⟩
        rw [he1]
        have hA6 := HA5.out.after hb6
        clear c0 c1 c2
        have c0 := hA6.p.c0; have c1 := hA6.p.c1; have c2 := hA6.p.c2
        have HA6 := Lib.hid hA6; have HY1 := Lib.hid hy1
        clear hA6 hb6 hy1
        go_wp2_with fail
        refine (go_any _ _ all last span spans _ (Nat.le_refl _) HA6.out.own (by omega)).mono ?_
        rintro e W7 ⟨y2, rfl, hy2, hb7⟩
        rw [he2]
        have HA7 := Lib.hid (HA6.out.after hb7); have HY1' := Lib.hid (SlInt.below HY1.out hb7 hb7.size); have HY2 := Lib.hid hy2
        clear hb7 hy2 HY1 c0 c1 c2
        obtain ⟨ax, bx, ox, cx, rfl, hcx, hmx, -, hax, hxc⟩ := HY1'.out
        have HX := Lib.hid hxc; have HAX := Lib.hid hax
        unfold maxLen at hmx
        clear hxc hax
        generalize hA1 : toldM l last span spans false = A1 at *
        generalize hA2 : toldM all last span spans false = A2 at *
        clear hA1 hA2
        have HCALL := Lib.hid (show ∀ (k n : Nat) (h : k < A1.length), Calls Try.prog 14 #[y2, .int .i64 A1[k]] (W7.drewN n) fun e w' => e = .returned (.bool true) ∧ w' = W7.drewN n from fun k n h =>
          (among_any _ _ _ _ _ (SlInt.below HY2.out (Below.drewN (Below.refl _ _) n) (Nat.le_refl _))).mono fun e w' ⟨he, hw⟩ => ⟨by rw [he, HT.out _ (List.getElem_mem h)], hw⟩)
        go_wp2_with fail
        go_loopw [13] (fun i wr => ∃ k n : Nat, k ≤ A1.length ∧ i = .int .i64 k ∧ wr = W7.drewN n) (fun i _ => A1.length - (intOf i).toNat)
        case atStart => exact ⟨0, 0, Nat.zero_le _, rfl, rfl⟩
        case round =>
          obtain ⟨k, n, hk, rfl, rfl⟩ := hrel
          by_cases hlt : k < A1.length
          · have e1 := (HAX.out (by omega)).1
            subst e1
            have r1 : (W7.drewN n).cell? ⟨bx, ox + k, none⟩ = some (.int .i64 A1[k]) := by have := (HX.out k hlt).1; rw [Nat.mul_one] at this; exact (World.cell?_drewN _ _ _).trans this
            go_wp2_with fail
            refine (HCALL.out k n hlt).mono ?_
            rintro e w' ⟨rfl, rfl⟩
            go_wp2
            go_roundw
            case rel => exact ⟨k + 1, _, by omega, by go_num, rfl⟩
            case measure => simp [intOf]; omega
          · go_wp2
            go_ret
            exact ⟨rfl, Below.drewN HA7.out.p.below n⟩
      · have hcq : (checkM last span spans != 0) = true := by simp [hc]
        go_wp2
        go_ret
        exact ⟨rfl, HA5.out.p.below⟩
  · have hl' : 100 < all.length := by omega
    go_wp2
    go_ret
    exact ⟨rfl, HA.out.p.below⟩

theorem sliceLen_le {H : Type} (d : DataW H) : sliceLen d ≤ Rows.uptoBulk d := by
  have one : ∀ d : DataW H, 1 ≤ Rows.uptoBulk d := by
    intro d
    cases d with
    | lit l => cases l <;> simp [Rows.uptoBulk]
    | _ => simp [Rows.uptoBulk]
  have all : ∀ l : List (DataW H), l.length ≤ Rows.uptoBulkAll l := by
    intro l
    induction l with
    | nil => simp [Rows.uptoBulkAll]
    | cons x r ih => have := one x; simp only [Rows.uptoBulkAll, List.length_cons]; omega
  cases d with
  | slice es sp => have := all es; simp only [sliceLen, Rows.uptoBulk]; omega
  | _ => simp [sliceLen]

set_option maxRecDepth 100000 in
theorem retainLater_contract (H : Type) (enc : TypeId × Value → H) (W : World) (base : Nat) (args : Array Value) (ds gs : List (DataW H)) (before : List MemPlace)
    (hval : ∀ (j : Nat) t v, Try.f7.params[j]? = some t → args[j]? = some v → Value.okWide Try.prog W .any base t v)
    (hW : DataW.Whole enc Try.prog Try.f7.params.toList Rows.retainLaterSpec.vars false W args.toList ds gs before) (hk : Rows.uptoSmall H (ds ++ gs) = true) :
    Calls Try.prog 7 args W fun e W' => ∃ v, e = .returned v ∧ Rows.retainLaterSpec.post enc Try.prog Try.f7 false true false false W args v W' := by
  have hlt := hW.lt
  obtain ⟨p, q, hA, hV, hpq, _, _⟩ := id hW
  obtain ⟨rfl, rfl⟩ := trodVars_none hV
  rw [Try.params7] at hA hval
  obtain ⟨v0, vs0, d0, ds0, p0, q0, hargs, rfl, rfl, h0, r0⟩ := trodAll_cons hA
  obtain ⟨v1, vs1, d1, ds1, p1, q1, rfl, rfl, rfl, h1, r1⟩ := trodAll_cons r0
  obtain ⟨v2, vs2, d2, ds2, p2, q2, rfl, rfl, rfl, h2, r2⟩ := trodAll_cons r1
  obtain ⟨rfl, rfl, rfl⟩ := ChangeShapes.trodAll_nil r2
  obtain rfl : args = #[v0, v1, v2] := by cases args; simp_all
  obtain ⟨l0, hl0, hn0⟩ := open_snaps (hval 0 _ _ rfl rfl) h0 (fun x hx => hlt x (by rw [hpq]; simp [hx]))
  obtain ⟨l1, hl1, hn1⟩ := open_snaps (hval 1 _ _ rfl rfl) h1 (fun x hx => hlt x (by rw [hpq]; simp [hx]))
  obtain ⟨x2, y2, z2, rfl, hx2, hy2, hz2⟩ := open_policy (hval 2 _ _ rfl rfl) h2
  refine (laterLaw_any v0 v1 l0 l1 x2 y2 z2 W hl0 hl1 (by have h0 := sliceLen_le d0; have h1 := sliceLen_le d1; simp [Rows.uptoSmall, Rows.uptoBulkAll] at hk; omega)).mono fun e W' ⟨he, hb⟩ => ?_
  subst he
  exact ⟨_, rfl, law_post hW (by rw [Try.params7]; intro t ht; simp at ht; first | (rcases ht with rfl | rfl | rfl <;> exact ⟨by kernel_rfl, of_decide_eq_true (by kernel_rfl)⟩) | exact ht.elim) rfl rfl rfl rfl rfl hb⟩

set_option maxRecDepth 100000 in
theorem retainLater_lifted (os : Os) (started : os.Started) (H : Type) (enc : TypeId × Value → H) (F : Stop.Interp) :
    ReturnsInHanded {} Try.checked os 7 .any ((Rows.OpenSpec.upto Rows.retainLaterSpec).pre6 enc Try.prog Try.f7 Rows.retainLaterUptoRow.domain false) (((Rows.OpenSpec.upto Rows.retainLaterSpec).at F).post enc Try.prog Try.f7 false true false false) := by
  refine returnsInHanded_of_cond (C := Try.checked) (s := (Rows.OpenSpec.upto Rows.retainLaterSpec)) (k := Rows.uptoSmall) rfl Try.own started (by kernel_rfl) Try.func7
    (OpenSpec.witness (enc := enc) (C := Try.checked) (s := (Rows.OpenSpec.upto Rows.retainLaterSpec)) (k := Rows.uptoSmall) rfl false ⟨#[], #[.slice none 0 0, .slice none 0 0, .agg #[.int .i64 0, .int .i64 0, .int .i64 0]], []⟩ 8 (by kernel_rfl) (by kernel_rfl) (by kernel_rfl)
      (x := ([.nil, .nil, .agg [.lit (.int .i64 0), .lit (.int .i64 0), .lit (.int .i64 0)]], [], [])) (by kernel_rfl) rfl (by kernel_rfl)) ?_
  intro W base args ds gs before hval hW _ hk _
  exact retainLater_contract H enc W base args ds gs before hval hW hk

theorem retainLater_holds : Rows.RetainLaterUptoSaid :=
  OpenClaim.holds_of_cond 7 Try.f7 rfl rfl rfl rfl rfl rfl rfl ⟨rfl, rfl, rfl, rfl, rfl⟩ rfl rfl rfl rfl rfl (by kernel_rfl) Try.func7 (by kernel_rfl)
    (of_decide_eq_true (by kernel_rfl)) (by unfold Func.isWrapper; first | (rw [if_pos (by decide +kernel)]; kernel_rfl) | (rw [if_neg (by decide +kernel)]; exact ⟨rfl, rfl⟩))
    (fun os started H enc _ F => retainLater_lifted os started H enc F)
end Go.Proofs.Ytjjjonhjofllfaa
