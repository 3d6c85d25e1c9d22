/- DigestTexts: which text an ID has, and which ID a text is. Conditions: none. -/
import Derived.Test.YtcgknadodpdblaaDigW
import Derived.Test.YtcgknadodpdblaaDigSums
import Derived.Test.YtcgknadodpdblaaOpenS
set_option linter.unusedVariables false
set_option linter.unusedSimpArgs false
namespace Go.Proofs.Ytcgknadodpdblaa
open Go.RowKit Go.Maps Go.ChangeShapes Go.WideShapes Go.ChangeAt

theorem rangeAt_below {w w' : World} {b : Nat} {L : List Value} (h : w.rangeAt b 0 L) (hb : Below w.heap.size w w') : w'.rangeAt b 0 L := fun j v hv =>
  hb.cell (cell_lt (h j v hv)) |>.trans (h j v hv)
theorem cell_below {w w' : World} {a : Addr} {v : Value} (h : w.cell? a = some v) (hb : Below w.heap.size w w') : w'.cell? a = some v := (hb.cell (cell_lt h)).trans h
theorem takeTo {P : Program} {md : Region.Mode} {ops : Array Oper} {Q : Exit → Act → World → Prop} {S : World → Prop} {i d : Nat} {oi : Oper} {v : Value} {fuel : Nat} {listed : Array Bool} {a : Act} {w : World} (hi : ops[i]? = some oi) (hd : oi.dst = some d)
    (hs : Region.noSelect ops = true) (hf : Region.free md ops listed i = true) (hr : (Region.ready md ops listed).contains i = true)
    (hQ : ∀ c a w, Q (.panic c) (a.put oi.dst v) w → Q (.panic c) a w) (hy : YieldsIf P ops S oi v a) (hS : S w)
    (h : wpAnyH P md ops Q S fuel (listed.setIfInBounds i true) (a.put (some d) v) w) : wpAnyH P md ops Q S (fuel + 1) listed a w :=
  wpAnyH_take hi hs hf hr hQ hy hS (by rw [hd]; exact h)
theorem pair_range {w : World} {b : Nat} {x y : Value} (h0 : w.cell? ⟨b, 0, none⟩ = some x) (h1 : w.cell? ⟨b, 1, none⟩ = some y) : w.rangeAt b 0 [x, y] := by
  intro j v hv
  match j with
  | 0 => simp at hv; subst hv; exact h0
  | 1 => simp at hv; subst hv; exact h1
  | j + 2 => simp at hv
/-- what lies in memory: the ID, and what the two readers told -/
structure TextsAt (w w' : World) (X Y : Nat) (LI LP : List Value) (e a : Int) : Prop where
  below : Below w.heap.size w w'
  ri : w'.rangeAt w.heap.size 0 LI
  rx : w'.rangeAt X 0 LP
  ry : w'.rangeAt Y 0 LP
  f0 : w'.cell? ⟨X + 1, 0, none⟩ = some (.int .i64 e)
  f1 : w'.cell? ⟨X + 1, 1, none⟩ = some (.int .i64 a)
  g0 : w'.cell? ⟨Y + 1, 0, none⟩ = some (.int .i64 e)
  g1 : w'.cell? ⟨Y + 1, 1, none⟩ = some (.int .i64 a)
namespace TextsAt
variable {w w' w2 : World} {X Y : Nat} {LI LP : List Value} {e a : Int}
theorem after (h : TextsAt w w' X Y LI LP e a) (hb : Below w'.heap.size w' w2) : TextsAt w w2 X Y LI LP e a :=
  ⟨Below.after h.below hb h.below.size, rangeAt_below h.ri hb, rangeAt_below h.rx hb, rangeAt_below h.ry hb, cell_below h.f0 hb, cell_below h.f1 hb, cell_below h.g0 hb, cell_below h.g1 hb⟩
theorem held (h : TextsAt w w' X Y LI LP e a) : w'.rangeAt w.heap.size 0 LI ∧ w'.rangeAt X 0 LP ∧ w'.rangeAt Y 0 LP ∧ w'.cell? ⟨X + 1, 0, none⟩ = some (.int .i64 e) ∧ w'.cell? ⟨X + 1, 1, none⟩ = some (.int .i64 a) ∧ w'.cell? ⟨Y + 1, 0, none⟩ = some (.int .i64 e) ∧ w'.cell? ⟨Y + 1, 1, none⟩ = some (.int .i64 a) ∧ TextsAt w w' X Y LI LP e a :=
  ⟨h.ri, h.rx, h.ry, h.f0, h.f1, h.g0, h.g1, h⟩
end TextsAt
theorem eqlStr (s : ByteArray) (w : World) : (binOp .eql 9 (.string s) (.string s)).run Try.prog w = .ok (.bool true) w := by
  simp [go_sem, run_underlying Try.underlying9]
theorem eqlFault (e a : Int) (w : World) : (binOp .eql 48 (.agg #[.int .i64 e, .int .i64 a]) (.agg #[.int .i64 e, .int .i64 a])).run Try.prog w = .ok (.bool true) w := by
  simp [go_sem, run_underlying Try.underlying48]
theorem told_heap (w : World) (A : Obj) (B C : Array Value) (t : TypeId) : (((w.alloc A).alloc (.cells B t)).setRow w.heap.size C).heap[w.heap.size + 1]? = some (.cells B t (0, 0)) :=
  (setRow_other _ _ _ _ (by omega)).trans (by have := heap_alloc_new (w.alloc A) (.cells B t); rwa [World.size_alloc] at this)
/-- what the two stores of an answer leave -/
theorem told (w : World) (A B : Array Value) (t t' : TypeId) (LP : List Value) (e a : Int) (V : World) (hV : ((((w.alloc (.cells A t)).alloc (.cells B t')).setRow w.heap.size LP.toArray).setRow (w.heap.size + 1) #[.int .i64 e, .int .i64 a]) = V) :
    Below w.heap.size w V ∧ V.rangeAt w.heap.size 0 LP ∧ V.cell? ⟨w.heap.size + 1, 0, none⟩ = some (.int .i64 e) ∧ V.cell? ⟨w.heap.size + 1, 1, none⟩ = some (.int .i64 a) ∧ V.heap.size = w.heap.size + 1 + 1 := by
  subst hV
  have g0 : ((((w.alloc (.cells A t)).alloc (.cells B t')).setRow w.heap.size LP.toArray).setRow (w.heap.size + 1) #[.int .i64 e, .int .i64 a]).heap[w.heap.size]? = some (.cells LP.toArray t (0, 0)) :=
    (setRow_other _ _ _ _ (by omega)).trans (setRow_heap _ _ _ _ _ (0, 0) (heap_alloc2_old _ _ _))
  have g1 := setRow_heap _ _ _ #[.int .i64 e, .int .i64 a] _ (0, 0) (told_heap w (.cells A t) B LP.toArray t')
  refine ⟨below_setRow (below_setRow (((Below.refl _ _).alloc (Nat.le_refl _) _).alloc (by simp) _) (Nat.le_refl _) _) (Nat.le_succ _) _, fun j v hv => ?_, ?_, ?_, by simp⟩
  · rw [cell_of_row _ _ _ _ _ _ g0, Nat.zero_add, List.getElem?_toArray]
    exact hv
  · rw [cell_of_row _ _ _ _ _ _ g1]; rfl
  · rw [cell_of_row _ _ _ _ _ _ g1]; rfl
set_option maxHeartbeats 8000000 in
set_option maxRecDepth 20000 in
theorem texts_walk (id s : List UInt8) (hid : id.length = 16) (hs : s.length < 2 ^ 63) (w : World) :
    Calls Try.prog 6 #[aggB id, .string (strB s)] w fun e w' => e = .returned (.bool true) ∧ Below w.heap.size w w' := by
  obtain ⟨n, hn⟩ : ∃ n, n = s.length := ⟨_, rfl⟩
  have hbs : n < 9223372036854775808 := by rw [hn]; exact hs
  have hp1 := fun (h : n ≤ 100) => parse_any s (by omega)
  have hp2 := fun (h : n ≤ 100) => parseR_any s (by omega)
  obtain ⟨sb, hsb⟩ : ∃ sb, sb = strB s := ⟨_, rfl⟩
  have hlen : sb.size = n := by rw [hsb, hn]; show s.toArray.size = _; simp
  rw [← hsb] at hp1 hp2 ⊢
  have ht1 := text_any id hid
  have ht2 := textR_any id hid
  obtain ⟨LI, hLI⟩ : ∃ LI, LI = id.flatMap encByte := ⟨_, rfl⟩
  have hLIs : LI.length = 16 := by rw [hLI, flatMap_length encByte 1 (fun _ => rfl)]; omega
  unfold aggB at ht1 ht2 ⊢
  rw [← hLI] at ht1 ht2 ⊢
  obtain ⟨T, hT⟩ : ∃ T, T = strB (textM id) := ⟨_, rfl⟩
  rw [← hT] at ht1 ht2
  have hpl : (parseB s).length = 16 := by unfold parseB; split <;> simp
  have hq2 := fun wx => eql16 (parseB s) hpl wx
  obtain ⟨LP, hLP⟩ : ∃ LP, LP = (parseB s).flatMap encByte := ⟨_, rfl⟩
  have hLPs : LP.length = 16 := by rw [hLP, flatMap_length encByte 1 (fun _ => rfl)]; omega
  have hLP1 : LP.toArray.all (·.oneCell') = true := by rw [hLP]; exact (bytesArr _).2
  obtain ⟨e0, he0⟩ : ∃ e0, e0 = parseE s := ⟨_, rfl⟩
  obtain ⟨a0, ha0⟩ : ∃ a0, a0 = parseAt s := ⟨_, rfl⟩
  unfold parsed faultV at hp1 hp2
  unfold aggB at hp1 hp2 hq2
  rw [← hLP] at hp1 hp2 hq2
  rw [← he0, ← ha0] at hp1 hp2
  have HP1 := Lib.hid hp1; have HP2 := Lib.hid hp2; have HT1 := Lib.hid ht1; have HT2 := Lib.hid ht2
  have HLIs := Lib.hid hLIs; have HLPs := Lib.hid hLPs; have HLP1 := Lib.hid hLP1; have HLPz := Lib.hid (show LP.toArray.size = 16 by rw [List.size_toArray, hLPs])
  clear hp1 hp2 ht1 ht2 hLI hT hLP he0 ha0 hsb hn hs hid hpl hLIs hLPs hLP1
  by_cases hbig : 100 < n
  · go_enter Try.func6, Try.ntmps6
    go_wp2_with fail
    refine (awake_any _).mono ?_
    rintro e w1 ⟨rfl, hb1⟩
    have HB1 := Lib.hid hb1; clear hb1
    go_wp2_with fail
    go_ret
    exact ⟨rfl, Below.after ((Below.refl _ _).alloc (Nat.le_refl _) _) HB1.out (by simp)⟩
  · go_enter Try.func6, Try.ntmps6
    go_wp2_with fail
    generalize hW0 : World.alloc w _ = W0
    have hb0 : Below w.heap.size w W0 := by subst hW0; exact (Below.refl _ _).alloc (Nat.le_refl _) _
    have hri0 : W0.rangeAt w.heap.size 0 LI := by
      subst hW0
      intro j v hv
      rw [cell_of_row _ _ _ LI.toArray _ (0, 0) (heap_alloc_new _ _), Nat.zero_add, List.getElem?_toArray]
      exact hv
    have HB0 := Lib.hid hb0; have HRI0 := Lib.hid hri0
    clear hW0 hb0 hri0
    refine (HP1.out (by omega) _).mono ?_
    rintro e w1 ⟨rfl, hb1⟩
    have HB1 := Lib.hid hb1; clear hb1
    have h28 : (Try.prog.info? 28).map (·.size) = some 16 := by kernel_rfl
    have h48 : (Try.prog.info? 48).map (·.size) = some 2 := by kernel_rfl
    go_upto_region 4 with (first | (refine wpList_store_row rfl 28 _ _ rfl w1.heap.size LP.toArray rfl rfl 28 _ (heap_alloc2_old _ _ _) (by rw [h28, HLPz.out]) (by rw [HLPz.out]; rfl) HLP1.out ?_) | (refine wpList_store_row rfl 48 _ _ rfl (w1.heap.size + 1) #[.int .i64 e0, .int .i64 a0] rfl rfl 48 _ (told_heap w1 _ _ _ _) h48 rfl (faultOne _ _) ?_) | fail)
    generalize hW2 : World.setRow (World.setRow (World.alloc (World.alloc w1 _) _) _ _) _ _ = W2
    obtain ⟨k1, k2, k3, k4, k5⟩ := told w1 _ _ _ _ LP e0 a0 W2 hW2
    have HK1 := Lib.hid k1; have HK2 := Lib.hid k2; have HK3 := Lib.hid k3; have HK4 := Lib.hid k4; have HK5 := Lib.hid k5
    clear hW2 k1 k2 k3 k4 k5
    go_wp2_with fail
    refine (HP2.out (by omega) _).mono ?_
    rintro e w3 ⟨rfl, hb3⟩
    have HB3 := Lib.hid hb3; clear hb3
    go_upto_region 5 with (first | (refine wpList_store_row rfl 28 _ _ rfl w3.heap.size LP.toArray rfl rfl 28 _ (heap_alloc2_old _ _ _) (by rw [h28, HLPz.out]) (by rw [HLPz.out]; rfl) HLP1.out ?_) | (refine wpList_store_row rfl 48 _ _ rfl (w3.heap.size + 1) #[.int .i64 e0, .int .i64 a0] rfl rfl 48 _ (told_heap w3 _ _ _ _) h48 rfl (faultOne _ _) ?_) | fail)
    generalize hW4 : World.setRow (World.setRow (World.alloc (World.alloc w3 _) _) _ _) _ _ = W4
    obtain ⟨m1, m2, m3, m4, m5⟩ := told w3 _ _ _ _ LP e0 a0 W4 hW4
    have hT0 : TextsAt w W4 w1.heap.size w3.heap.size LI LP e0 a0 := by
      have b2 : Below W0.heap.size W0 W2 := HB1.out.trans (HK1.out.mono HB1.out.size)
      have b4 : Below W2.heap.size W2 W4 := HB3.out.trans (m1.mono HB3.out.size)
      exact ⟨Below.after (Below.after HB0.out b2 HB0.out.size) b4 (Nat.le_trans HB0.out.size b2.size), rangeAt_below (rangeAt_below HRI0.out b2) b4, rangeAt_below HK2.out b4, m2, cell_below HK3.out b4, cell_below HK4.out b4, m3, m4⟩
    have hT1 : TextsAt w W4.drew w1.heap.size w3.heap.size LI LP e0 a0 := hT0.after (Below.refl _ _).drew
    have hc1 : ∀ w0, TextsAt w w0 w1.heap.size w3.heap.size LI LP e0 a0 → Calls Try.prog 24 #[.agg LI.toArray] w0 fun e w' => e = .returned (.string T) ∧ TextsAt w w' w1.heap.size w3.heap.size LI LP e0 a0 := fun w0 h => (HT1.out w0).mono fun e w' ⟨he, hb⟩ => ⟨he, h.after hb⟩
    have hc2 : ∀ w0, TextsAt w w0 w1.heap.size w3.heap.size LI LP e0 a0 → Calls Try.prog 25 #[.agg LI.toArray] w0 fun e w' => e = .returned (.string T) ∧ TextsAt w w' w1.heap.size w3.heap.size LI LP e0 a0 := fun w0 h => (HT2.out w0).mono fun e w' ⟨he, hb⟩ => ⟨he, h.after hb⟩
    have hc3 : ∀ w0, TextsAt w w0 w1.heap.size w3.heap.size LI LP e0 a0 → Calls Try.prog 10 #[] w0 fun e w' => e = .returned (.bool true) ∧ TextsAt w w' w1.heap.size w3.heap.size LI LP e0 a0 := fun w0 h => (awake_any w0).mono fun e w' ⟨he, hb⟩ => ⟨he, h.after hb⟩
    have HC1 := Lib.hid hc1; have HC2 := Lib.hid hc2; have HC3 := Lib.hid hc3
    have hqs := fun wx => eqlStr T wx
    have hqf := fun wx => eqlFault e0 a0 wx
    have hg1 := fun (x y : Operand) (o : Array Value) (wx : World) => run_eqGuard_agg (P := Try.prog) wx .eql 28 x y o o (by kernel_rfl)
    have hg2 := fun (x y : Operand) (o : Array Value) (wx : World) => run_eqGuard_agg (P := Try.prog) wx .eql 48 x y o o (by kernel_rfl)
    clear hW4 m1 m2 m3 m4 m5 hT0 hc1 hc2 hc3 h28 h48
    have u27 := Try.underlying27
    have u28 := Try.underlying28
    have u48 := Try.underlying48
    have h48' : (Try.prog.info? 48).map (·.size) = some [Value.int .i64 e0, .int .i64 a0].length := by kernel_rfl
    have h27 : (Try.prog.info? 27).map (·.size) = some LI.length := by rw [HLIs.out]; kernel_rfl
    have h28' : (Try.prog.info? 28).map (·.size) = some LP.length := by rw [HLPs.out]; kernel_rfl
    refine wp_region_held_drew (S := fun w' => w'.rangeAt w.heap.size 0 LI ∧ w'.rangeAt w1.heap.size 0 LP ∧ w'.rangeAt w3.heap.size 0 LP ∧ w'.cell? ⟨w1.heap.size + 1, 0, none⟩ = some (.int .i64 e0) ∧ w'.cell? ⟨w1.heap.size + 1, 1, none⟩ = some (.int .i64 a0) ∧ w'.cell? ⟨w3.heap.size + 1, 0, none⟩ = some (.int .i64 e0) ∧ w'.cell? ⟨w3.heap.size + 1, 1, none⟩ = some (.int .i64 a0) ∧ TextsAt w w' w1.heap.size w3.heap.size LI LP e0 a0) (by kernel_rfl) (TextsAt.held hT1) (fun hHeld => ?_)
    refine takeTo (i := 0) (d := 23) (oi := _) (v := .agg (List.toArray LI)) rfl rfl (by kernel_rfl) (by kernel_rfl) (by kernel_rfl) (fun _ _ _ h => h) (yieldsIf_load_mid (by rfl) _ _ rfl _ 0 rfl LI _ (fun _ h => h.1) u27 rfl h27) (by assumption) ?_
    try simp only [Act.put, List.setIfInBounds_toArray, List.set_cons_zero, List.set_cons_succ]
    refine takeTo (i := 2) (d := 25) (oi := _) (v := .agg (List.toArray LI)) rfl rfl (by kernel_rfl) (by kernel_rfl) (by kernel_rfl) (fun _ _ _ h => h) (yieldsIf_load_mid (by rfl) _ _ rfl _ 0 rfl LI _ (fun _ h => h.1) u27 rfl h27) (by assumption) ?_
    try simp only [Act.put, List.setIfInBounds_toArray, List.set_cons_zero, List.set_cons_succ]
    refine wpAnyH_ready (rs := [1]) (by kernel_rfl) (by simp) ?_
    refine AllReadyH.cons (o := _) rfl (fun K hK => ?_) AllReadyH.nil
    go_simp
    refine (HC1.out _ hHeld.2.2.2.2.2.2.2).mono ?_; rintro e w' ⟨rfl, hT'⟩
    go_wp2_with fail
    refine hK.out _ _ (TextsAt.held hT') (fun hHeld => ?_)
    clear hK K
    try simp only [Act.put, List.setIfInBounds_toArray, List.set_cons_zero, List.set_cons_succ]
    refine wpAnyH_ready (rs := [3]) (by kernel_rfl) (by simp) ?_
    refine AllReadyH.cons (o := _) rfl (fun K hK => ?_) AllReadyH.nil
    go_simp
    refine (HC2.out _ hHeld.2.2.2.2.2.2.2).mono ?_; rintro e w' ⟨rfl, hT'⟩
    go_wp2_with fail
    refine hK.out _ _ (TextsAt.held hT') (fun hHeld => ?_)
    clear hK K
    try simp only [Act.put, List.setIfInBounds_toArray, List.set_cons_zero, List.set_cons_succ]
    refine takeTo (i := 4) (d := 27) (oi := _) (v := .bool true) rfl rfl (by kernel_rfl) (by kernel_rfl) (by kernel_rfl) (fun _ _ _ h => h) (Or.inl ⟨by rfl, fun w hSw => by go_simp⟩) (by assumption) ?_
    try simp only [Act.put, List.setIfInBounds_toArray, List.set_cons_zero, List.set_cons_succ]
    refine takeTo (i := 5) (d := 28) (oi := _) (v := .bool true) rfl rfl (by kernel_rfl) (by kernel_rfl) (by kernel_rfl) (fun _ _ _ h => h) (Or.inl ⟨by rfl, fun w hSw => by go_simp⟩) (by assumption) ?_
    try simp only [Act.put, List.setIfInBounds_toArray, List.set_cons_zero, List.set_cons_succ]
    refine takeTo (i := 6) (d := 29) (oi := _) (v := .agg (List.toArray LP)) rfl rfl (by kernel_rfl) (by kernel_rfl) (by kernel_rfl) (fun _ _ _ h => h) (yieldsIf_load_mid (by rfl) _ _ rfl _ 0 rfl LP _ (fun _ h => h.2.1) u28 rfl h28') (by assumption) ?_
    try simp only [Act.put, List.setIfInBounds_toArray, List.set_cons_zero, List.set_cons_succ]
    refine takeTo (i := 7) (d := 30) (oi := _) (v := .agg (List.toArray LP)) rfl rfl (by kernel_rfl) (by kernel_rfl) (by kernel_rfl) (fun _ _ _ h => h) (yieldsIf_load_mid (by rfl) _ _ rfl _ 0 rfl LP _ (fun _ h => h.2.2.1) u28 rfl h28') (by assumption) ?_
    try simp only [Act.put, List.setIfInBounds_toArray, List.set_cons_zero, List.set_cons_succ]
    refine takeTo (i := 8) (d := 31) (oi := _) (v := .bool true) rfl rfl (by kernel_rfl) (by kernel_rfl) (by kernel_rfl) (fun _ _ _ h => h) (Or.inl ⟨by rfl, fun w hSw => by go_simp⟩) (by assumption) ?_
    try simp only [Act.put, List.setIfInBounds_toArray, List.set_cons_zero, List.set_cons_succ]
    refine takeTo (i := 9) (d := 32) (oi := _) (v := .bool true) rfl rfl (by kernel_rfl) (by kernel_rfl) (by kernel_rfl) (fun _ _ _ h => h) (Or.inl ⟨by rfl, fun w hSw => by go_simp⟩) (by assumption) ?_
    try simp only [Act.put, List.setIfInBounds_toArray, List.set_cons_zero, List.set_cons_succ]
    refine takeTo (i := 10) (d := 33) (oi := _) (v := .bool true) rfl rfl (by kernel_rfl) (by kernel_rfl) (by kernel_rfl) (fun _ _ _ h => h) (Or.inl ⟨by rfl, fun w hSw => by go_simp⟩) (by assumption) ?_
    try simp only [Act.put, List.setIfInBounds_toArray, List.set_cons_zero, List.set_cons_succ]
    refine takeTo (i := 11) (d := 34) (oi := _) (v := .agg #[.int .i64 e0, .int .i64 a0]) rfl rfl (by kernel_rfl) (by kernel_rfl) (by kernel_rfl) (fun _ _ _ h => h) (yieldsIf_load_mid (by kernel_rfl) _ _ rfl _ 0 rfl [.int .i64 e0, .int .i64 a0] _ (fun _ h => pair_range h.2.2.2.1 h.2.2.2.2.1) u48 rfl h48') (by assumption) ?_
    try simp only [Act.put, List.setIfInBounds_toArray, List.set_cons_zero, List.set_cons_succ]
    refine takeTo (i := 12) (d := 35) (oi := _) (v := .agg #[.int .i64 e0, .int .i64 a0]) rfl rfl (by kernel_rfl) (by kernel_rfl) (by kernel_rfl) (fun _ _ _ h => h) (yieldsIf_load_mid (by kernel_rfl) _ _ rfl _ 0 rfl [.int .i64 e0, .int .i64 a0] _ (fun _ h => pair_range h.2.2.2.2.2.1 h.2.2.2.2.2.2.1) u48 rfl h48') (by assumption) ?_
    try simp only [Act.put, List.setIfInBounds_toArray, List.set_cons_zero, List.set_cons_succ]
    refine takeTo (i := 13) (d := 36) (oi := _) (v := .bool true) rfl rfl (by kernel_rfl) (by kernel_rfl) (by kernel_rfl) (fun _ _ _ h => h) (Or.inl ⟨by kernel_rfl, fun w hSw => by go_simp⟩) (by assumption) ?_
    try simp only [Act.put, List.setIfInBounds_toArray, List.set_cons_zero, List.set_cons_succ]
    refine takeTo (i := 14) (d := 37) (oi := _) (v := .bool true) rfl rfl (by kernel_rfl) (by kernel_rfl) (by kernel_rfl) (fun _ _ _ h => h) (Or.inl ⟨by kernel_rfl, fun w hSw => by go_simp⟩) (by assumption) ?_
    try simp only [Act.put, List.setIfInBounds_toArray, List.set_cons_zero, List.set_cons_succ]
    refine takeTo (i := 15) (d := 38) (oi := _) (v := .bool true) rfl rfl (by kernel_rfl) (by kernel_rfl) (by kernel_rfl) (fun _ _ _ h => h) (Or.inl ⟨by kernel_rfl, fun w hSw => by go_simp⟩) (by assumption) ?_
    try simp only [Act.put, List.setIfInBounds_toArray, List.set_cons_zero, List.set_cons_succ]
    refine wpAnyH_ready (rs := [16]) (by kernel_rfl) (by simp) ?_
    refine AllReadyH.cons (o := _) rfl (fun K hK => ?_) AllReadyH.nil
    go_simp
    refine (HC3.out _ hHeld.2.2.2.2.2.2.2).mono ?_; rintro e w' ⟨rfl, hT'⟩
    go_wp2_with fail
    refine hK.out _ _ (TextsAt.held hT') (fun hHeld => ?_)
    clear hK K
    try simp only [Act.put, List.setIfInBounds_toArray, List.set_cons_zero, List.set_cons_succ]
    refine takeTo (i := 17) (d := 40) (oi := _) (v := .bool true) rfl rfl (by kernel_rfl) (by kernel_rfl) (by kernel_rfl) (fun _ _ _ h => h) (Or.inl ⟨by kernel_rfl, fun w hSw => by go_simp⟩) (by assumption) ?_
    try simp only [Act.put, List.setIfInBounds_toArray, List.set_cons_zero, List.set_cons_succ]
    refine takeTo (i := 18) (d := 4) (oi := _) (v := .bool true) rfl rfl (by kernel_rfl) (by kernel_rfl) (by kernel_rfl) (fun _ _ _ h => h) (Or.inl ⟨by kernel_rfl, fun w hSw => by go_simp⟩) (by assumption) ?_
    try simp only [Act.put, List.setIfInBounds_toArray, List.set_cons_zero, List.set_cons_succ]
    refine wpAnyH_done (by kernel_rfl) ?_ _
    go_wp2_with fail
    go_ret
    exact ⟨rfl, hT'.below⟩

set_option maxRecDepth 100000 in
theorem digestTexts_contract (H : Type) (enc : TypeId × Value → H) (W : World) (base : Nat) (args : Array Value) (ds gs : List (DataW H)) (before : List MemPlace)
    (hval : ∀ (j : Nat) t v, Try.f6.params[j]? = some t → args[j]? = some v → Value.okWide Try.prog W .any base t v)
    (hW : DataW.Whole enc Try.prog Try.f6.params.toList Rows.digestTextsSpec.vars false W args.toList ds gs before) :
    Calls Try.prog 6 args W fun e W' => ∃ v, e = .returned v ∧ Rows.digestTextsSpec.post enc Try.prog Try.f6 false true false false W args v W' := by
  have hlt := hW.lt
  obtain ⟨p, q, hA, hV, hpq, _, _⟩ := id hW
  obtain ⟨rfl, rfl⟩ := trodVars_none hV
  rw [Try.params6] at hA hval
  obtain ⟨v0, vs0, d0, ds0, p0, q0, hargs, rfl, rfl, h0, r0⟩ := trodAll_cons hA
  obtain ⟨v1, vs1, d1, ds1, p1, q1, rfl, rfl, rfl, h1, r1⟩ := trodAll_cons r0
  obtain ⟨rfl, rfl, rfl⟩ := ChangeShapes.trodAll_nil r1
  obtain rfl : args = #[v0, v1] := by cases args; simp_all
  obtain ⟨l0, rfl, hl0⟩ := open_bytesArr Try.underlying27 (by kernel_rfl) (hval 0 _ _ rfl rfl) h0
  obtain ⟨l1, rfl, hs1⟩ := open_strv (hval 1 _ _ rfl rfl) h1
  refine (texts_walk l0 l1 hl0 (by unfold maxLen at hs1; omega) W).mono fun e W' ⟨he, hb⟩ => ?_
  subst he
  exact ⟨_, rfl, law_post hW (by rw [Try.params6]; intro t ht; simp at ht; first | (rcases ht with rfl | rfl <;> exact ⟨by kernel_rfl, of_decide_eq_true (by kernel_rfl)⟩) | exact ht.elim) rfl rfl rfl rfl rfl hb⟩

set_option maxRecDepth 100000 in
theorem digestTexts_lifted (os : Os) (started : os.Started) (H : Type) (enc : TypeId × Value → H) :
    ReturnsInHanded {} Try.checked os 6 .any (Rows.digestTextsSpec.pre6 enc Try.prog Try.f6 Rows.digestTextsRow.domain false) (Rows.digestTextsSpec.post enc Try.prog Try.f6 false true false false) := by
  refine returnsInHanded_of_change_sized (C := Try.checked) Try.own started (by kernel_rfl) Try.func6
    (ChangeSpec.witness6 (enc := enc) (C := Try.checked) false ⟨#[], #[.agg (Array.replicate 16 (.int .u8 0)), .string ⟨#[]⟩], []⟩ 8 (by kernel_rfl) (by kernel_rfl) (by kernel_rfl) (by kernel_rfl)) ?_
  intro W base args ds gs before hval0 hW _ hsz0 _
  exact digestTexts_contract H enc W base args ds gs before hval0 hW

theorem digestTexts_holds : Rows.DigestTextsSaid :=
  OpenClaim.holds_of_wide 6 Try.f6 rfl rfl rfl rfl rfl rfl rfl ⟨rfl, rfl, rfl, rfl, rfl⟩ rfl rfl rfl rfl rfl (by kernel_rfl) Try.func6 (by kernel_rfl)
    (of_decide_eq_true (by kernel_rfl)) (by unfold Func.isWrapper; first | (rw [if_pos (by decide +kernel)]; kernel_rfl) | (rw [if_neg (by decide +kernel)]; exact ⟨rfl, rfl⟩))
    (fun os started H enc _ => digestTexts_lifted os started H enc)
end Go.Proofs.Ytcgknadodpdblaa
