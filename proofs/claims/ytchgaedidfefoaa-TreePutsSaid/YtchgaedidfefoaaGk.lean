/- Merged of TQ, TR, TS, TU. Conditions: none. -/
import Derived.Test.YtchgaedidfefoaaGj
/- What is added, gone, changed from one tree to another, in plain. Conditions: none. -/
set_option linter.unusedVariables false
set_option linter.unusedSimpArgs false
namespace Go.Proofs.Ytchgaedidfefoaa
open Go.RowKit

/-- the paths of b that a has not -/
def addM (a b : List En) : List (List UInt8) := (b.filter fun e => ! decide (isAt a e.path)).map (·.path)
/-- the paths of b that a has, with another entry -/
def chgM (a b : List En) : List (List UInt8) := (b.filter fun e => decide (isAt a e.path) && ! decide (e ∈ a)).map (·.path)
def diffM (a b : List En) : List (List UInt8) × List (List UInt8) × List (List UInt8) := if (checkT a).1 = 0 ∧ (checkT b).1 = 0 then (addM a b, addM b a, chgM a b) else ([], [], [])
theorem diff_bad {a b : List En} (h : ¬ (checkT a).1 = 0 ∨ ¬ (checkT b).1 = 0) : diffM a b = ([], [], []) := if_neg fun k => h.elim (fun h => h k.1) (fun h => h k.2)
theorem diff_ok {a b : List En} (h : (checkT a).1 = 0) (h2 : (checkT b).1 = 0) : diffM a b = (addM a b, addM b a, chgM a b) := if_pos ⟨h, h2⟩
theorem add_yes {a b : List En} {j : Nat} {y : En} (hy : b[j]? = some y) (h : ¬ isAt a y.path) : addM a (b.take (j + 1)) = addM a (b.take j) ++ [y.path] := by
  obtain ⟨hj, rfl⟩ := List.getElem?_eq_some_iff.1 hy
  unfold addM
  rw [List.take_succ_eq_append_getElem hj, List.filter_append, List.map_append]
  simp [h]
theorem add_no {a b : List En} {j : Nat} {y : En} (hy : b[j]? = some y) (h : isAt a y.path) : addM a (b.take (j + 1)) = addM a (b.take j) := by
  obtain ⟨hj, rfl⟩ := List.getElem?_eq_some_iff.1 hy
  unfold addM
  rw [List.take_succ_eq_append_getElem hj, List.filter_append, List.map_append]
  simp [h]
theorem chg_no {a b : List En} {j : Nat} {y : En} (hy : b[j]? = some y) (h : ¬ isAt a y.path ∨ y ∈ a) : chgM a (b.take (j + 1)) = chgM a (b.take j) := by
  obtain ⟨hj, rfl⟩ := List.getElem?_eq_some_iff.1 hy
  unfold chgM
  rw [List.take_succ_eq_append_getElem hj, List.filter_append, List.map_append]
  rcases h with h | h <;> simp [h]
theorem chg_yes {a b : List En} {j : Nat} {y : En} (hy : b[j]? = some y) (h : isAt a y.path) (h2 : ¬ y ∈ a) : chgM a (b.take (j + 1)) = chgM a (b.take j) ++ [y.path] := by
  obtain ⟨hj, rfl⟩ := List.getElem?_eq_some_iff.1 hy
  unfold chgM
  rw [List.take_succ_eq_append_getElem hj, List.filter_append, List.map_append]
  simp [h, h2]
def LtP (x y : En) : Prop := compareM x.path y.path = -1
theorem LtP.trans {x y z : En} (h : LtP x y) (k : LtP y z) : LtP x z := compareM_ord.trans _ _ _ h k
theorem LtP.ne {x y : En} (h : LtP x y) : ¬ x.path = y.path := fun e => by
  have := (compareM_ord.zero x.path y.path).2 e
  unfold LtP at h
  omega
/-- how far one has come -/
structure DiffS (a b : List En) (i j : Nat) (u g c : List (List UInt8)) : Prop where
  hi : i ≤ a.length
  hj : j ≤ b.length
  hu : u = addM a (b.take j)
  hg : g = addM b (a.take i)
  hc : c = chgM a (b.take j)
  lt1 : ∀ (q r : Nat) (x y : En), q < i → j ≤ r → a[q]? = some x → b[r]? = some y → LtP x y
  lt2 : ∀ (q r : Nat) (x y : En), i ≤ q → r < j → a[q]? = some x → b[r]? = some y → LtP y x
def OrdS (a b : List En) (i j : Nat) (o : Int) : Prop := (0 < o → j < b.length ∧ ∀ (x y : En), a[i]? = some x → b[j]? = some y → LtP y x) ∧ (o < 0 → i < a.length ∧ ∀ (x y : En), a[i]? = some x → b[j]? = some y → LtP x y) ∧ (o = 0 → i < a.length ∧ j < b.length ∧ ∀ (x y : En), a[i]? = some x → b[j]? = some y → x.path = y.path)
theorem ord_gt {a b : List En} {i j : Nat} (hi : a.length ≤ i) (hj : j < b.length) : OrdS a b i j 1 := ⟨fun _ => ⟨hj, fun x y hx => by rw [List.getElem?_eq_none hi] at hx; cases hx⟩, fun h => by omega, fun h => by omega⟩
theorem ord_lt {a b : List En} {i j : Nat} (hi : i < a.length) (hj : b.length ≤ j) : OrdS a b i j (-1) := ⟨fun h => by omega, fun _ => ⟨hi, fun x y _ hy => by rw [List.getElem?_eq_none hj] at hy; cases hy⟩, fun h => by omega⟩
theorem ord_cmp {a b : List En} {i j : Nat} {x y : En} (hx : a[i]? = some x) (hy : b[j]? = some y) : OrdS a b i j (compareM x.path y.path) := by
  have hi := (List.getElem?_eq_some_iff.1 hx).1
  have hj := (List.getElem?_eq_some_iff.1 hy).1
  have hr := compareM_ord.rng x.path y.path
  have ha := compareM_ord.anti x.path y.path
  refine ⟨fun h => ⟨hj, fun x' y' hx' hy' => ?_⟩, fun h => ⟨hi, fun x' y' hx' hy' => ?_⟩, fun h => ⟨hi, hj, fun x' y' hx' hy' => ?_⟩⟩
  all_goals
    rw [hx] at hx'
    rw [hy] at hy'
    obtain rfl := Option.some.inj hx'
    obtain rfl := Option.some.inj hy'
  · unfold LtP; omega
  · unfold LtP; omega
  · exact (compareM_ord.zero _ _).1 h
theorem sort_ltP {a : List En} (h : SortT a) {q r : Nat} {x y : En} (hqr : q < r) (hx : a[q]? = some x) (hy : a[r]? = some y) : LtP x y := by
  obtain ⟨h1, rfl⟩ := List.getElem?_eq_some_iff.1 hx
  obtain ⟨h2, rfl⟩ := List.getElem?_eq_some_iff.1 hy
  exact (List.pairwise_iff_getElem.1 h) q r h1 h2 hqr
theorem not_at {a : List En} {y : En} (h : ∀ (q : Nat) (x : En), a[q]? = some x → LtP x y ∨ LtP y x) : ¬ isAt a y.path := by
  rintro ⟨x, hx, hp⟩
  obtain ⟨q, hq⟩ := List.getElem?_of_mem hx
  rcases h q x hq with h | h
  · exact h.ne hp
  · exact h.ne hp.symm
theorem diff_gt {a b : List En} {i j : Nat} {u g c : List (List UInt8)} {o : Int} (ha : SortT a) (hb : SortT b) (h : DiffS a b i j u g c) (ho : OrdS a b i j o) (h0 : 0 < o) {y : En} (hy : b[j]? = some y) : DiffS a b i (j + 1) (u ++ [y.path]) g c := by
  obtain ⟨hjl, hlt⟩ := ho.1 h0
  have all : ∀ (q : Nat) (x : En), a[q]? = some x → LtP x y ∨ LtP y x := fun q x hx => by
    rcases Nat.lt_or_ge q i with hq | hq
    · exact .inl (h.lt1 q j x y hq (Nat.le_refl _) hx hy)
    · rcases Nat.lt_or_ge i q with hq2 | hq2
      · have hi : i < a.length := by have := (List.getElem?_eq_some_iff.1 hx).1; omega
        exact .inr ((hlt _ y (List.getElem?_eq_getElem hi) hy).trans (sort_ltP ha hq2 (List.getElem?_eq_getElem hi) hx))
      · obtain rfl : q = i := by omega
        exact .inr (hlt x y hx hy)
  have hn := not_at all
  refine ⟨h.hi, hjl, by rw [h.hu, add_yes hy hn], h.hg, by rw [h.hc, chg_no hy (.inl hn)], fun q r x z hq hr => h.lt1 q r x z hq (by omega), fun q r x z hq hr hx hz => ?_⟩
  rcases Nat.lt_or_ge r j with hr2 | hr2
  · exact h.lt2 q r x z hq hr2 hx hz
  · obtain rfl : r = j := by omega
    rw [hy] at hz
    obtain rfl := Option.some.inj hz
    rcases all q x hx with k | k
    · rcases Nat.lt_or_ge i q with hq2 | hq2
      · have hi : i < a.length := by have := (List.getElem?_eq_some_iff.1 hx).1; omega
        exact (hlt _ y (List.getElem?_eq_getElem hi) hy).trans (sort_ltP ha hq2 (List.getElem?_eq_getElem hi) hx)
      · obtain rfl : q = i := by omega
        exact hlt x y hx hy
    · exact k
theorem diff_lt {a b : List En} {i j : Nat} {u g c : List (List UInt8)} {o : Int} (ha : SortT a) (hb : SortT b) (h : DiffS a b i j u g c) (ho : OrdS a b i j o) (h0 : o < 0) {x : En} (hx : a[i]? = some x) : DiffS a b (i + 1) j u (g ++ [x.path]) c := by
  obtain ⟨hil, hlt⟩ := ho.2.1 h0
  have low : ∀ (r : Nat) (y : En), j ≤ r → b[r]? = some y → LtP x y := fun r y hr hy => by
    rcases Nat.lt_or_ge j r with hr2 | hr2
    · have hj : j < b.length := by have := (List.getElem?_eq_some_iff.1 hy).1; omega
      exact (hlt x _ hx (List.getElem?_eq_getElem hj)).trans (sort_ltP hb hr2 (List.getElem?_eq_getElem hj) hy)
    · obtain rfl : r = j := by omega
      exact hlt x y hx hy
  have hn : ¬ isAt b x.path := not_at fun r y hy => by
    rcases Nat.lt_or_ge r j with hr | hr
    · exact .inl (h.lt2 i r x y (Nat.le_refl _) hr hx hy)
    · exact .inr (low r y hr hy)
  refine ⟨hil, h.hj, h.hu, by rw [h.hg, add_yes hx hn], h.hc, fun q r z y hq hr hz hy => ?_, fun q r z y hq hr => h.lt2 q r z y (by omega) hr⟩
  rcases Nat.lt_or_ge q i with hq2 | hq2
  · exact h.lt1 q r z y hq2 hr hz hy
  · obtain rfl : q = i := by omega
    rw [hx] at hz
    obtain rfl := Option.some.inj hz
    exact low r y hr hy
theorem diff_eq {a b : List En} {i j : Nat} {u g c : List (List UInt8)} {o : Int} (ha : SortT a) (hb : SortT b) (h : DiffS a b i j u g c) (ho : OrdS a b i j o) (h0 : o = 0) {x y : En} (hx : a[i]? = some x) (hy : b[j]? = some y) : DiffS a b (i + 1) (j + 1) u g (if x = y then c else c ++ [x.path]) := by
  obtain ⟨hil, hjl, heq⟩ := ho.2.2 h0
  have e := heq x y hx hy
  have hxa : x ∈ a := List.mem_of_getElem? hx
  have hyb : y ∈ b := List.mem_of_getElem? hy
  have h1 : isAt a y.path := ⟨x, hxa, e⟩
  have h2 : isAt b x.path := ⟨y, hyb, e.symm⟩
  refine ⟨hil, hjl, by rw [h.hu, add_no hy h1], by rw [h.hg, add_no hx h2], ?_, fun q r z w hq hr hz hw => ?_, fun q r z w hq hr hz hw => ?_⟩
  · by_cases k : x = y
    · rw [if_pos k, h.hc, chg_no hy (.inr (k ▸ hxa))]
    · rw [if_neg k, h.hc, chg_yes hy h1 (fun hm => k (sort_inj ha hxa hm e)), e]
  · have hyw : LtP y w := sort_ltP hb (by omega) hy hw
    have hxw : LtP x w := by unfold LtP at hyw ⊢; rw [e]; exact hyw
    rcases Nat.lt_or_ge q i with hq2 | hq2
    · exact (sort_ltP ha hq2 hz hx).trans hxw
    · obtain rfl : q = i := by omega
      rw [hx] at hz
      obtain rfl := Option.some.inj hz
      exact hxw
  · have hxz : LtP x z := sort_ltP ha (by omega) hx hz
    have hyz : LtP y z := by unfold LtP at hxz ⊢; rw [← e]; exact hxz
    rcases Nat.lt_or_ge r j with hr2 | hr2
    · exact (sort_ltP hb hr2 hw hy).trans hyz
    · obtain rfl : r = j := by omega
      rw [hy] at hw
      obtain rfl := Option.some.inj hw
      exact hyz
theorem diff_end {a b : List En} {u g c : List (List UInt8)} {i j : Nat} (h : DiffS a b i j u g c) (hi : i = a.length) (hj : j = b.length) : u = addM a b ∧ g = addM b a ∧ c = chgM a b := by
  subst hi hj
  refine ⟨h.hu.trans (by rw [List.take_length]), h.hg.trans (by rw [List.take_length]), h.hc.trans (by rw [List.take_length])⟩
theorem diff_start (a b : List En) : DiffS a b 0 0 [] [] [] := ⟨Nat.zero_le _, Nat.zero_le _, rfl, rfl, rfl, fun q r x y hq => by omega, fun q r x y _ hr => by omega⟩
theorem add_len (a b : List En) : (addM a b).length ≤ b.length := by
  unfold addM
  rw [List.length_map]
  exact List.length_filter_le ..
theorem chg_len (a b : List En) : (chgM a b).length ≤ b.length := by
  unfold chgM
  rw [List.length_map]
  exact List.length_filter_le ..
end Go.Proofs.Ytchgaedidfefoaa

/- Contracts of layer 8: Diff. Conditions: none. -/
set_option linter.unusedVariables false
set_option linter.unusedSimpArgs false
namespace Go.Proofs.Ytchgaedidfefoaa
open Go.RowKit

theorem ens_drop0 {xs : List ET} {i : Nat} (h : 0 < (xs.drop i).length) : (ens xs)[i]? = some (xs.drop i)[0].1 := by
  rw [List.length_drop] at h
  rw [ens_at (show i < xs.length by omega), List.getElem_drop]
  rfl
theorem DiffS.len {a b : List En} {u g c : List (List UInt8)} {i j : Nat} (h : DiffS a b i j u g c) : u.length ≤ j ∧ g.length ≤ i ∧ c.length ≤ j := by
  obtain ⟨_, _, rfl, rfl, rfl, _, _⟩ := h
  have h1 := add_len a (b.take j)
  have h2 := add_len b (a.take i)
  have h3 := chg_len a (b.take j)
  rw [List.length_take] at h1 h2 h3
  omega
theorem own_snoc (l : List (List UInt8)) (x : List UInt8) : l.map vStr ++ [vStr x] = (l ++ [x]).map vStr := by rw [List.map_append]; rfl
theorem len_snoc {α : Type} (l : List α) (x : α) : l.length + 1 = (l ++ [x]).length := by rw [List.length_append]; rfl
set_option maxRecDepth 20000 in
set_option maxHeartbeats 4000000 in

theorem diff_tr {Ps Pu : Nat → Prop} (v u : Value) (xs ys : List ET) : Tr Try.prog 25 #[v, u] [slc rEV Ps v xs, slc rEV Pu u ys] []
    (TX (fun _ : Value × Value × Value => True) (fun z => .tuple #[z.1, z.2.1, z.2.2]) (fun z => [own 9 1 z.1 (diffM (ens xs) (ens ys)).1.length ((diffM (ens xs) (ens ys)).1.map vStr), own 9 1 z.2.1 (diffM (ens xs) (ens ys)).2.1.length ((diffM (ens xs) (ens ys)).2.1.map vStr), own 9 1 z.2.2 (diffM (ens xs) (ens ys)).2.2.length ((diffM (ens xs) (ens ys)).2.2.map vStr)])) := by
  refine Tr.of (l := [(0, v), (1, u)]) Try.func25 rfl (n := 98) rfl (.cons rfl (.cons rfl .nil)) (fun w0 hro => ?_)
  obtain ⟨hv0, hu0⟩ := ro2 hro
  have hlx := ens_length xs
  have hly := ens_length ys
  refine G.seq ?_
  refine G.region ?_
  refine G.op rfl (G.val rfl rfl (pv_assign rfl) ?_)
  refine G.op rfl (G.val rfl rfl (pv_assign rfl) ?_)
  refine G.op rfl (G.val rfl rfl (pv_assign rfl) ?_)
  refine G.nil ?_
  refine G.nThen ?_
  refine G.seq ?_
  refine G.region ?_
  refine G.op rfl (G.val rfl rfl (pv_move rfl) ?_)
  refine G.op rfl (G.cR rfl rfl rfl rfl Try.func11 rfl rfl (may1 (by first | (apply May.old; first | with_reducible assumption | assumption) | (apply Sel.may; (repeat (first | with_reducible exact Sel.here | exact Sel.here | apply Sel.there)); done) | (apply may_own; (repeat (first | with_reducible exact Sel.here | exact Sel.here | apply Sel.there)); exact rfl; exact (fun _ _ => trivial); done) | (apply may_ownB; (repeat (first | with_reducible exact Sel.here | exact Sel.here | apply Sel.there)); done) | (apply may_tree; (repeat (first | with_reducible exact Sel.here | exact Sel.here | apply Sel.there)); (repeat (first | with_reducible exact Sel.here | exact Sel.here | apply Sel.there)); assumption; done))) (tcheck_tr _ _) ?_)
  refine G.op rfl (G.val rfl rfl (pv_move rfl) ?_)
  refine G.op rfl (G.val rfl rfl (pv_extract rfl rfl) ?_)
  refine G.op rfl (G.val rfl rfl (pv_extract rfl rfl) ?_)
  refine G.op rfl (G.val rfl rfl (pv_assign rfl) ?_)
  refine G.op rfl (G.val rfl rfl (pv_assign rfl) ?_)
  refine G.nil ?_
  refine G.nThen ?_
  refine G.seq ?_
  refine G.region ?_
  refine G.op rfl (G.val rfl rfl (pv_move rfl) ?_)
  refine G.op rfl (G.cR rfl rfl rfl rfl Try.func11 rfl rfl (may1 (by first | (apply May.old; first | with_reducible assumption | assumption) | (apply Sel.may; (repeat (first | with_reducible exact Sel.here | exact Sel.here | apply Sel.there)); done) | (apply may_own; (repeat (first | with_reducible exact Sel.here | exact Sel.here | apply Sel.there)); exact rfl; exact (fun _ _ => trivial); done) | (apply may_ownB; (repeat (first | with_reducible exact Sel.here | exact Sel.here | apply Sel.there)); done) | (apply may_tree; (repeat (first | with_reducible exact Sel.here | exact Sel.here | apply Sel.there)); (repeat (first | with_reducible exact Sel.here | exact Sel.here | apply Sel.there)); assumption; done))) (tcheck_tr _ _) ?_)
  refine G.op rfl (G.val rfl rfl (pv_move rfl) ?_)
  refine G.op rfl (G.val rfl rfl (pv_extract rfl rfl) ?_)
  refine G.op rfl (G.val rfl rfl (pv_extract rfl rfl) ?_)
  refine G.op rfl (G.val rfl rfl (pv_assign rfl) ?_)
  refine G.op rfl (G.val rfl rfl (pv_assign rfl) ?_)
  refine G.nil ?_
  refine G.nThen ?_
  refine G.seq ?_
  refine G.seq ?_
  refine G.cutK (X := Unit) (ts := [0, 1, 4, 5, 6]) (p := []) (fun _ => True) (fun _ => [(27, .bool (decide (¬ (checkT (ens xs)).1 = 0 ∨ ¬ (checkT (ens ys)).1 = 0)))]) (fun _ => []) (.cons rfl (.cons rfl (.cons rfl (.cons rfl (.cons rfl .nil))))) (by repeat (first | exact Sub.nil | (apply Sub.cons; (repeat (first | with_reducible exact Sel.here | exact Sel.here | apply Sel.there))))) (.cons .nil) (by repeat (first | exact Ap.nil | apply Ap.cons)) ?_ ?_
  · refine G.region ?_
    refine G.op rfl (G.val rfl rfl (pv_move rfl) ?_)
    refine G.op rfl (G.val rfl rfl (pv_neq rfl rfl) ?_)
    refine G.op rfl (G.val rfl rfl (pv_move rfl) ?_)
    refine G.partP (t := 24) rfl (fun h24 => ?_) (fun h24 => ?_)
    · refine G.pass rfl rfl rfl rfl rfl rfl ?_
      refine G.pass rfl rfl rfl rfl rfl rfl ?_
      refine G.op rfl (G.val rfl rfl (pv_pick rfl rfl) ?_)
      refine G.nil ?_
      exact G.meet (()) (by first | exact trivial | ((try dsimp only); exact trivial)) (.consE rfl (by first | exact dec_t (.inl (by assumption)) | exact dec_e ⟨fun h => .inr h, fun h => h.resolve_left (by assumption)⟩) (.cons rfl (.cons rfl (.cons rfl (.cons rfl (.cons rfl .nil)))))) (by repeat (first | exact Sub.nil | (apply Sub.cons; (repeat (first | with_reducible exact Sel.here | exact Sel.here | apply Sel.there)))))
    · refine G.want rfl rfl rfl (G.val rfl rfl (pv_move rfl) ?_)
      refine G.want rfl rfl rfl (G.val rfl rfl (pv_neq rfl rfl) ?_)
      refine G.op rfl (G.val rfl rfl (pv_pick rfl rfl) ?_)
      refine G.nil ?_
      exact G.meet (()) (by first | exact trivial | ((try dsimp only); exact trivial)) (.consE rfl (by first | exact dec_t (.inl (by assumption)) | exact dec_e ⟨fun h => .inr h, fun h => h.resolve_left (by assumption)⟩) (.cons rfl (.cons rfl (.cons rfl (.cons rfl (.cons rfl .nil)))))) (by repeat (first | exact Sub.nil | (apply Sub.cons; (repeat (first | with_reducible exact Sel.here | exact Sel.here | apply Sel.there)))))
  · intro _ hJ
    try dsimp only at hJ
    try dsimp only
    refine G.condP rfl (fun h27 => ?_) (fun h27 => ?_)
    · have hbad := diff_bad h27
      refine G.seq ?_
      refine G.region ?_
      refine G.op rfl (G.val rfl rfl (pv_assign rfl) ?_)
      refine G.op rfl (G.val rfl rfl (pv_assign rfl) ?_)
      refine G.op rfl (G.val rfl rfl (pv_assign rfl) ?_)
      refine G.nil ?_
      refine G.nThen ?_
      refine G.ret ?_
      refine G.rThen ?_
      rw [hbad]
      refine G.ownNil 9 1 ?_
      refine G.ownNil 9 1 ?_
      refine G.ownNil 9 1 ?_
      exact G.doneX3 ((.slice none 0 0, .slice none 0 0, .slice none 0 0)) (by first | exact trivial | ((try dsimp only); exact trivial)) rfl rfl rfl rfl rfl (by repeat (first | exact Sub.nil | (apply Sub.cons; (repeat (first | with_reducible exact Sel.here | exact Sel.here | apply Sel.there)))))
    · have hx0 : (checkT (ens xs)).1 = 0 := Decidable.of_not_not (fun h => h27 (.inl h))
      have hy0 : (checkT (ens ys)).1 = 0 := Decidable.of_not_not (fun h => h27 (.inr h))
      obtain ⟨hx1, hx2, -⟩ := checkT_zero hx0
      obtain ⟨hy1, hy2, -⟩ := checkT_zero hy0
      have hsx := sort_all hx2
      have hsy := sort_all hy2
      have hgood := diff_ok hx0 hy0
      refine G.skip ?_
      refine G.nThen ?_
      refine G.seq ?_
      refine G.block ?_
      refine G.ownNil 9 1 ?_
      refine G.ownNil 9 1 ?_
      refine G.ownNil 9 1 ?_
      refine G.loopK (X := Nat × Nat × Value × Value × Value × Value × Value × (List (List UInt8)) × (List (List UInt8)) × (List (List UInt8))) (ts := []) (fun st => DiffS (ens xs) (ens ys) st.1 st.2.1 st.2.2.2.2.2.2.2.1 st.2.2.2.2.2.2.2.2.1 st.2.2.2.2.2.2.2.2.2 ∧ Ro w0 (U []) (slc rEV Ps st.2.2.1 (xs.drop st.1)) ∧ Ro w0 (U []) (slc rEV Pu st.2.2.2.1 (ys.drop st.2.1))) (fun st => [(0, st.2.2.1), (1, st.2.2.2.1), (4, st.2.2.2.2.1), (5, st.2.2.2.2.2.1), (6, st.2.2.2.2.2.2.1)]) (fun st => [own 9 1 st.2.2.2.2.1 st.2.2.2.2.2.2.2.1.length (st.2.2.2.2.2.2.2.1.map vStr), own 9 1 st.2.2.2.2.2.1 st.2.2.2.2.2.2.2.2.1.length (st.2.2.2.2.2.2.2.2.1.map vStr), own 9 1 st.2.2.2.2.2.2.1 st.2.2.2.2.2.2.2.2.2.length (st.2.2.2.2.2.2.2.2.2.map vStr)]) (fun st => (xs.length - st.1) + (ys.length - st.2.1)) (x0 := (0, 0, v, u, (.slice none 0 0), (.slice none 0 0), (.slice none 0 0), [], [], [])) .nil (by repeat (first | exact Sub.nil | (apply Sub.cons; (repeat (first | with_reducible exact Sel.here | exact Sel.here | apply Sel.there))))) (.cons (.cons (.cons (.cons (.cons .nil))))) (by repeat (first | exact Ap.nil | apply Ap.cons)) (by first | exact trivial | ((try dsimp only); exact ⟨diff_start _ _, hv0, hu0⟩)) (.consE rfl (by first | rfl | exact int_eq (by first | omega | (dsimp only; omega)) | exact congrArg _ (by omega)) (.consE rfl (by first | rfl | exact int_eq (by first | omega | (dsimp only; omega)) | exact congrArg _ (by omega)) (.consE rfl (by first | rfl | exact int_eq (by first | omega | (dsimp only; omega)) | exact congrArg _ (by omega)) (.consE rfl (by first | rfl | exact int_eq (by first | omega | (dsimp only; omega)) | exact congrArg _ (by omega)) (.consE rfl (by first | rfl | exact int_eq (by first | omega | (dsimp only; omega)) | exact congrArg _ (by omega)) .nil))))) (fun st hJ => ?_)
      obtain ⟨i, j, va, vb, w1, w2, w3, l1, l2, l3⟩ := st
      try dsimp only at hJ
      try dsimp only
      obtain ⟨hD, hva, hvb⟩ := hJ
      have hp := hva
      have hp' := hp
      obtain ⟨ap, cp, bp, fp, rfl, hcapp, hmaxp, hnilp, hadp, help⟩ := Ro.openT hp
      have hq := hvb
      have hq' := hq
      obtain ⟨aq, cq, bq, fq, rfl, hcapq, hmaxq, hnilq, hadq, helq⟩ := Ro.openT hq
      obtain ⟨hl1, hl2, hl3⟩ := hD.len
      have hdi := hD.hi
      have hdj := hD.hj
      have e1 : (xs.drop i).length = xs.length - i := List.length_drop
      have e2 : (ys.drop j).length = ys.length - j := List.length_drop
      refine G.seq ?_
      refine G.seq ?_
      refine G.region ?_
      refine G.op rfl (G.val rfl rfl (pv_move rfl) ?_)
      refine G.op rfl (G.val rfl rfl (pv_lenSl Try.underlying22 rfl) ?_)
      refine G.op rfl (G.val rfl rfl (pv_move rfl) ?_)
      refine G.op rfl (G.val rfl rfl (pv_lenSl Try.underlying22 rfl) ?_)
      refine G.op rfl (G.val rfl rfl (pv_add64 rfl rfl (by omega)) ?_)
      refine G.op rfl (G.val rfl rfl (pv_gtr rfl rfl) ?_)
      refine G.nil ?_
      refine G.nThen ?_
      refine G.condP rfl (fun h33 => ?_) (fun h33 => ?_)
      · refine G.skip ?_
        refine G.nThen ?_
        refine G.block ?_
        refine G.seq ?_
        refine G.region ?_
        refine G.op rfl (G.val rfl rfl (pv_assign rfl) ?_)
        refine G.nil ?_
        refine G.nThen ?_
        refine G.seq ?_
        refine G.cutK (X := Int) (ts := [0, 1, 4, 5, 6]) (p := []) (fun o => OrdS (ens xs) (ens ys) i j o) (fun o => [(11, .int .i64 o)]) (fun o => []) (.cons rfl (.cons rfl (.cons rfl (.cons rfl (.cons rfl .nil))))) (by repeat (first | exact Sub.nil | (apply Sub.cons; (repeat (first | with_reducible exact Sel.here | exact Sel.here | apply Sel.there))))) (.cons .nil) (by repeat (first | exact Ap.nil | apply Ap.cons)) ?_ ?_
        · refine G.block ?_
          refine G.seq ?_
          refine G.region ?_
          refine G.op rfl (G.val rfl rfl (pv_move rfl) ?_)
          refine G.op rfl (G.val rfl rfl (pv_lenSl Try.underlying22 rfl) ?_)
          refine G.op rfl (G.val rfl rfl (pv_eql rfl rfl) ?_)
          refine G.op rfl (G.val rfl rfl (pv_assign rfl) ?_)
          refine G.nil ?_
          refine G.nThen ?_
          refine G.condP rfl (fun h43 => ?_) (fun h43 => ?_)
          · refine G.region ?_
            refine G.op rfl (G.val rfl rfl (pv_assign rfl) ?_)
            refine G.nil ?_
            refine G.nBlock ?_
            exact G.meet (1) (by first | exact trivial | ((try dsimp only); exact ord_gt (by omega) (by omega))) (.consE rfl (by first | rfl | exact int_eq (by first | omega | (dsimp only; omega)) | exact congrArg _ (by omega)) (.cons rfl (.cons rfl (.cons rfl (.cons rfl (.cons rfl .nil)))))) (by repeat (first | exact Sub.nil | (apply Sub.cons; (repeat (first | with_reducible exact Sel.here | exact Sel.here | apply Sel.there)))))
          · refine G.seq ?_
            refine G.region ?_
            refine G.op rfl (G.val rfl rfl (pv_move rfl) ?_)
            refine G.op rfl (G.val rfl rfl (pv_lenSl Try.underlying22 rfl) ?_)
            refine G.op rfl (G.val rfl rfl (pv_eql rfl rfl) ?_)
            refine G.op rfl (G.val rfl rfl (pv_assign rfl) ?_)
            refine G.nil ?_
            refine G.nThen ?_
            refine G.condP rfl (fun h47 => ?_) (fun h47 => ?_)
            · refine G.region ?_
              refine G.op rfl (G.val rfl rfl (pv_assign rfl) ?_)
              refine G.nil ?_
              refine G.nBlock ?_
              exact G.meet ((-1)) (by first | exact trivial | ((try dsimp only); exact ord_lt (by omega) (by omega))) (.consE rfl (by first | rfl | exact int_eq (by first | omega | (dsimp only; omega)) | exact congrArg _ (by omega)) (.cons rfl (.cons rfl (.cons rfl (.cons rfl (.cons rfl .nil)))))) (by repeat (first | exact Sub.nil | (apply Sub.cons; (repeat (first | with_reducible exact Sel.here | exact Sel.here | apply Sel.there)))))
            · have hlp0 : 0 < (xs.drop i).length := by omega
              have hEp := help 0 hlp0
              have hRp := Ro.evRng hEp
              have hDp := Ro.evDat hEp
              obtain ⟨hk1p, hk2p, hlpp, hldp, hltp⟩ := Ro.evOk hEp
              have hCp := Ro.one1 hDp
              have hgx := ens_drop0 hlp0
              have hlq0 : 0 < (ys.drop j).length := by omega
              have hEq := helq 0 hlq0
              have hRq := Ro.evRng hEq
              have hDq := Ro.evDat hEq
              obtain ⟨hk1q, hk2q, hlpq, hldq, hltq⟩ := Ro.evOk hEq
              have hCq := Ro.one1 hDq
              have hgy := ens_drop0 hlq0
              refine G.drawT (nn := 10) (p := []) (rem := 1023) [0, 1, 2, 4, 0, 16, 32, 64, 136, 511] [0, 1, 2, 4, 0, 16, 32, 64, 136, 256] (by kernel_rfl) ⟨rfl, by kernel_rfl, by kernel_rfl⟩ (by repeat (first | exact Sub.nil | (apply Sub.cons; (repeat (first | with_reducible exact Sel.here | exact Sel.here | apply Sel.there))))) (by kernel_rfl) (fun hT7 => ?_)
              refine G.takeT hT7 (i := 0) (rem' := 1022) rfl rfl rfl (by kernel_rfl) (fun _ _ _ h => h) rfl (pv_move rfl) (by repeat (first | exact Sub.nil | (apply Sub.cons; (repeat (first | with_reducible exact Sel.here | exact Sel.here | apply Sel.there))))) ?_
              refine G.takeT hT7 (i := 1) (rem' := 1020) rfl rfl rfl (by kernel_rfl) (fun _ _ _ h => h) rfl (pv_ixSl (sz := 5) Try.underlying22 (by kernel_rfl) rfl rfl (by first | with_reducible assumption | assumption | exact fun _ => rfl) rfl (by omega)) (by repeat (first | exact Sub.nil | (apply Sub.cons; (repeat (first | with_reducible exact Sel.here | exact Sel.here | apply Sel.there))))) ?_
              refine G.takeT hT7 (i := 2) (rem' := 1016) rfl rfl rfl (by kernel_rfl) (fun _ _ _ h => h) rfl (pv_fieldAddrK (sz := 0) (k := 0) Try.underlying31 rfl (by kernel_rfl) rfl rfl) (by repeat (first | exact Sub.nil | (apply Sub.cons; (repeat (first | with_reducible exact Sel.here | exact Sel.here | apply Sel.there))))) ?_
              refine G.takeT hT7 (i := 4) (rem' := 1000) rfl rfl rfl (by kernel_rfl) (fun _ _ _ h => h) rfl (pv_move rfl) (by repeat (first | exact Sub.nil | (apply Sub.cons; (repeat (first | with_reducible exact Sel.here | exact Sel.here | apply Sel.there))))) ?_
              refine G.takeT hT7 (i := 5) (rem' := 968) rfl rfl rfl (by kernel_rfl) (fun _ _ _ h => h) rfl (pv_ixSl (sz := 5) Try.underlying22 (by kernel_rfl) rfl rfl (by first | with_reducible assumption | assumption | exact fun _ => rfl) rfl (by omega)) (by repeat (first | exact Sub.nil | (apply Sub.cons; (repeat (first | with_reducible exact Sel.here | exact Sel.here | apply Sel.there))))) ?_
              refine G.takeT hT7 (i := 6) (rem' := 904) rfl rfl rfl (by kernel_rfl) (fun _ _ _ h => h) rfl (pv_fieldAddrK (sz := 0) (k := 0) Try.underlying31 rfl (by kernel_rfl) rfl rfl) (by repeat (first | exact Sub.nil | (apply Sub.cons; (repeat (first | with_reducible exact Sel.here | exact Sel.here | apply Sel.there))))) ?_
              refine G.takeT hT7 (i := 3) (rem' := 896) rfl rfl rfl (by kernel_rfl) (fun _ _ _ h => h) rfl (pv_load Try.underlying9 rfl rfl (by first | exact blk_cell (by (repeat (first | with_reducible exact Sel.here | exact Sel.here | apply Sel.there)); done) (by rfl) | exact rng_cell (by (repeat (first | with_reducible exact Sel.here | exact Sel.here | apply Sel.there)); done) (by rfl) | exact ro_blk (by assumption) (by rfl) | exact ro_rngC (by assumption) (by rfl) | exact ro_int (by assumption) | exact ro_byte (by assumption) | exact ro_str (by assumption) | with_reducible assumption | assumption)) (by repeat (first | exact Sub.nil | (apply Sub.cons; (repeat (first | with_reducible exact Sel.here | exact Sel.here | apply Sel.there))))) ?_
              refine G.oneT hT7 (i := 7) (rem' := 768) (by kernel_rfl) (by kernel_rfl) ?_
              refine G.turnOp rfl rfl (G.val rfl rfl (pv_load Try.underlying9 rfl rfl (by first | exact blk_cell (by (repeat (first | with_reducible exact Sel.here | exact Sel.here | apply Sel.there)); done) (by rfl) | exact rng_cell (by (repeat (first | with_reducible exact Sel.here | exact Sel.here | apply Sel.there)); done) (by rfl) | exact ro_blk (by assumption) (by rfl) | exact ro_rngC (by assumption) (by rfl) | exact ro_int (by assumption) | exact ro_byte (by assumption) | exact ro_str (by assumption) | with_reducible assumption | assumption)) ?_)
              refine G.back (by repeat (first | exact Sub.nil | (apply Sub.cons; (repeat (first | with_reducible exact Sel.here | exact Sel.here | apply Sel.there))))) ?_
              refine G.oneT hT7 (i := 8) (rem' := 512) (by kernel_rfl) (by kernel_rfl) ?_
              refine G.turnOp rfl rfl (G.cR rfl rfl rfl rfl Try.func17 rfl rfl may0 (compare_tr _ _ (by omega) (by omega)) ?_)
              refine G.back (by repeat (first | exact Sub.nil | (apply Sub.cons; (repeat (first | with_reducible exact Sel.here | exact Sel.here | apply Sel.there))))) ?_
              refine G.takeT hT7 (i := 9) (rem' := 0) rfl rfl rfl (by kernel_rfl) (fun _ _ _ h => h) rfl (pv_assign rfl) (by repeat (first | exact Sub.nil | (apply Sub.cons; (repeat (first | with_reducible exact Sel.here | exact Sel.here | apply Sel.there))))) ?_
              refine G.overT hT7 (by kernel_rfl) ?_
              refine G.nBlock ?_
              exact G.meet ((compareM (xs.drop i)[0].1.path (ys.drop j)[0].1.path)) (by first | exact trivial | ((try dsimp only); exact ord_cmp hgx hgy)) (.consE rfl (by first | rfl | exact int_eq (by first | omega | (dsimp only; omega)) | exact congrArg _ (by omega)) (.cons rfl (.cons rfl (.cons rfl (.cons rfl (.cons rfl .nil)))))) (by repeat (first | exact Sub.nil | (apply Sub.cons; (repeat (first | with_reducible exact Sel.here | exact Sel.here | apply Sel.there)))))
        · intro o hJ
          try dsimp only at hJ
          try dsimp only
          have hO := hJ
          refine G.seq ?_
          refine G.cutK (X := Value × Value × Value × (List (List UInt8)) × (List (List UInt8)) × (List (List UInt8))) (ts := [0, 1, 11]) (p := [own 9 1 w1 _ _, own 9 1 w2 _ _, own 9 1 w3 _ _]) (fun st => DiffS (ens xs) (ens ys) (if o ≤ 0 then i + 1 else i) (if 0 ≤ o then j + 1 else j) st.2.2.2.1 st.2.2.2.2.1 st.2.2.2.2.2) (fun st => [(4, st.1), (5, st.2.1), (6, st.2.2.1)]) (fun st => [own 9 1 st.1 st.2.2.2.1.length (st.2.2.2.1.map vStr), own 9 1 st.2.1 st.2.2.2.2.1.length (st.2.2.2.2.1.map vStr), own 9 1 st.2.2.1 st.2.2.2.2.2.length (st.2.2.2.2.2.map vStr)]) (.cons rfl (.cons rfl (.cons rfl .nil))) (by repeat (first | exact Sub.nil | (apply Sub.cons; (repeat (first | with_reducible exact Sel.here | exact Sel.here | apply Sel.there))))) (.cons (.cons (.cons .nil))) (by repeat (first | exact Ap.nil | apply Ap.cons)) ?_ ?_
          · refine G.block ?_
            refine G.seq ?_
            refine G.region ?_
            refine G.op rfl (G.val rfl rfl (pv_move rfl) ?_)
            refine G.op rfl (G.val rfl rfl (pv_gtr rfl rfl) ?_)
            refine G.op rfl (G.val rfl rfl (pv_assign rfl) ?_)
            refine G.nil ?_
            refine G.nThen ?_
            refine G.condP rfl (fun h51 => ?_) (fun h51 => ?_)
            · have hq1 := (hO.1 (by omega)).1
              have hlq0 : 0 < (ys.drop j).length := by omega
              have hEq := helq 0 hlq0
              have hRq := Ro.evRng hEq
              have hDq := Ro.evDat hEq
              obtain ⟨hk1q, hk2q, hlpq, hldq, hltq⟩ := Ro.evOk hEq
              have hCq := Ro.one1 hDq
              have hgy := ens_drop0 hlq0
              refine G.region ?_
              refine G.op rfl (G.val rfl rfl (pv_move rfl) ?_)
              refine G.op rfl (G.val rfl rfl (pv_move rfl) ?_)
              refine G.op rfl (G.val rfl rfl (pv_ixSl (sz := 5) Try.underlying22 (by kernel_rfl) rfl rfl (by first | with_reducible assumption | assumption | exact fun _ => rfl) rfl (by omega)) ?_)
              refine G.op rfl (G.val rfl rfl (pv_fieldAddrK (sz := 0) (k := 0) Try.underlying31 rfl (by kernel_rfl) rfl rfl) ?_)
              refine G.op rfl (G.val rfl rfl (pv_load Try.underlying9 rfl rfl (by first | exact blk_cell (by (repeat (first | with_reducible exact Sel.here | exact Sel.here | apply Sel.there)); done) (by rfl) | exact rng_cell (by (repeat (first | with_reducible exact Sel.here | exact Sel.here | apply Sel.there)); done) (by rfl) | exact ro_blk (by assumption) (by rfl) | exact ro_rngC (by assumption) (by rfl) | exact ro_int (by assumption) | exact ro_byte (by assumption) | exact ro_str (by assumption) | with_reducible assumption | assumption)) ?_)
              refine G.op rfl (G.lit1 (vs := [_]) rfl Try.underlying44 (by kernel_rfl) rfl (by decide) (by decide) rfl rfl ?_)
              intro b59
              refine G.op rfl (G.append (k := l1.length) (j := 1) (cs := l1.map vStr) (news := [vStr (ys.drop j)[0].1.path]) (b := b59) (off := 0) rfl Try.underlying44 Try.infoStr' rfl rfl rfl (by repeat (first | with_reducible exact Sel.here | exact Sel.here | apply Sel.there)) (fun _ => rfl) (fun h => by cases h) rfl (blk_news (k := 1) (by repeat (first | with_reducible exact Sel.here | exact Sel.here | apply Sel.there)) rfl) (vStr_one [(ys.drop j)[0].1.path]) (by omega) (by omega) ?_)
              intro y1
              rw [own_snoc, len_snoc]
              refine G.op rfl (G.val rfl rfl (pv_assign rfl) ?_)
              refine G.nil ?_
              refine G.nBlock ?_
              exact G.meet ((y1, w2, w3, l1 ++ [(ys.drop j)[0].1.path], l2, l3)) (by first | exact trivial | ((try dsimp only); exact by rw [if_neg (by omega), if_pos (by omega)]; exact diff_gt hsx hsy hD hO (by omega) hgy)) (.consE rfl (by first | rfl | exact int_eq (by first | omega | (dsimp only; omega)) | exact congrArg _ (by omega)) (.consE rfl (by first | rfl | exact int_eq (by first | omega | (dsimp only; omega)) | exact congrArg _ (by omega)) (.consE rfl (by first | rfl | exact int_eq (by first | omega | (dsimp only; omega)) | exact congrArg _ (by omega)) (.cons rfl (.cons rfl (.cons rfl .nil)))))) (by repeat (first | exact Sub.nil | (apply Sub.cons; (repeat (first | with_reducible exact Sel.here | exact Sel.here | apply Sel.there)))))
            · refine G.seq ?_
              refine G.region ?_
              refine G.op rfl (G.val rfl rfl (pv_move rfl) ?_)
              refine G.op rfl (G.val rfl rfl (pv_lss rfl rfl) ?_)
              refine G.op rfl (G.val rfl rfl (pv_assign rfl) ?_)
              refine G.nil ?_
              refine G.nThen ?_
              refine G.condP rfl (fun h61 => ?_) (fun h61 => ?_)
              · have hp1 := (hO.2.1 (by omega)).1
                have hlp0 : 0 < (xs.drop i).length := by omega
                have hEp := help 0 hlp0
                have hRp := Ro.evRng hEp
                have hDp := Ro.evDat hEp
                obtain ⟨hk1p, hk2p, hlpp, hldp, hltp⟩ := Ro.evOk hEp
                have hCp := Ro.one1 hDp
                have hgx := ens_drop0 hlp0
                refine G.region ?_
                refine G.op rfl (G.val rfl rfl (pv_move rfl) ?_)
                refine G.op rfl (G.val rfl rfl (pv_move rfl) ?_)
                refine G.op rfl (G.val rfl rfl (pv_ixSl (sz := 5) Try.underlying22 (by kernel_rfl) rfl rfl (by first | with_reducible assumption | assumption | exact fun _ => rfl) rfl (by omega)) ?_)
                refine G.op rfl (G.val rfl rfl (pv_fieldAddrK (sz := 0) (k := 0) Try.underlying31 rfl (by kernel_rfl) rfl rfl) ?_)
                refine G.op rfl (G.val rfl rfl (pv_load Try.underlying9 rfl rfl (by first | exact blk_cell (by (repeat (first | with_reducible exact Sel.here | exact Sel.here | apply Sel.there)); done) (by rfl) | exact rng_cell (by (repeat (first | with_reducible exact Sel.here | exact Sel.here | apply Sel.there)); done) (by rfl) | exact ro_blk (by assumption) (by rfl) | exact ro_rngC (by assumption) (by rfl) | exact ro_int (by assumption) | exact ro_byte (by assumption) | exact ro_str (by assumption) | with_reducible assumption | assumption)) ?_)
                refine G.op rfl (G.lit1 (vs := [_]) rfl Try.underlying44 (by kernel_rfl) rfl (by decide) (by decide) rfl rfl ?_)
                intro b69
                refine G.op rfl (G.append (k := l2.length) (j := 1) (cs := l2.map vStr) (news := [vStr (xs.drop i)[0].1.path]) (b := b69) (off := 0) rfl Try.underlying44 Try.infoStr' rfl rfl rfl (by repeat (first | with_reducible exact Sel.here | exact Sel.here | apply Sel.there)) (fun _ => rfl) (fun h => by cases h) rfl (blk_news (k := 1) (by repeat (first | with_reducible exact Sel.here | exact Sel.here | apply Sel.there)) rfl) (vStr_one [(xs.drop i)[0].1.path]) (by omega) (by omega) ?_)
                intro y2
                rw [own_snoc, len_snoc]
                refine G.op rfl (G.val rfl rfl (pv_assign rfl) ?_)
                refine G.nil ?_
                refine G.nBlock ?_
                exact G.meet ((w1, y2, w3, l1, l2 ++ [(xs.drop i)[0].1.path], l3)) (by first | exact trivial | ((try dsimp only); exact by rw [if_pos (by omega), if_neg (by omega)]; exact diff_lt hsx hsy hD hO (by omega) hgx)) (.consE rfl (by first | rfl | exact int_eq (by first | omega | (dsimp only; omega)) | exact congrArg _ (by omega)) (.consE rfl (by first | rfl | exact int_eq (by first | omega | (dsimp only; omega)) | exact congrArg _ (by omega)) (.consE rfl (by first | rfl | exact int_eq (by first | omega | (dsimp only; omega)) | exact congrArg _ (by omega)) (.cons rfl (.cons rfl (.cons rfl .nil)))))) (by repeat (first | exact Sub.nil | (apply Sub.cons; (repeat (first | with_reducible exact Sel.here | exact Sel.here | apply Sel.there)))))
              · have hpq := hO.2.2 (by omega)
                have hp1 := hpq.1
                have hq1 := hpq.2.1
                have hlp0 : 0 < (xs.drop i).length := by omega
                have hEp := help 0 hlp0
                have hRp := Ro.evRng hEp
                have hDp := Ro.evDat hEp
                obtain ⟨hk1p, hk2p, hlpp, hldp, hltp⟩ := Ro.evOk hEp
                have hCp := Ro.one1 hDp
                have hgx := ens_drop0 hlp0
                have hlq0 : 0 < (ys.drop j).length := by omega
                have hEq := helq 0 hlq0
                have hRq := Ro.evRng hEq
                have hDq := Ro.evDat hEq
                obtain ⟨hk1q, hk2q, hlpq, hldq, hltq⟩ := Ro.evOk hEq
                have hCq := Ro.one1 hDq
                have hgy := ens_drop0 hlq0
                refine G.seq ?_
                refine G.drawT (nn := 9) (p := []) (rem := 511) [0, 1, 2, 0, 8, 16, 36, 64, 192] [0, 1, 2, 0, 8, 16, 36, 64, 128] (by kernel_rfl) ⟨rfl, by kernel_rfl, by kernel_rfl⟩ (by repeat (first | exact Sub.nil | (apply Sub.cons; (repeat (first | with_reducible exact Sel.here | exact Sel.here | apply Sel.there))))) (by kernel_rfl) (fun hT16 => ?_)
                refine G.takeT hT16 (i := 0) (rem' := 510) rfl rfl rfl (by kernel_rfl) (fun _ _ _ h => h) rfl (pv_move rfl) (by repeat (first | exact Sub.nil | (apply Sub.cons; (repeat (first | with_reducible exact Sel.here | exact Sel.here | apply Sel.there))))) ?_
                refine G.takeT hT16 (i := 1) (rem' := 508) rfl rfl rfl (by kernel_rfl) (fun _ _ _ h => h) rfl (pv_ixSl (sz := 5) Try.underlying22 (by kernel_rfl) rfl rfl (by first | with_reducible assumption | assumption | exact fun _ => rfl) rfl (by omega)) (by repeat (first | exact Sub.nil | (apply Sub.cons; (repeat (first | with_reducible exact Sel.here | exact Sel.here | apply Sel.there))))) ?_
                refine G.takeT hT16 (i := 3) (rem' := 500) rfl rfl rfl (by kernel_rfl) (fun _ _ _ h => h) rfl (pv_move rfl) (by repeat (first | exact Sub.nil | (apply Sub.cons; (repeat (first | with_reducible exact Sel.here | exact Sel.here | apply Sel.there))))) ?_
                refine G.takeT hT16 (i := 4) (rem' := 484) rfl rfl rfl (by kernel_rfl) (fun _ _ _ h => h) rfl (pv_ixSl (sz := 5) Try.underlying22 (by kernel_rfl) rfl rfl (by first | with_reducible assumption | assumption | exact fun _ => rfl) rfl (by omega)) (by repeat (first | exact Sub.nil | (apply Sub.cons; (repeat (first | with_reducible exact Sel.here | exact Sel.here | apply Sel.there))))) ?_
                refine G.takeT hT16 (i := 2) (rem' := 480) rfl rfl rfl (by kernel_rfl) (fun _ _ _ h => h) rfl (pv_loadN (cs := [_, _, _, _, _]) Try.underlying31 rfl (by kernel_rfl) rfl (by first | exact blk_range (k := 5) (by (repeat (first | with_reducible exact Sel.here | exact Sel.here | apply Sel.there)); done) (by rfl) | exact ro_rng0 (by assumption) | exact rng_range (k := 5) (by (repeat (first | with_reducible exact Sel.here | exact Sel.here | apply Sel.there)); done) (by rfl) | exact ro_range (k := 5) (by assumption) (by rfl) | exact ro_rngR (k := 5) (by assumption) (by rfl))) (by repeat (first | exact Sub.nil | (apply Sub.cons; (repeat (first | with_reducible exact Sel.here | exact Sel.here | apply Sel.there))))) ?_
                refine G.oneT hT16 (i := 5) (rem' := 448) (by kernel_rfl) (by kernel_rfl) ?_
                refine G.turnOp rfl rfl (G.val rfl rfl (pv_loadN (cs := [_, _, _, _, _]) Try.underlying31 rfl (by kernel_rfl) rfl (by first | exact blk_range (k := 5) (by (repeat (first | with_reducible exact Sel.here | exact Sel.here | apply Sel.there)); done) (by rfl) | exact ro_rng0 (by assumption) | exact rng_range (k := 5) (by (repeat (first | with_reducible exact Sel.here | exact Sel.here | apply Sel.there)); done) (by rfl) | exact ro_range (k := 5) (by assumption) (by rfl) | exact ro_rngR (k := 5) (by assumption) (by rfl))) ?_)
                refine G.back (by repeat (first | exact Sub.nil | (apply Sub.cons; (repeat (first | with_reducible exact Sel.here | exact Sel.here | apply Sel.there))))) ?_
                refine G.oneT hT16 (i := 6) (rem' := 384) (by kernel_rfl) (by kernel_rfl) ?_
                refine G.turnOp rfl rfl (G.cR rfl rfl rfl rfl Try.func53 rfl rfl (may2 (by first | (apply May.old; first | with_reducible assumption | assumption) | (apply Sel.may; (repeat (first | with_reducible exact Sel.here | exact Sel.here | apply Sel.there)); done) | (apply may_own; (repeat (first | with_reducible exact Sel.here | exact Sel.here | apply Sel.there)); exact rfl; exact (fun _ _ => trivial); done) | (apply may_ownB; (repeat (first | with_reducible exact Sel.here | exact Sel.here | apply Sel.there)); done) | (apply may_tree; (repeat (first | with_reducible exact Sel.here | exact Sel.here | apply Sel.there)); (repeat (first | with_reducible exact Sel.here | exact Sel.here | apply Sel.there)); assumption; done)) (by first | (apply May.old; first | with_reducible assumption | assumption) | (apply Sel.may; (repeat (first | with_reducible exact Sel.here | exact Sel.here | apply Sel.there)); done) | (apply may_own; (repeat (first | with_reducible exact Sel.here | exact Sel.here | apply Sel.there)); exact rfl; exact (fun _ _ => trivial); done) | (apply may_ownB; (repeat (first | with_reducible exact Sel.here | exact Sel.here | apply Sel.there)); done) | (apply may_tree; (repeat (first | with_reducible exact Sel.here | exact Sel.here | apply Sel.there)); (repeat (first | with_reducible exact Sel.here | exact Sel.here | apply Sel.there)); assumption; done))) (alike_tr _ _ _ _) ?_)
                refine G.back (by repeat (first | exact Sub.nil | (apply Sub.cons; (repeat (first | with_reducible exact Sel.here | exact Sel.here | apply Sel.there))))) ?_
                refine G.takeT hT16 (i := 7) (rem' := 256) rfl rfl rfl (by kernel_rfl) (fun _ _ _ h => h) rfl (pv_notP rfl) (by repeat (first | exact Sub.nil | (apply Sub.cons; (repeat (first | with_reducible exact Sel.here | exact Sel.here | apply Sel.there))))) ?_
                refine G.takeT hT16 (i := 8) (rem' := 0) rfl rfl rfl (by kernel_rfl) (fun _ _ _ h => h) rfl (pv_assign rfl) (by repeat (first | exact Sub.nil | (apply Sub.cons; (repeat (first | with_reducible exact Sel.here | exact Sel.here | apply Sel.there))))) ?_
                refine G.overT hT16 (by kernel_rfl) ?_
                refine G.nThen ?_
                refine G.condP rfl (fun h71 => ?_) (fun h71 => ?_)
                · refine G.region ?_
                  refine G.op rfl (G.val rfl rfl (pv_move rfl) ?_)
                  refine G.op rfl (G.val rfl rfl (pv_move rfl) ?_)
                  refine G.op rfl (G.val rfl rfl (pv_ixSl (sz := 5) Try.underlying22 (by kernel_rfl) rfl rfl (by first | with_reducible assumption | assumption | exact fun _ => rfl) rfl (by omega)) ?_)
                  refine G.op rfl (G.val rfl rfl (pv_fieldAddrK (sz := 0) (k := 0) Try.underlying31 rfl (by kernel_rfl) rfl rfl) ?_)
                  refine G.op rfl (G.val rfl rfl (pv_load Try.underlying9 rfl rfl (by first | exact blk_cell (by (repeat (first | with_reducible exact Sel.here | exact Sel.here | apply Sel.there)); done) (by rfl) | exact rng_cell (by (repeat (first | with_reducible exact Sel.here | exact Sel.here | apply Sel.there)); done) (by rfl) | exact ro_blk (by assumption) (by rfl) | exact ro_rngC (by assumption) (by rfl) | exact ro_int (by assumption) | exact ro_byte (by assumption) | exact ro_str (by assumption) | with_reducible assumption | assumption)) ?_)
                  refine G.op rfl (G.lit1 (vs := [_]) rfl Try.underlying44 (by kernel_rfl) rfl (by decide) (by decide) rfl rfl ?_)
                  intro b85
                  refine G.op rfl (G.append (k := l3.length) (j := 1) (cs := l3.map vStr) (news := [vStr (xs.drop i)[0].1.path]) (b := b85) (off := 0) rfl Try.underlying44 Try.infoStr' rfl rfl rfl (by repeat (first | with_reducible exact Sel.here | exact Sel.here | apply Sel.there)) (fun _ => rfl) (fun h => by cases h) rfl (blk_news (k := 1) (by repeat (first | with_reducible exact Sel.here | exact Sel.here | apply Sel.there)) rfl) (vStr_one [(xs.drop i)[0].1.path]) (by omega) (by omega) ?_)
                  intro y3
                  rw [own_snoc, len_snoc]
                  refine G.op rfl (G.val rfl rfl (pv_assign rfl) ?_)
                  refine G.nil ?_
                  refine G.nBlock ?_
                  exact G.meet ((w1, w2, y3, l1, l2, l3 ++ [(xs.drop i)[0].1.path])) (by first | exact trivial | ((try dsimp only); exact by rw [if_pos (by omega), if_pos (by omega)]; have hh := diff_eq hsx hsy hD hO (by omega) hgx hgy; rwa [if_neg (by assumption)] at hh)) (.consE rfl (by first | rfl | exact int_eq (by first | omega | (dsimp only; omega)) | exact congrArg _ (by omega)) (.consE rfl (by first | rfl | exact int_eq (by first | omega | (dsimp only; omega)) | exact congrArg _ (by omega)) (.consE rfl (by first | rfl | exact int_eq (by first | omega | (dsimp only; omega)) | exact congrArg _ (by omega)) (.cons rfl (.cons rfl (.cons rfl .nil)))))) (by repeat (first | exact Sub.nil | (apply Sub.cons; (repeat (first | with_reducible exact Sel.here | exact Sel.here | apply Sel.there)))))
                · refine G.skip ?_
                  refine G.nBlock ?_
                  exact G.meet ((w1, w2, w3, l1, l2, l3)) (by first | exact trivial | ((try dsimp only); exact by rw [if_pos (by omega), if_pos (by omega)]; have hh := diff_eq hsx hsy hD hO (by omega) hgx hgy; rwa [if_pos (Decidable.of_not_not (by assumption))] at hh)) (.consE rfl (by first | rfl | exact int_eq (by first | omega | (dsimp only; omega)) | exact congrArg _ (by omega)) (.consE rfl (by first | rfl | exact int_eq (by first | omega | (dsimp only; omega)) | exact congrArg _ (by omega)) (.consE rfl (by first | rfl | exact int_eq (by first | omega | (dsimp only; omega)) | exact congrArg _ (by omega)) (.cons rfl (.cons rfl (.cons rfl .nil)))))) (by repeat (first | exact Sub.nil | (apply Sub.cons; (repeat (first | with_reducible exact Sel.here | exact Sel.here | apply Sel.there)))))
          · intro st hJ
            obtain ⟨z1, z2, z3, m1, m2, m3⟩ := st
            try dsimp only at hJ
            try dsimp only
            have hD2 := hJ
            refine G.seq ?_
            refine G.seq ?_
            refine G.region ?_
            refine G.op rfl (G.val rfl rfl (pv_move rfl) ?_)
            refine G.op rfl (G.val rfl rfl (pv_leq rfl rfl) ?_)
            refine G.nil ?_
            refine G.nThen ?_
            refine G.condP rfl (fun h88 => ?_) (fun h88 => ?_)
            · have hix : i < xs.length := by rcases (by omega : o < 0 ∨ o = 0) with h | h; have := (hO.2.1 h).1; omega; have := (hO.2.2 h).1; omega
              have hSx := Ro.subT hp' (i := 1) (j := (xs.drop i).length) (by omega) (Nat.le_refl _)
              rw [List.take_length, List.drop_drop] at hSx
              refine G.region ?_
              refine G.op rfl (G.val rfl rfl (pv_move rfl) ?_)
              refine G.op rfl (G.val rfl rfl (pv_subL (sz := 5) (k := 1) Try.underlying22 (by kernel_rfl) rfl rfl rfl (by omega)) ?_)
              refine G.op rfl (G.val rfl rfl (pv_assign rfl) ?_)
              refine G.nil ?_
              refine G.nThen ?_
              refine G.seq ?_
              refine G.region ?_
              refine G.op rfl (G.val rfl rfl (pv_move rfl) ?_)
              refine G.op rfl (G.val rfl rfl (pv_geq rfl rfl) ?_)
              refine G.nil ?_
              refine G.nThen ?_
              refine G.condP rfl (fun h92 => ?_) (fun h92 => ?_)
              · have hjy : j < ys.length := by rcases (by omega : 0 < o ∨ o = 0) with h | h; have := (hO.1 h).1; omega; have := (hO.2.2 h).2.1; omega
                have hSy := Ro.subT hq' (i := 1) (j := (ys.drop j).length) (by omega) (Nat.le_refl _)
                rw [List.take_length, List.drop_drop] at hSy
                refine G.region ?_
                refine G.op rfl (G.val rfl rfl (pv_move rfl) ?_)
                refine G.op rfl (G.val rfl rfl (pv_subL (sz := 5) (k := 1) Try.underlying22 (by kernel_rfl) rfl rfl rfl (by omega)) ?_)
                refine G.op rfl (G.val rfl rfl (pv_assign rfl) ?_)
                refine G.nil ?_
                refine G.nBlock ?_
                exact G.next ((i + 1, j + 1, (subV 5 ap 1 (xs.drop i).length cp), (subV 5 aq 1 (ys.drop j).length cq), z1, z2, z3, m1, m2, m3)) (by first | exact trivial | ((try dsimp only); exact ⟨by rw [if_pos (by omega), if_pos (by omega)] at hD2; exact hD2, hSx, hSy⟩)) (by (try dsimp only); omega) (.consE rfl (by first | rfl | exact int_eq (by first | omega | (dsimp only; omega)) | exact congrArg _ (by omega)) (.consE rfl (by first | rfl | exact int_eq (by first | omega | (dsimp only; omega)) | exact congrArg _ (by omega)) (.consE rfl (by first | rfl | exact int_eq (by first | omega | (dsimp only; omega)) | exact congrArg _ (by omega)) (.consE rfl (by first | rfl | exact int_eq (by first | omega | (dsimp only; omega)) | exact congrArg _ (by omega)) (.consE rfl (by first | rfl | exact int_eq (by first | omega | (dsimp only; omega)) | exact congrArg _ (by omega)) .nil))))) (by repeat (first | exact Sub.nil | (apply Sub.cons; (repeat (first | with_reducible exact Sel.here | exact Sel.here | apply Sel.there)))))
              · refine G.skip ?_
                refine G.nBlock ?_
                exact G.next ((i + 1, j, (subV 5 ap 1 (xs.drop i).length cp), .slice aq (ys.drop j).length cq, z1, z2, z3, m1, m2, m3)) (by first | exact trivial | ((try dsimp only); exact ⟨by rw [if_pos (by omega), if_neg (by omega)] at hD2; exact hD2, hSx, hq'⟩)) (by (try dsimp only); omega) (.consE rfl (by first | rfl | exact int_eq (by first | omega | (dsimp only; omega)) | exact congrArg _ (by omega)) (.consE rfl (by first | rfl | exact int_eq (by first | omega | (dsimp only; omega)) | exact congrArg _ (by omega)) (.consE rfl (by first | rfl | exact int_eq (by first | omega | (dsimp only; omega)) | exact congrArg _ (by omega)) (.consE rfl (by first | rfl | exact int_eq (by first | omega | (dsimp only; omega)) | exact congrArg _ (by omega)) (.consE rfl (by first | rfl | exact int_eq (by first | omega | (dsimp only; omega)) | exact congrArg _ (by omega)) .nil))))) (by repeat (first | exact Sub.nil | (apply Sub.cons; (repeat (first | with_reducible exact Sel.here | exact Sel.here | apply Sel.there)))))
            · refine G.skip ?_
              refine G.nThen ?_
              refine G.seq ?_
              refine G.region ?_
              refine G.op rfl (G.val rfl rfl (pv_move rfl) ?_)
              refine G.op rfl (G.val rfl rfl (pv_geq rfl rfl) ?_)
              refine G.nil ?_
              refine G.nThen ?_
              refine G.condP rfl (fun h92 => ?_) (fun h92 => ?_)
              · have hjy : j < ys.length := by rcases (by omega : 0 < o ∨ o = 0) with h | h; have := (hO.1 h).1; omega; have := (hO.2.2 h).2.1; omega
                have hSy := Ro.subT hq' (i := 1) (j := (ys.drop j).length) (by omega) (Nat.le_refl _)
                rw [List.take_length, List.drop_drop] at hSy
                refine G.region ?_
                refine G.op rfl (G.val rfl rfl (pv_move rfl) ?_)
                refine G.op rfl (G.val rfl rfl (pv_subL (sz := 5) (k := 1) Try.underlying22 (by kernel_rfl) rfl rfl rfl (by omega)) ?_)
                refine G.op rfl (G.val rfl rfl (pv_assign rfl) ?_)
                refine G.nil ?_
                refine G.nBlock ?_
                exact G.next ((i, j + 1, .slice ap (xs.drop i).length cp, (subV 5 aq 1 (ys.drop j).length cq), z1, z2, z3, m1, m2, m3)) (by first | exact trivial | ((try dsimp only); exact ⟨by rw [if_neg (by omega), if_pos (by omega)] at hD2; exact hD2, hp', hSy⟩)) (by (try dsimp only); omega) (.consE rfl (by first | rfl | exact int_eq (by first | omega | (dsimp only; omega)) | exact congrArg _ (by omega)) (.consE rfl (by first | rfl | exact int_eq (by first | omega | (dsimp only; omega)) | exact congrArg _ (by omega)) (.consE rfl (by first | rfl | exact int_eq (by first | omega | (dsimp only; omega)) | exact congrArg _ (by omega)) (.consE rfl (by first | rfl | exact int_eq (by first | omega | (dsimp only; omega)) | exact congrArg _ (by omega)) (.consE rfl (by first | rfl | exact int_eq (by first | omega | (dsimp only; omega)) | exact congrArg _ (by omega)) .nil))))) (by repeat (first | exact Sub.nil | (apply Sub.cons; (repeat (first | with_reducible exact Sel.here | exact Sel.here | apply Sel.there)))))
              · refine G.skip ?_
                refine G.nBlock ?_
                exfalso; omega
      · refine G.exit ?_
        refine G.eThen ?_
        refine G.eThen ?_
        refine G.eBlock ?_
        refine G.nThen ?_
        refine G.seq ?_
        refine G.region ?_
        refine G.op rfl (G.val rfl rfl (pv_move rfl) ?_)
        refine G.op rfl (G.val rfl rfl (pv_move rfl) ?_)
        refine G.op rfl (G.val rfl rfl (pv_move rfl) ?_)
        refine G.op rfl (G.val rfl rfl (pv_assign rfl) ?_)
        refine G.op rfl (G.val rfl rfl (pv_assign rfl) ?_)
        refine G.op rfl (G.val rfl rfl (pv_assign rfl) ?_)
        refine G.nil ?_
        refine G.nThen ?_
        refine G.ret ?_
        obtain ⟨rfl, rfl, rfl⟩ := diff_end hD (by omega) (by omega)
        rw [hgood]
        exact G.doneX3 ((w1, w2, w3)) (by first | exact trivial | ((try dsimp only); exact trivial)) rfl rfl rfl rfl rfl (by repeat (first | exact Sub.nil | (apply Sub.cons; (repeat (first | with_reducible exact Sel.here | exact Sel.here | apply Sel.there)))))
end Go.Proofs.Ytchgaedidfefoaa

/- Contracts of layer 8: the reference's Diff. Conditions: none. -/
set_option linter.unusedVariables false
set_option linter.unusedSimpArgs false
namespace Go.Proofs.Ytchgaedidfefoaa
open Go.RowKit

theorem take_len {α : Type} (l : List α) (i : Nat) : (l.take i).length ≤ i := by rw [List.length_take]; omega
theorem at_pos {es : List En} {s : List UInt8} (h : ¬ atM es s < 0) : isAt es s := Decidable.of_not_not fun k => h (atM_neg.2 k)
theorem not_mem_sort {a : List En} (h : SortT a) {x y : En} (hx : x ∈ a) (hp : x.path = y.path) (hne : ¬ x = y) : ¬ y ∈ a := fun hy => hne (sort_inj h hx hy hp)
set_option maxRecDepth 20000 in
set_option maxHeartbeats 4000000 in

theorem diffR_tr {Ps Pu : Nat → Prop} (v u : Value) (xs ys : List ET) : Tr Try.prog 26 #[v, u] [slc rEV Ps v xs, slc rEV Pu u ys] []
    (TX (fun _ : Value × Value × Value => True) (fun z => .tuple #[z.1, z.2.1, z.2.2]) (fun z => [own 9 1 z.1 (diffM (ens xs) (ens ys)).1.length ((diffM (ens xs) (ens ys)).1.map vStr), own 9 1 z.2.1 (diffM (ens xs) (ens ys)).2.1.length ((diffM (ens xs) (ens ys)).2.1.map vStr), own 9 1 z.2.2 (diffM (ens xs) (ens ys)).2.2.length ((diffM (ens xs) (ens ys)).2.2.map vStr)])) := by
  refine Tr.of (l := [(0, v), (1, u)]) Try.func26 rfl (n := 103) rfl (.cons rfl (.cons rfl .nil)) (fun w0 hro => ?_)
  obtain ⟨hv0, hu0⟩ := ro2 hro
  have hlx := ens_length xs
  have hly := ens_length ys
  have hv := hv0
  have hv' := hv
  obtain ⟨av, cv, bv, fv, rfl, hcapv, hmaxv, hnilv, hadv, helv⟩ := Ro.openT hv
  have hu := hu0
  have hu' := hu
  obtain ⟨au, cu, bu, fu, rfl, hcapu, hmaxu, hnilu, hadu, helu⟩ := Ro.openT hu
  refine G.seq ?_
  refine G.region ?_
  refine G.op rfl (G.val rfl rfl (pv_assign rfl) ?_)
  refine G.op rfl (G.val rfl rfl (pv_assign rfl) ?_)
  refine G.op rfl (G.val rfl rfl (pv_assign rfl) ?_)
  refine G.nil ?_
  refine G.nThen ?_
  refine G.seq ?_
  refine G.region ?_
  refine G.op rfl (G.val rfl rfl (pv_assign rfl) ?_)
  refine G.op rfl (G.val rfl rfl (pv_assign rfl) ?_)
  refine G.op rfl (G.val rfl rfl (pv_assign rfl) ?_)
  refine G.nil ?_
  refine G.nThen ?_
  refine G.seq ?_
  refine G.region ?_
  refine G.op rfl (G.val rfl rfl (pv_move rfl) ?_)
  refine G.op rfl (G.cR rfl rfl rfl rfl Try.func19 rfl rfl (may1 (by first | (apply May.old; first | with_reducible assumption | assumption) | (apply Sel.may; (repeat (first | with_reducible exact Sel.here | exact Sel.here | apply Sel.there)); done) | (apply may_own; (repeat (first | with_reducible exact Sel.here | exact Sel.here | apply Sel.there)); exact rfl; exact (fun _ _ => trivial); done) | (apply may_ownB; (repeat (first | with_reducible exact Sel.here | exact Sel.here | apply Sel.there)); done) | (apply may_tree; (repeat (first | with_reducible exact Sel.here | exact Sel.here | apply Sel.there)); (repeat (first | with_reducible exact Sel.here | exact Sel.here | apply Sel.there)); assumption; done))) (tcheckR_tr _ _) ?_)
  refine G.op rfl (G.val rfl rfl (pv_move rfl) ?_)
  refine G.op rfl (G.val rfl rfl (pv_extract rfl rfl) ?_)
  refine G.op rfl (G.val rfl rfl (pv_extract rfl rfl) ?_)
  refine G.op rfl (G.val rfl rfl (pv_assign rfl) ?_)
  refine G.op rfl (G.val rfl rfl (pv_assign rfl) ?_)
  refine G.nil ?_
  refine G.nThen ?_
  refine G.seq ?_
  refine G.region ?_
  refine G.op rfl (G.val rfl rfl (pv_move rfl) ?_)
  refine G.op rfl (G.cR rfl rfl rfl rfl Try.func19 rfl rfl (may1 (by first | (apply May.old; first | with_reducible assumption | assumption) | (apply Sel.may; (repeat (first | with_reducible exact Sel.here | exact Sel.here | apply Sel.there)); done) | (apply may_own; (repeat (first | with_reducible exact Sel.here | exact Sel.here | apply Sel.there)); exact rfl; exact (fun _ _ => trivial); done) | (apply may_ownB; (repeat (first | with_reducible exact Sel.here | exact Sel.here | apply Sel.there)); done) | (apply may_tree; (repeat (first | with_reducible exact Sel.here | exact Sel.here | apply Sel.there)); (repeat (first | with_reducible exact Sel.here | exact Sel.here | apply Sel.there)); assumption; done))) (tcheckR_tr _ _) ?_)
  refine G.op rfl (G.val rfl rfl (pv_move rfl) ?_)
  refine G.op rfl (G.val rfl rfl (pv_extract rfl rfl) ?_)
  refine G.op rfl (G.val rfl rfl (pv_extract rfl rfl) ?_)
  refine G.op rfl (G.val rfl rfl (pv_assign rfl) ?_)
  refine G.op rfl (G.val rfl rfl (pv_assign rfl) ?_)
  refine G.nil ?_
  refine G.nThen ?_
  refine G.seq ?_
  refine G.seq ?_
  refine G.cutK (X := Unit) (ts := [0, 1, 4, 5, 6, 7, 8, 9]) (p := []) (fun _ => True) (fun _ => [(32, .bool (decide (¬ (checkT (ens xs)).1 = 0 ∨ ¬ (checkT (ens ys)).1 = 0)))]) (fun _ => []) (.cons rfl (.cons rfl (.cons rfl (.cons rfl (.cons rfl (.cons rfl (.cons rfl (.cons rfl .nil)))))))) (by repeat (first | exact Sub.nil | (apply Sub.cons; (repeat (first | with_reducible exact Sel.here | exact Sel.here | apply Sel.there))))) (.cons .nil) (by repeat (first | exact Ap.nil | apply Ap.cons)) ?_ ?_
  · refine G.region ?_
    refine G.op rfl (G.val rfl rfl (pv_move rfl) ?_)
    refine G.op rfl (G.val rfl rfl (pv_neq rfl rfl) ?_)
    refine G.op rfl (G.val rfl rfl (pv_move rfl) ?_)
    refine G.partP (t := 29) rfl (fun h29 => ?_) (fun h29 => ?_)
    · refine G.pass rfl rfl rfl rfl rfl rfl ?_
      refine G.pass rfl rfl rfl rfl rfl rfl ?_
      refine G.op rfl (G.val rfl rfl (pv_pick rfl rfl) ?_)
      refine G.nil ?_
      exact G.meet (()) (by first | exact trivial | ((try dsimp only); exact trivial)) (.consE rfl (by first | exact dec_t (.inl (by assumption)) | exact dec_e ⟨fun h => .inr h, fun h => h.resolve_left (by assumption)⟩) (.cons rfl (.cons rfl (.cons rfl (.cons rfl (.cons rfl (.cons rfl (.cons rfl (.cons rfl .nil))))))))) (by repeat (first | exact Sub.nil | (apply Sub.cons; (repeat (first | with_reducible exact Sel.here | exact Sel.here | apply Sel.there)))))
    · refine G.want rfl rfl rfl (G.val rfl rfl (pv_move rfl) ?_)
      refine G.want rfl rfl rfl (G.val rfl rfl (pv_neq rfl rfl) ?_)
      refine G.op rfl (G.val rfl rfl (pv_pick rfl rfl) ?_)
      refine G.nil ?_
      exact G.meet (()) (by first | exact trivial | ((try dsimp only); exact trivial)) (.consE rfl (by first | exact dec_t (.inl (by assumption)) | exact dec_e ⟨fun h => .inr h, fun h => h.resolve_left (by assumption)⟩) (.cons rfl (.cons rfl (.cons rfl (.cons rfl (.cons rfl (.cons rfl (.cons rfl (.cons rfl .nil))))))))) (by repeat (first | exact Sub.nil | (apply Sub.cons; (repeat (first | with_reducible exact Sel.here | exact Sel.here | apply Sel.there)))))
  · intro _ hJ
    try dsimp only at hJ
    try dsimp only
    refine G.condP rfl (fun h32 => ?_) (fun h32 => ?_)
    · have hbad := diff_bad h32
      refine G.seq ?_
      refine G.region ?_
      refine G.op rfl (G.val rfl rfl (pv_assign rfl) ?_)
      refine G.op rfl (G.val rfl rfl (pv_assign rfl) ?_)
      refine G.op rfl (G.val rfl rfl (pv_assign rfl) ?_)
      refine G.nil ?_
      refine G.nThen ?_
      refine G.ret ?_
      refine G.rThen ?_
      rw [hbad]
      refine G.ownNil 9 1 ?_
      refine G.ownNil 9 1 ?_
      refine G.ownNil 9 1 ?_
      exact G.doneX3 ((.slice none 0 0, .slice none 0 0, .slice none 0 0)) (by first | exact trivial | ((try dsimp only); exact trivial)) rfl rfl rfl rfl rfl (by repeat (first | exact Sub.nil | (apply Sub.cons; (repeat (first | with_reducible exact Sel.here | exact Sel.here | apply Sel.there)))))
    · have hx0 : (checkT (ens xs)).1 = 0 := Decidable.of_not_not (fun h => h32 (.inl h))
      have hy0 : (checkT (ens ys)).1 = 0 := Decidable.of_not_not (fun h => h32 (.inr h))
      obtain ⟨hx1, hx2, -⟩ := checkT_zero hx0
      obtain ⟨hy1, hy2, -⟩ := checkT_zero hy0
      have hsx := sort_all hx2
      have hgood := diff_ok hx0 hy0
      refine G.skip ?_
      refine G.nThen ?_
      refine G.seq ?_
      refine G.seq ?_
      refine G.region ?_
      refine G.op rfl (G.val rfl rfl (pv_assign rfl) ?_)
      refine G.nil ?_
      refine G.nThen ?_
      refine G.block ?_
      refine G.ownNil 9 1 ?_
      refine G.ownNil 9 1 ?_
      refine G.loopK (X := Nat × Value × Value × (List (List UInt8)) × (List (List UInt8))) (ts := [0, 1, 4, 5, 6, 8]) (fun st => st.1 ≤ ys.length ∧ (st.2.2.2.1 = addM (ens xs) ((ens ys).take st.1) ∧ st.2.2.2.2 = chgM (ens xs) ((ens ys).take st.1))) (fun st => [(14, .int .i64 (st.1 : Int)), (7, st.2.1), (9, st.2.2.1)]) (fun st => [own 9 1 st.2.1 st.2.2.2.1.length (st.2.2.2.1.map vStr), own 9 1 st.2.2.1 st.2.2.2.2.length (st.2.2.2.2.map vStr)]) (fun st => ys.length - st.1) (x0 := (0, (.slice none 0 0), (.slice none 0 0), [], [])) (.cons rfl (.cons rfl (.cons rfl (.cons rfl (.cons rfl (.cons rfl .nil)))))) (by repeat (first | exact Sub.nil | (apply Sub.cons; (repeat (first | with_reducible exact Sel.here | exact Sel.here | apply Sel.there))))) (.cons (.cons (.cons .nil))) (by repeat (first | exact Ap.nil | apply Ap.cons)) (by first | exact trivial | ((try dsimp only); exact ⟨Nat.zero_le _, ⟨rfl, rfl⟩⟩)) (.consE rfl (by first | rfl | exact int_eq (by first | omega | (dsimp only; omega)) | exact congrArg _ (by omega)) (.consE rfl (by first | rfl | exact int_eq (by first | omega | (dsimp only; omega)) | exact congrArg _ (by omega)) (.consE rfl (by first | rfl | exact int_eq (by first | omega | (dsimp only; omega)) | exact congrArg _ (by omega)) .nil))) (fun st hJ => ?_)
      obtain ⟨i, w1, w3, l1, l3⟩ := st
      try dsimp only at hJ
      try dsimp only
      obtain ⟨hki, hJ⟩ := hJ
      obtain ⟨hl1, hl3⟩ := hJ
      have hn1 := add_len (ens xs) ((ens ys).take i)
      have hn3 := chg_len (ens xs) ((ens ys).take i)
      rw [← hl1] at hn1
      rw [← hl3] at hn3
      have htl := take_len (ens ys) i
      refine G.seq ?_
      refine G.seq ?_
      refine G.region ?_
      refine G.op rfl (G.val rfl rfl (pv_move rfl) ?_)
      refine G.op rfl (G.val rfl rfl (pv_move rfl) ?_)
      refine G.op rfl (G.val rfl rfl (pv_lenSl Try.underlying22 rfl) ?_)
      refine G.op rfl (G.val rfl rfl (pv_lss rfl rfl) ?_)
      refine G.nil ?_
      refine G.nThen ?_
      refine G.condP rfl (fun h36 => ?_) (fun h36 => ?_)
      · have hlt : i < ys.length := by omega
        have hEu := helu i hlt
        have hRu := Ro.evRng hEu
        have hDu := Ro.evDat hEu
        obtain ⟨hk1u, hk2u, hlpu, hldu, hltu⟩ := Ro.evOk hEu
        have hCu := Ro.one1 hDu
        have hgy := ens_at hlt
        have hneg := atM_neg (es := ens xs) (s := ys[i].1.path)
        refine G.skip ?_
        refine G.nThen ?_
        refine G.seq ?_
        refine G.block ?_
        refine G.seq ?_
        refine G.region ?_
        refine G.op rfl (G.val rfl rfl (pv_move rfl) ?_)
        refine G.op rfl (G.val rfl rfl (pv_move rfl) ?_)
        refine G.op rfl (G.val rfl rfl (pv_move rfl) ?_)
        refine G.op rfl (G.val rfl rfl (pv_ixSl (sz := 5) Try.underlying22 (by kernel_rfl) rfl rfl (by first | with_reducible assumption | assumption | exact fun _ => rfl) rfl (by omega)) ?_)
        refine G.op rfl (G.val rfl rfl (pv_fieldAddrK (sz := 0) (k := 0) Try.underlying31 rfl (by kernel_rfl) rfl rfl) ?_)
        refine G.op rfl (G.val rfl rfl (pv_load Try.underlying9 rfl rfl (by first | exact blk_cell (by (repeat (first | with_reducible exact Sel.here | exact Sel.here | apply Sel.there)); done) (by rfl) | exact rng_cell (by (repeat (first | with_reducible exact Sel.here | exact Sel.here | apply Sel.there)); done) (by rfl) | exact ro_blk (by assumption) (by rfl) | exact ro_rngC (by assumption) (by rfl) | exact ro_int (by assumption) | exact ro_byte (by assumption) | exact ro_str (by assumption) | with_reducible assumption | assumption)) ?_)
        refine G.op rfl (G.cR rfl rfl rfl rfl Try.func51 rfl rfl (may1 (by first | (apply May.old; first | with_reducible assumption | assumption) | (apply Sel.may; (repeat (first | with_reducible exact Sel.here | exact Sel.here | apply Sel.there)); done) | (apply may_own; (repeat (first | with_reducible exact Sel.here | exact Sel.here | apply Sel.there)); exact rfl; exact (fun _ _ => trivial); done) | (apply may_ownB; (repeat (first | with_reducible exact Sel.here | exact Sel.here | apply Sel.there)); done) | (apply may_tree; (repeat (first | with_reducible exact Sel.here | exact Sel.here | apply Sel.there)); (repeat (first | with_reducible exact Sel.here | exact Sel.here | apply Sel.there)); assumption; done))) (at_tr _ _ _) ?_)
        refine G.op rfl (G.val rfl rfl (pv_assign rfl) ?_)
        refine G.nil ?_
        refine G.nThen ?_
        refine G.seq ?_
        refine G.cutK (X := Value × (List (List UInt8))) (ts := [0, 1, 4, 5, 6, 8, 9, 14, 15]) (p := [own 9 1 w1 _ _]) (fun st => st.2 = addM (ens xs) ((ens ys).take (i + 1))) (fun st => [(7, st.1)]) (fun st => [own 9 1 st.1 st.2.length (st.2.map vStr)]) (.cons rfl (.cons rfl (.cons rfl (.cons rfl (.cons rfl (.cons rfl (.cons rfl (.cons rfl (.cons rfl .nil))))))))) (by repeat (first | exact Sub.nil | (apply Sub.cons; (repeat (first | with_reducible exact Sel.here | exact Sel.here | apply Sel.there))))) (.cons .nil) (by repeat (first | exact Ap.nil | apply Ap.cons)) ?_ ?_
        · refine G.seq ?_
          refine G.region ?_
          refine G.op rfl (G.val rfl rfl (pv_move rfl) ?_)
          refine G.op rfl (G.val rfl rfl (pv_lss rfl rfl) ?_)
          refine G.nil ?_
          refine G.nThen ?_
          refine G.condP rfl (fun h47 => ?_) (fun h47 => ?_)
          · refine G.region ?_
            refine G.op rfl (G.val rfl rfl (pv_move rfl) ?_)
            refine G.op rfl (G.val rfl rfl (pv_move rfl) ?_)
            refine G.op rfl (G.val rfl rfl (pv_move rfl) ?_)
            refine G.op rfl (G.val rfl rfl (pv_ixSl (sz := 5) Try.underlying22 (by kernel_rfl) rfl rfl (by first | with_reducible assumption | assumption | exact fun _ => rfl) rfl (by omega)) ?_)
            refine G.op rfl (G.val rfl rfl (pv_fieldAddrK (sz := 0) (k := 0) Try.underlying31 rfl (by kernel_rfl) rfl rfl) ?_)
            refine G.op rfl (G.val rfl rfl (pv_load Try.underlying9 rfl rfl (by first | exact blk_cell (by (repeat (first | with_reducible exact Sel.here | exact Sel.here | apply Sel.there)); done) (by rfl) | exact rng_cell (by (repeat (first | with_reducible exact Sel.here | exact Sel.here | apply Sel.there)); done) (by rfl) | exact ro_blk (by assumption) (by rfl) | exact ro_rngC (by assumption) (by rfl) | exact ro_int (by assumption) | exact ro_byte (by assumption) | exact ro_str (by assumption) | with_reducible assumption | assumption)) ?_)
            refine G.op rfl (G.lit1 (vs := [_]) rfl Try.underlying44 (by kernel_rfl) rfl (by decide) (by decide) rfl rfl ?_)
            intro b54
            refine G.op rfl (G.append (k := l1.length) (j := 1) (cs := l1.map vStr) (news := [vStr ys[i].1.path]) (b := b54) (off := 0) rfl Try.underlying44 Try.infoStr' rfl rfl rfl (by repeat (first | with_reducible exact Sel.here | exact Sel.here | apply Sel.there)) (fun _ => rfl) (fun h => by cases h) rfl (blk_news (k := 1) (by repeat (first | with_reducible exact Sel.here | exact Sel.here | apply Sel.there)) rfl) (vStr_one [ys[i].1.path]) (by omega) (by omega) ?_)
            intro y1
            rw [own_snoc, len_snoc]
            refine G.op rfl (G.val rfl rfl (pv_assign rfl) ?_)
            refine G.nil ?_
            exact G.meet ((y1, l1 ++ [ys[i].1.path])) (by first | exact trivial | ((try dsimp only); exact by rw [hl1, add_yes hgy (hneg.1 (by assumption))])) (.consE rfl (by first | rfl | exact int_eq (by first | omega | (dsimp only; omega)) | exact congrArg _ (by omega)) (.cons rfl (.cons rfl (.cons rfl (.cons rfl (.cons rfl (.cons rfl (.cons rfl (.cons rfl (.cons rfl .nil)))))))))) (by repeat (first | exact Sub.nil | (apply Sub.cons; (repeat (first | with_reducible exact Sel.here | exact Sel.here | apply Sel.there)))))
          · refine G.skip ?_
            exact G.meet ((w1, l1)) (by first | exact trivial | ((try dsimp only); exact by rw [hl1, add_no hgy (at_pos (by assumption))])) (.consE rfl (by first | rfl | exact int_eq (by first | omega | (dsimp only; omega)) | exact congrArg _ (by omega)) (.cons rfl (.cons rfl (.cons rfl (.cons rfl (.cons rfl (.cons rfl (.cons rfl (.cons rfl (.cons rfl .nil)))))))))) (by repeat (first | exact Sub.nil | (apply Sub.cons; (repeat (first | with_reducible exact Sel.here | exact Sel.here | apply Sel.there)))))
        · intro st hJ
          obtain ⟨z1, m1⟩ := st
          try dsimp only at hJ
          try dsimp only
          have hm1 := hJ
          refine G.seq ?_
          refine G.drawT (nn := 14) (p := []) (rem := 16383) [0, 1, 2, 4, 4, 28, 36, 4, 4, 388, 516, 1092, 2052, 4100] [0, 1, 2, 4, 4, 28, 36, 4, 4, 388, 516, 1092, 2052, 4100] (by kernel_rfl) ⟨rfl, by kernel_rfl, by kernel_rfl⟩ (by repeat (first | exact Sub.nil | (apply Sub.cons; (repeat (first | with_reducible exact Sel.here | exact Sel.here | apply Sel.there))))) (by kernel_rfl) (fun hT12 => ?_)
          refine G.takeT hT12 (i := 0) (rem' := 16382) rfl rfl rfl (by kernel_rfl) (fun _ _ _ h => h) rfl (pv_move rfl) (by repeat (first | exact Sub.nil | (apply Sub.cons; (repeat (first | with_reducible exact Sel.here | exact Sel.here | apply Sel.there))))) ?_
          refine G.takeT hT12 (i := 1) (rem' := 16380) rfl rfl rfl (by kernel_rfl) (fun _ _ _ h => h) rfl (pv_geq rfl rfl) (by repeat (first | exact Sub.nil | (apply Sub.cons; (repeat (first | with_reducible exact Sel.here | exact Sel.here | apply Sel.there))))) ?_
          refine G.takeT hT12 (i := 2) (rem' := 16376) rfl rfl rfl (by kernel_rfl) (fun _ _ _ h => h) rfl (pv_move rfl) (by repeat (first | exact Sub.nil | (apply Sub.cons; (repeat (first | with_reducible exact Sel.here | exact Sel.here | apply Sel.there))))) ?_
          refine G.partP (t := 58) rfl (fun h58 => ?_) (fun h58 => ?_)
          · have hat : isAt (ens xs) ys[i].1.path := at_pos (by omega)
            obtain ⟨k, hkl, hka, hkp⟩ := atM_get hat
            rw [hka]
            have hkx : k < xs.length := by omega
            have hEv := helv k hkx
            have hRv := Ro.evRng hEv
            have hDv := Ro.evDat hEv
            obtain ⟨hk1v, hk2v, hlpv, hldv, hltv⟩ := Ro.evOk hEv
            have hCv := Ro.one1 hDv
            have hkm : xs[k].1 ∈ ens xs := by rw [← ens_get hkx]; exact List.getElem_mem _
            rw [ens_get hkx] at hkp
            refine G.takeT hT12 (i := 3) (rem' := 16368) rfl rfl rfl (by kernel_rfl) (fun _ _ _ h => h) rfl (pv_move rfl) (by repeat (first | exact Sub.nil | (apply Sub.cons; (repeat (first | with_reducible exact Sel.here | exact Sel.here | apply Sel.there))))) ?_
            refine G.takeT hT12 (i := 4) (rem' := 16352) rfl rfl rfl (by kernel_rfl) (fun _ _ _ h => h) rfl (pv_move rfl) (by repeat (first | exact Sub.nil | (apply Sub.cons; (repeat (first | with_reducible exact Sel.here | exact Sel.here | apply Sel.there))))) ?_
            refine G.takeT hT12 (i := 5) (rem' := 16320) rfl rfl rfl (by kernel_rfl) (fun _ _ _ h => h) rfl (pv_ixSl (sz := 5) (k := k) Try.underlying22 (by kernel_rfl) rfl rfl (by first | with_reducible assumption | assumption) (by omega) (by omega)) (by repeat (first | exact Sub.nil | (apply Sub.cons; (repeat (first | with_reducible exact Sel.here | exact Sel.here | apply Sel.there))))) ?_
            refine G.takeT hT12 (i := 6) (rem' := 16256) rfl rfl rfl (by kernel_rfl) (fun _ _ _ h => h) rfl (pv_loadN (cs := [_, _, _, _, _]) Try.underlying31 rfl (by kernel_rfl) rfl (by first | exact blk_range (k := 5) (by (repeat (first | with_reducible exact Sel.here | exact Sel.here | apply Sel.there)); done) (by rfl) | exact ro_rng0 (by assumption) | exact rng_range (k := 5) (by (repeat (first | with_reducible exact Sel.here | exact Sel.here | apply Sel.there)); done) (by rfl) | exact ro_range (k := 5) (by assumption) (by rfl) | exact ro_rngR (k := 5) (by assumption) (by rfl))) (by repeat (first | exact Sub.nil | (apply Sub.cons; (repeat (first | with_reducible exact Sel.here | exact Sel.here | apply Sel.there))))) ?_
            refine G.takeT hT12 (i := 7) (rem' := 16128) rfl rfl rfl (by kernel_rfl) (fun _ _ _ h => h) rfl (pv_move rfl) (by repeat (first | exact Sub.nil | (apply Sub.cons; (repeat (first | with_reducible exact Sel.here | exact Sel.here | apply Sel.there))))) ?_
            refine G.takeT hT12 (i := 8) (rem' := 15872) rfl rfl rfl (by kernel_rfl) (fun _ _ _ h => h) rfl (pv_move rfl) (by repeat (first | exact Sub.nil | (apply Sub.cons; (repeat (first | with_reducible exact Sel.here | exact Sel.here | apply Sel.there))))) ?_
            refine G.takeT hT12 (i := 9) (rem' := 15360) rfl rfl rfl (by kernel_rfl) (fun _ _ _ h => h) rfl (pv_ixSl (sz := 5) Try.underlying22 (by kernel_rfl) rfl rfl (by first | with_reducible assumption | assumption | exact fun _ => rfl) rfl (by omega)) (by repeat (first | exact Sub.nil | (apply Sub.cons; (repeat (first | with_reducible exact Sel.here | exact Sel.here | apply Sel.there))))) ?_
            refine G.oneT hT12 (i := 10) (rem' := 14336) (by kernel_rfl) (by kernel_rfl) ?_
            refine G.turnOp rfl rfl (G.val rfl rfl (pv_loadN (cs := [_, _, _, _, _]) Try.underlying31 rfl (by kernel_rfl) rfl (by first | exact blk_range (k := 5) (by (repeat (first | with_reducible exact Sel.here | exact Sel.here | apply Sel.there)); done) (by rfl) | exact ro_rng0 (by assumption) | exact rng_range (k := 5) (by (repeat (first | with_reducible exact Sel.here | exact Sel.here | apply Sel.there)); done) (by rfl) | exact ro_range (k := 5) (by assumption) (by rfl) | exact ro_rngR (k := 5) (by assumption) (by rfl))) ?_)
            refine G.back (by repeat (first | exact Sub.nil | (apply Sub.cons; (repeat (first | with_reducible exact Sel.here | exact Sel.here | apply Sel.there))))) ?_
            refine G.oneT hT12 (i := 11) (rem' := 12288) (by kernel_rfl) (by kernel_rfl) ?_
            refine G.turnOp rfl rfl (G.cR rfl rfl rfl rfl Try.func21 rfl rfl (may2 (by first | (apply May.old; first | with_reducible assumption | assumption) | (apply Sel.may; (repeat (first | with_reducible exact Sel.here | exact Sel.here | apply Sel.there)); done) | (apply may_own; (repeat (first | with_reducible exact Sel.here | exact Sel.here | apply Sel.there)); exact rfl; exact (fun _ _ => trivial); done) | (apply may_ownB; (repeat (first | with_reducible exact Sel.here | exact Sel.here | apply Sel.there)); done) | (apply may_tree; (repeat (first | with_reducible exact Sel.here | exact Sel.here | apply Sel.there)); (repeat (first | with_reducible exact Sel.here | exact Sel.here | apply Sel.there)); assumption; done)) (by first | (apply May.old; first | with_reducible assumption | assumption) | (apply Sel.may; (repeat (first | with_reducible exact Sel.here | exact Sel.here | apply Sel.there)); done) | (apply may_own; (repeat (first | with_reducible exact Sel.here | exact Sel.here | apply Sel.there)); exact rfl; exact (fun _ _ => trivial); done) | (apply may_ownB; (repeat (first | with_reducible exact Sel.here | exact Sel.here | apply Sel.there)); done) | (apply may_tree; (repeat (first | with_reducible exact Sel.here | exact Sel.here | apply Sel.there)); (repeat (first | with_reducible exact Sel.here | exact Sel.here | apply Sel.there)); assumption; done))) (like_tr _ _ _ _) ?_)
            refine G.back (by repeat (first | exact Sub.nil | (apply Sub.cons; (repeat (first | with_reducible exact Sel.here | exact Sel.here | apply Sel.there))))) ?_
            refine G.takeT hT12 (i := 12) (rem' := 8192) rfl rfl rfl (by kernel_rfl) (fun _ _ _ h => h) rfl (pv_notP rfl) (by repeat (first | exact Sub.nil | (apply Sub.cons; (repeat (first | with_reducible exact Sel.here | exact Sel.here | apply Sel.there))))) ?_
            refine G.takeT hT12 (i := 13) (rem' := 0) rfl rfl rfl (by kernel_rfl) (fun _ _ _ h => h) rfl (pv_pick rfl rfl) (by repeat (first | exact Sub.nil | (apply Sub.cons; (repeat (first | with_reducible exact Sel.here | exact Sel.here | apply Sel.there))))) ?_
            refine G.overT hT12 (by kernel_rfl) ?_
            refine G.nThen ?_
            refine G.condP rfl (fun h69 => ?_) (fun h69 => ?_)
            · have hnm : ¬ ys[i].1 ∈ ens xs := not_mem_sort hsx hkm hkp (by assumption)
              refine G.region ?_
              refine G.op rfl (G.val rfl rfl (pv_move rfl) ?_)
              refine G.op rfl (G.val rfl rfl (pv_move rfl) ?_)
              refine G.op rfl (G.val rfl rfl (pv_move rfl) ?_)
              refine G.op rfl (G.val rfl rfl (pv_ixSl (sz := 5) Try.underlying22 (by kernel_rfl) rfl rfl (by first | with_reducible assumption | assumption | exact fun _ => rfl) rfl (by omega)) ?_)
              refine G.op rfl (G.val rfl rfl (pv_fieldAddrK (sz := 0) (k := 0) Try.underlying31 rfl (by kernel_rfl) rfl rfl) ?_)
              refine G.op rfl (G.val rfl rfl (pv_load Try.underlying9 rfl rfl (by first | exact blk_cell (by (repeat (first | with_reducible exact Sel.here | exact Sel.here | apply Sel.there)); done) (by rfl) | exact rng_cell (by (repeat (first | with_reducible exact Sel.here | exact Sel.here | apply Sel.there)); done) (by rfl) | exact ro_blk (by assumption) (by rfl) | exact ro_rngC (by assumption) (by rfl) | exact ro_int (by assumption) | exact ro_byte (by assumption) | exact ro_str (by assumption) | with_reducible assumption | assumption)) ?_)
              refine G.op rfl (G.lit1 (vs := [_]) rfl Try.underlying44 (by kernel_rfl) rfl (by decide) (by decide) rfl rfl ?_)
              intro b76
              refine G.op rfl (G.append (k := l3.length) (j := 1) (cs := l3.map vStr) (news := [vStr ys[i].1.path]) (b := b76) (off := 0) rfl Try.underlying44 Try.infoStr' rfl rfl rfl (by repeat (first | with_reducible exact Sel.here | exact Sel.here | apply Sel.there)) (fun _ => rfl) (fun h => by cases h) rfl (blk_news (k := 1) (by repeat (first | with_reducible exact Sel.here | exact Sel.here | apply Sel.there)) rfl) (vStr_one [ys[i].1.path]) (by omega) (by omega) ?_)
              intro y3
              rw [own_snoc, len_snoc]
              refine G.op rfl (G.val rfl rfl (pv_assign rfl) ?_)
              refine G.nil ?_
              refine G.nBlock ?_
              refine G.nThen ?_
              refine G.region ?_
              refine G.op rfl (G.val rfl rfl (pv_move rfl) ?_)
              refine G.op rfl (G.val rfl rfl (pv_add64 rfl rfl (by omega)) ?_)
              refine G.op rfl (G.val rfl rfl (pv_assign rfl) ?_)
              refine G.nil ?_
              exact G.next ((i + 1, (z1, y3, m1, l3 ++ [ys[i].1.path]))) (by first | exact trivial | ((try dsimp only); exact ⟨by omega, ⟨hm1, by rw [hl3, chg_yes hgy hat hnm]⟩⟩)) (by (try dsimp only); omega) (.consE rfl (by first | rfl | exact int_eq (by first | omega | (dsimp only; omega)) | exact congrArg _ (by omega)) (.consE rfl (by first | rfl | exact int_eq (by first | omega | (dsimp only; omega)) | exact congrArg _ (by omega)) (.consE rfl (by first | rfl | exact int_eq (by first | omega | (dsimp only; omega)) | exact congrArg _ (by omega)) (.cons rfl (.cons rfl (.cons rfl (.cons rfl (.cons rfl (.cons rfl .nil))))))))) (by repeat (first | exact Sub.nil | (apply Sub.cons; (repeat (first | with_reducible exact Sel.here | exact Sel.here | apply Sel.there)))))
            · try (have hme : ys[i].1 ∈ ens xs := (Decidable.of_not_not (by assumption) : xs[k].1 = ys[i].1) ▸ hkm)
              refine G.skip ?_
              refine G.nBlock ?_
              refine G.nThen ?_
              refine G.region ?_
              refine G.op rfl (G.val rfl rfl (pv_move rfl) ?_)
              refine G.op rfl (G.val rfl rfl (pv_add64 rfl rfl (by omega)) ?_)
              refine G.op rfl (G.val rfl rfl (pv_assign rfl) ?_)
              refine G.nil ?_
              exact G.next ((i + 1, (z1, w3, m1, l3))) (by first | exact trivial | ((try dsimp only); exact ⟨by omega, ⟨hm1, by rw [hl3, chg_no hgy (.inr hme)]⟩⟩)) (by (try dsimp only); omega) (.consE rfl (by first | rfl | exact int_eq (by first | omega | (dsimp only; omega)) | exact congrArg _ (by omega)) (.consE rfl (by first | rfl | exact int_eq (by first | omega | (dsimp only; omega)) | exact congrArg _ (by omega)) (.consE rfl (by first | rfl | exact int_eq (by first | omega | (dsimp only; omega)) | exact congrArg _ (by omega)) (.cons rfl (.cons rfl (.cons rfl (.cons rfl (.cons rfl (.cons rfl .nil))))))))) (by repeat (first | exact Sub.nil | (apply Sub.cons; (repeat (first | with_reducible exact Sel.here | exact Sel.here | apply Sel.there)))))
          · have hnat : ¬ isAt (ens xs) ys[i].1.path := hneg.1 (by omega)
            refine G.takeFT hT12 (i := 3) (rem' := 16368) rfl rfl rfl (by kernel_rfl) (fun _ _ _ h => h) rfl (by repeat (first | exact Sub.nil | (apply Sub.cons; (repeat (first | with_reducible exact Sel.here | exact Sel.here | apply Sel.there))))) ?_
            refine G.takeFT hT12 (i := 4) (rem' := 16352) rfl rfl rfl (by kernel_rfl) (fun _ _ _ h => h) rfl (by repeat (first | exact Sub.nil | (apply Sub.cons; (repeat (first | with_reducible exact Sel.here | exact Sel.here | apply Sel.there))))) ?_
            refine G.takeFT hT12 (i := 5) (rem' := 16320) rfl rfl rfl (by kernel_rfl) (fun _ _ _ h => h) rfl (by repeat (first | exact Sub.nil | (apply Sub.cons; (repeat (first | with_reducible exact Sel.here | exact Sel.here | apply Sel.there))))) ?_
            refine G.takeFT hT12 (i := 6) (rem' := 16256) rfl rfl rfl (by kernel_rfl) (fun _ _ _ h => h) rfl (by repeat (first | exact Sub.nil | (apply Sub.cons; (repeat (first | with_reducible exact Sel.here | exact Sel.here | apply Sel.there))))) ?_
            refine G.takeFT hT12 (i := 7) (rem' := 16128) rfl rfl rfl (by kernel_rfl) (fun _ _ _ h => h) rfl (by repeat (first | exact Sub.nil | (apply Sub.cons; (repeat (first | with_reducible exact Sel.here | exact Sel.here | apply Sel.there))))) ?_
            refine G.takeFT hT12 (i := 8) (rem' := 15872) rfl rfl rfl (by kernel_rfl) (fun _ _ _ h => h) rfl (by repeat (first | exact Sub.nil | (apply Sub.cons; (repeat (first | with_reducible exact Sel.here | exact Sel.here | apply Sel.there))))) ?_
            refine G.takeFT hT12 (i := 9) (rem' := 15360) rfl rfl rfl (by kernel_rfl) (fun _ _ _ h => h) rfl (by repeat (first | exact Sub.nil | (apply Sub.cons; (repeat (first | with_reducible exact Sel.here | exact Sel.here | apply Sel.there))))) ?_
            refine G.takeFT hT12 (i := 10) (rem' := 14336) rfl rfl rfl (by kernel_rfl) (fun _ _ _ h => h) rfl (by repeat (first | exact Sub.nil | (apply Sub.cons; (repeat (first | with_reducible exact Sel.here | exact Sel.here | apply Sel.there))))) ?_
            refine G.takeFT hT12 (i := 11) (rem' := 12288) rfl rfl rfl (by kernel_rfl) (fun _ _ _ h => h) rfl (by repeat (first | exact Sub.nil | (apply Sub.cons; (repeat (first | with_reducible exact Sel.here | exact Sel.here | apply Sel.there))))) ?_
            refine G.takeFT hT12 (i := 12) (rem' := 8192) rfl rfl rfl (by kernel_rfl) (fun _ _ _ h => h) rfl (by repeat (first | exact Sub.nil | (apply Sub.cons; (repeat (first | with_reducible exact Sel.here | exact Sel.here | apply Sel.there))))) ?_
            refine G.takeT hT12 (i := 13) (rem' := 0) rfl rfl rfl (by kernel_rfl) (fun _ _ _ h => h) rfl (pv_pick rfl rfl) (by repeat (first | exact Sub.nil | (apply Sub.cons; (repeat (first | with_reducible exact Sel.here | exact Sel.here | apply Sel.there))))) ?_
            refine G.overT hT12 (by kernel_rfl) ?_
            refine G.nThen ?_
            refine G.condF rfl (rfl) ?_
            try (have hme : ys[i].1 ∈ ens xs := (Decidable.of_not_not (by assumption) : xs[k].1 = ys[i].1) ▸ hkm)
            refine G.skip ?_
            refine G.nBlock ?_
            refine G.nThen ?_
            refine G.region ?_
            refine G.op rfl (G.val rfl rfl (pv_move rfl) ?_)
            refine G.op rfl (G.val rfl rfl (pv_add64 rfl rfl (by omega)) ?_)
            refine G.op rfl (G.val rfl rfl (pv_assign rfl) ?_)
            refine G.nil ?_
            exact G.next ((i + 1, (z1, w3, m1, l3))) (by first | exact trivial | ((try dsimp only); exact ⟨by omega, ⟨hm1, by rw [hl3, chg_no hgy (.inl hnat)]⟩⟩)) (by (try dsimp only); omega) (.consE rfl (by first | rfl | exact int_eq (by first | omega | (dsimp only; omega)) | exact congrArg _ (by omega)) (.consE rfl (by first | rfl | exact int_eq (by first | omega | (dsimp only; omega)) | exact congrArg _ (by omega)) (.consE rfl (by first | rfl | exact int_eq (by first | omega | (dsimp only; omega)) | exact congrArg _ (by omega)) (.cons rfl (.cons rfl (.cons rfl (.cons rfl (.cons rfl (.cons rfl .nil))))))))) (by repeat (first | exact Sub.nil | (apply Sub.cons; (repeat (first | with_reducible exact Sel.here | exact Sel.here | apply Sel.there)))))
      · have hl1' := hl1
        have hl3' := hl3
        rw [List.take_of_length_le (by omega)] at hl1' hl3'
        refine G.exit ?_
        refine G.eThen ?_
        refine G.eThen ?_
        refine G.eBlock ?_
        refine G.nThen ?_
        refine G.seq ?_
        refine G.seq ?_
        refine G.region ?_
        refine G.op rfl (G.val rfl rfl (pv_assign rfl) ?_)
        refine G.nil ?_
        refine G.nThen ?_
        refine G.block ?_
        refine G.ownNil 9 1 ?_
        refine G.loopK (X := Nat × Value × (List (List UInt8))) (ts := [0, 1, 4, 5, 6, 7, 9]) (fun st => st.1 ≤ xs.length ∧ (st.2.2 = addM (ens ys) ((ens xs).take st.1))) (fun st => [(16, .int .i64 (st.1 : Int)), (8, st.2.1)]) (fun st => [own 9 1 st.2.1 st.2.2.length (st.2.2.map vStr)]) (fun st => xs.length - st.1) (x0 := (0, (.slice none 0 0), [])) (.cons rfl (.cons rfl (.cons rfl (.cons rfl (.cons rfl (.cons rfl (.cons rfl .nil))))))) (by repeat (first | exact Sub.nil | (apply Sub.cons; (repeat (first | with_reducible exact Sel.here | exact Sel.here | apply Sel.there))))) (.cons (.cons .nil)) (by repeat (first | exact Ap.nil | apply Ap.cons)) (by first | exact trivial | ((try dsimp only); exact ⟨Nat.zero_le _, rfl⟩)) (.consE rfl (by first | rfl | exact int_eq (by first | omega | (dsimp only; omega)) | exact congrArg _ (by omega)) (.consE rfl (by first | rfl | exact int_eq (by first | omega | (dsimp only; omega)) | exact congrArg _ (by omega)) .nil)) (fun st hJ => ?_)
        obtain ⟨p, w2, l2⟩ := st
        try dsimp only at hJ
        try dsimp only
        obtain ⟨hkp, hJ⟩ := hJ
        have hl2 := hJ
        have hn2 := add_len (ens ys) ((ens xs).take p)
        rw [← hl2] at hn2
        have htl2 := take_len (ens xs) p
        refine G.seq ?_
        refine G.seq ?_
        refine G.region ?_
        refine G.op rfl (G.val rfl rfl (pv_move rfl) ?_)
        refine G.op rfl (G.val rfl rfl (pv_move rfl) ?_)
        refine G.op rfl (G.val rfl rfl (pv_lenSl Try.underlying22 rfl) ?_)
        refine G.op rfl (G.val rfl rfl (pv_lss rfl rfl) ?_)
        refine G.nil ?_
        refine G.nThen ?_
        refine G.condP rfl (fun h81 => ?_) (fun h81 => ?_)
        · have hltp : p < xs.length := by omega
          have hEv := helv p hltp
          have hRv := Ro.evRng hEv
          have hDv := Ro.evDat hEv
          obtain ⟨hk1v, hk2v, hlpv, hldv, hltv⟩ := Ro.evOk hEv
          have hCv := Ro.one1 hDv
          have hgx := ens_at hltp
          have hneg2 := atM_neg (es := ens ys) (s := xs[p].1.path)
          refine G.skip ?_
          refine G.nThen ?_
          refine G.seq ?_
          refine G.block ?_
          refine G.seq ?_
          refine G.region ?_
          refine G.op rfl (G.val rfl rfl (pv_move rfl) ?_)
          refine G.op rfl (G.val rfl rfl (pv_move rfl) ?_)
          refine G.op rfl (G.val rfl rfl (pv_move rfl) ?_)
          refine G.op rfl (G.val rfl rfl (pv_ixSl (sz := 5) Try.underlying22 (by kernel_rfl) rfl rfl (by first | with_reducible assumption | assumption | exact fun _ => rfl) rfl (by omega)) ?_)
          refine G.op rfl (G.val rfl rfl (pv_fieldAddrK (sz := 0) (k := 0) Try.underlying31 rfl (by kernel_rfl) rfl rfl) ?_)
          refine G.op rfl (G.val rfl rfl (pv_load Try.underlying9 rfl rfl (by first | exact blk_cell (by (repeat (first | with_reducible exact Sel.here | exact Sel.here | apply Sel.there)); done) (by rfl) | exact rng_cell (by (repeat (first | with_reducible exact Sel.here | exact Sel.here | apply Sel.there)); done) (by rfl) | exact ro_blk (by assumption) (by rfl) | exact ro_rngC (by assumption) (by rfl) | exact ro_int (by assumption) | exact ro_byte (by assumption) | exact ro_str (by assumption) | with_reducible assumption | assumption)) ?_)
          refine G.op rfl (G.cR rfl rfl rfl rfl Try.func51 rfl rfl (may1 (by first | (apply May.old; first | with_reducible assumption | assumption) | (apply Sel.may; (repeat (first | with_reducible exact Sel.here | exact Sel.here | apply Sel.there)); done) | (apply may_own; (repeat (first | with_reducible exact Sel.here | exact Sel.here | apply Sel.there)); exact rfl; exact (fun _ _ => trivial); done) | (apply may_ownB; (repeat (first | with_reducible exact Sel.here | exact Sel.here | apply Sel.there)); done) | (apply may_tree; (repeat (first | with_reducible exact Sel.here | exact Sel.here | apply Sel.there)); (repeat (first | with_reducible exact Sel.here | exact Sel.here | apply Sel.there)); assumption; done))) (at_tr _ _ _) ?_)
          refine G.op rfl (G.val rfl rfl (pv_lss rfl rfl) ?_)
          refine G.nil ?_
          refine G.nThen ?_
          refine G.condP rfl (fun h91 => ?_) (fun h91 => ?_)
          · refine G.region ?_
            refine G.op rfl (G.val rfl rfl (pv_move rfl) ?_)
            refine G.op rfl (G.val rfl rfl (pv_move rfl) ?_)
            refine G.op rfl (G.val rfl rfl (pv_move rfl) ?_)
            refine G.op rfl (G.val rfl rfl (pv_ixSl (sz := 5) Try.underlying22 (by kernel_rfl) rfl rfl (by first | with_reducible assumption | assumption | exact fun _ => rfl) rfl (by omega)) ?_)
            refine G.op rfl (G.val rfl rfl (pv_fieldAddrK (sz := 0) (k := 0) Try.underlying31 rfl (by kernel_rfl) rfl rfl) ?_)
            refine G.op rfl (G.val rfl rfl (pv_load Try.underlying9 rfl rfl (by first | exact blk_cell (by (repeat (first | with_reducible exact Sel.here | exact Sel.here | apply Sel.there)); done) (by rfl) | exact rng_cell (by (repeat (first | with_reducible exact Sel.here | exact Sel.here | apply Sel.there)); done) (by rfl) | exact ro_blk (by assumption) (by rfl) | exact ro_rngC (by assumption) (by rfl) | exact ro_int (by assumption) | exact ro_byte (by assumption) | exact ro_str (by assumption) | with_reducible assumption | assumption)) ?_)
            refine G.op rfl (G.lit1 (vs := [_]) rfl Try.underlying44 (by kernel_rfl) rfl (by decide) (by decide) rfl rfl ?_)
            intro b98
            refine G.op rfl (G.append (k := l2.length) (j := 1) (cs := l2.map vStr) (news := [vStr xs[p].1.path]) (b := b98) (off := 0) rfl Try.underlying44 Try.infoStr' rfl rfl rfl (by repeat (first | with_reducible exact Sel.here | exact Sel.here | apply Sel.there)) (fun _ => rfl) (fun h => by cases h) rfl (blk_news (k := 1) (by repeat (first | with_reducible exact Sel.here | exact Sel.here | apply Sel.there)) rfl) (vStr_one [xs[p].1.path]) (by omega) (by omega) ?_)
            intro y2
            rw [own_snoc, len_snoc]
            refine G.op rfl (G.val rfl rfl (pv_assign rfl) ?_)
            refine G.nil ?_
            refine G.nBlock ?_
            refine G.nThen ?_
            refine G.region ?_
            refine G.op rfl (G.val rfl rfl (pv_move rfl) ?_)
            refine G.op rfl (G.val rfl rfl (pv_add64 rfl rfl (by omega)) ?_)
            refine G.op rfl (G.val rfl rfl (pv_assign rfl) ?_)
            refine G.nil ?_
            exact G.next ((p + 1, (y2, l2 ++ [xs[p].1.path]))) (by first | exact trivial | ((try dsimp only); exact ⟨by omega, by rw [hl2, add_yes hgx (hneg2.1 (by assumption))]⟩)) (by (try dsimp only); omega) (.consE rfl (by first | rfl | exact int_eq (by first | omega | (dsimp only; omega)) | exact congrArg _ (by omega)) (.consE rfl (by first | rfl | exact int_eq (by first | omega | (dsimp only; omega)) | exact congrArg _ (by omega)) (.cons rfl (.cons rfl (.cons rfl (.cons rfl (.cons rfl (.cons rfl (.cons rfl .nil))))))))) (by repeat (first | exact Sub.nil | (apply Sub.cons; (repeat (first | with_reducible exact Sel.here | exact Sel.here | apply Sel.there)))))
          · refine G.skip ?_
            refine G.nBlock ?_
            refine G.nThen ?_
            refine G.region ?_
            refine G.op rfl (G.val rfl rfl (pv_move rfl) ?_)
            refine G.op rfl (G.val rfl rfl (pv_add64 rfl rfl (by omega)) ?_)
            refine G.op rfl (G.val rfl rfl (pv_assign rfl) ?_)
            refine G.nil ?_
            exact G.next ((p + 1, (w2, l2))) (by first | exact trivial | ((try dsimp only); exact ⟨by omega, by rw [hl2, add_no hgx (at_pos (by assumption))]⟩)) (by (try dsimp only); omega) (.consE rfl (by first | rfl | exact int_eq (by first | omega | (dsimp only; omega)) | exact congrArg _ (by omega)) (.consE rfl (by first | rfl | exact int_eq (by first | omega | (dsimp only; omega)) | exact congrArg _ (by omega)) (.cons rfl (.cons rfl (.cons rfl (.cons rfl (.cons rfl (.cons rfl (.cons rfl .nil))))))))) (by repeat (first | exact Sub.nil | (apply Sub.cons; (repeat (first | with_reducible exact Sel.here | exact Sel.here | apply Sel.there)))))
        · have hl2' := hl2
          rw [List.take_of_length_le (by omega)] at hl2'
          refine G.exit ?_
          refine G.eThen ?_
          refine G.eThen ?_
          refine G.eBlock ?_
          refine G.nThen ?_
          refine G.seq ?_
          refine G.region ?_
          refine G.op rfl (G.val rfl rfl (pv_move rfl) ?_)
          refine G.op rfl (G.val rfl rfl (pv_move rfl) ?_)
          refine G.op rfl (G.val rfl rfl (pv_move rfl) ?_)
          refine G.op rfl (G.val rfl rfl (pv_assign rfl) ?_)
          refine G.op rfl (G.val rfl rfl (pv_assign rfl) ?_)
          refine G.op rfl (G.val rfl rfl (pv_assign rfl) ?_)
          refine G.nil ?_
          refine G.nThen ?_
          refine G.ret ?_
          subst hl1' hl2' hl3'
          rw [hgood]
          exact G.doneX3 ((w1, w2, w3)) (by first | exact trivial | ((try dsimp only); exact trivial)) rfl rfl rfl rfl rfl (by repeat (first | exact Sub.nil | (apply Sub.cons; (repeat (first | with_reducible exact Sel.here | exact Sel.here | apply Sel.there)))))
end Go.Proofs.Ytchgaedidfefoaa

/- Layer 8's statements: TreeDiffs. Conditions: none. -/
set_option linter.unusedVariables false
set_option linter.unusedSimpArgs false
namespace Go.Proofs.Ytchgaedidfefoaa
open Go.RowKit

theorem texts_yes {Ps Pu : Nat → Prop} {p q : List UInt8 → Prop} (v u : Value) (xs : List (List UInt8)) : Tr Try.prog 27 #[v, u] [slc (r1 vStr p) Ps v xs, slc (r1 vStr q) Pu u xs] [] (T0 (.bool true)) := by
  have := sameTexts_tr (Ps := Ps) (Pu := Pu) (p := p) (q := q) v u xs xs
  rwa [decide_eq_true rfl] at this
set_option maxRecDepth 20000 in
set_option maxHeartbeats 4000000 in

theorem tdiffs {Ps Pu : Nat → Prop} (v u : Value) (xs ys : List ET) : Tr Try.prog 5 #[v, u] [slc rEV Ps v xs, slc rEV Pu u ys] [] (T0 (.bool true)) := by
  refine Tr.of (l := [(0, v), (1, u)]) Try.func5 rfl (n := 75) rfl (.cons rfl (.cons rfl .nil)) (fun w0 hro => ?_)
  obtain ⟨hv0, hu0⟩ := ro2 hro
  have hv := hv0
  have hv' := hv
  obtain ⟨av, cv, bv, fv, rfl, hcapv, hmaxv, hnilv, hadv, helv⟩ := Ro.openT hv
  have hu := hu0
  have hu' := hu
  obtain ⟨au, cu, bu, fu, rfl, hcapu, hmaxu, hnilu, hadu, helu⟩ := Ro.openT hu
  have hlx := ens_length xs
  have hly := ens_length ys
  refine G.seq ?_
  refine G.region ?_
  refine G.op rfl (G.val rfl rfl (pv_assign rfl) ?_)
  refine G.nil ?_
  refine G.nThen ?_
  refine G.seq ?_
  refine G.seq ?_
  refine G.cutK (X := Unit) (ts := [0, 1, 4]) (p := []) (fun _ => True) (fun _ => [(19, .bool (decide (bigM (ens xs) 100 6000 ∨ bigM (ens ys) 100 6000)))]) (fun _ => []) (.cons rfl (.cons rfl (.cons rfl .nil))) (by repeat (first | exact Sub.nil | (apply Sub.cons; (repeat (first | with_reducible exact Sel.here | exact Sel.here | apply Sel.there))))) (.cons .nil) (by repeat (first | exact Ap.nil | apply Ap.cons)) ?_ ?_
  · refine G.region ?_
    refine G.op rfl (G.val rfl rfl (pv_move rfl) ?_)
    refine G.op rfl (G.cR rfl rfl rfl rfl Try.func12 rfl rfl (may1 (by first | (apply May.old; first | with_reducible assumption | assumption) | (apply Sel.may; (repeat (first | with_reducible exact Sel.here | exact Sel.here | apply Sel.there)); done) | (apply may_own; (repeat (first | with_reducible exact Sel.here | exact Sel.here | apply Sel.there)); exact rfl; exact (fun _ _ => trivial); done) | (apply may_ownB; (repeat (first | with_reducible exact Sel.here | exact Sel.here | apply Sel.there)); done) | (apply may_tree; (repeat (first | with_reducible exact Sel.here | exact Sel.here | apply Sel.there)); (repeat (first | with_reducible exact Sel.here | exact Sel.here | apply Sel.there)); assumption; done))) (big_tr _ _ _ _ (by omega)) ?_)
    refine G.op rfl (G.val rfl rfl (pv_move rfl) ?_)
    refine G.partP (t := 16) rfl (fun h16 => ?_) (fun h16 => ?_)
    · refine G.pass rfl rfl rfl rfl rfl rfl ?_
      refine G.pass rfl rfl rfl rfl rfl rfl ?_
      refine G.op rfl (G.val rfl rfl (pv_pick rfl rfl) ?_)
      refine G.nil ?_
      exact G.meet (()) (by first | exact trivial | ((try dsimp only); exact trivial)) (.consE rfl (by first | exact dec_t (.inl (by assumption)) | exact dec_e ⟨fun h => .inr h, fun h => h.resolve_left (by assumption)⟩) (.cons rfl (.cons rfl (.cons rfl .nil)))) (by repeat (first | exact Sub.nil | (apply Sub.cons; (repeat (first | with_reducible exact Sel.here | exact Sel.here | apply Sel.there)))))
    · refine G.want rfl rfl rfl (G.val rfl rfl (pv_move rfl) ?_)
      refine G.want rfl rfl rfl (G.cR rfl rfl rfl rfl Try.func12 rfl rfl (may1 (by first | (apply May.old; first | with_reducible assumption | assumption) | (apply Sel.may; (repeat (first | with_reducible exact Sel.here | exact Sel.here | apply Sel.there)); done) | (apply may_own; (repeat (first | with_reducible exact Sel.here | exact Sel.here | apply Sel.there)); exact rfl; exact (fun _ _ => trivial); done) | (apply may_ownB; (repeat (first | with_reducible exact Sel.here | exact Sel.here | apply Sel.there)); done) | (apply may_tree; (repeat (first | with_reducible exact Sel.here | exact Sel.here | apply Sel.there)); (repeat (first | with_reducible exact Sel.here | exact Sel.here | apply Sel.there)); assumption; done))) (big_tr _ _ _ _ (by omega)) ?_)
      refine G.op rfl (G.val rfl rfl (pv_pick rfl rfl) ?_)
      refine G.nil ?_
      exact G.meet (()) (by first | exact trivial | ((try dsimp only); exact trivial)) (.consE rfl (by first | exact dec_t (.inl (by assumption)) | exact dec_e ⟨fun h => .inr h, fun h => h.resolve_left (by assumption)⟩) (.cons rfl (.cons rfl (.cons rfl .nil)))) (by repeat (first | exact Sub.nil | (apply Sub.cons; (repeat (first | with_reducible exact Sel.here | exact Sel.here | apply Sel.there)))))
  · intro _ hJ
    try dsimp only at hJ
    try dsimp only
    refine G.condP rfl (fun h19 => ?_) (fun h19 => ?_)
    · refine G.seq ?_
      refine G.region ?_
      refine G.op rfl (G.cR rfl rfl rfl rfl Try.func10 rfl rfl may0 (awake_tr) ?_)
      refine G.op rfl (G.val rfl rfl (pv_assign rfl) ?_)
      refine G.nil ?_
      refine G.nThen ?_
      refine G.ret ?_
      refine G.rThen ?_
      exact G.done0G rfl (Rv.tmp rfl Rv.nil) (by first | rfl | exact int_eq (by omega) | (simp; done))
    · have hb1 : ¬ bigM (ens xs) 100 6000 := fun h => h19 (.inl h)
      have hb2 : ¬ bigM (ens ys) 100 6000 := fun h => h19 (.inr h)
      have hnx : xs.length ≤ 100 := by unfold bigM at hb1; omega
      have hny : ys.length ≤ 100 := by unfold bigM at hb2; omega
      refine G.skip ?_
      refine G.nThen ?_
      refine G.seq ?_
      refine G.region ?_
      refine G.op rfl (G.val rfl rfl (pv_move rfl) ?_)
      refine G.op rfl (G.cS rfl rfl rfl rfl Try.func18 rfl rfl (by repeat (first | exact Sub.nil | (apply Sub.cons; (repeat (first | with_reducible exact Sel.here | exact Sel.here | apply Sel.there))))) (may1 (by first | (apply May.old; first | with_reducible assumption | assumption) | (apply Sel.may; (repeat (first | with_reducible exact Sel.here | exact Sel.here | apply Sel.there)); done) | (apply may_own; (repeat (first | with_reducible exact Sel.here | exact Sel.here | apply Sel.there)); exact rfl; exact (fun _ _ => trivial); done) | (apply may_ownB; (repeat (first | with_reducible exact Sel.here | exact Sel.here | apply Sel.there)); done) | (apply may_tree; (repeat (first | with_reducible exact Sel.here | exact Sel.here | apply Sel.there)); (repeat (first | with_reducible exact Sel.here | exact Sel.here | apply Sel.there)); assumption; done))) (copyT_tr _ _ (by omega)) (by repeat (first | exact Ap.nil | apply Ap.cons)) ?_)
      intro x22 hJ
      obtain ⟨v', zs⟩ := x22
      try dsimp only at hJ
      try dsimp only
      have hez : ens zs = ens xs := hJ
      have hokz := ok_ens hez (Ro.allOk helv)
      refine G.op rfl (G.val rfl rfl (pv_move rfl) ?_)
      refine G.op rfl (G.cS rfl rfl rfl rfl Try.func18 rfl rfl (by repeat (first | exact Sub.nil | (apply Sub.cons; (repeat (first | with_reducible exact Sel.here | exact Sel.here | apply Sel.there))))) (may1 (by first | (apply May.old; first | with_reducible assumption | assumption) | (apply Sel.may; (repeat (first | with_reducible exact Sel.here | exact Sel.here | apply Sel.there)); done) | (apply may_own; (repeat (first | with_reducible exact Sel.here | exact Sel.here | apply Sel.there)); exact rfl; exact (fun _ _ => trivial); done) | (apply may_ownB; (repeat (first | with_reducible exact Sel.here | exact Sel.here | apply Sel.there)); done) | (apply may_tree; (repeat (first | with_reducible exact Sel.here | exact Sel.here | apply Sel.there)); (repeat (first | with_reducible exact Sel.here | exact Sel.here | apply Sel.there)); assumption; done))) (copyT_tr _ _ (by omega)) (by repeat (first | exact Ap.nil | apply Ap.cons)) ?_)
      intro x24 hJ
      obtain ⟨u', us⟩ := x24
      try dsimp only at hJ
      try dsimp only
      have heu : ens us = ens ys := hJ
      have hoku := ok_ens heu (Ro.allOk helu)
      refine G.op rfl (G.val rfl rfl (pv_assign rfl) ?_)
      refine G.op rfl (G.val rfl rfl (pv_assign rfl) ?_)
      refine G.nil ?_
      refine G.nThen ?_
      refine G.seq ?_
      refine G.region ?_
      refine G.op rfl (G.val rfl rfl (pv_move rfl) ?_)
      refine G.op rfl (G.val rfl rfl (pv_move rfl) ?_)
      refine G.op rfl (G.cS rfl rfl rfl rfl Try.func25 rfl rfl (by repeat (first | exact Sub.nil | (apply Sub.cons; (repeat (first | with_reducible exact Sel.here | exact Sel.here | apply Sel.there))))) (may2 (by first | (apply May.old; first | with_reducible assumption | assumption) | (apply Sel.may; (repeat (first | with_reducible exact Sel.here | exact Sel.here | apply Sel.there)); done) | (apply may_own; (repeat (first | with_reducible exact Sel.here | exact Sel.here | apply Sel.there)); exact rfl; exact (fun _ _ => trivial); done) | (apply may_ownB; (repeat (first | with_reducible exact Sel.here | exact Sel.here | apply Sel.there)); done) | (apply may_tree; (repeat (first | with_reducible exact Sel.here | exact Sel.here | apply Sel.there)); (repeat (first | with_reducible exact Sel.here | exact Sel.here | apply Sel.there)); assumption; done)) (by first | (apply May.old; first | with_reducible assumption | assumption) | (apply Sel.may; (repeat (first | with_reducible exact Sel.here | exact Sel.here | apply Sel.there)); done) | (apply may_own; (repeat (first | with_reducible exact Sel.here | exact Sel.here | apply Sel.there)); exact rfl; exact (fun _ _ => trivial); done) | (apply may_ownB; (repeat (first | with_reducible exact Sel.here | exact Sel.here | apply Sel.there)); done) | (apply may_tree; (repeat (first | with_reducible exact Sel.here | exact Sel.here | apply Sel.there)); (repeat (first | with_reducible exact Sel.here | exact Sel.here | apply Sel.there)); assumption; done))) (diff_tr _ _ _ _) (by repeat (first | exact Ap.nil | apply Ap.cons)) ?_)
      intro x28 hJ
      obtain ⟨d1, d2, d3⟩ := x28
      try dsimp only at hJ
      try dsimp only
      rw [hez, heu]
      refine G.op rfl (G.val rfl rfl (pv_move rfl) ?_)
      refine G.op rfl (G.val rfl rfl (pv_extract rfl rfl) ?_)
      refine G.op rfl (G.val rfl rfl (pv_extract rfl rfl) ?_)
      refine G.op rfl (G.val rfl rfl (pv_extract rfl rfl) ?_)
      refine G.op rfl (G.val rfl rfl (pv_assign rfl) ?_)
      refine G.op rfl (G.val rfl rfl (pv_assign rfl) ?_)
      refine G.op rfl (G.val rfl rfl (pv_assign rfl) ?_)
      refine G.nil ?_
      refine G.nThen ?_
      refine G.seq ?_
      refine G.region ?_
      refine G.op rfl (G.val rfl rfl (pv_move rfl) ?_)
      refine G.op rfl (G.val rfl rfl (pv_move rfl) ?_)
      refine G.op rfl (G.cS rfl rfl rfl rfl Try.func26 rfl rfl (by repeat (first | exact Sub.nil | (apply Sub.cons; (repeat (first | with_reducible exact Sel.here | exact Sel.here | apply Sel.there))))) (may2 (by first | (apply May.old; first | with_reducible assumption | assumption) | (apply Sel.may; (repeat (first | with_reducible exact Sel.here | exact Sel.here | apply Sel.there)); done) | (apply may_own; (repeat (first | with_reducible exact Sel.here | exact Sel.here | apply Sel.there)); exact rfl; exact (fun _ _ => trivial); done) | (apply may_ownB; (repeat (first | with_reducible exact Sel.here | exact Sel.here | apply Sel.there)); done) | (apply may_tree; (repeat (first | with_reducible exact Sel.here | exact Sel.here | apply Sel.there)); (repeat (first | with_reducible exact Sel.here | exact Sel.here | apply Sel.there)); assumption; done)) (by first | (apply May.old; first | with_reducible assumption | assumption) | (apply Sel.may; (repeat (first | with_reducible exact Sel.here | exact Sel.here | apply Sel.there)); done) | (apply may_own; (repeat (first | with_reducible exact Sel.here | exact Sel.here | apply Sel.there)); exact rfl; exact (fun _ _ => trivial); done) | (apply may_ownB; (repeat (first | with_reducible exact Sel.here | exact Sel.here | apply Sel.there)); done) | (apply may_tree; (repeat (first | with_reducible exact Sel.here | exact Sel.here | apply Sel.there)); (repeat (first | with_reducible exact Sel.here | exact Sel.here | apply Sel.there)); assumption; done))) (diffR_tr _ _ _ _) (by repeat (first | exact Ap.nil | apply Ap.cons)) ?_)
      intro x35 hJ
      obtain ⟨f1, f2, f3⟩ := x35
      try dsimp only at hJ
      try dsimp only
      refine G.op rfl (G.val rfl rfl (pv_move rfl) ?_)
      refine G.op rfl (G.val rfl rfl (pv_extract rfl rfl) ?_)
      refine G.op rfl (G.val rfl rfl (pv_extract rfl rfl) ?_)
      refine G.op rfl (G.val rfl rfl (pv_extract rfl rfl) ?_)
      refine G.op rfl (G.val rfl rfl (pv_assign rfl) ?_)
      refine G.op rfl (G.val rfl rfl (pv_assign rfl) ?_)
      refine G.op rfl (G.val rfl rfl (pv_assign rfl) ?_)
      refine G.nil ?_
      refine G.nThen ?_
      refine G.seq ?_
      refine G.region ?_
      refine G.op rfl (G.val rfl rfl (pv_move rfl) ?_)
      refine G.op rfl (G.val rfl rfl (pv_move rfl) ?_)
      refine G.op rfl (G.cR rfl rfl rfl rfl Try.func27 rfl rfl (may2 (by first | (apply May.old; first | with_reducible assumption | assumption) | (apply Sel.may; (repeat (first | with_reducible exact Sel.here | exact Sel.here | apply Sel.there)); done) | (apply may_own; (repeat (first | with_reducible exact Sel.here | exact Sel.here | apply Sel.there)); exact rfl; exact (fun _ _ => trivial); done) | (apply may_ownB; (repeat (first | with_reducible exact Sel.here | exact Sel.here | apply Sel.there)); done) | (apply may_tree; (repeat (first | with_reducible exact Sel.here | exact Sel.here | apply Sel.there)); (repeat (first | with_reducible exact Sel.here | exact Sel.here | apply Sel.there)); assumption; done)) (by first | (apply May.old; first | with_reducible assumption | assumption) | (apply Sel.may; (repeat (first | with_reducible exact Sel.here | exact Sel.here | apply Sel.there)); done) | (apply may_own; (repeat (first | with_reducible exact Sel.here | exact Sel.here | apply Sel.there)); exact rfl; exact (fun _ _ => trivial); done) | (apply may_ownB; (repeat (first | with_reducible exact Sel.here | exact Sel.here | apply Sel.there)); done) | (apply may_tree; (repeat (first | with_reducible exact Sel.here | exact Sel.here | apply Sel.there)); (repeat (first | with_reducible exact Sel.here | exact Sel.here | apply Sel.there)); assumption; done))) (texts_yes _ _ (diffM (ens xs) (ens ys)).1) ?_)
      refine G.op rfl (G.val rfl rfl (pv_move rfl) ?_)
      refine G.want rfl rfl rfl (G.val rfl rfl (pv_move rfl) ?_)
      refine G.want rfl rfl rfl (G.val rfl rfl (pv_move rfl) ?_)
      refine G.want rfl rfl rfl (G.cR rfl rfl rfl rfl Try.func27 rfl rfl (may2 (by first | (apply May.old; first | with_reducible assumption | assumption) | (apply Sel.may; (repeat (first | with_reducible exact Sel.here | exact Sel.here | apply Sel.there)); done) | (apply may_own; (repeat (first | with_reducible exact Sel.here | exact Sel.here | apply Sel.there)); exact rfl; exact (fun _ _ => trivial); done) | (apply may_ownB; (repeat (first | with_reducible exact Sel.here | exact Sel.here | apply Sel.there)); done) | (apply may_tree; (repeat (first | with_reducible exact Sel.here | exact Sel.here | apply Sel.there)); (repeat (first | with_reducible exact Sel.here | exact Sel.here | apply Sel.there)); assumption; done)) (by first | (apply May.old; first | with_reducible assumption | assumption) | (apply Sel.may; (repeat (first | with_reducible exact Sel.here | exact Sel.here | apply Sel.there)); done) | (apply may_own; (repeat (first | with_reducible exact Sel.here | exact Sel.here | apply Sel.there)); exact rfl; exact (fun _ _ => trivial); done) | (apply may_ownB; (repeat (first | with_reducible exact Sel.here | exact Sel.here | apply Sel.there)); done) | (apply may_tree; (repeat (first | with_reducible exact Sel.here | exact Sel.here | apply Sel.there)); (repeat (first | with_reducible exact Sel.here | exact Sel.here | apply Sel.there)); assumption; done))) (texts_yes _ _ (diffM (ens xs) (ens ys)).2.1) ?_)
      refine G.op rfl (G.val rfl rfl (pv_pick rfl rfl) ?_)
      refine G.op rfl (G.val rfl rfl (pv_move rfl) ?_)
      refine G.want rfl rfl rfl (G.val rfl rfl (pv_move rfl) ?_)
      refine G.want rfl rfl rfl (G.val rfl rfl (pv_move rfl) ?_)
      refine G.want rfl rfl rfl (G.cR rfl rfl rfl rfl Try.func27 rfl rfl (may2 (by first | (apply May.old; first | with_reducible assumption | assumption) | (apply Sel.may; (repeat (first | with_reducible exact Sel.here | exact Sel.here | apply Sel.there)); done) | (apply may_own; (repeat (first | with_reducible exact Sel.here | exact Sel.here | apply Sel.there)); exact rfl; exact (fun _ _ => trivial); done) | (apply may_ownB; (repeat (first | with_reducible exact Sel.here | exact Sel.here | apply Sel.there)); done) | (apply may_tree; (repeat (first | with_reducible exact Sel.here | exact Sel.here | apply Sel.there)); (repeat (first | with_reducible exact Sel.here | exact Sel.here | apply Sel.there)); assumption; done)) (by first | (apply May.old; first | with_reducible assumption | assumption) | (apply Sel.may; (repeat (first | with_reducible exact Sel.here | exact Sel.here | apply Sel.there)); done) | (apply may_own; (repeat (first | with_reducible exact Sel.here | exact Sel.here | apply Sel.there)); exact rfl; exact (fun _ _ => trivial); done) | (apply may_ownB; (repeat (first | with_reducible exact Sel.here | exact Sel.here | apply Sel.there)); done) | (apply may_tree; (repeat (first | with_reducible exact Sel.here | exact Sel.here | apply Sel.there)); (repeat (first | with_reducible exact Sel.here | exact Sel.here | apply Sel.there)); assumption; done))) (texts_yes _ _ (diffM (ens xs) (ens ys)).2.2) ?_)
      refine G.op rfl (G.val rfl rfl (pv_pick rfl rfl) ?_)
      refine G.op rfl (G.val rfl rfl (pv_assign rfl) ?_)
      refine G.nil ?_
      refine G.nThen ?_
      refine G.seq ?_
      refine G.region ?_
      refine G.op rfl (G.val rfl rfl (pv_move rfl) ?_)
      refine G.op rfl (G.val rfl rfl (pv_move rfl) ?_)
      refine G.want rfl rfl rfl (G.val rfl rfl (pv_move rfl) ?_)
      refine G.want rfl rfl rfl (G.val rfl rfl (pv_move rfl) ?_)
      refine G.want rfl rfl rfl (G.cR rfl rfl rfl rfl Try.func28 rfl rfl (may2 (by first | (apply May.old; first | with_reducible assumption | assumption) | (apply Sel.may; (repeat (first | with_reducible exact Sel.here | exact Sel.here | apply Sel.there)); done) | (apply may_own; (repeat (first | with_reducible exact Sel.here | exact Sel.here | apply Sel.there)); exact rfl; exact (fun _ _ => trivial); done) | (apply may_ownB; (repeat (first | with_reducible exact Sel.here | exact Sel.here | apply Sel.there)); done) | (apply may_tree; (repeat (first | with_reducible exact Sel.here | exact Sel.here | apply Sel.there)); (repeat (first | with_reducible exact Sel.here | exact Sel.here | apply Sel.there)); assumption; done)) (by first | (apply May.old; first | with_reducible assumption | assumption) | (apply Sel.may; (repeat (first | with_reducible exact Sel.here | exact Sel.here | apply Sel.there)); done) | (apply may_own; (repeat (first | with_reducible exact Sel.here | exact Sel.here | apply Sel.there)); exact rfl; exact (fun _ _ => trivial); done) | (apply may_ownB; (repeat (first | with_reducible exact Sel.here | exact Sel.here | apply Sel.there)); done) | (apply may_tree; (repeat (first | with_reducible exact Sel.here | exact Sel.here | apply Sel.there)); (repeat (first | with_reducible exact Sel.here | exact Sel.here | apply Sel.there)); assumption; done))) (tsame_tr _ _ _ _) ?_)
      rw [hez, heu]
      refine G.want rfl rfl rfl (G.val rfl rfl (pv_move rfl) ?_)
      refine G.want rfl rfl rfl (G.val rfl rfl (pv_move rfl) ?_)
      refine G.want rfl rfl rfl (G.cR rfl rfl rfl rfl Try.func29 rfl rfl (may2 (by first | (apply May.old; first | with_reducible assumption | assumption) | (apply Sel.may; (repeat (first | with_reducible exact Sel.here | exact Sel.here | apply Sel.there)); done) | (apply may_own; (repeat (first | with_reducible exact Sel.here | exact Sel.here | apply Sel.there)); exact rfl; exact (fun _ _ => trivial); done) | (apply may_ownB; (repeat (first | with_reducible exact Sel.here | exact Sel.here | apply Sel.there)); done) | (apply may_tree; (repeat (first | with_reducible exact Sel.here | exact Sel.here | apply Sel.there)); (repeat (first | with_reducible exact Sel.here | exact Sel.here | apply Sel.there)); assumption; done)) (by first | (apply May.old; first | with_reducible assumption | assumption) | (apply Sel.may; (repeat (first | with_reducible exact Sel.here | exact Sel.here | apply Sel.there)); done) | (apply may_own; (repeat (first | with_reducible exact Sel.here | exact Sel.here | apply Sel.there)); exact rfl; exact (fun _ _ => trivial); done) | (apply may_ownB; (repeat (first | with_reducible exact Sel.here | exact Sel.here | apply Sel.there)); done) | (apply may_tree; (repeat (first | with_reducible exact Sel.here | exact Sel.here | apply Sel.there)); (repeat (first | with_reducible exact Sel.here | exact Sel.here | apply Sel.there)); assumption; done))) (tsameR_tr _ _ _ _) ?_)
      refine G.want rfl rfl rfl (G.val rfl rfl ((pv_eqlB Try.underlying4 rfl rfl).cast (v' := .bool true) (congrArg Value.bool (by simp))) ?_)
      refine G.op rfl (G.val rfl rfl (pv_pick rfl rfl) ?_)
      refine G.op rfl (G.val rfl rfl (pv_move rfl) ?_)
      refine G.want rfl rfl rfl (G.val rfl rfl (pv_move rfl) ?_)
      refine G.want rfl rfl rfl (G.val rfl rfl (pv_move rfl) ?_)
      refine G.want rfl rfl rfl (G.cR rfl rfl rfl rfl Try.func16 rfl rfl (may2 (by first | (apply May.old; first | with_reducible assumption | assumption) | (apply Sel.may; (repeat (first | with_reducible exact Sel.here | exact Sel.here | apply Sel.there)); done) | (apply may_own; (repeat (first | with_reducible exact Sel.here | exact Sel.here | apply Sel.there)); exact rfl; exact (fun _ _ => trivial); done) | (apply may_ownB; (repeat (first | with_reducible exact Sel.here | exact Sel.here | apply Sel.there)); done) | (apply may_tree; (repeat (first | with_reducible exact Sel.here | exact Sel.here | apply Sel.there)); (repeat (first | with_reducible exact Sel.here | exact Sel.here | apply Sel.there)); assumption; done)) (by first | (apply May.old; first | with_reducible assumption | assumption) | (apply Sel.may; (repeat (first | with_reducible exact Sel.here | exact Sel.here | apply Sel.there)); done) | (apply may_own; (repeat (first | with_reducible exact Sel.here | exact Sel.here | apply Sel.there)); exact rfl; exact (fun _ _ => trivial); done) | (apply may_ownB; (repeat (first | with_reducible exact Sel.here | exact Sel.here | apply Sel.there)); done) | (apply may_tree; (repeat (first | with_reducible exact Sel.here | exact Sel.here | apply Sel.there)); (repeat (first | with_reducible exact Sel.here | exact Sel.here | apply Sel.there)); assumption; done))) (tree_yes _ _ zs xs hez) ?_)
      refine G.op rfl (G.val rfl rfl (pv_pick rfl rfl) ?_)
      refine G.op rfl (G.val rfl rfl (pv_move rfl) ?_)
      refine G.want rfl rfl rfl (G.val rfl rfl (pv_move rfl) ?_)
      refine G.want rfl rfl rfl (G.val rfl rfl (pv_move rfl) ?_)
      refine G.want rfl rfl rfl (G.cR rfl rfl rfl rfl Try.func16 rfl rfl (may2 (by first | (apply May.old; first | with_reducible assumption | assumption) | (apply Sel.may; (repeat (first | with_reducible exact Sel.here | exact Sel.here | apply Sel.there)); done) | (apply may_own; (repeat (first | with_reducible exact Sel.here | exact Sel.here | apply Sel.there)); exact rfl; exact (fun _ _ => trivial); done) | (apply may_ownB; (repeat (first | with_reducible exact Sel.here | exact Sel.here | apply Sel.there)); done) | (apply may_tree; (repeat (first | with_reducible exact Sel.here | exact Sel.here | apply Sel.there)); (repeat (first | with_reducible exact Sel.here | exact Sel.here | apply Sel.there)); assumption; done)) (by first | (apply May.old; first | with_reducible assumption | assumption) | (apply Sel.may; (repeat (first | with_reducible exact Sel.here | exact Sel.here | apply Sel.there)); done) | (apply may_own; (repeat (first | with_reducible exact Sel.here | exact Sel.here | apply Sel.there)); exact rfl; exact (fun _ _ => trivial); done) | (apply may_ownB; (repeat (first | with_reducible exact Sel.here | exact Sel.here | apply Sel.there)); done) | (apply may_tree; (repeat (first | with_reducible exact Sel.here | exact Sel.here | apply Sel.there)); (repeat (first | with_reducible exact Sel.here | exact Sel.here | apply Sel.there)); assumption; done))) (tree_yes _ _ us ys heu) ?_)
      refine G.op rfl (G.val rfl rfl (pv_pick rfl rfl) ?_)
      refine G.op rfl (G.val rfl rfl (pv_move rfl) ?_)
      refine G.want rfl rfl rfl (G.cR rfl rfl rfl rfl Try.func10 rfl rfl may0 (awake_tr) ?_)
      refine G.op rfl (G.val rfl rfl (pv_pick rfl rfl) ?_)
      refine G.op rfl (G.val rfl rfl (pv_assign rfl) ?_)
      refine G.nil ?_
      refine G.nThen ?_
      refine G.ret ?_
      exact G.done0G rfl (Rv.tmp rfl Rv.nil) (by first | rfl | exact int_eq (by omega) | (simp; done))
end Go.Proofs.Ytchgaedidfefoaa
