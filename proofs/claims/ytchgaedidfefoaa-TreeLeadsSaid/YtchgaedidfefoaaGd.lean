/- Merged of TQ, TR, TU, TW, WV, TX, TY, TZ, UA, UC, UD, UF, UG, TreeOpn. Conditions: none. -/
import Derived.Test.YtchgaedidfefoaaGc
import Derived.Lib.Overlaps
import Derived.Lib.AppendZeros
import Derived.Laws.Externs
import Derived.ChangeMaps5
set_option linter.unusedVariables false
set_option linter.unusedSimpArgs false
namespace Go.Proofs.Ytchgaedidfefoaa
open Go.RowKit
/-- the paths of b that a has not -/
def addM (a b : List En) : List (List UInt8) := (b.filter fun e => ! decide (isAt a e.path)).map (·.path)
/-- the paths of b that a has, with another entry -/
def chgM (a b : List En) : List (List UInt8) := (b.filter fun e => decide (isAt a e.path) && ! decide (e ∈ a)).map (·.path)
def diffM (a b : List En) : List (List UInt8) × List (List UInt8) × List (List UInt8) := if (checkT a).1 = 0 ∧ (checkT b).1 = 0 then (addM a b, addM b a, chgM a b) else ([], [], [])
theorem diff_bad {a b : List En} (h : ¬ (checkT a).1 = 0 ∨ ¬ (checkT b).1 = 0) : diffM a b = ([], [], []) := if_neg fun k => h.elim (fun h => h k.1) (fun h => h k.2)
theorem diff_ok {a b : List En} (h : (checkT a).1 = 0) (h2 : (checkT b).1 = 0) : diffM a b = (addM a b, addM b a, chgM a b) := if_pos ⟨h, h2⟩
theorem add_yes {a b : List En} {j : Nat} {y : En} (hy : b[j]? = some y) (h : ¬ isAt a y.path) : addM a (b.take (j + 1)) = addM a (b.take j) ++ [y.path] := by
  obtain ⟨hj, rfl⟩ := List.getElem?_eq_some_iff.1 hy
  unfold addM
  rw [List.take_succ_eq_append_getElem hj, List.filter_append, List.map_append]
  simp [h]
theorem add_no {a b : List En} {j : Nat} {y : En} (hy : b[j]? = some y) (h : isAt a y.path) : addM a (b.take (j + 1)) = addM a (b.take j) := by
  obtain ⟨hj, rfl⟩ := List.getElem?_eq_some_iff.1 hy
  unfold addM
  rw [List.take_succ_eq_append_getElem hj, List.filter_append, List.map_append]
  simp [h]
theorem chg_no {a b : List En} {j : Nat} {y : En} (hy : b[j]? = some y) (h : ¬ isAt a y.path ∨ y ∈ a) : chgM a (b.take (j + 1)) = chgM a (b.take j) := by
  obtain ⟨hj, rfl⟩ := List.getElem?_eq_some_iff.1 hy
  unfold chgM
  rw [List.take_succ_eq_append_getElem hj, List.filter_append, List.map_append]
  rcases h with h | h <;> simp [h]
theorem chg_yes {a b : List En} {j : Nat} {y : En} (hy : b[j]? = some y) (h : isAt a y.path) (h2 : ¬ y ∈ a) : chgM a (b.take (j + 1)) = chgM a (b.take j) ++ [y.path] := by
  obtain ⟨hj, rfl⟩ := List.getElem?_eq_some_iff.1 hy
  unfold chgM
  rw [List.take_succ_eq_append_getElem hj, List.filter_append, List.map_append]
  simp [h, h2]
def LtP (x y : En) : Prop := compareM x.path y.path = -1
theorem LtP.trans {x y z : En} (h : LtP x y) (k : LtP y z) : LtP x z := compareM_ord.trans _ _ _ h k
theorem LtP.ne {x y : En} (h : LtP x y) : ¬ x.path = y.path := fun e => by
  have := (compareM_ord.zero x.path y.path).2 e
  unfold LtP at h
  omega
/-- how far one has come -/
structure DiffS (a b : List En) (i j : Nat) (u g c : List (List UInt8)) : Prop where
  hi : i ≤ a.length
  hj : j ≤ b.length
  hu : u = addM a (b.take j)
  hg : g = addM b (a.take i)
  hc : c = chgM a (b.take j)
  lt1 : ∀ (q r : Nat) (x y : En), q < i → j ≤ r → a[q]? = some x → b[r]? = some y → LtP x y
  lt2 : ∀ (q r : Nat) (x y : En), i ≤ q → r < j → a[q]? = some x → b[r]? = some y → LtP y x
def OrdS (a b : List En) (i j : Nat) (o : Int) : Prop := (0 < o → j < b.length ∧ ∀ (x y : En), a[i]? = some x → b[j]? = some y → LtP y x) ∧ (o < 0 → i < a.length ∧ ∀ (x y : En), a[i]? = some x → b[j]? = some y → LtP x y) ∧ (o = 0 → i < a.length ∧ j < b.length ∧ ∀ (x y : En), a[i]? = some x → b[j]? = some y → x.path = y.path)
theorem ord_gt {a b : List En} {i j : Nat} (hi : a.length ≤ i) (hj : j < b.length) : OrdS a b i j 1 := ⟨fun _ => ⟨hj, fun x y hx => by rw [List.getElem?_eq_none hi] at hx; cases hx⟩, fun h => by omega, fun h => by omega⟩
theorem ord_lt {a b : List En} {i j : Nat} (hi : i < a.length) (hj : b.length ≤ j) : OrdS a b i j (-1) := ⟨fun h => by omega, fun _ => ⟨hi, fun x y _ hy => by rw [List.getElem?_eq_none hj] at hy; cases hy⟩, fun h => by omega⟩
theorem ord_cmp {a b : List En} {i j : Nat} {x y : En} (hx : a[i]? = some x) (hy : b[j]? = some y) : OrdS a b i j (compareM x.path y.path) := by
  have hi := (List.getElem?_eq_some_iff.1 hx).1
  have hj := (List.getElem?_eq_some_iff.1 hy).1
  have hr := compareM_ord.rng x.path y.path
  have ha := compareM_ord.anti x.path y.path
  refine ⟨fun h => ⟨hj, fun x' y' hx' hy' => ?_⟩, fun h => ⟨hi, fun x' y' hx' hy' => ?_⟩, fun h => ⟨hi, hj, fun x' y' hx' hy' => ?_⟩⟩
  all_goals
    rw [hx] at hx'
    rw [hy] at hy'
    obtain rfl := Option.some.inj hx'
    obtain rfl := Option.some.inj hy'
  · unfold LtP; omega
  · unfold LtP; omega
  · exact (compareM_ord.zero _ _).1 h
theorem sort_ltP {a : List En} (h : SortT a) {q r : Nat} {x y : En} (hqr : q < r) (hx : a[q]? = some x) (hy : a[r]? = some y) : LtP x y := by
  obtain ⟨h1, rfl⟩ := List.getElem?_eq_some_iff.1 hx
  obtain ⟨h2, rfl⟩ := List.getElem?_eq_some_iff.1 hy
  exact (List.pairwise_iff_getElem.1 h) q r h1 h2 hqr
theorem not_at {a : List En} {y : En} (h : ∀ (q : Nat) (x : En), a[q]? = some x → LtP x y ∨ LtP y x) : ¬ isAt a y.path := by
  rintro ⟨x, hx, hp⟩
  obtain ⟨q, hq⟩ := List.getElem?_of_mem hx
  rcases h q x hq with h | h
  · exact h.ne hp
  · exact h.ne hp.symm
theorem diff_gt {a b : List En} {i j : Nat} {u g c : List (List UInt8)} {o : Int} (ha : SortT a) (hb : SortT b) (h : DiffS a b i j u g c) (ho : OrdS a b i j o) (h0 : 0 < o) {y : En} (hy : b[j]? = some y) : DiffS a b i (j + 1) (u ++ [y.path]) g c := by
  obtain ⟨hjl, hlt⟩ := ho.1 h0
  have all : ∀ (q : Nat) (x : En), a[q]? = some x → LtP x y ∨ LtP y x := fun q x hx => by
    rcases Nat.lt_or_ge q i with hq | hq
    · exact .inl (h.lt1 q j x y hq (Nat.le_refl _) hx hy)
    · rcases Nat.lt_or_ge i q with hq2 | hq2
      · have hi : i < a.length := by have := (List.getElem?_eq_some_iff.1 hx).1; omega
        exact .inr ((hlt _ y (List.getElem?_eq_getElem hi) hy).trans (sort_ltP ha hq2 (List.getElem?_eq_getElem hi) hx))
      · obtain rfl : q = i := by omega
        exact .inr (hlt x y hx hy)
  have hn := not_at all
  refine ⟨h.hi, hjl, by rw [h.hu, add_yes hy hn], h.hg, by rw [h.hc, chg_no hy (.inl hn)], fun q r x z hq hr => h.lt1 q r x z hq (by omega), fun q r x z hq hr hx hz => ?_⟩
  rcases Nat.lt_or_ge r j with hr2 | hr2
  · exact h.lt2 q r x z hq hr2 hx hz
  · obtain rfl : r = j := by omega
    rw [hy] at hz
    obtain rfl := Option.some.inj hz
    rcases all q x hx with k | k
    · rcases Nat.lt_or_ge i q with hq2 | hq2
      · have hi : i < a.length := by have := (List.getElem?_eq_some_iff.1 hx).1; omega
        exact (hlt _ y (List.getElem?_eq_getElem hi) hy).trans (sort_ltP ha hq2 (List.getElem?_eq_getElem hi) hx)
      · obtain rfl : q = i := by omega
        exact hlt x y hx hy
    · exact k
theorem diff_lt {a b : List En} {i j : Nat} {u g c : List (List UInt8)} {o : Int} (ha : SortT a) (hb : SortT b) (h : DiffS a b i j u g c) (ho : OrdS a b i j o) (h0 : o < 0) {x : En} (hx : a[i]? = some x) : DiffS a b (i + 1) j u (g ++ [x.path]) c := by
  obtain ⟨hil, hlt⟩ := ho.2.1 h0
  have low : ∀ (r : Nat) (y : En), j ≤ r → b[r]? = some y → LtP x y := fun r y hr hy => by
    rcases Nat.lt_or_ge j r with hr2 | hr2
    · have hj : j < b.length := by have := (List.getElem?_eq_some_iff.1 hy).1; omega
      exact (hlt x _ hx (List.getElem?_eq_getElem hj)).trans (sort_ltP hb hr2 (List.getElem?_eq_getElem hj) hy)
    · obtain rfl : r = j := by omega
      exact hlt x y hx hy
  have hn : ¬ isAt b x.path := not_at fun r y hy => by
    rcases Nat.lt_or_ge r j with hr | hr
    · exact .inl (h.lt2 i r x y (Nat.le_refl _) hr hx hy)
    · exact .inr (low r y hr hy)
  refine ⟨hil, h.hj, h.hu, by rw [h.hg, add_yes hx hn], h.hc, fun q r z y hq hr hz hy => ?_, fun q r z y hq hr => h.lt2 q r z y (by omega) hr⟩
  rcases Nat.lt_or_ge q i with hq2 | hq2
  · exact h.lt1 q r z y hq2 hr hz hy
  · obtain rfl : q = i := by omega
    rw [hx] at hz
    obtain rfl := Option.some.inj hz
    exact low r y hr hy
theorem diff_eq {a b : List En} {i j : Nat} {u g c : List (List UInt8)} {o : Int} (ha : SortT a) (hb : SortT b) (h : DiffS a b i j u g c) (ho : OrdS a b i j o) (h0 : o = 0) {x y : En} (hx : a[i]? = some x) (hy : b[j]? = some y) : DiffS a b (i + 1) (j + 1) u g (if x = y then c else c ++ [x.path]) := by
  obtain ⟨hil, hjl, heq⟩ := ho.2.2 h0
  have e := heq x y hx hy
  have hxa : x ∈ a := List.mem_of_getElem? hx
  have hyb : y ∈ b := List.mem_of_getElem? hy
  have h1 : isAt a y.path := ⟨x, hxa, e⟩
  have h2 : isAt b x.path := ⟨y, hyb, e.symm⟩
  refine ⟨hil, hjl, by rw [h.hu, add_no hy h1], by rw [h.hg, add_no hx h2], ?_, fun q r z w hq hr hz hw => ?_, fun q r z w hq hr hz hw => ?_⟩
  · by_cases k : x = y
    · rw [if_pos k, h.hc, chg_no hy (.inr (k ▸ hxa))]
    · rw [if_neg k, h.hc, chg_yes hy h1 (fun hm => k (sort_inj ha hxa hm e)), e]
  · have hyw : LtP y w := sort_ltP hb (by omega) hy hw
    have hxw : LtP x w := by unfold LtP at hyw ⊢; rw [e]; exact hyw
    rcases Nat.lt_or_ge q i with hq2 | hq2
    · exact (sort_ltP ha hq2 hz hx).trans hxw
    · obtain rfl : q = i := by omega
      rw [hx] at hz
      obtain rfl := Option.some.inj hz
      exact hxw
  · have hxz : LtP x z := sort_ltP ha (by omega) hx hz
    have hyz : LtP y z := by unfold LtP at hxz ⊢; rw [← e]; exact hxz
    rcases Nat.lt_or_ge r j with hr2 | hr2
    · exact (sort_ltP hb hr2 hw hy).trans hyz
    · obtain rfl : r = j := by omega
      rw [hy] at hw
      obtain rfl := Option.some.inj hw
      exact hyz
theorem diff_end {a b : List En} {u g c : List (List UInt8)} {i j : Nat} (h : DiffS a b i j u g c) (hi : i = a.length) (hj : j = b.length) : u = addM a b ∧ g = addM b a ∧ c = chgM a b := by
  subst hi hj
  refine ⟨h.hu.trans (by rw [List.take_length]), h.hg.trans (by rw [List.take_length]), h.hc.trans (by rw [List.take_length])⟩
theorem diff_start (a b : List En) : DiffS a b 0 0 [] [] [] := ⟨Nat.zero_le _, Nat.zero_le _, rfl, rfl, rfl, fun q r x y hq => by omega, fun q r x y _ hr => by omega⟩
theorem add_len (a b : List En) : (addM a b).length ≤ b.length := by
  unfold addM
  rw [List.length_map]
  exact List.length_filter_le ..
theorem chg_len (a b : List En) : (chgM a b).length ≤ b.length := by
  unfold chgM
  rw [List.length_map]
  exact List.length_filter_le ..
end Go.Proofs.Ytchgaedidfefoaa

set_option linter.unusedVariables false
set_option linter.unusedSimpArgs false
namespace Go.Proofs.Ytchgaedidfefoaa
open Go.RowKit
theorem ens_drop0 {xs : List ET} {i : Nat} (h : 0 < (xs.drop i).length) : (ens xs)[i]? = some (xs.drop i)[0].1 := by
  rw [List.length_drop] at h
  rw [ens_at (show i < xs.length by omega), List.getElem_drop]
  rfl
theorem DiffS.len {a b : List En} {u g c : List (List UInt8)} {i j : Nat} (h : DiffS a b i j u g c) : u.length ≤ j ∧ g.length ≤ i ∧ c.length ≤ j := by
  obtain ⟨_, _, rfl, rfl, rfl, _, _⟩ := h
  have h1 := add_len a (b.take j)
  have h2 := add_len b (a.take i)
  have h3 := chg_len a (b.take j)
  rw [List.length_take] at h1 h2 h3
  omega
theorem own_snoc (l : List (List UInt8)) (x : List UInt8) : l.map vStr ++ [vStr x] = (l ++ [x]).map vStr := by rw [List.map_append]; rfl
theorem len_snoc {α : Type} (l : List α) (x : α) : l.length + 1 = (l ++ [x]).length := by rw [List.length_append]; rfl
set_option maxRecDepth 20000 in
set_option maxHeartbeats 4000000 in
theorem diff_tr {Ps Pu : Nat → Prop} (v u : Value) (xs ys : List ET) : Tr Try.prog 25 #[v, u] [slc rEV Ps v xs, slc rEV Pu u ys] []
    (TX (fun _ : Value × Value × Value => True) (fun z => .tuple #[z.1, z.2.1, z.2.2]) (fun z => [own 9 1 z.1 (diffM (ens xs) (ens ys)).1.length ((diffM (ens xs) (ens ys)).1.map vStr), own 9 1 z.2.1 (diffM (ens xs) (ens ys)).2.1.length ((diffM (ens xs) (ens ys)).2.1.map vStr), own 9 1 z.2.2 (diffM (ens xs) (ens ys)).2.2.length ((diffM (ens xs) (ens ys)).2.2.map vStr)])) := by
  refine Tr.of (l := [(0, v), (1, u)]) Try.func25 rfl (n := 98) rfl (.cons rfl (.cons rfl .nil)) (fun w0 hro => ?_)
  obtain ⟨hv0, hu0⟩ := ro2 hro
  have hlx := ens_length xs
  have hly := ens_length ys
  refine G.seq ?_
  refine G.region ?_
  refine G.op rfl (G.val rfl rfl (pv_assign rfl) ?_)
  refine G.op rfl (G.val rfl rfl (pv_assign rfl) ?_)
  refine G.op rfl (G.val rfl rfl (pv_assign rfl) ?_)
  refine G.nil ?_
  refine G.nThen ?_
  refine G.seq ?_
  refine G.region ?_
  refine G.op rfl (G.val rfl rfl (pv_move rfl) ?_)
  refine G.op rfl (G.cR rfl rfl rfl rfl Try.func11 rfl rfl (may1 (by first | (apply May.old; first | with_reducible assumption | assumption) | (apply Sel.may; (repeat (first | with_reducible exact Sel.here | exact Sel.here | apply Sel.there)); done) | (apply may_own; (repeat (first | with_reducible exact Sel.here | exact Sel.here | apply Sel.there)); exact rfl; exact (fun _ _ => trivial); done) | (apply may_ownB; (repeat (first | with_reducible exact Sel.here | exact Sel.here | apply Sel.there)); done) | (apply may_tree; (repeat (first | with_reducible exact Sel.here | exact Sel.here | apply Sel.there)); (repeat (first | with_reducible exact Sel.here | exact Sel.here | apply Sel.there)); assumption; done))) (tcheck_tr _ _) ?_)
  refine G.op rfl (G.val rfl rfl (pv_move rfl) ?_)
  refine G.op rfl (G.val rfl rfl (pv_extract rfl rfl) ?_)
  refine G.op rfl (G.val rfl rfl (pv_extract rfl rfl) ?_)
  refine G.op rfl (G.val rfl rfl (pv_assign rfl) ?_)
  refine G.op rfl (G.val rfl rfl (pv_assign rfl) ?_)
  refine G.nil ?_
  refine G.nThen ?_
  refine G.seq ?_
  refine G.region ?_
  refine G.op rfl (G.val rfl rfl (pv_move rfl) ?_)
  refine G.op rfl (G.cR rfl rfl rfl rfl Try.func11 rfl rfl (may1 (by first | (apply May.old; first | with_reducible assumption | assumption) | (apply Sel.may; (repeat (first | with_reducible exact Sel.here | exact Sel.here | apply Sel.there)); done) | (apply may_own; (repeat (first | with_reducible exact Sel.here | exact Sel.here | apply Sel.there)); exact rfl; exact (fun _ _ => trivial); done) | (apply may_ownB; (repeat (first | with_reducible exact Sel.here | exact Sel.here | apply Sel.there)); done) | (apply may_tree; (repeat (first | with_reducible exact Sel.here | exact Sel.here | apply Sel.there)); (repeat (first | with_reducible exact Sel.here | exact Sel.here | apply Sel.there)); assumption; done))) (tcheck_tr _ _) ?_)
  refine G.op rfl (G.val rfl rfl (pv_move rfl) ?_)
  refine G.op rfl (G.val rfl rfl (pv_extract rfl rfl) ?_)
  refine G.op rfl (G.val rfl rfl (pv_extract rfl rfl) ?_)
  refine G.op rfl (G.val rfl rfl (pv_assign rfl) ?_)
  refine G.op rfl (G.val rfl rfl (pv_assign rfl) ?_)
  refine G.nil ?_
  refine G.nThen ?_
  refine G.seq ?_
  refine G.seq ?_
  refine G.cutK (X := Unit) (ts := [0, 1, 4, 5, 6]) (p := []) (fun _ => True) (fun _ => [(27, .bool (decide (¬ (checkT (ens xs)).1 = 0 ∨ ¬ (checkT (ens ys)).1 = 0)))]) (fun _ => []) (.cons rfl (.cons rfl (.cons rfl (.cons rfl (.cons rfl .nil))))) (by repeat (first | exact Sub.nil | (apply Sub.cons; (repeat (first | with_reducible exact Sel.here | exact Sel.here | apply Sel.there))))) (.cons .nil) (by repeat (first | exact Ap.nil | apply Ap.cons)) ?_ ?_
  · refine G.region ?_
    refine G.op rfl (G.val rfl rfl (pv_move rfl) ?_)
    refine G.op rfl (G.val rfl rfl (pv_neq rfl rfl) ?_)
    refine G.op rfl (G.val rfl rfl (pv_move rfl) ?_)
    refine G.partP (t := 24) rfl (fun h24 => ?_) (fun h24 => ?_)
    · refine G.pass rfl rfl rfl rfl rfl rfl ?_
      refine G.pass rfl rfl rfl rfl rfl rfl ?_
      refine G.op rfl (G.val rfl rfl (pv_pick rfl rfl) ?_)
      refine G.nil ?_
      exact G.meet (()) (by first | exact trivial | ((try dsimp only); exact trivial)) (.consE rfl (by first | exact dec_t (.inl (by assumption)) | exact dec_e ⟨fun h => .inr h, fun h => h.resolve_left (by assumption)⟩) (.cons rfl (.cons rfl (.cons rfl (.cons rfl (.cons rfl .nil)))))) (by repeat (first | exact Sub.nil | (apply Sub.cons; (repeat (first | with_reducible exact Sel.here | exact Sel.here | apply Sel.there)))))
    · refine G.want rfl rfl rfl (G.val rfl rfl (pv_move rfl) ?_)
      refine G.want rfl rfl rfl (G.val rfl rfl (pv_neq rfl rfl) ?_)
      refine G.op rfl (G.val rfl rfl (pv_pick rfl rfl) ?_)
      refine G.nil ?_
      exact G.meet (()) (by first | exact trivial | ((try dsimp only); exact trivial)) (.consE rfl (by first | exact dec_t (.inl (by assumption)) | exact dec_e ⟨fun h => .inr h, fun h => h.resolve_left (by assumption)⟩) (.cons rfl (.cons rfl (.cons rfl (.cons rfl (.cons rfl .nil)))))) (by repeat (first | exact Sub.nil | (apply Sub.cons; (repeat (first | with_reducible exact Sel.here | exact Sel.here | apply Sel.there)))))
  · intro _ hJ
    try dsimp only at hJ
    try dsimp only
    refine G.condP rfl (fun h27 => ?_) (fun h27 => ?_)
    · have hbad := diff_bad h27
      refine G.seq ?_
      refine G.region ?_
      refine G.op rfl (G.val rfl rfl (pv_assign rfl) ?_)
      refine G.op rfl (G.val rfl rfl (pv_assign rfl) ?_)
      refine G.op rfl (G.val rfl rfl (pv_assign rfl) ?_)
      refine G.nil ?_
      refine G.nThen ?_
      refine G.ret ?_
      refine G.rThen ?_
      rw [hbad]
      refine G.ownNil 9 1 ?_
      refine G.ownNil 9 1 ?_
      refine G.ownNil 9 1 ?_
      exact G.doneX3 ((.slice none 0 0, .slice none 0 0, .slice none 0 0)) (by first | exact trivial | ((try dsimp only); exact trivial)) rfl rfl rfl rfl rfl (by repeat (first | exact Sub.nil | (apply Sub.cons; (repeat (first | with_reducible exact Sel.here | exact Sel.here | apply Sel.there)))))
    · have hx0 : (checkT (ens xs)).1 = 0 := Decidable.of_not_not (fun h => h27 (.inl h))
      have hy0 : (checkT (ens ys)).1 = 0 := Decidable.of_not_not (fun h => h27 (.inr h))
      obtain ⟨hx1, hx2, -⟩ := checkT_zero hx0
      obtain ⟨hy1, hy2, -⟩ := checkT_zero hy0
      have hsx := sort_all hx2
      have hsy := sort_all hy2
      have hgood := diff_ok hx0 hy0
      refine G.skip ?_
      refine G.nThen ?_
      refine G.seq ?_
      refine G.block ?_
      refine G.ownNil 9 1 ?_
      refine G.ownNil 9 1 ?_
      refine G.ownNil 9 1 ?_
      refine G.loopK (X := Nat × Nat × Value × Value × Value × Value × Value × (List (List UInt8)) × (List (List UInt8)) × (List (List UInt8))) (ts := []) (fun st => DiffS (ens xs) (ens ys) st.1 st.2.1 st.2.2.2.2.2.2.2.1 st.2.2.2.2.2.2.2.2.1 st.2.2.2.2.2.2.2.2.2 ∧ Ro w0 (U []) (slc rEV Ps st.2.2.1 (xs.drop st.1)) ∧ Ro w0 (U []) (slc rEV Pu st.2.2.2.1 (ys.drop st.2.1))) (fun st => [(0, st.2.2.1), (1, st.2.2.2.1), (4, st.2.2.2.2.1), (5, st.2.2.2.2.2.1), (6, st.2.2.2.2.2.2.1)]) (fun st => [own 9 1 st.2.2.2.2.1 st.2.2.2.2.2.2.2.1.length (st.2.2.2.2.2.2.2.1.map vStr), own 9 1 st.2.2.2.2.2.1 st.2.2.2.2.2.2.2.2.1.length (st.2.2.2.2.2.2.2.2.1.map vStr), own 9 1 st.2.2.2.2.2.2.1 st.2.2.2.2.2.2.2.2.2.length (st.2.2.2.2.2.2.2.2.2.map vStr)]) (fun st => (xs.length - st.1) + (ys.length - st.2.1)) (x0 := (0, 0, v, u, (.slice none 0 0), (.slice none 0 0), (.slice none 0 0), [], [], [])) .nil (by repeat (first | exact Sub.nil | (apply Sub.cons; (repeat (first | with_reducible exact Sel.here | exact Sel.here | apply Sel.there))))) (.cons (.cons (.cons (.cons (.cons .nil))))) (by repeat (first | exact Ap.nil | apply Ap.cons)) (by first | exact trivial | ((try dsimp only); exact ⟨diff_start _ _, hv0, hu0⟩)) (.consE rfl (by first | rfl | exact int_eq (by first | omega | (dsimp only; omega)) | exact congrArg _ (by omega)) (.consE rfl (by first | rfl | exact int_eq (by first | omega | (dsimp only; omega)) | exact congrArg _ (by omega)) (.consE rfl (by first | rfl | exact int_eq (by first | omega | (dsimp only; omega)) | exact congrArg _ (by omega)) (.consE rfl (by first | rfl | exact int_eq (by first | omega | (dsimp only; omega)) | exact congrArg _ (by omega)) (.consE rfl (by first | rfl | exact int_eq (by first | omega | (dsimp only; omega)) | exact congrArg _ (by omega)) .nil))))) (fun st hJ => ?_)
      obtain ⟨i, j, va, vb, w1, w2, w3, l1, l2, l3⟩ := st
      try dsimp only at hJ
      try dsimp only
      obtain ⟨hD, hva, hvb⟩ := hJ
      have hp := hva
      have hp' := hp
      obtain ⟨ap, cp, bp, fp, rfl, hcapp, hmaxp, hnilp, hadp, help⟩ := Ro.openT hp
      have hq := hvb
      have hq' := hq
      obtain ⟨aq, cq, bq, fq, rfl, hcapq, hmaxq, hnilq, hadq, helq⟩ := Ro.openT hq
      obtain ⟨hl1, hl2, hl3⟩ := hD.len
      have hdi := hD.hi
      have hdj := hD.hj
      have e1 : (xs.drop i).length = xs.length - i := List.length_drop
      have e2 : (ys.drop j).length = ys.length - j := List.length_drop
      refine G.seq ?_
      refine G.seq ?_
      refine G.region ?_
      refine G.op rfl (G.val rfl rfl (pv_move rfl) ?_)
      refine G.op rfl (G.val rfl rfl (pv_lenSl Try.underlying22 rfl) ?_)
      refine G.op rfl (G.val rfl rfl (pv_move rfl) ?_)
      refine G.op rfl (G.val rfl rfl (pv_lenSl Try.underlying22 rfl) ?_)
      refine G.op rfl (G.val rfl rfl (pv_add64 rfl rfl (by omega)) ?_)
      refine G.op rfl (G.val rfl rfl (pv_gtr rfl rfl) ?_)
      refine G.nil ?_
      refine G.nThen ?_
      refine G.condP rfl (fun h33 => ?_) (fun h33 => ?_)
      · refine G.skip ?_
        refine G.nThen ?_
        refine G.block ?_
        refine G.seq ?_
        refine G.region ?_
        refine G.op rfl (G.val rfl rfl (pv_assign rfl) ?_)
        refine G.nil ?_
        refine G.nThen ?_
        refine G.seq ?_
        refine G.cutK (X := Int) (ts := [0, 1, 4, 5, 6]) (p := []) (fun o => OrdS (ens xs) (ens ys) i j o) (fun o => [(11, .int .i64 o)]) (fun o => []) (.cons rfl (.cons rfl (.cons rfl (.cons rfl (.cons rfl .nil))))) (by repeat (first | exact Sub.nil | (apply Sub.cons; (repeat (first | with_reducible exact Sel.here | exact Sel.here | apply Sel.there))))) (.cons .nil) (by repeat (first | exact Ap.nil | apply Ap.cons)) ?_ ?_
        · refine G.block ?_
          refine G.seq ?_
          refine G.region ?_
          refine G.op rfl (G.val rfl rfl (pv_move rfl) ?_)
          refine G.op rfl (G.val rfl rfl (pv_lenSl Try.underlying22 rfl) ?_)
          refine G.op rfl (G.val rfl rfl (pv_eql rfl rfl) ?_)
          refine G.op rfl (G.val rfl rfl (pv_assign rfl) ?_)
          refine G.nil ?_
          refine G.nThen ?_
          refine G.condP rfl (fun h43 => ?_) (fun h43 => ?_)
          · refine G.region ?_
            refine G.op rfl (G.val rfl rfl (pv_assign rfl) ?_)
            refine G.nil ?_
            refine G.nBlock ?_
            exact G.meet (1) (by first | exact trivial | ((try dsimp only); exact ord_gt (by omega) (by omega))) (.consE rfl (by first | rfl | exact int_eq (by first | omega | (dsimp only; omega)) | exact congrArg _ (by omega)) (.cons rfl (.cons rfl (.cons rfl (.cons rfl (.cons rfl .nil)))))) (by repeat (first | exact Sub.nil | (apply Sub.cons; (repeat (first | with_reducible exact Sel.here | exact Sel.here | apply Sel.there)))))
          · refine G.seq ?_
            refine G.region ?_
            refine G.op rfl (G.val rfl rfl (pv_move rfl) ?_)
            refine G.op rfl (G.val rfl rfl (pv_lenSl Try.underlying22 rfl) ?_)
            refine G.op rfl (G.val rfl rfl (pv_eql rfl rfl) ?_)
            refine G.op rfl (G.val rfl rfl (pv_assign rfl) ?_)
            refine G.nil ?_
            refine G.nThen ?_
            refine G.condP rfl (fun h47 => ?_) (fun h47 => ?_)
            · refine G.region ?_
              refine G.op rfl (G.val rfl rfl (pv_assign rfl) ?_)
              refine G.nil ?_
              refine G.nBlock ?_
              exact G.meet ((-1)) (by first | exact trivial | ((try dsimp only); exact ord_lt (by omega) (by omega))) (.consE rfl (by first | rfl | exact int_eq (by first | omega | (dsimp only; omega)) | exact congrArg _ (by omega)) (.cons rfl (.cons rfl (.cons rfl (.cons rfl (.cons rfl .nil)))))) (by repeat (first | exact Sub.nil | (apply Sub.cons; (repeat (first | with_reducible exact Sel.here | exact Sel.here | apply Sel.there)))))
            · have hlp0 : 0 < (xs.drop i).length := by omega
              have hEp := help 0 hlp0
              have hRp := Ro.evRng hEp
              have hDp := Ro.evDat hEp
              obtain ⟨hk1p, hk2p, hlpp, hldp, hltp⟩ := Ro.evOk hEp
              have hCp := Ro.one1 hDp
              have hgx := ens_drop0 hlp0
              have hlq0 : 0 < (ys.drop j).length := by omega
              have hEq := helq 0 hlq0
              have hRq := Ro.evRng hEq
              have hDq := Ro.evDat hEq
              obtain ⟨hk1q, hk2q, hlpq, hldq, hltq⟩ := Ro.evOk hEq
              have hCq := Ro.one1 hDq
              have hgy := ens_drop0 hlq0
              refine G.drawT (nn := 10) (p := []) (rem := 1023) [0, 1, 2, 4, 0, 16, 32, 64, 136, 511] [0, 1, 2, 4, 0, 16, 32, 64, 136, 256] (by kernel_rfl) ⟨rfl, by kernel_rfl, by kernel_rfl⟩ (by repeat (first | exact Sub.nil | (apply Sub.cons; (repeat (first | with_reducible exact Sel.here | exact Sel.here | apply Sel.there))))) (by kernel_rfl) (fun hT7 => ?_)
              refine G.takeT hT7 (i := 0) (rem' := 1022) rfl rfl rfl (by kernel_rfl) (fun _ _ _ h => h) rfl (pv_move rfl) (by repeat (first | exact Sub.nil | (apply Sub.cons; (repeat (first | with_reducible exact Sel.here | exact Sel.here | apply Sel.there))))) ?_
              refine G.takeT hT7 (i := 1) (rem' := 1020) rfl rfl rfl (by kernel_rfl) (fun _ _ _ h => h) rfl (pv_ixSl (sz := 5) Try.underlying22 (by kernel_rfl) rfl rfl (by first | with_reducible assumption | assumption | exact fun _ => rfl) rfl (by omega)) (by repeat (first | exact Sub.nil | (apply Sub.cons; (repeat (first | with_reducible exact Sel.here | exact Sel.here | apply Sel.there))))) ?_
              refine G.takeT hT7 (i := 2) (rem' := 1016) rfl rfl rfl (by kernel_rfl) (fun _ _ _ h => h) rfl (pv_fieldAddrK (sz := 0) (k := 0) Try.underlying31 rfl (by kernel_rfl) rfl rfl) (by repeat (first | exact Sub.nil | (apply Sub.cons; (repeat (first | with_reducible exact Sel.here | exact Sel.here | apply Sel.there))))) ?_
              refine G.takeT hT7 (i := 4) (rem' := 1000) rfl rfl rfl (by kernel_rfl) (fun _ _ _ h => h) rfl (pv_move rfl) (by repeat (first | exact Sub.nil | (apply Sub.cons; (repeat (first | with_reducible exact Sel.here | exact Sel.here | apply Sel.there))))) ?_
              refine G.takeT hT7 (i := 5) (rem' := 968) rfl rfl rfl (by kernel_rfl) (fun _ _ _ h => h) rfl (pv_ixSl (sz := 5) Try.underlying22 (by kernel_rfl) rfl rfl (by first | with_reducible assumption | assumption | exact fun _ => rfl) rfl (by omega)) (by repeat (first | exact Sub.nil | (apply Sub.cons; (repeat (first | with_reducible exact Sel.here | exact Sel.here | apply Sel.there))))) ?_
              refine G.takeT hT7 (i := 6) (rem' := 904) rfl rfl rfl (by kernel_rfl) (fun _ _ _ h => h) rfl (pv_fieldAddrK (sz := 0) (k := 0) Try.underlying31 rfl (by kernel_rfl) rfl rfl) (by repeat (first | exact Sub.nil | (apply Sub.cons; (repeat (first | with_reducible exact Sel.here | exact Sel.here | apply Sel.there))))) ?_
              refine G.takeT hT7 (i := 3) (rem' := 896) rfl rfl rfl (by kernel_rfl) (fun _ _ _ h => h) rfl (pv_load Try.underlying9 rfl rfl (by first | exact blk_cell (by (repeat (first | with_reducible exact Sel.here | exact Sel.here | apply Sel.there)); done) (by rfl) | exact rng_cell (by (repeat (first | with_reducible exact Sel.here | exact Sel.here | apply Sel.there)); done) (by rfl) | exact ro_blk (by assumption) (by rfl) | exact ro_rngC (by assumption) (by rfl) | exact ro_int (by assumption) | exact ro_byte (by assumption) | exact ro_str (by assumption) | with_reducible assumption | assumption)) (by repeat (first | exact Sub.nil | (apply Sub.cons; (repeat (first | with_reducible exact Sel.here | exact Sel.here | apply Sel.there))))) ?_
              refine G.oneT hT7 (i := 7) (rem' := 768) (by kernel_rfl) (by kernel_rfl) ?_
              refine G.turnOp rfl rfl (G.val rfl rfl (pv_load Try.underlying9 rfl rfl (by first | exact blk_cell (by (repeat (first | with_reducible exact Sel.here | exact Sel.here | apply Sel.there)); done) (by rfl) | exact rng_cell (by (repeat (first | with_reducible exact Sel.here | exact Sel.here | apply Sel.there)); done) (by rfl) | exact ro_blk (by assumption) (by rfl) | exact ro_rngC (by assumption) (by rfl) | exact ro_int (by assumption) | exact ro_byte (by assumption) | exact ro_str (by assumption) | with_reducible assumption | assumption)) ?_)
              refine G.back (by repeat (first | exact Sub.nil | (apply Sub.cons; (repeat (first | with_reducible exact Sel.here | exact Sel.here | apply Sel.there))))) ?_
              refine G.oneT hT7 (i := 8) (rem' := 512) (by kernel_rfl) (by kernel_rfl) ?_
              refine G.turnOp rfl rfl (G.cR rfl rfl rfl rfl Try.func17 rfl rfl may0 (compare_tr _ _ (by omega) (by omega)) ?_)
              refine G.back (by repeat (first | exact Sub.nil | (apply Sub.cons; (repeat (first | with_reducible exact Sel.here | exact Sel.here | apply Sel.there))))) ?_
              refine G.takeT hT7 (i := 9) (rem' := 0) rfl rfl rfl (by kernel_rfl) (fun _ _ _ h => h) rfl (pv_assign rfl) (by repeat (first | exact Sub.nil | (apply Sub.cons; (repeat (first | with_reducible exact Sel.here | exact Sel.here | apply Sel.there))))) ?_
              refine G.overT hT7 (by kernel_rfl) ?_
              refine G.nBlock ?_
              exact G.meet ((compareM (xs.drop i)[0].1.path (ys.drop j)[0].1.path)) (by first | exact trivial | ((try dsimp only); exact ord_cmp hgx hgy)) (.consE rfl (by first | rfl | exact int_eq (by first | omega | (dsimp only; omega)) | exact congrArg _ (by omega)) (.cons rfl (.cons rfl (.cons rfl (.cons rfl (.cons rfl .nil)))))) (by repeat (first | exact Sub.nil | (apply Sub.cons; (repeat (first | with_reducible exact Sel.here | exact Sel.here | apply Sel.there)))))
        · intro o hJ
          try dsimp only at hJ
          try dsimp only
          have hO := hJ
          refine G.seq ?_
          refine G.cutK (X := Value × Value × Value × (List (List UInt8)) × (List (List UInt8)) × (List (List UInt8))) (ts := [0, 1, 11]) (p := [own 9 1 w1 _ _, own 9 1 w2 _ _, own 9 1 w3 _ _]) (fun st => DiffS (ens xs) (ens ys) (if o ≤ 0 then i + 1 else i) (if 0 ≤ o then j + 1 else j) st.2.2.2.1 st.2.2.2.2.1 st.2.2.2.2.2) (fun st => [(4, st.1), (5, st.2.1), (6, st.2.2.1)]) (fun st => [own 9 1 st.1 st.2.2.2.1.length (st.2.2.2.1.map vStr), own 9 1 st.2.1 st.2.2.2.2.1.length (st.2.2.2.2.1.map vStr), own 9 1 st.2.2.1 st.2.2.2.2.2.length (st.2.2.2.2.2.map vStr)]) (.cons rfl (.cons rfl (.cons rfl .nil))) (by repeat (first | exact Sub.nil | (apply Sub.cons; (repeat (first | with_reducible exact Sel.here | exact Sel.here | apply Sel.there))))) (.cons (.cons (.cons .nil))) (by repeat (first | exact Ap.nil | apply Ap.cons)) ?_ ?_
          · refine G.block ?_
            refine G.seq ?_
            refine G.region ?_
            refine G.op rfl (G.val rfl rfl (pv_move rfl) ?_)
            refine G.op rfl (G.val rfl rfl (pv_gtr rfl rfl) ?_)
            refine G.op rfl (G.val rfl rfl (pv_assign rfl) ?_)
            refine G.nil ?_
            refine G.nThen ?_
            refine G.condP rfl (fun h51 => ?_) (fun h51 => ?_)
            · have hq1 := (hO.1 (by omega)).1
              have hlq0 : 0 < (ys.drop j).length := by omega
              have hEq := helq 0 hlq0
              have hRq := Ro.evRng hEq
              have hDq := Ro.evDat hEq
              obtain ⟨hk1q, hk2q, hlpq, hldq, hltq⟩ := Ro.evOk hEq
              have hCq := Ro.one1 hDq
              have hgy := ens_drop0 hlq0
              refine G.region ?_
              refine G.op rfl (G.val rfl rfl (pv_move rfl) ?_)
              refine G.op rfl (G.val rfl rfl (pv_move rfl) ?_)
              refine G.op rfl (G.val rfl rfl (pv_ixSl (sz := 5) Try.underlying22 (by kernel_rfl) rfl rfl (by first | with_reducible assumption | assumption | exact fun _ => rfl) rfl (by omega)) ?_)
              refine G.op rfl (G.val rfl rfl (pv_fieldAddrK (sz := 0) (k := 0) Try.underlying31 rfl (by kernel_rfl) rfl rfl) ?_)
              refine G.op rfl (G.val rfl rfl (pv_load Try.underlying9 rfl rfl (by first | exact blk_cell (by (repeat (first | with_reducible exact Sel.here | exact Sel.here | apply Sel.there)); done) (by rfl) | exact rng_cell (by (repeat (first | with_reducible exact Sel.here | exact Sel.here | apply Sel.there)); done) (by rfl) | exact ro_blk (by assumption) (by rfl) | exact ro_rngC (by assumption) (by rfl) | exact ro_int (by assumption) | exact ro_byte (by assumption) | exact ro_str (by assumption) | with_reducible assumption | assumption)) ?_)
              refine G.op rfl (G.lit1 (vs := [_]) rfl Try.underlying44 (by kernel_rfl) rfl (by decide) (by decide) rfl rfl ?_)
              intro b59
              refine G.op rfl (G.append (k := l1.length) (j := 1) (cs := l1.map vStr) (news := [vStr (ys.drop j)[0].1.path]) (b := b59) (off := 0) rfl Try.underlying44 Try.infoStr' rfl rfl rfl (by repeat (first | with_reducible exact Sel.here | exact Sel.here | apply Sel.there)) (fun _ => rfl) (fun h => by cases h) rfl (blk_news (k := 1) (by repeat (first | with_reducible exact Sel.here | exact Sel.here | apply Sel.there)) rfl) (vStr_one [(ys.drop j)[0].1.path]) (by omega) (by omega) ?_)
              intro y1
              rw [own_snoc, len_snoc]
              refine G.op rfl (G.val rfl rfl (pv_assign rfl) ?_)
              refine G.nil ?_
              refine G.nBlock ?_
              exact G.meet ((y1, w2, w3, l1 ++ [(ys.drop j)[0].1.path], l2, l3)) (by first | exact trivial | ((try dsimp only); exact by rw [if_neg (by omega), if_pos (by omega)]; exact diff_gt hsx hsy hD hO (by omega) hgy)) (.consE rfl (by first | rfl | exact int_eq (by first | omega | (dsimp only; omega)) | exact congrArg _ (by omega)) (.consE rfl (by first | rfl | exact int_eq (by first | omega | (dsimp only; omega)) | exact congrArg _ (by omega)) (.consE rfl (by first | rfl | exact int_eq (by first | omega | (dsimp only; omega)) | exact congrArg _ (by omega)) (.cons rfl (.cons rfl (.cons rfl .nil)))))) (by repeat (first | exact Sub.nil | (apply Sub.cons; (repeat (first | with_reducible exact Sel.here | exact Sel.here | apply Sel.there)))))
            · refine G.seq ?_
              refine G.region ?_
              refine G.op rfl (G.val rfl rfl (pv_move rfl) ?_)
              refine G.op rfl (G.val rfl rfl (pv_lss rfl rfl) ?_)
              refine G.op rfl (G.val rfl rfl (pv_assign rfl) ?_)
              refine G.nil ?_
              refine G.nThen ?_
              refine G.condP rfl (fun h61 => ?_) (fun h61 => ?_)
              · have hp1 := (hO.2.1 (by omega)).1
                have hlp0 : 0 < (xs.drop i).length := by omega
                have hEp := help 0 hlp0
                have hRp := Ro.evRng hEp
                have hDp := Ro.evDat hEp
                obtain ⟨hk1p, hk2p, hlpp, hldp, hltp⟩ := Ro.evOk hEp
                have hCp := Ro.one1 hDp
                have hgx := ens_drop0 hlp0
                refine G.region ?_
                refine G.op rfl (G.val rfl rfl (pv_move rfl) ?_)
                refine G.op rfl (G.val rfl rfl (pv_move rfl) ?_)
                refine G.op rfl (G.val rfl rfl (pv_ixSl (sz := 5) Try.underlying22 (by kernel_rfl) rfl rfl (by first | with_reducible assumption | assumption | exact fun _ => rfl) rfl (by omega)) ?_)
                refine G.op rfl (G.val rfl rfl (pv_fieldAddrK (sz := 0) (k := 0) Try.underlying31 rfl (by kernel_rfl) rfl rfl) ?_)
                refine G.op rfl (G.val rfl rfl (pv_load Try.underlying9 rfl rfl (by first | exact blk_cell (by (repeat (first | with_reducible exact Sel.here | exact Sel.here | apply Sel.there)); done) (by rfl) | exact rng_cell (by (repeat (first | with_reducible exact Sel.here | exact Sel.here | apply Sel.there)); done) (by rfl) | exact ro_blk (by assumption) (by rfl) | exact ro_rngC (by assumption) (by rfl) | exact ro_int (by assumption) | exact ro_byte (by assumption) | exact ro_str (by assumption) | with_reducible assumption | assumption)) ?_)
                refine G.op rfl (G.lit1 (vs := [_]) rfl Try.underlying44 (by kernel_rfl) rfl (by decide) (by decide) rfl rfl ?_)
                intro b69
                refine G.op rfl (G.append (k := l2.length) (j := 1) (cs := l2.map vStr) (news := [vStr (xs.drop i)[0].1.path]) (b := b69) (off := 0) rfl Try.underlying44 Try.infoStr' rfl rfl rfl (by repeat (first | with_reducible exact Sel.here | exact Sel.here | apply Sel.there)) (fun _ => rfl) (fun h => by cases h) rfl (blk_news (k := 1) (by repeat (first | with_reducible exact Sel.here | exact Sel.here | apply Sel.there)) rfl) (vStr_one [(xs.drop i)[0].1.path]) (by omega) (by omega) ?_)
                intro y2
                rw [own_snoc, len_snoc]
                refine G.op rfl (G.val rfl rfl (pv_assign rfl) ?_)
                refine G.nil ?_
                refine G.nBlock ?_
                exact G.meet ((w1, y2, w3, l1, l2 ++ [(xs.drop i)[0].1.path], l3)) (by first | exact trivial | ((try dsimp only); exact by rw [if_pos (by omega), if_neg (by omega)]; exact diff_lt hsx hsy hD hO (by omega) hgx)) (.consE rfl (by first | rfl | exact int_eq (by first | omega | (dsimp only; omega)) | exact congrArg _ (by omega)) (.consE rfl (by first | rfl | exact int_eq (by first | omega | (dsimp only; omega)) | exact congrArg _ (by omega)) (.consE rfl (by first | rfl | exact int_eq (by first | omega | (dsimp only; omega)) | exact congrArg _ (by omega)) (.cons rfl (.cons rfl (.cons rfl .nil)))))) (by repeat (first | exact Sub.nil | (apply Sub.cons; (repeat (first | with_reducible exact Sel.here | exact Sel.here | apply Sel.there)))))
              · have hpq := hO.2.2 (by omega)
                have hp1 := hpq.1
                have hq1 := hpq.2.1
                have hlp0 : 0 < (xs.drop i).length := by omega
                have hEp := help 0 hlp0
                have hRp := Ro.evRng hEp
                have hDp := Ro.evDat hEp
                obtain ⟨hk1p, hk2p, hlpp, hldp, hltp⟩ := Ro.evOk hEp
                have hCp := Ro.one1 hDp
                have hgx := ens_drop0 hlp0
                have hlq0 : 0 < (ys.drop j).length := by omega
                have hEq := helq 0 hlq0
                have hRq := Ro.evRng hEq
                have hDq := Ro.evDat hEq
                obtain ⟨hk1q, hk2q, hlpq, hldq, hltq⟩ := Ro.evOk hEq
                have hCq := Ro.one1 hDq
                have hgy := ens_drop0 hlq0
                refine G.seq ?_
                refine G.drawT (nn := 9) (p := []) (rem := 511) [0, 1, 2, 0, 8, 16, 36, 64, 192] [0, 1, 2, 0, 8, 16, 36, 64, 128] (by kernel_rfl) ⟨rfl, by kernel_rfl, by kernel_rfl⟩ (by repeat (first | exact Sub.nil | (apply Sub.cons; (repeat (first | with_reducible exact Sel.here | exact Sel.here | apply Sel.there))))) (by kernel_rfl) (fun hT16 => ?_)
                refine G.takeT hT16 (i := 0) (rem' := 510) rfl rfl rfl (by kernel_rfl) (fun _ _ _ h => h) rfl (pv_move rfl) (by repeat (first | exact Sub.nil | (apply Sub.cons; (repeat (first | with_reducible exact Sel.here | exact Sel.here | apply Sel.there))))) ?_
                refine G.takeT hT16 (i := 1) (rem' := 508) rfl rfl rfl (by kernel_rfl) (fun _ _ _ h => h) rfl (pv_ixSl (sz := 5) Try.underlying22 (by kernel_rfl) rfl rfl (by first | with_reducible assumption | assumption | exact fun _ => rfl) rfl (by omega)) (by repeat (first | exact Sub.nil | (apply Sub.cons; (repeat (first | with_reducible exact Sel.here | exact Sel.here | apply Sel.there))))) ?_
                refine G.takeT hT16 (i := 3) (rem' := 500) rfl rfl rfl (by kernel_rfl) (fun _ _ _ h => h) rfl (pv_move rfl) (by repeat (first | exact Sub.nil | (apply Sub.cons; (repeat (first | with_reducible exact Sel.here | exact Sel.here | apply Sel.there))))) ?_
                refine G.takeT hT16 (i := 4) (rem' := 484) rfl rfl rfl (by kernel_rfl) (fun _ _ _ h => h) rfl (pv_ixSl (sz := 5) Try.underlying22 (by kernel_rfl) rfl rfl (by first | with_reducible assumption | assumption | exact fun _ => rfl) rfl (by omega)) (by repeat (first | exact Sub.nil | (apply Sub.cons; (repeat (first | with_reducible exact Sel.here | exact Sel.here | apply Sel.there))))) ?_
                refine G.takeT hT16 (i := 2) (rem' := 480) rfl rfl rfl (by kernel_rfl) (fun _ _ _ h => h) rfl (pv_loadN (cs := [_, _, _, _, _]) Try.underlying31 rfl (by kernel_rfl) rfl (by first | exact blk_range (k := 5) (by (repeat (first | with_reducible exact Sel.here | exact Sel.here | apply Sel.there)); done) (by rfl) | exact ro_rng0 (by assumption) | exact rng_range (k := 5) (by (repeat (first | with_reducible exact Sel.here | exact Sel.here | apply Sel.there)); done) (by rfl) | exact ro_range (k := 5) (by assumption) (by rfl) | exact ro_rngR (k := 5) (by assumption) (by rfl))) (by repeat (first | exact Sub.nil | (apply Sub.cons; (repeat (first | with_reducible exact Sel.here | exact Sel.here | apply Sel.there))))) ?_
                refine G.oneT hT16 (i := 5) (rem' := 448) (by kernel_rfl) (by kernel_rfl) ?_
                refine G.turnOp rfl rfl (G.val rfl rfl (pv_loadN (cs := [_, _, _, _, _]) Try.underlying31 rfl (by kernel_rfl) rfl (by first | exact blk_range (k := 5) (by (repeat (first | with_reducible exact Sel.here | exact Sel.here | apply Sel.there)); done) (by rfl) | exact ro_rng0 (by assumption) | exact rng_range (k := 5) (by (repeat (first | with_reducible exact Sel.here | exact Sel.here | apply Sel.there)); done) (by rfl) | exact ro_range (k := 5) (by assumption) (by rfl) | exact ro_rngR (k := 5) (by assumption) (by rfl))) ?_)
                refine G.back (by repeat (first | exact Sub.nil | (apply Sub.cons; (repeat (first | with_reducible exact Sel.here | exact Sel.here | apply Sel.there))))) ?_
                refine G.oneT hT16 (i := 6) (rem' := 384) (by kernel_rfl) (by kernel_rfl) ?_
                refine G.turnOp rfl rfl (G.cR rfl rfl rfl rfl Try.func53 rfl rfl (may2 (by first | (apply May.old; first | with_reducible assumption | assumption) | (apply Sel.may; (repeat (first | with_reducible exact Sel.here | exact Sel.here | apply Sel.there)); done) | (apply may_own; (repeat (first | with_reducible exact Sel.here | exact Sel.here | apply Sel.there)); exact rfl; exact (fun _ _ => trivial); done) | (apply may_ownB; (repeat (first | with_reducible exact Sel.here | exact Sel.here | apply Sel.there)); done) | (apply may_tree; (repeat (first | with_reducible exact Sel.here | exact Sel.here | apply Sel.there)); (repeat (first | with_reducible exact Sel.here | exact Sel.here | apply Sel.there)); assumption; done)) (by first | (apply May.old; first | with_reducible assumption | assumption) | (apply Sel.may; (repeat (first | with_reducible exact Sel.here | exact Sel.here | apply Sel.there)); done) | (apply may_own; (repeat (first | with_reducible exact Sel.here | exact Sel.here | apply Sel.there)); exact rfl; exact (fun _ _ => trivial); done) | (apply may_ownB; (repeat (first | with_reducible exact Sel.here | exact Sel.here | apply Sel.there)); done) | (apply may_tree; (repeat (first | with_reducible exact Sel.here | exact Sel.here | apply Sel.there)); (repeat (first | with_reducible exact Sel.here | exact Sel.here | apply Sel.there)); assumption; done))) (alike_tr _ _ _ _) ?_)
                refine G.back (by repeat (first | exact Sub.nil | (apply Sub.cons; (repeat (first | with_reducible exact Sel.here | exact Sel.here | apply Sel.there))))) ?_
                refine G.takeT hT16 (i := 7) (rem' := 256) rfl rfl rfl (by kernel_rfl) (fun _ _ _ h => h) rfl (pv_notP rfl) (by repeat (first | exact Sub.nil | (apply Sub.cons; (repeat (first | with_reducible exact Sel.here | exact Sel.here | apply Sel.there))))) ?_
                refine G.takeT hT16 (i := 8) (rem' := 0) rfl rfl rfl (by kernel_rfl) (fun _ _ _ h => h) rfl (pv_assign rfl) (by repeat (first | exact Sub.nil | (apply Sub.cons; (repeat (first | with_reducible exact Sel.here | exact Sel.here | apply Sel.there))))) ?_
                refine G.overT hT16 (by kernel_rfl) ?_
                refine G.nThen ?_
                refine G.condP rfl (fun h71 => ?_) (fun h71 => ?_)
                · refine G.region ?_
                  refine G.op rfl (G.val rfl rfl (pv_move rfl) ?_)
                  refine G.op rfl (G.val rfl rfl (pv_move rfl) ?_)
                  refine G.op rfl (G.val rfl rfl (pv_ixSl (sz := 5) Try.underlying22 (by kernel_rfl) rfl rfl (by first | with_reducible assumption | assumption | exact fun _ => rfl) rfl (by omega)) ?_)
                  refine G.op rfl (G.val rfl rfl (pv_fieldAddrK (sz := 0) (k := 0) Try.underlying31 rfl (by kernel_rfl) rfl rfl) ?_)
                  refine G.op rfl (G.val rfl rfl (pv_load Try.underlying9 rfl rfl (by first | exact blk_cell (by (repeat (first | with_reducible exact Sel.here | exact Sel.here | apply Sel.there)); done) (by rfl) | exact rng_cell (by (repeat (first | with_reducible exact Sel.here | exact Sel.here | apply Sel.there)); done) (by rfl) | exact ro_blk (by assumption) (by rfl) | exact ro_rngC (by assumption) (by rfl) | exact ro_int (by assumption) | exact ro_byte (by assumption) | exact ro_str (by assumption) | with_reducible assumption | assumption)) ?_)
                  refine G.op rfl (G.lit1 (vs := [_]) rfl Try.underlying44 (by kernel_rfl) rfl (by decide) (by decide) rfl rfl ?_)
                  intro b85
                  refine G.op rfl (G.append (k := l3.length) (j := 1) (cs := l3.map vStr) (news := [vStr (xs.drop i)[0].1.path]) (b := b85) (off := 0) rfl Try.underlying44 Try.infoStr' rfl rfl rfl (by repeat (first | with_reducible exact Sel.here | exact Sel.here | apply Sel.there)) (fun _ => rfl) (fun h => by cases h) rfl (blk_news (k := 1) (by repeat (first | with_reducible exact Sel.here | exact Sel.here | apply Sel.there)) rfl) (vStr_one [(xs.drop i)[0].1.path]) (by omega) (by omega) ?_)
                  intro y3
                  rw [own_snoc, len_snoc]
                  refine G.op rfl (G.val rfl rfl (pv_assign rfl) ?_)
                  refine G.nil ?_
                  refine G.nBlock ?_
                  exact G.meet ((w1, w2, y3, l1, l2, l3 ++ [(xs.drop i)[0].1.path])) (by first | exact trivial | ((try dsimp only); exact by rw [if_pos (by omega), if_pos (by omega)]; have hh := diff_eq hsx hsy hD hO (by omega) hgx hgy; rwa [if_neg (by assumption)] at hh)) (.consE rfl (by first | rfl | exact int_eq (by first | omega | (dsimp only; omega)) | exact congrArg _ (by omega)) (.consE rfl (by first | rfl | exact int_eq (by first | omega | (dsimp only; omega)) | exact congrArg _ (by omega)) (.consE rfl (by first | rfl | exact int_eq (by first | omega | (dsimp only; omega)) | exact congrArg _ (by omega)) (.cons rfl (.cons rfl (.cons rfl .nil)))))) (by repeat (first | exact Sub.nil | (apply Sub.cons; (repeat (first | with_reducible exact Sel.here | exact Sel.here | apply Sel.there)))))
                · refine G.skip ?_
                  refine G.nBlock ?_
                  exact G.meet ((w1, w2, w3, l1, l2, l3)) (by first | exact trivial | ((try dsimp only); exact by rw [if_pos (by omega), if_pos (by omega)]; have hh := diff_eq hsx hsy hD hO (by omega) hgx hgy; rwa [if_pos (Decidable.of_not_not (by assumption))] at hh)) (.consE rfl (by first | rfl | exact int_eq (by first | omega | (dsimp only; omega)) | exact congrArg _ (by omega)) (.consE rfl (by first | rfl | exact int_eq (by first | omega | (dsimp only; omega)) | exact congrArg _ (by omega)) (.consE rfl (by first | rfl | exact int_eq (by first | omega | (dsimp only; omega)) | exact congrArg _ (by omega)) (.cons rfl (.cons rfl (.cons rfl .nil)))))) (by repeat (first | exact Sub.nil | (apply Sub.cons; (repeat (first | with_reducible exact Sel.here | exact Sel.here | apply Sel.there)))))
          · intro st hJ
            obtain ⟨z1, z2, z3, m1, m2, m3⟩ := st
            try dsimp only at hJ
            try dsimp only
            have hD2 := hJ
            refine G.seq ?_
            refine G.seq ?_
            refine G.region ?_
            refine G.op rfl (G.val rfl rfl (pv_move rfl) ?_)
            refine G.op rfl (G.val rfl rfl (pv_leq rfl rfl) ?_)
            refine G.nil ?_
            refine G.nThen ?_
            refine G.condP rfl (fun h88 => ?_) (fun h88 => ?_)
            · have hix : i < xs.length := by rcases (by omega : o < 0 ∨ o = 0) with h | h; have := (hO.2.1 h).1; omega; have := (hO.2.2 h).1; omega
              have hSx := Ro.subT hp' (i := 1) (j := (xs.drop i).length) (by omega) (Nat.le_refl _)
              rw [List.take_length, List.drop_drop] at hSx
              refine G.region ?_
              refine G.op rfl (G.val rfl rfl (pv_move rfl) ?_)
              refine G.op rfl (G.val rfl rfl (pv_subL (sz := 5) (k := 1) Try.underlying22 (by kernel_rfl) rfl rfl rfl (by omega)) ?_)
              refine G.op rfl (G.val rfl rfl (pv_assign rfl) ?_)
              refine G.nil ?_
              refine G.nThen ?_
              refine G.seq ?_
              refine G.region ?_
              refine G.op rfl (G.val rfl rfl (pv_move rfl) ?_)
              refine G.op rfl (G.val rfl rfl (pv_geq rfl rfl) ?_)
              refine G.nil ?_
              refine G.nThen ?_
              refine G.condP rfl (fun h92 => ?_) (fun h92 => ?_)
              · have hjy : j < ys.length := by rcases (by omega : 0 < o ∨ o = 0) with h | h; have := (hO.1 h).1; omega; have := (hO.2.2 h).2.1; omega
                have hSy := Ro.subT hq' (i := 1) (j := (ys.drop j).length) (by omega) (Nat.le_refl _)
                rw [List.take_length, List.drop_drop] at hSy
                refine G.region ?_
                refine G.op rfl (G.val rfl rfl (pv_move rfl) ?_)
                refine G.op rfl (G.val rfl rfl (pv_subL (sz := 5) (k := 1) Try.underlying22 (by kernel_rfl) rfl rfl rfl (by omega)) ?_)
                refine G.op rfl (G.val rfl rfl (pv_assign rfl) ?_)
                refine G.nil ?_
                refine G.nBlock ?_
                exact G.next ((i + 1, j + 1, (subV 5 ap 1 (xs.drop i).length cp), (subV 5 aq 1 (ys.drop j).length cq), z1, z2, z3, m1, m2, m3)) (by first | exact trivial | ((try dsimp only); exact ⟨by rw [if_pos (by omega), if_pos (by omega)] at hD2; exact hD2, hSx, hSy⟩)) (by (try dsimp only); omega) (.consE rfl (by first | rfl | exact int_eq (by first | omega | (dsimp only; omega)) | exact congrArg _ (by omega)) (.consE rfl (by first | rfl | exact int_eq (by first | omega | (dsimp only; omega)) | exact congrArg _ (by omega)) (.consE rfl (by first | rfl | exact int_eq (by first | omega | (dsimp only; omega)) | exact congrArg _ (by omega)) (.consE rfl (by first | rfl | exact int_eq (by first | omega | (dsimp only; omega)) | exact congrArg _ (by omega)) (.consE rfl (by first | rfl | exact int_eq (by first | omega | (dsimp only; omega)) | exact congrArg _ (by omega)) .nil))))) (by repeat (first | exact Sub.nil | (apply Sub.cons; (repeat (first | with_reducible exact Sel.here | exact Sel.here | apply Sel.there)))))
              · refine G.skip ?_
                refine G.nBlock ?_
                exact G.next ((i + 1, j, (subV 5 ap 1 (xs.drop i).length cp), .slice aq (ys.drop j).length cq, z1, z2, z3, m1, m2, m3)) (by first | exact trivial | ((try dsimp only); exact ⟨by rw [if_pos (by omega), if_neg (by omega)] at hD2; exact hD2, hSx, hq'⟩)) (by (try dsimp only); omega) (.consE rfl (by first | rfl | exact int_eq (by first | omega | (dsimp only; omega)) | exact congrArg _ (by omega)) (.consE rfl (by first | rfl | exact int_eq (by first | omega | (dsimp only; omega)) | exact congrArg _ (by omega)) (.consE rfl (by first | rfl | exact int_eq (by first | omega | (dsimp only; omega)) | exact congrArg _ (by omega)) (.consE rfl (by first | rfl | exact int_eq (by first | omega | (dsimp only; omega)) | exact congrArg _ (by omega)) (.consE rfl (by first | rfl | exact int_eq (by first | omega | (dsimp only; omega)) | exact congrArg _ (by omega)) .nil))))) (by repeat (first | exact Sub.nil | (apply Sub.cons; (repeat (first | with_reducible exact Sel.here | exact Sel.here | apply Sel.there)))))
            · refine G.skip ?_
              refine G.nThen ?_
              refine G.seq ?_
              refine G.region ?_
              refine G.op rfl (G.val rfl rfl (pv_move rfl) ?_)
              refine G.op rfl (G.val rfl rfl (pv_geq rfl rfl) ?_)
              refine G.nil ?_
              refine G.nThen ?_
              refine G.condP rfl (fun h92 => ?_) (fun h92 => ?_)
              · have hjy : j < ys.length := by rcases (by omega : 0 < o ∨ o = 0) with h | h; have := (hO.1 h).1; omega; have := (hO.2.2 h).2.1; omega
                have hSy := Ro.subT hq' (i := 1) (j := (ys.drop j).length) (by omega) (Nat.le_refl _)
                rw [List.take_length, List.drop_drop] at hSy
                refine G.region ?_
                refine G.op rfl (G.val rfl rfl (pv_move rfl) ?_)
                refine G.op rfl (G.val rfl rfl (pv_subL (sz := 5) (k := 1) Try.underlying22 (by kernel_rfl) rfl rfl rfl (by omega)) ?_)
                refine G.op rfl (G.val rfl rfl (pv_assign rfl) ?_)
                refine G.nil ?_
                refine G.nBlock ?_
                exact G.next ((i, j + 1, .slice ap (xs.drop i).length cp, (subV 5 aq 1 (ys.drop j).length cq), z1, z2, z3, m1, m2, m3)) (by first | exact trivial | ((try dsimp only); exact ⟨by rw [if_neg (by omega), if_pos (by omega)] at hD2; exact hD2, hp', hSy⟩)) (by (try dsimp only); omega) (.consE rfl (by first | rfl | exact int_eq (by first | omega | (dsimp only; omega)) | exact congrArg _ (by omega)) (.consE rfl (by first | rfl | exact int_eq (by first | omega | (dsimp only; omega)) | exact congrArg _ (by omega)) (.consE rfl (by first | rfl | exact int_eq (by first | omega | (dsimp only; omega)) | exact congrArg _ (by omega)) (.consE rfl (by first | rfl | exact int_eq (by first | omega | (dsimp only; omega)) | exact congrArg _ (by omega)) (.consE rfl (by first | rfl | exact int_eq (by first | omega | (dsimp only; omega)) | exact congrArg _ (by omega)) .nil))))) (by repeat (first | exact Sub.nil | (apply Sub.cons; (repeat (first | with_reducible exact Sel.here | exact Sel.here | apply Sel.there)))))
              · refine G.skip ?_
                refine G.nBlock ?_
                exfalso; omega
      · refine G.exit ?_
        refine G.eThen ?_
        refine G.eThen ?_
        refine G.eBlock ?_
        refine G.nThen ?_
        refine G.seq ?_
        refine G.region ?_
        refine G.op rfl (G.val rfl rfl (pv_move rfl) ?_)
        refine G.op rfl (G.val rfl rfl (pv_move rfl) ?_)
        refine G.op rfl (G.val rfl rfl (pv_move rfl) ?_)
        refine G.op rfl (G.val rfl rfl (pv_assign rfl) ?_)
        refine G.op rfl (G.val rfl rfl (pv_assign rfl) ?_)
        refine G.op rfl (G.val rfl rfl (pv_assign rfl) ?_)
        refine G.nil ?_
        refine G.nThen ?_
        refine G.ret ?_
        obtain ⟨rfl, rfl, rfl⟩ := diff_end hD (by omega) (by omega)
        rw [hgood]
        exact G.doneX3 ((w1, w2, w3)) (by first | exact trivial | ((try dsimp only); exact trivial)) rfl rfl rfl rfl rfl (by repeat (first | exact Sub.nil | (apply Sub.cons; (repeat (first | with_reducible exact Sel.here | exact Sel.here | apply Sel.there)))))
end Go.Proofs.Ytchgaedidfefoaa

set_option linter.unusedVariables false
set_option linter.unusedSimpArgs false
namespace Go.Proofs.Ytchgaedidfefoaa
open Go.RowKit
theorem texts_yes {Ps Pu : Nat → Prop} {p q : List UInt8 → Prop} (v u : Value) (xs : List (List UInt8)) : Tr Try.prog 27 #[v, u] [slc (r1 vStr p) Ps v xs, slc (r1 vStr q) Pu u xs] [] (T0 (.bool true)) := by
  have := sameTexts_tr (Ps := Ps) (Pu := Pu) (p := p) (q := q) v u xs xs
  rwa [decide_eq_true rfl] at this
end Go.Proofs.Ytchgaedidfefoaa

set_option linter.unusedVariables false
set_option linter.unusedSimpArgs false
namespace Go.Proofs.Ytchgaedidfefoaa
open Go.RowKit
/-- what is behind a path's place -/
def restL (es : List En) (s : List UInt8) : List En := if isAt es s then es.drop (placeK es s + 1) else es.drop (placeK es s)
/-- a tree with an entry laid into it, whether it may be or not -/
def putL (es : List En) (e : En) : List En := es.take (placeK es e.path) ++ [e] ++ restL es e.path
def putM (es : List En) (e : En) : List En × Int := if (checkT es).1 = 0 then (if (checkT (putL es e)).1 = 0 then (putL es e, 0) else ([], (checkT (putL es e)).1)) else ([], (checkT es).1)
theorem put_bad {es : List En} {e : En} (h : ¬ (checkT es).1 = 0) : putM es e = ([], (checkT es).1) := if_neg h
theorem put_bad2 {es : List En} {e : En} (h : (checkT es).1 = 0) (h2 : ¬ (checkT (putL es e)).1 = 0) : putM es e = ([], (checkT (putL es e)).1) := by unfold putM; rw [if_pos h, if_neg h2]
theorem put_ok {es : List En} {e : En} (h : (checkT es).1 = 0) (h2 : (checkT (putL es e)).1 = 0) : putM es e = (putL es e, 0) := by unfold putM; rw [if_pos h, if_pos h2]
theorem ok_list {us : List ET} {l : List En} (h : ens us = l) (hl : ∀ x ∈ l, EnOk x) : ∀ x ∈ us, EnOk x.1 := fun x hx => hl _ (by rw [← h]; exact List.mem_map.2 ⟨x, hx, rfl⟩)
theorem ok_ensl {xs : List ET} (h : ∀ x ∈ xs, EnOk x.1) : ∀ x ∈ ens xs, EnOk x := fun x hx => by
  obtain ⟨y, hy, rfl⟩ := List.mem_map.1 hx
  exact h y hy
end Go.Proofs.Ytchgaedidfefoaa

set_option linter.unusedVariables false
set_option linter.unusedSimpArgs false
namespace Go.Proofs.Ytchgaedidfefoaa
open Go.RowKit
section
variable {P : Program} {n : Nat} {w0 : World} {S : Nat → Prop} {l : Fr} {m : List Ck} {Q : Exit → Act → World → Prop} {K : Act → World → Prop}
  {ty : TypeId} {pos : String} {after : Array Edge} {g : Option (Nat × Bool)}
theorem run_copy_any {w : World} {dT sT ty e sz b o dLen dCap sLen sCap : Nat} {a : Addr} {cur cs : List Value} {t : TypeId} (hu : P.underlying dT = some (.slice e)) (hs : (P.info? e).map (·.size) = some sz) (hg : w.heap[b]? = some (.cells cur.toArray t (0, 0)))
    (hn : cs.length = Nat.min sLen dLen * sz) (hsrc : ∀ j v, cs[j]? = some v → w.cell? (a.add j) = some v) (hfit : o + cs.length ≤ cur.length) (h1 : ∀ v ∈ cs, v.oneCell' = true) :
    (Builtin.copy_ #[dT, sT] ty #[.slice (some ⟨b, o, none⟩) dLen dCap, .slice (some a) sLen sCap]).run P w = .ok (.int .i64 (Nat.min sLen dLen : Nat)) (w.setCells b o cs) := by
  have hl := run_firstCells_some (P := P) w sz (Nat.min sLen dLen) a sLen sCap cs hn hsrc
  have hst := run_storeCells_cells (P := P) b o cs 0 w (fun j hj => by
    rw [cell_of_row _ _ _ _ _ _ hg, List.getElem?_toArray, List.getElem?_eq_getElem (by omega)]
    rfl) (fun j hj => frozen_of_row _ _ _ _ _ hg) h1
  rw [Nat.add_zero] at hst
  cases hq : P.info? e with
  | none => simp [hq] at hs
  | some i =>
    have hi : i.size = sz := by simpa [hq] using hs
    subst hi
    simp [Builtin.copy_, run_underlying hu, Builtin.lenOf, sizeOf, typeInfo, hq, hl, hst, goInt]
/-- 'copy' of whole elements into a block of the call's own -/
theorem G.copyN {dT sT e d b o dLen dCap j cap b' off sz : Nat} {xd xs : Operand} {T : TypeId} {cs news : List Value} {r : List Ck} (hn : Nat.blt d n = true) (hu : P.underlying dT = some (.slice e)) (hsz : (P.info? e).map (·.size) = some sz)
    (hd : ev l xd = some (.slice (some ⟨b, o, none⟩) dLen dCap)) (hs : ev l xs = some (.slice (some ⟨b', off, none⟩) j cap)) (hsel : Sel m (blk b T cs) r) (hnews : ∀ w, Hp w0 S w m → News w b' off news) (hl : news.length = Nat.min j dLen * sz) (h1 : ∀ u ∈ news, u.oneCell' = true) (hfit : o + news.length ≤ cs.length)
    (h : G n w0 S ((d, .int .i64 (Nat.min j dLen : Nat)) :: l) (blk b T (putN cs o news) :: r) K) : G n w0 S l m (fun a w => Oper.wp P ⟨some d, .call ⟨.builtin .copy, #[xd, xs], #[dT, sT]⟩, ty, pos, after, g⟩ a w K Q) := G.eff rfl hn fun a w ha hw => by
  have hw' := hw.sel hsel
  have hh := hw'.holds _ (List.mem_cons_self ..)
  have hr := run_copy_any (P := P) (ty := ty) (sT := sT) (dCap := dCap) (sCap := cap) (a := ⟨b', off, none⟩) hu hsz hh hl (fun i u hi => by rw [addr_mid]; exact hnews w hw i u hi) hfit h1
  refine ⟨_, _, _, ?_, setCells_blk news cs o hw', h⟩
  simp only [execOp, resolve, invoke, builtin, Sem.run_bind, Sem.run_pure, Result.andThen_ok, List.map_toArray, List.map_cons, List.map_nil, ha.eval hd, ha.eval hs, hr]
theorem run_append_make {w : World} {t tn ty e : TypeId} {i : TypeInfo} {z : Value} {k kn : IntKind} (ht : P.underlying t = some (.slice e)) (htn : P.underlying tn = some (.int kn)) (hi : P.info? e = some i) (hz : i.zero = some z)
    {a : Addr} {sLen sCap : Nat} {olds : List Value} (hlo : olds.length = sLen * i.size) (holds : ∀ j v, olds[j]? = some v → w.cell? (a.add j) = some v) {c : Nat} (h0 : 0 < c) (hs : 0 < i.size) (hg : sCap < sLen + c) (h63 : sLen + c ≤ 9223372036854775807) (h48 : (sLen + c) * i.bytes ≤ 140737488355328) :
    (Builtin.append_ #[t, tn] ty #[.slice (some a) sLen sCap, .int k c]).run P w =
      .ok (.slice (some ⟨w.heap.size, 0, none⟩) (sLen + c) (grownCap w (sLen + c) sCap e)) (w.drew.alloc (.cells (olds.toArray ++ Builtin.zeroCells z.cells c ++ Builtin.zeroCells z.cells (grownCap w (sLen + c) sCap e - (sLen + c))) e)) := by
  have hn : ¬ (sLen + c ≤ sCap) := by omega
  have h63' : ¬ (9223372036854775807 < ((sLen : Int) + (c : Int))) := by omega
  have hfit := growslice_fits (old := sCap) hg h48
  have h48' : ¬ (281474976710656 < Builtin.nextslicecap (sLen + c) sCap * i.bytes) := by omega
  have hc48 : c * i.bytes ≤ 140737488355328 := Nat.le_trans (Nat.mul_le_mul_right _ (by omega)) h48
  have h48i : ¬ (281474976710656 < (c : Int) * (i.bytes : Int)) := by
    have : ((c * i.bytes : Nat) : Int) ≤ 140737488355328 := by omega
    rw [Int.natCast_mul] at this
    omega
  have hw : IntKind.i64.wrap (c : Int) = c := by rw [IntKind.wrap_i64]; omega
  have hf := run_firstCells_some (P := P) w.drew i.size sLen a sLen sCap olds hlo (by simpa using holds)
  have hneg : ¬ ((c : Int) < 0) := by omega
  have hns : ¬ (c * i.size = 0) := Nat.mul_ne_zero (by omega) (by omega)
  simp [Builtin.append_, run_underlying ht, run_underlying htn, sizeOf, typeInfo, zeroValue, hi, hz, hw, hn, h63', h48', h48i, hneg, hns, asInt, asIntOf, Question.forced, hf, newRow, grownCap]
/-- append of as many zeros, where there is no room: a block of its own -/
theorem G.appendMake {t tn e d b i cap c sz bytes : Nat} {s x : Operand} {k kn : IntKind} {j : Int} {olds : List Value} {z : List Value} (hn : Nat.blt d n = true) (hu : P.underlying t = some (.slice e)) (hun : P.underlying tn = some (.int kn)) (hi : (P.info? e).map (fun i => (i.zero.map (·.cells), i.size, i.bytes)) = some (some z.toArray, sz, bytes)) (hzl : z.length = sz) (hsz : Nat.blt 0 sz = true)
    (hs : ev l s = some (.slice (some ⟨b, 0, none⟩) i cap)) (hx : ev l x = some (.int k j)) (hj : j = (c : Int)) (holds : ∀ w, Hp w0 S w m → News w b 0 olds) (hol : olds.length = i * sz) (hc : 0 < c) (hg : cap < i + c) (h63 : i + c ≤ 9223372036854775807) (h48 : (i + c) * bytes ≤ 140737488355328)
    (h : ∀ b' cap' sp, i + c ≤ cap' → cap' ≤ 9223372036854775807 → (olds ++ sp).length = cap' * sz → G n w0 S ((d, .slice (some ⟨b', 0, none⟩) (i + c) cap') :: l) (blk b' e (olds ++ sp) :: m) K) : G n w0 S l m (fun a w => Oper.wp P ⟨some d, .call ⟨.builtin .append, #[s, x], #[t, tn]⟩, ty, pos, after, g⟩ a w K Q) := G.eff rfl hn fun a w ha hw => by
  obtain ⟨i1, hi1, hi2⟩ := Option.map_eq_some_iff.1 hi
  have hi3 : i1.zero.map (·.cells) = some z.toArray := congrArg Prod.fst hi2
  have hi4 : i1.size = sz := congrArg (fun p => p.2.1) hi2
  have hi5 : i1.bytes = bytes := congrArg (fun p => p.2.2) hi2
  obtain ⟨zv, hz1, hz2⟩ := Option.map_eq_some_iff.1 hi3
  subst hi4 hi5 hj
  have hr := run_append_make (P := P) (w := w) (ty := ty) (k := k) (a := ⟨b, 0, none⟩) hu hun hi1 hz1 hol (fun q u hq => by rw [addr_mid]; exact holds w hw q u hq) hc (Nat.le_of_ble_eq_true hsz) hg h63 h48
  have hge := grownCap_ge w (i + c) cap e
  have hcm := grownCap_le_maxLen w (i + c) cap e (by unfold maxLen; omega)
  unfold maxLen at hcm
  have hzz : zv.cells.size = i1.size := by rw [hz2]; simpa using hzl
  have e1 : olds.toArray ++ Builtin.zeroCells zv.cells c ++ Builtin.zeroCells zv.cells (grownCap w (i + c) cap e - (i + c)) = (olds ++ ((Builtin.zeroCells zv.cells c).toList ++ (Builtin.zeroCells zv.cells (grownCap w (i + c) cap e - (i + c))).toList)).toArray := by
    apply Array.ext'
    simp [List.append_assoc]
  rw [e1] at hr
  have hex : (execOp a.eval (⟨some d, .call ⟨.builtin .append, #[s, x], #[t, tn]⟩, ty, pos, after, g⟩ : Oper)).run P w = .ok (.value (.slice (some ⟨w.heap.size, 0, none⟩) (i + c) (grownCap w (i + c) cap e))) (w.drew.alloc (.cells (olds ++ ((Builtin.zeroCells zv.cells c).toList ++ (Builtin.zeroCells zv.cells (grownCap w (i + c) cap e - (i + c))).toList)).toArray e)) := by
    simp only [execOp, resolve, invoke, builtin, Sem.run_bind, Sem.run_pure, Result.andThen_ok, List.map_toArray, List.map_cons, List.map_nil, ha.eval hs, ha.eval hx, hr]
  have hlen : (olds ++ ((Builtin.zeroCells zv.cells c).toList ++ (Builtin.zeroCells zv.cells (grownCap w (i + c) cap e - (i + c))).toList)).length = grownCap w (i + c) cap e * i1.size := by
    have q1 : ∀ k, (Builtin.zeroCells zv.cells k).toList.length = k * i1.size := fun k => by rw [Array.length_toList, size_zeroCells, hzz]
    rw [List.length_append, List.length_append, q1, q1, hol, ← Nat.add_mul, ← Nat.add_mul]
    congr 1
    omega
  exact ⟨_, _, _, hex, hw.drew.alloc _ e, h _ _ _ hge (by omega) hlen⟩
/-- slices.overlaps at two slices in two blocks -/
theorem pv_overlaps {dst : Option Tmp} {f : FuncId} {x y : Operand} {ts : Array TypeId} {fn : Func} {T1 T2 tS tR e sz b1 b2 o2 la ca lb cb : Nat} {c1 c2 : List Value} {r1' r2' : List Ck} (hf : P.funcs[f]? = some fn) (hname : (fn.name == "runtime.NumGoroutine") = false)
    (hb : fn.body.isNone = true) (hn : Extern.findNext fn = none) (he : Extern.find fn = some (Extern.SlicesOverlaps.overlaps #[tS, tS] #[tR])) (hu : P.underlying tS = some (.slice e)) (hsz : (P.info? e).map (·.size) = some sz)
    (hx : ev l x = some (.slice (some ⟨b1, 0, none⟩) la ca)) (hy : ev l y = some (.slice (some ⟨b2, o2, none⟩) lb cb)) (h1 : ∀ w, Hp w0 S w m → w.heap[b1]? = some (.cells c1.toArray T1 (0, 0))) (h2 : ∀ w, Hp w0 S w m → w.heap[b2]? = some (.cells c2.toArray T2 (0, 0))) (hne : ∀ w, Hp w0 S w m → b1 ≠ b2) (hc2 : c2.length ≠ 0) :
    PV P n w0 S l m ⟨dst, .call ⟨.value (.func f), #[x, y], ts⟩, ty, pos, after, g⟩ (.bool false) := fun a w ha hw => by
  have hh1 := h1 w hw
  have hh2 := h2 w hw
  have s1 : w.shape? b1 = some (T1, c1.length) := by unfold World.shape?; rw [hh1]; simp
  have s2 : w.shape? b2 = some (T2, c2.length) := by unfold World.shape?; rw [hh2]; simp
  have hr := Lib.run_overlaps_apart (P := P) w tS tR e hu sz (run_sizeOf hsz) ⟨b1, 0, none⟩ ⟨b2, o2, none⟩ la ca lb cb (hne w hw) T1 T2 c1.length c2.length s1 s2 hc2 (frozen_of_row _ _ _ _ _ hh1) (frozen_of_row _ _ _ _ _ hh1)
  have hc := run_callFunc_extern (P := P) hf hname hb hn he #[.slice (some ⟨b1, 0, none⟩) la ca, .slice (some ⟨b2, o2, none⟩) lb cb] w
  rw [hr] at hc
  have e2 : a.eval (.func f) = .func (.func f) #[] #[] := rfl
  simp only [execOp, resolve, Deferred.ofValue, e2, invoke, Sem.run_bind, Sem.run_pure, Result.andThen_ok, List.map_toArray, List.map_cons, List.map_nil, ha.eval hx, ha.eval hy]
  simpa using hc
end
end Go.Proofs.Ytchgaedidfefoaa

set_option linter.unusedVariables false
set_option linter.unusedSimpArgs false
namespace Go.Proofs.Ytchgaedidfefoaa
open Go.RowKit
theorem putN_eq (cs vs : List Value) (o : Nat) (h : o + vs.length ≤ cs.length) : putN cs o vs = cs.take o ++ vs ++ cs.drop (o + vs.length) := by
  apply List.ext_getElem?
  intro j
  rw [putN_get _ _ _ _ h]
  have hl : (cs.take o).length = o := by rw [List.length_take]; omega
  rcases Nat.lt_or_ge j o with h1 | h1
  · rw [if_neg (by omega), List.append_assoc, List.getElem?_append_left (by omega), List.getElem?_take_of_lt h1]
  · rcases Nat.lt_or_ge j (o + vs.length) with h2 | h2
    · rw [if_pos ⟨h1, h2⟩, List.append_assoc, List.getElem?_append_right (by omega), List.getElem?_append_left (by omega), hl]
    · rw [if_neg (by omega), List.getElem?_append_right (by rw [List.length_append]; omega), List.getElem?_drop]
      congr 1
      rw [List.length_append]
      omega
/-- a list with an element laid into it -/
def insT (xs : List ET) (i : Nat) (x : ET) : List ET := xs.take i ++ [x] ++ xs.drop i
theorem insT_length {xs : List ET} {i : Nat} (h : i ≤ xs.length) (x : ET) : (insT xs i x).length = xs.length + 1 := by
  unfold insT
  rw [List.length_append, List.length_append, List.length_take, List.length_drop, List.length_singleton]
  omega
theorem flat_insT (xs : List ET) (i : Nat) (x : ET) : flatT (insT xs i x) = flatT (xs.take i) ++ (evC x ++ flatT (xs.drop i)) := by
  unfold insT
  rw [flatT_app, flatT_app, flatT_one, List.append_assoc]
/-- in place: what is behind is moved, then the new one is laid -/
theorem ins_place {xs : List ET} {sp : List Value} {i : Nat} (h : i < xs.length) (hs : 5 ≤ sp.length) (x : ET) : ∃ sp', putN (putN (flatT xs ++ sp) (0 + (i + 1) * 5) (flatT (xs.drop i))) (0 + i * 5) (evC x) = flatT (insT xs i x) ++ sp' ∧ (flatT (insT xs i x) ++ sp').length = (flatT xs ++ sp).length := by
  have hl := flatT_length xs
  have hd : (flatT (xs.drop i)).length = (xs.length - i) * 5 := by rw [flatT_length, List.length_drop]
  have ht : (flatT (xs.take i)).length = i * 5 := by rw [flatT_length, List.length_take]; omega
  have hc : (flatT xs ++ sp).length = xs.length * 5 + sp.length := by rw [List.length_append, hl]
  have h1 := putN_eq (flatT xs ++ sp) (flatT (xs.drop i)) (0 + (i + 1) * 5) (by omega)
  obtain ⟨L, hL⟩ : ∃ L, putN (flatT xs ++ sp) (0 + (i + 1) * 5) (flatT (xs.drop i)) = L := ⟨_, rfl⟩
  have hLl : L.length = (flatT xs ++ sp).length := by rw [← hL, putN_len]
  have ht1 : L.take (0 + i * 5) = flatT (xs.take i) := by rw [← hL, putN_take _ _ _ _ (by omega), flat_take (by omega)]
  have hd1 : L.drop (0 + i * 5 + 5) = flatT (xs.drop i) ++ (flatT xs ++ sp).drop (0 + (i + 1) * 5 + (flatT (xs.drop i)).length) := by
    rw [← hL, h1, List.append_assoc, List.drop_append_of_le_length (by rw [List.length_take]; omega), List.drop_of_length_le (by rw [List.length_take]; omega), List.nil_append]
  rw [hL, putN_eq _ _ _ (by rw [evC_length]; omega), evC_length, ht1, hd1]
  refine ⟨(flatT xs ++ sp).drop (0 + (i + 1) * 5 + (flatT (xs.drop i)).length), by rw [flat_insT]; simp only [List.append_assoc], ?_⟩
  rw [List.length_append, flatT_length, insT_length (by omega), List.length_drop, hd]
  omega
/-- in a new block: the new one is laid, then what was behind -/
theorem ins_new {xs : List ET} {sp : List Value} {i : Nat} (h : i < xs.length) (hs : (xs.length + 1 - i) * 5 ≤ sp.length) (x : ET) : ∃ sp', putN (putN (flatT (xs.take i) ++ sp) (0 + i * 5) (evC x)) (0 + (i + 1) * 5) (flatT (xs.drop i)) = flatT (insT xs i x) ++ sp' ∧ (flatT (insT xs i x) ++ sp').length = (flatT (xs.take i) ++ sp).length := by
  have hd : (flatT (xs.drop i)).length = (xs.length - i) * 5 := by rw [flatT_length, List.length_drop]
  have ht : (flatT (xs.take i)).length = i * 5 := by rw [flatT_length, List.length_take]; omega
  have hc : (flatT (xs.take i) ++ sp).length = i * 5 + sp.length := by rw [List.length_append, ht]
  have h1 := putN_eq (flatT (xs.take i) ++ sp) (evC x) (0 + i * 5) (by rw [evC_length]; omega)
  obtain ⟨L, hL⟩ : ∃ L, putN (flatT (xs.take i) ++ sp) (0 + i * 5) (evC x) = L := ⟨_, rfl⟩
  have hLl : L.length = (flatT (xs.take i) ++ sp).length := by rw [← hL, putN_len]
  have e0 : (flatT (xs.take i) ++ sp).take (0 + i * 5) = flatT (xs.take i) := List.take_left' (by omega)
  have ht1 : L.take (0 + (i + 1) * 5) = flatT (xs.take i) ++ evC x := by
    rw [← hL, h1, e0]
    exact List.take_left' (by rw [List.length_append, evC_length]; omega)
  rw [hL, putN_eq _ _ _ (by omega), ht1]
  refine ⟨L.drop (0 + (i + 1) * 5 + (flatT (xs.drop i)).length), by rw [flat_insT]; simp only [List.append_assoc], ?_⟩
  rw [List.length_append, flatT_length, insT_length (by omega), List.length_drop, hd]
  omega
theorem ro_ne {w0 : World} {S : Nat → Prop} {m r : List Ck} {b g T1 T2 : Nat} {c1 c2 : List Value} (h : Ro w0 S (blk b T1 c1)) (hs : Sel m (blk g T2 c2) r) : ∀ w, Hp w0 S w m → b ≠ g := fun w hw e => by
  have h1 := h.2 b rfl
  have h2 := (hw.sel hs).own _ (List.mem_cons_self ..) g rfl
  subst e
  rcases h2.1 with k | k
  · exact h1.2 k
  · omega
theorem blk_heap {w0 : World} {S : Nat → Prop} {m r : List Ck} {g T2 : Nat} {c2 : List Value} (hs : Sel m (blk g T2 c2) r) : ∀ w, Hp w0 S w m → w.heap[g]? = some (.cells c2.toArray T2 (0, 0)) := fun w hw => (hw.sel hs).holds _ (List.mem_cons_self ..)
end Go.Proofs.Ytchgaedidfefoaa

set_option linter.unusedVariables false
set_option linter.unusedSimpArgs false
namespace Go.Proofs.Ytchgaedidfefoaa
open Go.RowKit
theorem flat_dropT {xs : List ET} {sp : List Value} {i : Nat} (h : i ≤ xs.length) : ((flatT xs ++ sp).drop (0 + i * 5)).take ((xs.length - i) * 5) = flatT (xs.drop i) := by
  have e : flatT xs = flatT (xs.take i) ++ flatT (xs.drop i) := by rw [← flatT_app, List.take_append_drop]
  have ht : (flatT (xs.take i)).length = 0 + i * 5 := by rw [flatT_length, List.length_take]; omega
  have hd : (flatT (xs.drop i)).length = (xs.length - i) * 5 := by rw [flatT_length, List.length_drop]
  rw [e, List.append_assoc, ← ht, List.drop_left, ← hd, List.take_left]
theorem flat_takeT {xs : List ET} {sp : List Value} {i : Nat} (h : i ≤ xs.length) : ((flatT xs ++ sp).drop 0).take (i * 5) = flatT (xs.take i) := by
  have := flat_take (ws := xs) (sp := sp) h
  rw [Nat.zero_add] at this
  rw [List.drop_zero, this]
set_option maxRecDepth 20000 in
set_option maxHeartbeats 4000000 in
theorem ins_tr (v : Value) (xs : List ET) (i b : Nat) (x : ET) (hi : i ≤ xs.length) (hn : xs.length ≤ 1000) (hx1 : x.2.oneCell' = true) (hys : ∀ y ∈ xs, y.2.oneCell' = true) : Tr Try.prog 56 #[v, .int .i64 (i : Int), .slice (some ⟨b, 0, none⟩) 1 1] [blk b 31 (evC x)] [ownT 31 v xs] (TX (fun _ : Value => True) (fun z => z) (fun z => [ownT 31 z (insT xs i x)])) := by
  refine Tr.of (l := [(0, v), (1, .int .i64 (i : Int)), (2, .slice (some ⟨b, 0, none⟩) 1 1)]) Try.func56 rfl (n := 95) rfl (.cons rfl (.cons rfl (.cons rfl .nil))) (fun w0 hro => ?_)
  have hb0 := ro1 hro
  rw [show ownT 31 v xs = own 31 5 v xs.length (flatT xs) from rfl]
  refine G.ownOpen (v := v) (by repeat (first | with_reducible exact Sel.here | exact Sel.here | apply Sel.there)) (fun a3 c3 h3 hk3 hm3 => ?_)
  subst h3
  refine G.seq ?_
  refine G.region ?_
  refine G.op rfl (G.val rfl rfl (pv_assign rfl) ?_)
  refine G.nil ?_
  refine G.nThen ?_
  refine G.seq ?_
  refine G.region ?_
  refine G.op rfl (G.val rfl rfl (pv_move rfl) ?_)
  refine G.op rfl (G.val rfl rfl (pv_move rfl) ?_)
  refine G.op rfl (G.val rfl rfl (pv_subL (sz := 5) (k := i) Try.underlying22 (by kernel_rfl) rfl rfl rfl (by omega)) ?_)
  refine G.nil ?_
  refine G.nThen ?_
  refine G.seq ?_
  refine G.region ?_
  refine G.op rfl (G.val rfl rfl (pv_move rfl) ?_)
  refine G.op rfl (G.val rfl rfl (pv_lenSl Try.underlying22 rfl) ?_)
  refine G.op rfl (G.val rfl rfl (pv_assign rfl) ?_)
  refine G.nil ?_
  refine G.nThen ?_
  refine G.seq ?_
  refine G.seq ?_
  refine G.region ?_
  refine G.op rfl (G.val rfl rfl (pv_move rfl) ?_)
  refine G.op rfl (G.val rfl rfl (pv_eql rfl rfl) ?_)
  refine G.nil ?_
  refine G.nThen ?_
  refine G.condP rfl (fun h16 => ?_) (fun h16 => ?_)
  · exfalso; omega
  · refine G.skip ?_
    refine G.nThen ?_
    refine G.seq ?_
    refine G.region ?_
    refine G.op rfl (G.val rfl rfl (pv_move rfl) ?_)
    refine G.op rfl (G.val rfl rfl (pv_lenSl Try.underlying22 rfl) ?_)
    refine G.op rfl (G.val rfl rfl (pv_assign rfl) ?_)
    refine G.nil ?_
    refine G.nThen ?_
    refine G.seq ?_
    refine G.seq ?_
    refine G.region ?_
    refine G.op rfl (G.val rfl rfl (pv_move rfl) ?_)
    refine G.op rfl (G.val rfl rfl (pv_move rfl) ?_)
    refine G.op rfl (G.val rfl rfl (pv_eql rfl rfl) ?_)
    refine G.nil ?_
    refine G.nThen ?_
    refine G.condP rfl (fun h22 => ?_) (fun h22 => ?_)
    · refine G.seq ?_
      refine G.region ?_
      refine G.op rfl (G.val rfl rfl (pv_move rfl) ?_)
      refine G.op rfl (G.val rfl rfl (pv_move rfl) ?_)
      refine G.op rfl (G.append (k := xs.length) (j := 1) (cs := flatT xs) (news := evC x) (b := b) (off := 0) rfl Try.underlying22 Try.infoEn' rfl rfl rfl (by repeat (first | with_reducible exact Sel.here | exact Sel.here | apply Sel.there)) (fun _ => rfl) (fun h => by cases h) rfl (ro_range (k := 5) hb0 rfl) (evC_one hx1) (by omega) (by omega) ?_)
      intro v'
      rw [show flatT xs ++ evC x = flatT (insT xs i x) from by rw [flat_insT, List.take_of_length_le (by omega), List.drop_of_length_le (by omega)]; simp [flatT], show xs.length + 1 = (insT xs i x).length from (insT_length (by omega) x).symm]
      refine G.op rfl (G.val rfl rfl (pv_assign rfl) ?_)
      refine G.nil ?_
      refine G.nThen ?_
      refine G.ret ?_
      refine G.rThen ?_
      exact G.doneX1 (v') (by first | exact trivial | ((try dsimp only); exact trivial)) rfl rfl rfl (by repeat (first | exact Sub.nil | (apply Sub.cons; (repeat (first | with_reducible exact Sel.here | exact Sel.here | apply Sel.there)))))
    · have hlt : i < xs.length := by omega
      refine G.ownTo (v := .slice a3 xs.length c3) (by repeat (first | with_reducible exact Sel.here | exact Sel.here | apply Sel.there)) (by omega) (fun g cap sp hvv hkc hmx hl hlen => ?_)
      injection hvv with e1 e2 e3
      subst e1
      subst e3
      have hl5 : xs.length * 5 + sp.length = c3 * 5 := by rw [← hl, List.length_append, flatT_length]
      refine G.skip ?_
      refine G.nThen ?_
      refine G.seq ?_
      refine G.seq ?_
      refine G.region ?_
      refine G.op rfl (G.val rfl rfl (pv_move rfl) ?_)
      refine G.op rfl (G.val rfl rfl (pv_move rfl) ?_)
      refine G.op rfl (G.val rfl rfl (pv_add64 rfl rfl (by omega)) ?_)
      refine G.op rfl (G.val rfl rfl (pv_move rfl) ?_)
      refine G.op rfl (G.val rfl rfl (pv_capSl Try.underlying22 rfl) ?_)
      refine G.op rfl (G.val rfl rfl (pv_gtr rfl rfl) ?_)
      refine G.nil ?_
      refine G.nThen ?_
      refine G.condP rfl (fun h31 => ?_) (fun h31 => ?_)
      · refine G.seq ?_
        refine G.region ?_
        refine G.op rfl (G.val rfl rfl (pv_move rfl) ?_)
        refine G.op rfl (G.val rfl rfl (pv_move rfl) ?_)
        refine G.op rfl (G.val rfl rfl (pv_subH (sz := 5) (k := i) Try.underlying22 (by kernel_rfl) rfl rfl rfl (by omega)) ?_)
        refine G.op rfl (G.val rfl rfl (pv_move rfl) ?_)
        refine G.op rfl (G.val rfl rfl (pv_move rfl) ?_)
        refine G.op rfl (G.val rfl rfl (pv_add64 rfl rfl (by omega)) ?_)
        refine G.op rfl (G.val rfl rfl (pv_move rfl) ?_)
        refine G.op rfl (G.val rfl rfl (pv_sub64 rfl rfl (by omega)) ?_)
        refine G.op rfl (G.appendMake (i := i) (c := xs.length + 1 - i) (sz := 5) (bytes := 72) (olds := flatT (xs.take i)) (z := [.string ⟨#[]⟩, .int .i64 0, .int .i64 0, .slice none 0 0, .string ⟨#[]⟩]) rfl Try.underlying22 Try.underlying3 (by kernel_rfl) rfl rfl rfl rfl (by omega) (blk_news (k := i * 5) (by (repeat (first | with_reducible exact Sel.here | exact Sel.here | apply Sel.there)); done) (flat_takeT (by omega))) (by rw [flatT_length, List.length_take]; omega) (by omega) (by omega) (by omega) (by omega) ?_)
        intro b40 cap4 sp2 hc4 hm4 hl4
        have hl6 : i * 5 + sp2.length = cap4 * 5 := by have := hl4; rw [List.length_append, flatT_length, List.length_take] at this; omega
        refine G.op rfl (G.val rfl rfl (pv_assign rfl) ?_)
        refine G.nil ?_
        refine G.nThen ?_
        refine G.seq ?_
        refine G.region ?_
        refine G.op rfl (G.val rfl rfl (pv_move rfl) ?_)
        refine G.op rfl (G.val rfl rfl (pv_move rfl) ?_)
        refine G.op rfl (G.val rfl rfl ((pv_subL (sz := 5) (k := i) Try.underlying22 (by kernel_rfl) rfl rfl rfl (by omega)).cast (v' := .slice (some ⟨b40, 0 + (i) * 5, none⟩) (i + (xs.length + 1 - i) - (i)) (cap4 - (i))) (by unfold subV; rw [if_neg (by omega), Option.map_some, addr_mid])) ?_)
        refine G.op rfl (G.val rfl rfl (pv_move rfl) ?_)
        refine G.op rfl (G.copyN (sz := 5) (b := b40) (o := 0 + (i) * 5) (news := evC x) rfl Try.underlying22 (by kernel_rfl) rfl rfl (by repeat (first | with_reducible exact Sel.here | exact Sel.here | apply Sel.there)) (ro_range (k := 5) hb0 rfl) (by rw [evC_length, show ∀ a b : Nat, Nat.min a b = min a b from fun _ _ => rfl]; omega) (evC_one hx1) (by rw [evC_length, hl4]; omega) ?_)
        refine G.nil ?_
        refine G.nThen ?_
        refine G.seq ?_
        refine G.drawT (nn := 9) (p := [blk b40 _ _]) (rem := 511) [0, 0, 0, 6, 9, 0, 0, 96, 144] [0, 0, 0, 6, 9, 0, 0, 96, 144] (by kernel_rfl) ⟨rfl, by kernel_rfl, by kernel_rfl⟩ (by repeat (first | exact Sub.nil | (apply Sub.cons; (repeat (first | with_reducible exact Sel.here | exact Sel.here | apply Sel.there))))) (by kernel_rfl) (fun hT11 => ?_)
        refine G.takeT hT11 (i := 0) (rem' := 510) rfl rfl rfl (by kernel_rfl) (fun _ _ _ h => h) rfl (pv_move rfl) (by repeat (first | exact Sub.nil | (apply Sub.cons; (repeat (first | with_reducible exact Sel.here | exact Sel.here | apply Sel.there))))) ?_
        refine G.takeT hT11 (i := 1) (rem' := 508) rfl rfl rfl (by kernel_rfl) (fun _ _ _ h => h) rfl (pv_move rfl) (by repeat (first | exact Sub.nil | (apply Sub.cons; (repeat (first | with_reducible exact Sel.here | exact Sel.here | apply Sel.there))))) ?_
        refine G.takeT hT11 (i := 2) (rem' := 504) rfl rfl rfl (by kernel_rfl) (fun _ _ _ h => h) rfl (pv_move rfl) (by repeat (first | exact Sub.nil | (apply Sub.cons; (repeat (first | with_reducible exact Sel.here | exact Sel.here | apply Sel.there))))) ?_
        refine G.takeT hT11 (i := 3) (rem' := 496) rfl rfl rfl (by kernel_rfl) (fun _ _ _ h => h) rfl (pv_add64 rfl rfl (by omega)) (by repeat (first | exact Sub.nil | (apply Sub.cons; (repeat (first | with_reducible exact Sel.here | exact Sel.here | apply Sel.there))))) ?_
        refine G.takeT hT11 (i := 4) (rem' := 480) rfl rfl rfl (by kernel_rfl) (fun _ _ _ h => h) rfl ((pv_subL (sz := 5) (k := i + 1) Try.underlying22 (by kernel_rfl) rfl rfl rfl (by omega)).cast (v' := .slice (some ⟨b40, 0 + (i + 1) * 5, none⟩) (i + (xs.length + 1 - i) - (i + 1)) (cap4 - (i + 1))) (by unfold subV; rw [if_neg (by omega), Option.map_some, addr_mid])) (by repeat (first | exact Sub.nil | (apply Sub.cons; (repeat (first | with_reducible exact Sel.here | exact Sel.here | apply Sel.there))))) ?_
        refine G.takeT hT11 (i := 5) (rem' := 448) rfl rfl rfl (by kernel_rfl) (fun _ _ _ h => h) rfl (pv_move rfl) (by repeat (first | exact Sub.nil | (apply Sub.cons; (repeat (first | with_reducible exact Sel.here | exact Sel.here | apply Sel.there))))) ?_
        refine G.takeT hT11 (i := 6) (rem' := 384) rfl rfl rfl (by kernel_rfl) (fun _ _ _ h => h) rfl (pv_move rfl) (by repeat (first | exact Sub.nil | (apply Sub.cons; (repeat (first | with_reducible exact Sel.here | exact Sel.here | apply Sel.there))))) ?_
        refine G.takeT hT11 (i := 7) (rem' := 256) rfl rfl rfl (by kernel_rfl) (fun _ _ _ h => h) rfl ((pv_subL (sz := 5) (k := i) Try.underlying22 (by kernel_rfl) rfl rfl rfl (by omega)).cast (v' := .slice (some ⟨g, 0 + (i) * 5, none⟩) (xs.length - (i)) (c3 - (i))) (by unfold subV; rw [if_neg (by omega), Option.map_some, addr_mid])) (by repeat (first | exact Sub.nil | (apply Sub.cons; (repeat (first | with_reducible exact Sel.here | exact Sel.here | apply Sel.there))))) ?_
        refine G.oneT hT11 (i := 8) (rem' := 0) (by kernel_rfl) (by kernel_rfl) ?_
        refine G.turnOp rfl rfl (G.copyN (sz := 5) (b := b40) (o := 0 + (i + 1) * 5) (news := flatT (xs.drop i)) rfl Try.underlying22 (by kernel_rfl) rfl rfl (by repeat (first | with_reducible exact Sel.here | exact Sel.here | apply Sel.there)) (blk_news (k := (xs.length - i) * 5) (by (repeat (first | with_reducible exact Sel.here | exact Sel.here | apply Sel.there)); done) (flat_dropT (by omega))) (by rw [flatT_length, List.length_drop, show ∀ a b : Nat, Nat.min a b = min a b from fun _ _ => rfl]; omega) (flatT_one' fun y hy => hys y (List.mem_of_mem_drop hy)) (by rw [putN_len, hl4, flatT_length, List.length_drop]; omega) ?_)
        refine G.back (by repeat (first | exact Sub.nil | (apply Sub.cons; (repeat (first | with_reducible exact Sel.here | exact Sel.here | apply Sel.there))))) ?_
        refine G.overT hT11 (by kernel_rfl) ?_
        refine G.nThen ?_
        refine G.seq ?_
        refine G.region ?_
        refine G.op rfl (G.val rfl rfl (pv_move rfl) ?_)
        refine G.op rfl (G.val rfl rfl (pv_assign rfl) ?_)
        refine G.nil ?_
        refine G.nThen ?_
        refine G.ret ?_
        refine G.rThen ?_
        obtain ⟨sp', he, hle⟩ := ins_new (sp := sp2) hlt (by omega) x
        rw [he]
        refine G.ownOf (sz := 5) (k := (insT xs i x).length) (cs := flatT (insT xs i x)) (sp := sp') (cap := cap4) (by repeat (first | with_reducible exact Sel.here | exact Sel.here | apply Sel.there)) (flatT_length _) (by rw [insT_length (by omega)]; omega) hm4 (by rw [hle]; exact hl4) ?_
        exact G.doneX1 (.slice (some ⟨b40, 0, none⟩) (insT xs i x).length cap4) (by first | exact trivial | ((try dsimp only); exact trivial)) rfl rfl (by rw [insT_length (by omega), show i + (xs.length + 1 - i) = xs.length + 1 by omega]) (by repeat (first | exact Sub.nil | (apply Sub.cons; (repeat (first | with_reducible exact Sel.here | exact Sel.here | apply Sel.there)))))
      · refine G.skip ?_
        refine G.nThen ?_
        refine G.seq ?_
        refine G.region ?_
        refine G.op rfl (G.val rfl rfl (pv_move rfl) ?_)
        refine G.op rfl (G.val rfl rfl (pv_move rfl) ?_)
        refine G.op rfl (G.val rfl rfl (pv_move rfl) ?_)
        refine G.op rfl (G.val rfl rfl (pv_add64 rfl rfl (by omega)) ?_)
        refine G.op rfl (G.val rfl rfl (pv_subH (sz := 5) (k := xs.length + 1) Try.underlying22 (by kernel_rfl) rfl rfl rfl (by omega)) ?_)
        refine G.op rfl (G.val rfl rfl (pv_assign rfl) ?_)
        refine G.nil ?_
        refine G.nThen ?_
        refine G.seq ?_
        refine G.seq ?_
        refine G.region ?_
        refine G.op rfl (G.val rfl rfl (pv_move rfl) ?_)
        refine G.op rfl (G.val rfl rfl (pv_move rfl) ?_)
        refine G.op rfl (G.val rfl rfl (pv_move rfl) ?_)
        refine G.op rfl (G.val rfl rfl (pv_move rfl) ?_)
        refine G.op rfl (G.val rfl rfl (pv_add64 rfl rfl (by omega)) ?_)
        refine G.op rfl (G.val rfl rfl ((pv_subL (sz := 5) (k := i + 1) Try.underlying22 (by kernel_rfl) rfl rfl rfl (by omega)).cast (v' := .slice (some ⟨g, 0 + (i + 1) * 5, none⟩) (xs.length + 1 - (i + 1)) (c3 - (i + 1))) (by unfold subV; rw [if_neg (by omega), Option.map_some, addr_mid])) ?_)
        refine G.op rfl (G.val rfl rfl (pv_overlaps (sz := 5) (r1' := []) (r2' := []) (tS := 22) (tR := 4) (T1 := 31) (c1 := evC x) (T2 := 31) (c2 := flatT xs ++ sp) (b1 := b) (b2 := g) Try.func73 (by kernel_rfl) (by kernel_rfl) (by kernel_rfl) (by kernel_rfl) Try.underlying22 (by kernel_rfl) rfl rfl (fun w hw => hb0.at hw) (blk_heap (by repeat (first | with_reducible exact Sel.here | exact Sel.here | apply Sel.there))) (ro_ne hb0 (by repeat (first | with_reducible exact Sel.here | exact Sel.here | apply Sel.there))) (by rw [hl]; omega)) ?_)
        refine G.op rfl (G.val rfl rfl ((pv_not rfl).cast (v' := .bool true) rfl) ?_)
        refine G.nil ?_
        refine G.nThen ?_
        refine G.condT rfl (rfl) ?_
        refine G.seq ?_
        refine G.drawT (nn := 9) (p := [blk g _ _]) (rem := 511) [0, 0, 0, 6, 9, 0, 0, 96, 144] [0, 0, 0, 6, 9, 0, 0, 96, 144] (by kernel_rfl) ⟨rfl, by kernel_rfl, by kernel_rfl⟩ (by repeat (first | exact Sub.nil | (apply Sub.cons; (repeat (first | with_reducible exact Sel.here | exact Sel.here | apply Sel.there))))) (by kernel_rfl) (fun hT15 => ?_)
        refine G.takeT hT15 (i := 0) (rem' := 510) rfl rfl rfl (by kernel_rfl) (fun _ _ _ h => h) rfl (pv_move rfl) (by repeat (first | exact Sub.nil | (apply Sub.cons; (repeat (first | with_reducible exact Sel.here | exact Sel.here | apply Sel.there))))) ?_
        refine G.takeT hT15 (i := 1) (rem' := 508) rfl rfl rfl (by kernel_rfl) (fun _ _ _ h => h) rfl (pv_move rfl) (by repeat (first | exact Sub.nil | (apply Sub.cons; (repeat (first | with_reducible exact Sel.here | exact Sel.here | apply Sel.there))))) ?_
        refine G.takeT hT15 (i := 2) (rem' := 504) rfl rfl rfl (by kernel_rfl) (fun _ _ _ h => h) rfl (pv_move rfl) (by repeat (first | exact Sub.nil | (apply Sub.cons; (repeat (first | with_reducible exact Sel.here | exact Sel.here | apply Sel.there))))) ?_
        refine G.takeT hT15 (i := 3) (rem' := 496) rfl rfl rfl (by kernel_rfl) (fun _ _ _ h => h) rfl (pv_add64 rfl rfl (by omega)) (by repeat (first | exact Sub.nil | (apply Sub.cons; (repeat (first | with_reducible exact Sel.here | exact Sel.here | apply Sel.there))))) ?_
        refine G.takeT hT15 (i := 4) (rem' := 480) rfl rfl rfl (by kernel_rfl) (fun _ _ _ h => h) rfl ((pv_subL (sz := 5) (k := i + 1) Try.underlying22 (by kernel_rfl) rfl rfl rfl (by omega)).cast (v' := .slice (some ⟨g, 0 + (i + 1) * 5, none⟩) (xs.length + 1 - (i + 1)) (c3 - (i + 1))) (by unfold subV; rw [if_neg (by omega), Option.map_some, addr_mid])) (by repeat (first | exact Sub.nil | (apply Sub.cons; (repeat (first | with_reducible exact Sel.here | exact Sel.here | apply Sel.there))))) ?_
        refine G.takeT hT15 (i := 5) (rem' := 448) rfl rfl rfl (by kernel_rfl) (fun _ _ _ h => h) rfl (pv_move rfl) (by repeat (first | exact Sub.nil | (apply Sub.cons; (repeat (first | with_reducible exact Sel.here | exact Sel.here | apply Sel.there))))) ?_
        refine G.takeT hT15 (i := 6) (rem' := 384) rfl rfl rfl (by kernel_rfl) (fun _ _ _ h => h) rfl (pv_move rfl) (by repeat (first | exact Sub.nil | (apply Sub.cons; (repeat (first | with_reducible exact Sel.here | exact Sel.here | apply Sel.there))))) ?_
        refine G.takeT hT15 (i := 7) (rem' := 256) rfl rfl rfl (by kernel_rfl) (fun _ _ _ h => h) rfl ((pv_subL (sz := 5) (k := i) Try.underlying22 (by kernel_rfl) rfl rfl rfl (by omega)).cast (v' := .slice (some ⟨g, 0 + (i) * 5, none⟩) (xs.length + 1 - (i)) (c3 - (i))) (by unfold subV; rw [if_neg (by omega), Option.map_some, addr_mid])) (by repeat (first | exact Sub.nil | (apply Sub.cons; (repeat (first | with_reducible exact Sel.here | exact Sel.here | apply Sel.there))))) ?_
        refine G.oneT hT15 (i := 8) (rem' := 0) (by kernel_rfl) (by kernel_rfl) ?_
        refine G.turnOp rfl rfl (G.copyN (sz := 5) (b := g) (o := 0 + (i + 1) * 5) (news := flatT (xs.drop i)) rfl Try.underlying22 (by kernel_rfl) rfl rfl (by repeat (first | with_reducible exact Sel.here | exact Sel.here | apply Sel.there)) (blk_news (k := (xs.length - i) * 5) (by (repeat (first | with_reducible exact Sel.here | exact Sel.here | apply Sel.there)); done) (flat_dropT (by omega))) (by rw [flatT_length, List.length_drop, show ∀ a b : Nat, Nat.min a b = min a b from fun _ _ => rfl]; omega) (flatT_one' fun y hy => hys y (List.mem_of_mem_drop hy)) (by rw [hl, flatT_length, List.length_drop]; omega) ?_)
        refine G.back (by repeat (first | exact Sub.nil | (apply Sub.cons; (repeat (first | with_reducible exact Sel.here | exact Sel.here | apply Sel.there))))) ?_
        refine G.overT hT15 (by kernel_rfl) ?_
        refine G.nThen ?_
        refine G.seq ?_
        refine G.region ?_
        refine G.op rfl (G.val rfl rfl (pv_move rfl) ?_)
        refine G.op rfl (G.val rfl rfl (pv_move rfl) ?_)
        refine G.op rfl (G.val rfl rfl ((pv_subL (sz := 5) (k := i) Try.underlying22 (by kernel_rfl) rfl rfl rfl (by omega)).cast (v' := .slice (some ⟨g, 0 + (i) * 5, none⟩) (xs.length + 1 - (i)) (c3 - (i))) (by unfold subV; rw [if_neg (by omega), Option.map_some, addr_mid])) ?_)
        refine G.op rfl (G.val rfl rfl (pv_move rfl) ?_)
        refine G.op rfl (G.copyN (sz := 5) (b := g) (o := 0 + (i) * 5) (news := evC x) rfl Try.underlying22 (by kernel_rfl) rfl rfl (by repeat (first | with_reducible exact Sel.here | exact Sel.here | apply Sel.there)) (ro_range (k := 5) hb0 rfl) (by rw [evC_length, show ∀ a b : Nat, Nat.min a b = min a b from fun _ _ => rfl]; omega) (evC_one hx1) (by rw [evC_length, putN_len, hl]; omega) ?_)
        refine G.nil ?_
        refine G.nThen ?_
        refine G.seq ?_
        refine G.region ?_
        refine G.op rfl (G.val rfl rfl (pv_move rfl) ?_)
        refine G.op rfl (G.val rfl rfl (pv_assign rfl) ?_)
        refine G.nil ?_
        refine G.nThen ?_
        refine G.ret ?_
        refine G.rThen ?_
        obtain ⟨sp', he, hle⟩ := ins_place (sp := sp) hlt (by omega) x
        rw [he]
        refine G.ownOf (sz := 5) (k := (insT xs i x).length) (cs := flatT (insT xs i x)) (sp := sp') (cap := c3) (by repeat (first | with_reducible exact Sel.here | exact Sel.here | apply Sel.there)) (flatT_length _) (by rw [insT_length (by omega)]; omega) hmx (by rw [hle]; exact hl) ?_
        exact G.doneX1 (.slice (some ⟨g, 0, none⟩) (insT xs i x).length c3) (by first | exact trivial | ((try dsimp only); exact trivial)) rfl rfl (by rw [insT_length (by omega)]) (by repeat (first | exact Sub.nil | (apply Sub.cons; (repeat (first | with_reducible exact Sel.here | exact Sel.here | apply Sel.there)))))
end Go.Proofs.Ytchgaedidfefoaa

set_option linter.unusedVariables false
set_option linter.unusedSimpArgs false
namespace Go.Proofs.Ytchgaedidfefoaa
open Go.RowKit
/-- what an entry's path being there makes of the list -/
def putT (xs : List ET) (x : ET) : List ET := if isAt (ens xs) x.1.path then xs.set (placeK (ens xs) x.1.path) x else insT xs (placeK (ens xs) x.1.path) x
theorem ens_insT (xs : List ET) (i : Nat) (x : ET) : ens (insT xs i x) = (ens xs).take i ++ [x.1] ++ (ens xs).drop i := by
  unfold insT ens
  simp [List.map_append, List.map_take, List.map_drop]
theorem putT_ens {xs : List ET} {x : ET} (hs : SortT (ens xs)) : ens (putT xs x) = putL (ens xs) x.1 := by
  unfold putT putL restL
  by_cases ha : isAt (ens xs) x.1.path
  · rw [if_pos ha, if_pos ha]
    obtain ⟨hk, _⟩ := placeK_spec hs ha
    obtain ⟨k, hk2⟩ : ∃ k, placeK (ens xs) x.1.path = k := ⟨_, rfl⟩
    simp only [hk2] at hk ⊢
    unfold ens at hk ⊢
    rw [List.map_set, List.set_eq_take_append_cons_drop, if_pos hk]
    simp
  · rw [if_neg ha, if_neg ha, ens_insT]
theorem putT_mem {xs : List ET} {x y : ET} (h : y ∈ putT xs x) : y = x ∨ y ∈ xs := by
  unfold putT at h
  split at h
  · rcases List.mem_or_eq_of_mem_set h with h | h
    · exact .inr h
    · exact .inl h
  · unfold insT at h
    rcases List.mem_append.1 h with h | h
    · rcases List.mem_append.1 h with h | h
      · exact .inr (List.mem_of_mem_take h)
      · exact .inl (by simpa using h)
    · exact .inr (List.mem_of_mem_drop h)
theorem Ro.wide {w0 : World} {S Pa Pb : Nat → Prop} {v : Value} {a : List UInt8} (h : Ro w0 S (slc rByte Pa v a)) (hb : ∀ k, Pb k → k < w0.heap.size ∧ ¬ S k) : Ro w0 S (slc rByte (fun k => Pa k ∨ Pb k) v a) := ⟨(show IsSl rByte Pa w0 v a from h.1).mono fun k hk => .inl hk, fun k hk => hk.elim (h.2 k) (hb k)⟩
theorem Ro.wideR {w0 : World} {S Pa Pb : Nat → Prop} {v : Value} {a : List UInt8} (h : Ro w0 S (slc rByte Pb v a)) (hb : ∀ k, Pa k → k < w0.heap.size ∧ ¬ S k) : Ro w0 S (slc rByte (fun k => Pa k ∨ Pb k) v a) := ⟨(show IsSl rByte Pb w0 v a from h.1).mono fun k hk => .inr hk, fun k hk => hk.elim (hb k) (h.2 k)⟩
end Go.Proofs.Ytchgaedidfefoaa

set_option linter.unusedVariables false
set_option linter.unusedSimpArgs false
namespace Go.Proofs.Ytchgaedidfefoaa
open Go.RowKit
set_option maxRecDepth 20000 in
set_option maxHeartbeats 4000000 in
theorem put_tr {Ps Pd : Nat → Prop} (v : Value) (xs : List ET) (e : En) (d : Value) (hok : EnOk e) : Tr Try.prog 30 #[v, .agg #[.string (sB e.path), .int .i64 e.kind, .int .i64 e.mode, d, .string (sB e.to)]] [slc rEV Ps v xs, slc rByte Pd d e.data] []
    (TX (fun z : Value × List ET => ens z.2 = (putM (ens xs) e).1) (fun z => .tuple #[z.1, .int .i64 (putM (ens xs) e).2]) (fun z => [ownT 31 z.1 z.2, datC 5 z.2])) := by
  refine Tr.of (l := [(0, v), (1, .agg #[.string (sB e.path), .int .i64 e.kind, .int .i64 e.mode, d, .string (sB e.to)])]) Try.func30 rfl (n := 50) rfl (.cons rfl (.cons rfl .nil)) (fun w0 hro => ?_)
  obtain ⟨hv0, hd0⟩ := ro2 hro
  have hv := hv0
  have hv' := hv
  obtain ⟨av, cv, bv, fv, rfl, hcapv, hmaxv, hnilv, hadv, helv⟩ := Ro.openT hv
  have hlx := ens_length xs
  have hd1 := Ro.one1 hd0
  obtain ⟨hok1, hok2, hok3, hok4, hok5⟩ := id hok
  have hokp : ∀ x ∈ putT xs (e, d), EnOk x.1 := fun x hx => by rcases putT_mem hx with h | h; rw [h]; exact hok; exact Ro.allOk helv x h
  have hPp : ∀ b, (Ps b ∨ Pd b) → b < w0.heap.size ∧ ¬ (U []) b := fun b hb => hb.elim (hv0.2 b) (hd0.2 b)
  have hdp : ∀ x ∈ putT xs (e, d), Ro w0 (U []) (slc rByte (fun k => Ps k ∨ Pd k) x.2 x.1.data) := fun x hx => by rcases putT_mem hx with h | h; rw [h]; exact Ro.wideR hd0 hv0.2; exact Ro.wide (Ro.allDat helv x h) hd0.2
  refine G.seq ?_
  refine G.region ?_
  refine G.op rfl (G.box rfl rfl (cs := [_, _, _, _, _]) rfl ?_)
  intro b3
  refine G.op rfl (G.val rfl rfl (pv_assign rfl) ?_)
  refine G.op rfl (G.val rfl rfl (pv_assign rfl) ?_)
  refine G.nil ?_
  refine G.nThen ?_
  refine G.seq ?_
  refine G.seq ?_
  refine G.region ?_
  refine G.op rfl (G.val rfl rfl (pv_move rfl) ?_)
  refine G.op rfl (G.cR rfl rfl rfl rfl Try.func11 rfl rfl (may1 (by first | (apply May.old; first | with_reducible assumption | assumption) | (apply Sel.may; (repeat (first | with_reducible exact Sel.here | exact Sel.here | apply Sel.there)); done) | (apply may_own; (repeat (first | with_reducible exact Sel.here | exact Sel.here | apply Sel.there)); exact rfl; exact (fun _ _ => trivial); done) | (apply may_ownB; (repeat (first | with_reducible exact Sel.here | exact Sel.here | apply Sel.there)); done) | (apply may_tree; (repeat (first | with_reducible exact Sel.here | exact Sel.here | apply Sel.there)); (repeat (first | with_reducible exact Sel.here | exact Sel.here | apply Sel.there)); assumption; done))) (tcheck_tr _ _) ?_)
  refine G.op rfl (G.val rfl rfl (pv_move rfl) ?_)
  refine G.op rfl (G.val rfl rfl (pv_extract rfl rfl) ?_)
  refine G.op rfl (G.val rfl rfl (pv_extract rfl rfl) ?_)
  refine G.op rfl (G.val rfl rfl (pv_assign rfl) ?_)
  refine G.op rfl (G.val rfl rfl (pv_assign rfl) ?_)
  refine G.nil ?_
  refine G.nThen ?_
  refine G.seq ?_
  refine G.region ?_
  refine G.op rfl (G.val rfl rfl (pv_move rfl) ?_)
  refine G.op rfl (G.val rfl rfl (pv_neq rfl rfl) ?_)
  refine G.nil ?_
  refine G.nThen ?_
  refine G.condP rfl (fun h19 => ?_) (fun h19 => ?_)
  · have hbad := put_bad (e := e) h19
    refine G.seq ?_
    refine G.region ?_
    refine G.op rfl (G.val rfl rfl (pv_move rfl) ?_)
    refine G.op rfl (G.val rfl rfl (pv_assign rfl) ?_)
    refine G.op rfl (G.val rfl rfl (pv_assign rfl) ?_)
    refine G.nil ?_
    refine G.nThen ?_
    refine G.ret ?_
    refine G.rThen ?_
    refine G.datNil 5 ?_
    refine G.ownNil 31 5 ?_
    exact G.doneX2 ((.slice none 0 0, [])) (by first | exact trivial | ((try dsimp only); exact (by rw [hbad]; rfl))) rfl rfl rfl (by rw [hbad]; first | done | rfl) (by repeat (first | exact Sub.nil | (apply Sub.cons; (repeat (first | with_reducible exact Sel.here | exact Sel.here | apply Sel.there)))))
  · have hx0 : (checkT (ens xs)).1 = 0 := Decidable.of_not_not (by assumption)
    obtain ⟨hx1, hx2, -⟩ := checkT_zero hx0
    have hsx := sort_all hx2
    have hpe : ens (putT xs (e, d)) = putL (ens xs) e := putT_ens hsx
    refine G.skip ?_
    refine G.nThen ?_
    refine G.seq ?_
    refine G.region ?_
    refine G.op rfl (G.val rfl rfl (pv_move rfl) ?_)
    refine G.op rfl (G.val rfl rfl (pv_fieldAddrK (sz := 0) (k := 0) Try.underlying31 rfl (by kernel_rfl) rfl rfl) ?_)
    refine G.op rfl (G.val rfl rfl (pv_load Try.underlying9 rfl rfl (by first | exact blk_cell (by (repeat (first | with_reducible exact Sel.here | exact Sel.here | apply Sel.there)); done) (by rfl) | exact rng_cell (by (repeat (first | with_reducible exact Sel.here | exact Sel.here | apply Sel.there)); done) (by rfl) | exact ro_blk (by assumption) (by rfl) | exact ro_rngC (by assumption) (by rfl) | exact ro_int (by assumption) | exact ro_byte (by assumption) | exact ro_str (by assumption) | with_reducible assumption | assumption)) ?_)
    refine G.op rfl (G.cR rfl rfl rfl rfl Try.func40 rfl rfl (may1 (by first | (apply May.old; first | with_reducible assumption | assumption) | (apply Sel.may; (repeat (first | with_reducible exact Sel.here | exact Sel.here | apply Sel.there)); done) | (apply may_own; (repeat (first | with_reducible exact Sel.here | exact Sel.here | apply Sel.there)); exact rfl; exact (fun _ _ => trivial); done) | (apply may_ownB; (repeat (first | with_reducible exact Sel.here | exact Sel.here | apply Sel.there)); done) | (apply may_tree; (repeat (first | with_reducible exact Sel.here | exact Sel.here | apply Sel.there)); (repeat (first | with_reducible exact Sel.here | exact Sel.here | apply Sel.there)); assumption; done))) (place_tr _ xs _ (by omega) hsx (by omega)) ?_)
    refine G.op rfl (G.val rfl rfl (pv_move rfl) ?_)
    refine G.op rfl (G.val rfl rfl (pv_extract rfl rfl) ?_)
    refine G.op rfl (G.val rfl rfl (pv_extract rfl rfl) ?_)
    refine G.op rfl (G.val rfl rfl (pv_assign rfl) ?_)
    refine G.op rfl (G.val rfl rfl (pv_assign rfl) ?_)
    refine G.nil ?_
    refine G.nThen ?_
    refine G.seq ?_
    refine G.region ?_
    refine G.op rfl (G.val rfl rfl (pv_move rfl) ?_)
    refine G.op rfl (G.cS rfl rfl rfl rfl Try.func55 rfl rfl (by repeat (first | exact Sub.nil | (apply Sub.cons; (repeat (first | with_reducible exact Sel.here | exact Sel.here | apply Sel.there))))) (may1 (by first | (apply May.old; first | with_reducible assumption | assumption) | (apply Sel.may; (repeat (first | with_reducible exact Sel.here | exact Sel.here | apply Sel.there)); done) | (apply may_own; (repeat (first | with_reducible exact Sel.here | exact Sel.here | apply Sel.there)); exact rfl; exact (fun _ _ => trivial); done) | (apply may_ownB; (repeat (first | with_reducible exact Sel.here | exact Sel.here | apply Sel.there)); done) | (apply may_tree; (repeat (first | with_reducible exact Sel.here | exact Sel.here | apply Sel.there)); (repeat (first | with_reducible exact Sel.here | exact Sel.here | apply Sel.there)); assumption; done))) (cloneE_tr _ _ (by omega)) (by repeat (first | exact Ap.nil | apply Ap.cons)) ?_)
    intro x29 hJ
    try dsimp only at hJ
    try dsimp only
    refine G.op rfl (G.val rfl rfl (pv_assign rfl) ?_)
    refine G.nil ?_
    refine G.nThen ?_
    refine G.seq ?_
    refine G.cutK (X := Value) (ts := [4, 5]) (p := [ownT 31 x29 _]) (fun vo => True) (fun vo => [(10, vo)]) (fun vo => [ownT 31 vo (putT xs (e, d))]) (.cons rfl (.cons rfl .nil)) (by repeat (first | exact Sub.nil | (apply Sub.cons; (repeat (first | with_reducible exact Sel.here | exact Sel.here | apply Sel.there))))) (.cons .nil) (by repeat (first | exact Ap.nil | apply Ap.cons)) ?_ ?_
    · refine G.seq ?_
      refine G.region ?_
      refine G.op rfl (G.val rfl rfl (pv_move rfl) ?_)
      refine G.nil ?_
      refine G.nThen ?_
      refine G.condP rfl (fun h30 => ?_) (fun h30 => ?_)
      · have hat : isAt (ens xs) e.path := by assumption
        obtain ⟨hkl, hkp⟩ := placeK_spec hsx hat
        have hpt : putT xs (e, d) = xs.set (placeK (ens xs) e.path) (e, d) := if_pos hat
        obtain ⟨k, hk⟩ : ∃ k, placeK (ens xs) e.path = k := ⟨_, rfl⟩
        simp only [hk] at hkl hpt
        rw [hk]
        rw [show ownT 31 x29 xs = own 31 5 x29 xs.length (flatT xs) from rfl]
        refine G.ownTo (v := x29) (by repeat (first | with_reducible exact Sel.here | exact Sel.here | apply Sel.there)) (by omega) (fun g cap sp hvv hkc hmx hl hlen => ?_)
        subst hvv
        refine G.region ?_
        refine G.op rfl (G.val rfl rfl (pv_move rfl) ?_)
        refine G.op rfl (G.val rfl rfl (pv_move rfl) ?_)
        refine G.op rfl (G.val rfl rfl (pv_loadN (cs := [_, _, _, _, _]) Try.underlying31 rfl (by kernel_rfl) rfl (by first | exact blk_range (k := 5) (by (repeat (first | with_reducible exact Sel.here | exact Sel.here | apply Sel.there)); done) (by rfl) | exact ro_rng0 (by assumption) | exact rng_range (k := 5) (by (repeat (first | with_reducible exact Sel.here | exact Sel.here | apply Sel.there)); done) (by rfl) | exact ro_range (k := 5) (by assumption) (by rfl) | exact ro_rngR (k := 5) (by assumption) (by rfl))) ?_)
        refine G.op rfl (G.val rfl rfl (pv_ixSl (sz := 5) (k := k) Try.underlying22 (by kernel_rfl) rfl rfl (fun _ => rfl) (by omega) (by omega)) ?_)
        refine G.op rfl (G.storeN (vs := evC (e, d)) (by kernel_rfl) rfl rfl (by exact (all1_cons rfl (all1_cons rfl (all1_cons rfl (all1_cons hd1 (all1_cons rfl all1_nil)))))) (by repeat (first | with_reducible exact Sel.here | exact Sel.here | apply Sel.there)) (by rw [evC_length, List.length_append, flatT_length]; omega) ?_)
        rw [flat_put (show k < xs.length by omega), ← hpt]
        refine G.ownOf (sz := 5) (k := (putT xs (e, d)).length) (cs := flatT (putT xs (e, d))) (sp := sp) (cap := cap) (by repeat (first | with_reducible exact Sel.here | exact Sel.here | apply Sel.there)) (flatT_length _) (by rw [hpt, List.length_set]; omega) hmx (by rw [List.length_append, flatT_length, hpt, List.length_set]; rw [List.length_append, flatT_length] at hl; exact hl) ?_
        refine G.nil ?_
        exact G.meet ((.slice (some ⟨g, 0, none⟩) (putT xs (e, d)).length cap)) (by first | exact trivial | ((try dsimp only); exact trivial)) (.consE rfl (by rw [hpt, List.length_set]) (.cons rfl (.cons rfl .nil))) (by repeat (first | exact Sub.nil | (apply Sub.cons; (repeat (first | with_reducible exact Sel.here | exact Sel.here | apply Sel.there)))))
      · have hnat : ¬ isAt (ens xs) e.path := by assumption
        have hpt : putT xs (e, d) = insT xs (placeK (ens xs) e.path) (e, d) := if_neg hnat
        have hple : placeK (ens xs) e.path ≤ xs.length := by have := List.findIdx_le_length (p := fun q : En => ! decide (compareM q.path e.path < 0)) (xs := ens xs); rw [ens_length] at this; exact this
        rw [hpt]
        refine G.region ?_
        refine G.op rfl (G.val rfl rfl (pv_move rfl) ?_)
        refine G.op rfl (G.val rfl rfl (pv_move rfl) ?_)
        refine G.op rfl (G.val rfl rfl (pv_loadN (cs := [_, _, _, _, _]) Try.underlying31 rfl (by kernel_rfl) rfl (by first | exact blk_range (k := 5) (by (repeat (first | with_reducible exact Sel.here | exact Sel.here | apply Sel.there)); done) (by rfl) | exact ro_rng0 (by assumption) | exact rng_range (k := 5) (by (repeat (first | with_reducible exact Sel.here | exact Sel.here | apply Sel.there)); done) (by rfl) | exact ro_range (k := 5) (by assumption) (by rfl) | exact ro_rngR (k := 5) (by assumption) (by rfl))) ?_)
        refine G.op rfl (G.buildSlice (z := .agg #[.string ⟨#[]⟩, .int .i64 0, .int .i64 0, .slice none 0 0, .string ⟨#[]⟩]) (sz := 5) (cs := evC (e, d)) rfl Try.underlying22 (by kernel_rfl) (by decide) (by decide) rfl (by kernel_rfl) ?_)
        intro b38
        refine G.op rfl (G.cS rfl rfl rfl rfl Try.func56 rfl rfl (by repeat (first | exact Sub.nil | (apply Sub.cons; (repeat (first | with_reducible exact Sel.here | exact Sel.here | apply Sel.there))))) (may1 (by first | (apply May.old; first | with_reducible assumption | assumption) | (apply Sel.may; (repeat (first | with_reducible exact Sel.here | exact Sel.here | apply Sel.there)); done) | (apply may_own; (repeat (first | with_reducible exact Sel.here | exact Sel.here | apply Sel.there)); exact rfl; exact (fun _ _ => trivial); done) | (apply may_ownB; (repeat (first | with_reducible exact Sel.here | exact Sel.here | apply Sel.there)); done) | (apply may_tree; (repeat (first | with_reducible exact Sel.here | exact Sel.here | apply Sel.there)); (repeat (first | with_reducible exact Sel.here | exact Sel.here | apply Sel.there)); assumption; done))) (ins_tr _ xs (placeK (ens xs) e.path) b38 (e, d) hple (by omega) hd1 (fun y hy => (Ro.allEO (P := Try.prog) helv y hy).2)) (by repeat (first | exact Ap.nil | apply Ap.cons)) ?_)
        intro x39 hJ
        try dsimp only at hJ
        try dsimp only
        refine G.op rfl (G.val rfl rfl (pv_assign rfl) ?_)
        refine G.nil ?_
        exact G.meet (x39) (by first | exact trivial | ((try dsimp only); exact trivial)) (.consE rfl (by first | rfl | exact int_eq (by first | omega | (dsimp only; omega)) | exact congrArg _ (by omega)) (.cons rfl (.cons rfl .nil))) (by repeat (first | exact Sub.nil | (apply Sub.cons; (repeat (first | with_reducible exact Sel.here | exact Sel.here | apply Sel.there)))))
    · intro vo hJ
      try dsimp only at hJ
      try dsimp only
      refine G.seq ?_
      refine G.seq ?_
      refine G.region ?_
      refine G.op rfl (G.val rfl rfl (pv_move rfl) ?_)
      refine G.op rfl (G.cR rfl rfl rfl rfl Try.func11 rfl rfl (may1 (may_treeR (by repeat (first | with_reducible exact Sel.here | exact Sel.here | apply Sel.there)) hokp hPp hdp)) (tcheck_tr _ (putT xs (e, d))) ?_)
      rw [hpe]
      refine G.op rfl (G.val rfl rfl (pv_move rfl) ?_)
      refine G.op rfl (G.val rfl rfl (pv_extract rfl rfl) ?_)
      refine G.op rfl (G.val rfl rfl (pv_extract rfl rfl) ?_)
      refine G.op rfl (G.val rfl rfl (pv_assign rfl) ?_)
      refine G.op rfl (G.val rfl rfl (pv_assign rfl) ?_)
      refine G.nil ?_
      refine G.nThen ?_
      refine G.seq ?_
      refine G.region ?_
      refine G.op rfl (G.val rfl rfl (pv_move rfl) ?_)
      refine G.op rfl (G.val rfl rfl (pv_neq rfl rfl) ?_)
      refine G.nil ?_
      refine G.nThen ?_
      refine G.condP rfl (fun h46 => ?_) (fun h46 => ?_)
      · have hbad2 := put_bad2 hx0 (by assumption)
        refine G.seq ?_
        refine G.region ?_
        refine G.op rfl (G.val rfl rfl (pv_move rfl) ?_)
        refine G.op rfl (G.val rfl rfl (pv_assign rfl) ?_)
        refine G.op rfl (G.val rfl rfl (pv_assign rfl) ?_)
        refine G.nil ?_
        refine G.nThen ?_
        refine G.ret ?_
        refine G.rThen ?_
        refine G.datNil 5 ?_
        refine G.ownNil 31 5 ?_
        exact G.doneX2 ((.slice none 0 0, [])) (by first | exact trivial | ((try dsimp only); exact (by rw [hbad2]; rfl))) rfl rfl rfl (by rw [hbad2]; first | done | rfl) (by repeat (first | exact Sub.nil | (apply Sub.cons; (repeat (first | with_reducible exact Sel.here | exact Sel.here | apply Sel.there)))))
      · have hgood := put_ok hx0 (Decidable.of_not_not (by assumption))
        have hcz : (checkT (putL (ens xs) e)).1 = 0 := Decidable.of_not_not (by assumption)
        have hpl : (putT xs (e, d)).length ≤ 200 := by have := (checkT_zero hcz).1; rw [← hpe, ens_length] at this; exact this
        refine G.skip ?_
        refine G.nThen ?_
        refine G.seq ?_
        refine G.region ?_
        refine G.op rfl (G.val rfl rfl (pv_move rfl) ?_)
        refine G.op rfl (G.cS rfl rfl rfl rfl Try.func41 rfl rfl (by repeat (first | exact Sub.nil | (apply Sub.cons; (repeat (first | with_reducible exact Sel.here | exact Sel.here | apply Sel.there))))) (may1 (may_treeR (by repeat (first | with_reducible exact Sel.here | exact Sel.here | apply Sel.there)) hokp hPp hdp)) (clone_tr _ (putT xs (e, d)) (by omega)) (by repeat (first | exact Ap.nil | apply Ap.cons)) ?_)
        intro x49 hJ
        obtain ⟨v', zs⟩ := x49
        try dsimp only at hJ
        try dsimp only
        refine G.op rfl (G.val rfl rfl (pv_assign rfl) ?_)
        refine G.op rfl (G.val rfl rfl (pv_assign rfl) ?_)
        refine G.nil ?_
        refine G.nThen ?_
        refine G.ret ?_
        exact G.doneX2 ((v', zs)) (by first | exact trivial | ((try dsimp only); exact (by rw [hgood, hJ, hpe]))) rfl rfl rfl (by rw [hgood]) (by repeat (first | exact Sub.nil | (apply Sub.cons; (repeat (first | with_reducible exact Sel.here | exact Sel.here | apply Sel.there)))))
end Go.Proofs.Ytchgaedidfefoaa

set_option linter.unusedVariables false
set_option linter.unusedSimpArgs false
namespace Go.Proofs.Ytchgaedidfefoaa
open Go.RowKit
def eX : En := ⟨[97], 1, 493, [120], []⟩
def eY : En := ⟨[97, 47, 98], 2, 420, [121], []⟩
def eD : En := ⟨[100], 1, 0, [], []⟩
def eF : En := ⟨[97], 2, 0, [], []⟩
theorem okX : EnOk eX := ⟨⟨by decide, by decide⟩, ⟨by decide, by decide⟩, by decide, by decide, by decide⟩
theorem okY : EnOk eY := ⟨⟨by decide, by decide⟩, ⟨by decide, by decide⟩, by decide, by decide, by decide⟩
theorem okD : EnOk eD := ⟨⟨by decide, by decide⟩, ⟨by decide, by decide⟩, by decide, by decide, by decide⟩
theorem okF : EnOk eF := ⟨⟨by decide, by decide⟩, ⟨by decide, by decide⟩, by decide, by decide, by decide⟩
theorem okA : EnOk eA := sam_ok (b := 0) _ (List.mem_cons_self ..)
theorem okC : EnOk eC := sam_ok (b := 0) (eC, .slice none 0 0) (by simp [sampleT])
theorem all1T {p : ET → Prop} {x : ET} (h : p x) : ∀ y ∈ [x], p y := fun y hy => by obtain rfl : y = x := (by simpa using hy); exact h
theorem allCT {p : ET → Prop} {x : ET} {l : List ET} (h : p x) (r : ∀ y ∈ l, p y) : ∀ y ∈ x :: l, p y := fun y hy => by
  rcases List.mem_cons.1 hy with rfl | hy
  · exact h
  · exact r y hy
theorem chk_turned : checkT [eC, eA] = (7, 1) := by kernel_rfl
theorem chk_data : checkT [eX] = (2, 0) := by kernel_rfl
theorem drop_b : dropM sampleE [98] = ([], 6) := by kernel_rfl
theorem put_F : (putM sampleE eF).2 = 6 := by kernel_rfl
theorem diff_known : diffM sampleE [eA, eY, eD] = ([[100]], [[99]], [[97, 47, 98]]) := by kernel_rfl
theorem size_sample : sizeM sampleE = 1 := by kernel_rfl
theorem oth_dat {b : Nat} {w : World} (h : (slc rByte (· = b) (dX b) [121]).φ w) : ∀ y ∈ [(eA, .slice none 0 0), (eY, dX b), (eD, .slice none 0 0)], IsSl rByte (slc rByte (· = b) (dX b) [121]).S w y.2 y.1.data := fun y hy => by
  have : y = (eA, .slice none 0 0) ∨ y = (eY, dX b) ∨ y = (eD, .slice none 0 0) := by simpa using hy
  rcases this with rfl | rfl | rfl
  · exact nil_sl _ _ _
  · exact h
  · exact nil_sl _ _ _
theorem dat_dat {b : Nat} {w : World} (h : (slc rByte (· = b) (dX b) [120]).φ w) : ∀ y ∈ [(eX, dX b)], IsSl rByte (slc rByte (· = b) (dX b) [120]).S w y.2 y.1.data := fun y hy => by
  have : y = (eX, dX b) := by simpa using hy
  subst this
  exact h
theorem may_nilB {w0 : World} {S : Nat → Prop} {m : List Ck} {α : Type} {E : Rdr α} : May w0 S m (slc E (fun _ => False) (.slice none 0 0) []) := .old ⟨nil_sl _ _ _, fun _ h => h.elim⟩
set_option maxRecDepth 20000 in
set_option maxHeartbeats 4000000 in
theorem sampleK_tr : Tr Try.prog 35 #[] [] [] (TX (fun _ : Nat × Nat => True) (fun z => .slice (some ⟨z.1, 0, none⟩) 3 3) (fun z => [blk z.1 31 (flatT (sampleT z.2)), samB z.2])) := by
  refine Tr.of (l := []) Try.func35 rfl (n := 7) rfl Fa.nil (fun w0 hro => ?_)
  refine G.seq ?_
  refine G.region ?_
  refine G.op rfl (G.val rfl rfl (pv_assign rfl) ?_)
  refine G.nil ?_
  refine G.nThen ?_
  refine G.seq ?_
  refine G.region ?_
  refine G.op rfl (G.val rfl rfl (pv_buildSt (z := [.string ⟨#[]⟩, .int .i64 0, .int .i64 0, .slice none 0 0, .string ⟨#[]⟩]) (pl := [(0, 1), (1, 1), (2, 1), (3, 1), (4, 1)]) Try.underlying31 (by kernel_rfl) (by kernel_rfl) rfl (by repeat (first | exact Fl.nil | (apply Fl.cons; exact rfl; (first | exact cells_of (by first | rfl | with_reducible assumption) | exact rfl); exact rfl; exact rfl; repeat (first | exact Sn.nil | (apply Sn.cons; repeat (first | exact St.zero | apply St.succ))))))) ?_)
  refine G.op rfl (G.lit1 (vs := [.int .u8 120]) rfl Try.underlying29 (by kernel_rfl) rfl (by decide) (by decide) rfl rfl ?_)
  intro b2
  refine G.op rfl (G.constB (b := b2) (xs := [120]) rfl Try.underlying29 Try.underlying5 rfl (by decide) (by repeat (first | with_reducible exact Sel.here | exact Sel.here | apply Sel.there)) ?_)
  refine G.op rfl (G.val rfl rfl (pv_buildSt (z := [.string ⟨#[]⟩, .int .i64 0, .int .i64 0, .slice none 0 0, .string ⟨#[]⟩]) (pl := [(0, 1), (1, 1), (2, 1), (3, 1), (4, 1)]) Try.underlying31 (by kernel_rfl) (by kernel_rfl) rfl (by repeat (first | exact Fl.nil | (apply Fl.cons; exact rfl; (first | exact cells_of (by first | rfl | with_reducible assumption) | exact rfl); exact rfl; exact rfl; repeat (first | exact Sn.nil | (apply Sn.cons; repeat (first | exact St.zero | apply St.succ))))))) ?_)
  refine G.op rfl (G.val rfl rfl (pv_buildSt (z := [.string ⟨#[]⟩, .int .i64 0, .int .i64 0, .slice none 0 0, .string ⟨#[]⟩]) (pl := [(0, 1), (1, 1), (2, 1), (3, 1), (4, 1)]) Try.underlying31 (by kernel_rfl) (by kernel_rfl) rfl (by repeat (first | exact Fl.nil | (apply Fl.cons; exact rfl; (first | exact cells_of (by first | rfl | with_reducible assumption) | exact rfl); exact rfl; exact rfl; repeat (first | exact Sn.nil | (apply Sn.cons; repeat (first | exact St.zero | apply St.succ))))))) ?_)
  refine G.op rfl (G.buildSlice (z := .agg #[.string ⟨#[]⟩, .int .i64 0, .int .i64 0, .slice none 0 0, .string ⟨#[]⟩]) (sz := 5) (cs := flatT (sampleT b2)) rfl Try.underlying22 (by kernel_rfl) (by decide) (by decide) rfl (by kernel_rfl) ?_)
  intro b6
  refine G.op rfl (G.val rfl rfl (pv_assign rfl) ?_)
  refine G.nil ?_
  refine G.nThen ?_
  refine G.ret ?_
  exact G.doneX1 ((b6, b2)) (by first | exact trivial | ((try dsimp only); exact trivial)) rfl rfl rfl (by repeat (first | exact Sub.nil | (apply Sub.cons; (repeat (first | with_reducible exact Sel.here | exact Sel.here | apply Sel.there)))))
set_option maxRecDepth 20000 in
set_option maxHeartbeats 4000000 in
theorem tknown : Tr Try.prog 7 #[] [] [] (T0 (.bool true)) := by
  refine Tr.of (l := []) Try.func7 rfl (n := 98) rfl Fa.nil (fun w0 hro => ?_)
  refine G.seq ?_
  refine G.region ?_
  refine G.op rfl (G.val rfl rfl (pv_assign rfl) ?_)
  refine G.nil ?_
  refine G.nThen ?_
  refine G.seq ?_
  refine G.drawT (nn := 9) (p := []) (rem := 511) [0, 1, 1, 4, 4, 16, 19, 79, 255] [0, 1, 0, 4, 0, 16, 2, 8, 32] (by kernel_rfl) ⟨rfl, by kernel_rfl, by kernel_rfl⟩ (by repeat (first | exact Sub.nil | (apply Sub.cons; (repeat (first | with_reducible exact Sel.here | exact Sel.here | apply Sel.there))))) (by kernel_rfl) (fun hT1 => ?_)
  refine G.oneT hT1 (i := 0) (rem' := 510) (by kernel_rfl) (by kernel_rfl) ?_
  refine G.turnOp rfl rfl (G.cS rfl rfl rfl rfl Try.func35 rfl rfl (by repeat (first | exact Sub.nil | (apply Sub.cons; (repeat (first | with_reducible exact Sel.here | exact Sel.here | apply Sel.there))))) may0 (sampleK_tr) (by repeat (first | exact Ap.nil | apply Ap.cons)) ?_)
  intro x12 hJ
  obtain ⟨g12, b12⟩ := x12
  try dsimp only at hJ
  try dsimp only
  refine G.back (by repeat (first | exact Sub.nil | (apply Sub.cons; (repeat (first | with_reducible exact Sel.here | exact Sel.here | apply Sel.there))))) ?_
  refine G.takeT hT1 (i := 1) (rem' := 508) rfl rfl rfl (by kernel_rfl) (fun _ _ _ h => h) rfl (pv_subH (sz := 5) (k := 2) Try.underlying22 (by kernel_rfl) rfl rfl rfl (by omega)) (by repeat (first | exact Sub.nil | (apply Sub.cons; (repeat (first | with_reducible exact Sel.here | exact Sel.here | apply Sel.there))))) ?_
  refine G.oneT hT1 (i := 2) (rem' := 504) (by kernel_rfl) (by kernel_rfl) ?_
  refine G.turnOp rfl rfl (G.cS rfl rfl rfl rfl Try.func35 rfl rfl (by repeat (first | exact Sub.nil | (apply Sub.cons; (repeat (first | with_reducible exact Sel.here | exact Sel.here | apply Sel.there))))) may0 (sampleK_tr) (by repeat (first | exact Ap.nil | apply Ap.cons)) ?_)
  intro x14 hJ
  obtain ⟨g14, b14⟩ := x14
  try dsimp only at hJ
  try dsimp only
  refine G.back (by repeat (first | exact Sub.nil | (apply Sub.cons; (repeat (first | with_reducible exact Sel.here | exact Sel.here | apply Sel.there))))) ?_
  refine G.takeT hT1 (i := 3) (rem' := 496) rfl rfl rfl (by kernel_rfl) (fun _ _ _ h => h) rfl (pv_subH (sz := 5) (k := 1) Try.underlying22 (by kernel_rfl) rfl rfl rfl (by omega)) (by repeat (first | exact Sub.nil | (apply Sub.cons; (repeat (first | with_reducible exact Sel.here | exact Sel.here | apply Sel.there))))) ?_
  refine G.oneT hT1 (i := 4) (rem' := 480) (by kernel_rfl) (by kernel_rfl) ?_
  refine G.turnOp rfl rfl (G.cS rfl rfl rfl rfl Try.func35 rfl rfl (by repeat (first | exact Sub.nil | (apply Sub.cons; (repeat (first | with_reducible exact Sel.here | exact Sel.here | apply Sel.there))))) may0 (sampleK_tr) (by repeat (first | exact Ap.nil | apply Ap.cons)) ?_)
  intro x16 hJ
  obtain ⟨g16, b16⟩ := x16
  try dsimp only at hJ
  try dsimp only
  refine G.back (by repeat (first | exact Sub.nil | (apply Sub.cons; (repeat (first | with_reducible exact Sel.here | exact Sel.here | apply Sel.there))))) ?_
  refine G.takeT hT1 (i := 5) (rem' := 448) rfl rfl rfl (by kernel_rfl) (fun _ _ _ h => h) rfl (pv_subH (sz := 5) (k := 2) Try.underlying22 (by kernel_rfl) rfl rfl rfl (by omega)) (by repeat (first | exact Sub.nil | (apply Sub.cons; (repeat (first | with_reducible exact Sel.here | exact Sel.here | apply Sel.there))))) ?_
  refine G.takeT hT1 (i := 6) (rem' := 384) rfl rfl rfl (by kernel_rfl) (fun _ _ _ h => h) rfl (pv_assign rfl) (by repeat (first | exact Sub.nil | (apply Sub.cons; (repeat (first | with_reducible exact Sel.here | exact Sel.here | apply Sel.there))))) ?_
  refine G.takeT hT1 (i := 7) (rem' := 256) rfl rfl rfl (by kernel_rfl) (fun _ _ _ h => h) rfl (pv_assign rfl) (by repeat (first | exact Sub.nil | (apply Sub.cons; (repeat (first | with_reducible exact Sel.here | exact Sel.here | apply Sel.there))))) ?_
  refine G.takeT hT1 (i := 8) (rem' := 0) rfl rfl rfl (by kernel_rfl) (fun _ _ _ h => h) rfl (pv_assign rfl) (by repeat (first | exact Sub.nil | (apply Sub.cons; (repeat (first | with_reducible exact Sel.here | exact Sel.here | apply Sel.there))))) ?_
  refine G.overT hT1 (by kernel_rfl) ?_
  refine G.nThen ?_
  refine G.seq ?_
  refine G.drawT (nn := 12) (p := [blk g12 _ _]) (rem := 4095) [0, 0, 0, 4, 8, 4, 32, 64, 189, 445, 1023, 2047] [0, 0, 0, 4, 8, 0, 32, 64, 1, 272, 2, 1152] (by kernel_rfl) ⟨rfl, by kernel_rfl, by kernel_rfl⟩ (by repeat (first | exact Sub.nil | (apply Sub.cons; (repeat (first | with_reducible exact Sel.here | exact Sel.here | apply Sel.there))))) (by kernel_rfl) (fun hT2 => ?_)
  refine G.takeT hT2 (i := 0) (rem' := 4094) rfl rfl rfl (by kernel_rfl) (fun _ _ _ h => h) rfl (pv_move rfl) (by repeat (first | exact Sub.nil | (apply Sub.cons; (repeat (first | with_reducible exact Sel.here | exact Sel.here | apply Sel.there))))) ?_
  refine G.takeT hT2 (i := 1) (rem' := 4092) rfl rfl rfl (by kernel_rfl) (fun _ _ _ h => h) rfl (pv_move rfl) (by repeat (first | exact Sub.nil | (apply Sub.cons; (repeat (first | with_reducible exact Sel.here | exact Sel.here | apply Sel.there))))) ?_
  refine G.oneT hT2 (i := 2) (rem' := 4088) (by kernel_rfl) (by kernel_rfl) ?_
  refine G.turnOp rfl rfl (G.cS rfl rfl rfl rfl Try.func35 rfl rfl (by repeat (first | exact Sub.nil | (apply Sub.cons; (repeat (first | with_reducible exact Sel.here | exact Sel.here | apply Sel.there))))) may0 (sampleK_tr) (by repeat (first | exact Ap.nil | apply Ap.cons)) ?_)
  intro x20 hJ
  obtain ⟨g20, b20⟩ := x20
  try dsimp only at hJ
  try dsimp only
  refine G.back (by repeat (first | exact Sub.nil | (apply Sub.cons; (repeat (first | with_reducible exact Sel.here | exact Sel.here | apply Sel.there))))) ?_
  refine G.upT (p := [blk g12 _ _]) (by repeat (first | exact Sub.nil | (apply Sub.cons; (repeat (first | with_reducible exact Sel.here | exact Sel.here | apply Sel.there))))) (by repeat (first | exact Sub.nil | (apply Sub.cons; (repeat (first | with_reducible exact Sel.here | exact Sel.here | apply Sel.there))))) ?_
  refine G.takeT hT2 (i := 3) (rem' := 4080) rfl rfl rfl (by kernel_rfl) (fun _ _ _ h => h) rfl (pv_ixSl (sz := 5) (k := 2) Try.underlying22 (by kernel_rfl) rfl rfl (fun _ => rfl) (by omega) (by omega)) (by repeat (first | exact Sub.nil | (apply Sub.cons; (repeat (first | with_reducible exact Sel.here | exact Sel.here | apply Sel.there))))) ?_
  refine G.takeT hT2 (i := 4) (rem' := 4064) rfl rfl rfl (by kernel_rfl) (fun _ _ _ h => h) rfl (pv_loadN (cs := evC (eC, .slice none 0 0)) Try.underlying31 rfl (by kernel_rfl) rfl (by exact blk_range (k := 5) (by (repeat (first | with_reducible exact Sel.here | exact Sel.here | apply Sel.there)); done) (by rfl))) (by repeat (first | exact Sub.nil | (apply Sub.cons; (repeat (first | with_reducible exact Sel.here | exact Sel.here | apply Sel.there))))) ?_
  refine G.oneT hT2 (i := 5) (rem' := 4032) (by kernel_rfl) (by kernel_rfl) ?_
  refine G.turnOp rfl rfl (G.cS rfl rfl rfl rfl Try.func35 rfl rfl (by repeat (first | exact Sub.nil | (apply Sub.cons; (repeat (first | with_reducible exact Sel.here | exact Sel.here | apply Sel.there))))) may0 (sampleK_tr) (by repeat (first | exact Ap.nil | apply Ap.cons)) ?_)
  intro x23 hJ
  obtain ⟨g23, b23⟩ := x23
  try dsimp only at hJ
  try dsimp only
  refine G.back (by repeat (first | exact Sub.nil | (apply Sub.cons; (repeat (first | with_reducible exact Sel.here | exact Sel.here | apply Sel.there))))) ?_
  refine G.upT (p := [blk g12 _ _]) (by repeat (first | exact Sub.nil | (apply Sub.cons; (repeat (first | with_reducible exact Sel.here | exact Sel.here | apply Sel.there))))) (by repeat (first | exact Sub.nil | (apply Sub.cons; (repeat (first | with_reducible exact Sel.here | exact Sel.here | apply Sel.there))))) ?_
  refine G.takeT hT2 (i := 6) (rem' := 3968) rfl rfl rfl (by kernel_rfl) (fun _ _ _ h => h) rfl (pv_ixSl (sz := 5) (k := 0) Try.underlying22 (by kernel_rfl) rfl rfl (fun _ => rfl) (by omega) (by omega)) (by repeat (first | exact Sub.nil | (apply Sub.cons; (repeat (first | with_reducible exact Sel.here | exact Sel.here | apply Sel.there))))) ?_
  refine G.oneT hT2 (i := 7) (rem' := 3840) (by kernel_rfl) (by kernel_rfl) ?_
  refine G.turnOp rfl rfl (G.val rfl rfl (pv_loadN (cs := evC (eA, .slice none 0 0)) Try.underlying31 rfl (by kernel_rfl) rfl (by exact blk_range (k := 5) (by (repeat (first | with_reducible exact Sel.here | exact Sel.here | apply Sel.there)); done) (by rfl))) ?_)
  refine G.back (by repeat (first | exact Sub.nil | (apply Sub.cons; (repeat (first | with_reducible exact Sel.here | exact Sel.here | apply Sel.there))))) ?_
  refine G.takeT hT2 (i := 8) (rem' := 3584) rfl rfl rfl (by kernel_rfl) (fun _ _ _ h => h) rfl (pv_ixSl (sz := 5) (k := 0) Try.underlying22 (by kernel_rfl) rfl rfl (fun _ => rfl) (by omega) (by omega)) (by repeat (first | exact Sub.nil | (apply Sub.cons; (repeat (first | with_reducible exact Sel.here | exact Sel.here | apply Sel.there))))) ?_
  refine G.oneT hT2 (i := 9) (rem' := 3072) (by kernel_rfl) (by kernel_rfl) ?_
  refine G.turnOp rfl rfl (G.storeN (vs := evC (eC, .slice none 0 0)) (by kernel_rfl) rfl rfl (by rfl) (by repeat (first | with_reducible exact Sel.here | exact Sel.here | apply Sel.there)) (Nat.le_of_ble_eq_true rfl) ?_)
  rw [show putN (flatT (sampleT b12)) (0 + 0 * 5) (evC (eC, .slice none 0 0)) = flatT [(eC, .slice none 0 0), (eB, dX b12), (eC, .slice none 0 0)] from rfl]
  refine G.back (by repeat (first | exact Sub.nil | (apply Sub.cons; (repeat (first | with_reducible exact Sel.here | exact Sel.here | apply Sel.there))))) ?_
  refine G.takeT hT2 (i := 10) (rem' := 2048) rfl rfl rfl (by kernel_rfl) (fun _ _ _ h => h) rfl (pv_ixSl (sz := 5) (k := 1) Try.underlying22 (by kernel_rfl) rfl rfl (fun _ => rfl) (by omega) (by omega)) (by repeat (first | exact Sub.nil | (apply Sub.cons; (repeat (first | with_reducible exact Sel.here | exact Sel.here | apply Sel.there))))) ?_
  refine G.oneT hT2 (i := 11) (rem' := 0) (by kernel_rfl) (by kernel_rfl) ?_
  refine G.turnOp rfl rfl (G.storeN (vs := evC (eA, .slice none 0 0)) (by kernel_rfl) rfl rfl (by rfl) (by repeat (first | with_reducible exact Sel.here | exact Sel.here | apply Sel.there)) (Nat.le_of_ble_eq_true rfl) ?_)
  rw [show putN (flatT [(eC, .slice none 0 0), (eB, dX b12), (eC, .slice none 0 0)]) (0 + 1 * 5) (evC (eA, .slice none 0 0)) = flatT [(eC, .slice none 0 0), (eA, .slice none 0 0), (eC, .slice none 0 0)] from rfl]
  refine G.back (by repeat (first | exact Sub.nil | (apply Sub.cons; (repeat (first | with_reducible exact Sel.here | exact Sel.here | apply Sel.there))))) ?_
  refine G.overT hT2 (by kernel_rfl) ?_
  refine G.nThen ?_
  refine G.seq ?_
  refine G.region ?_
  refine G.op rfl (G.val rfl rfl (pv_move rfl) ?_)
  refine G.op rfl (G.lit1 (vs := [.int .u8 120]) rfl Try.underlying29 (by kernel_rfl) rfl (by decide) (by decide) rfl rfl ?_)
  intro b29
  refine G.op rfl (G.constB (b := b29) (xs := [120]) rfl Try.underlying29 Try.underlying5 rfl (by decide) (by repeat (first | with_reducible exact Sel.here | exact Sel.here | apply Sel.there)) ?_)
  rw [show ([120] : List UInt8).length = 1 from rfl]
  rw [show flatT [(eC, .slice none 0 0), (eA, .slice none 0 0), (eC, .slice none 0 0)] = flatT [(eC, .slice none 0 0), (eA, .slice none 0 0)] ++ flatT [(eC, .slice none 0 0)] from rfl]
  refine G.ownOf (sz := 5) (k := 2) (cap := 3) (cs := flatT [(eC, .slice none 0 0), (eA, .slice none 0 0)]) (sp := flatT [(eC, .slice none 0 0)]) (by repeat (first | with_reducible exact Sel.here | exact Sel.here | apply Sel.there)) rfl (by omega) (by omega) rfl ?_
  rw [show own 31 5 (.slice (some ⟨g12, 0, none⟩) 2 3) 2 (flatT [(eC, .slice none 0 0), (eA, .slice none 0 0)]) = ownT 31 (.slice (some ⟨g12, 0, none⟩) 2 3) [(eC, .slice none 0 0), (eA, .slice none 0 0)] from rfl]
  refine G.op rfl (G.val rfl rfl (pv_ixSl (sz := 5) (k := 0) Try.underlying22 (by kernel_rfl) rfl rfl (fun _ => rfl) (by omega) (by omega)) ?_)
  refine G.op rfl (G.val rfl rfl (pv_fieldAddrK (sz := 0) (k := 3) Try.underlying31 rfl (by kernel_rfl) rfl rfl) ?_)
  refine G.op rfl (G.store (by kernel_rfl) rfl rfl (by rfl) (by repeat (first | with_reducible exact Sel.here | exact Sel.here | apply Sel.there)) (Nat.le_of_ble_eq_true rfl) ?_)
  rw [show (flatT (sampleT b14)).set (0 + 0 * 5 + 3) (.slice (some ⟨b29, 0, none⟩) 1 1) = flatT [(eX, dX b29)] ++ flatT [(eB, dX b14), (eC, .slice none 0 0)] from rfl]
  refine G.ownOf (sz := 5) (k := 1) (cap := 3) (cs := flatT [(eX, dX b29)]) (sp := flatT [(eB, dX b14), (eC, .slice none 0 0)]) (by repeat (first | with_reducible exact Sel.here | exact Sel.here | apply Sel.there)) rfl (by omega) (by omega) rfl ?_
  rw [show own 31 5 (.slice (some ⟨g14, 0, none⟩) 1 3) 1 (flatT [(eX, dX b29)]) = ownT 31 (.slice (some ⟨g14, 0, none⟩) 1 3) [(eX, dX b29)] from rfl]
  refine G.nil ?_
  refine G.nThen ?_
  refine G.seq ?_
  refine G.region ?_
  refine G.op rfl (G.val rfl rfl (pv_move rfl) ?_)
  refine G.op rfl (G.lit1 (vs := [.int .u8 121]) rfl Try.underlying29 (by kernel_rfl) rfl (by decide) (by decide) rfl rfl ?_)
  intro b34
  refine G.op rfl (G.constB (b := b34) (xs := [121]) rfl Try.underlying29 Try.underlying5 rfl (by decide) (by repeat (first | with_reducible exact Sel.here | exact Sel.here | apply Sel.there)) ?_)
  rw [show ([121] : List UInt8).length = 1 from rfl]
  refine G.op rfl (G.val rfl rfl (pv_ixSl (sz := 5) (k := 1) Try.underlying22 (by kernel_rfl) rfl rfl (fun _ => rfl) (by omega) (by omega)) ?_)
  refine G.op rfl (G.val rfl rfl (pv_fieldAddrK (sz := 0) (k := 3) Try.underlying31 rfl (by kernel_rfl) rfl rfl) ?_)
  refine G.op rfl (G.store (by kernel_rfl) rfl rfl (by rfl) (by repeat (first | with_reducible exact Sel.here | exact Sel.here | apply Sel.there)) (Nat.le_of_ble_eq_true rfl) ?_)
  rw [show (flatT (sampleT b16)).set (0 + 1 * 5 + 3) (.slice (some ⟨b34, 0, none⟩) 1 1) = flatT [(eA, .slice none 0 0), (eY, dX b34)] ++ flatT [(eC, .slice none 0 0)] from rfl]
  refine G.ownOf (sz := 5) (k := 2) (cap := 3) (cs := flatT [(eA, .slice none 0 0), (eY, dX b34)]) (sp := flatT [(eC, .slice none 0 0)]) (by repeat (first | with_reducible exact Sel.here | exact Sel.here | apply Sel.there)) rfl (by omega) (by omega) rfl ?_
  rw [show own 31 5 (.slice (some ⟨g16, 0, none⟩) 2 3) 2 (flatT [(eA, .slice none 0 0), (eY, dX b34)]) = ownT 31 (.slice (some ⟨g16, 0, none⟩) 2 3) [(eA, .slice none 0 0), (eY, dX b34)] from rfl]
  refine G.nil ?_
  refine G.nThen ?_
  refine G.seq ?_
  refine G.region ?_
  refine G.op rfl (G.val rfl rfl (pv_move rfl) ?_)
  refine G.op rfl (G.val rfl rfl (pv_buildSt (z := [.string ⟨#[]⟩, .int .i64 0, .int .i64 0, .slice none 0 0, .string ⟨#[]⟩]) (pl := [(0, 1), (1, 1), (2, 1), (3, 1), (4, 1)]) Try.underlying31 (by kernel_rfl) (by kernel_rfl) rfl (by repeat (first | exact Fl.nil | (apply Fl.cons; exact rfl; (first | exact cells_of (by first | rfl | with_reducible assumption) | exact rfl); exact rfl; exact rfl; repeat (first | exact Sn.nil | (apply Sn.cons; repeat (first | exact St.zero | apply St.succ))))))) ?_)
  refine G.op rfl (G.buildSlice (z := .agg #[.string ⟨#[]⟩, .int .i64 0, .int .i64 0, .slice none 0 0, .string ⟨#[]⟩]) (sz := 5) (cs := evC (eD, (.slice none 0 0))) rfl Try.underlying22 (by kernel_rfl) (by decide) (by decide) rfl (by kernel_rfl) ?_)
  intro b40
  refine G.op rfl (G.append (k := 2) (j := 1) (cs := flatT [(eA, .slice none 0 0), (eY, dX b34)]) (news := evC (eD, .slice none 0 0)) (b := b40) (off := 0) rfl Try.underlying22 Try.infoEn' rfl rfl rfl (by repeat (first | with_reducible exact Sel.here | exact Sel.here | apply Sel.there)) (fun _ => rfl) (fun h => by cases h) rfl (blk_news (k := 5) (by repeat (first | with_reducible exact Sel.here | exact Sel.here | apply Sel.there)) rfl) (evC_one rfl) (by omega) (by omega) ?_)
  intro v41
  rw [show own 31 5 v41 (2 + 1) (flatT [(eA, .slice none 0 0), (eY, dX b34)] ++ evC (eD, .slice none 0 0)) = ownT 31 v41 [(eA, .slice none 0 0), (eY, dX b34), (eD, .slice none 0 0)] from rfl]
  refine G.op rfl (G.val rfl rfl (pv_assign rfl) ?_)
  refine G.nil ?_
  refine G.nThen ?_
  refine G.seq ?_
  refine G.region ?_
  refine G.op rfl (G.cS rfl rfl rfl rfl Try.func35 rfl rfl (by repeat (first | exact Sub.nil | (apply Sub.cons; (repeat (first | with_reducible exact Sel.here | exact Sel.here | apply Sel.there))))) may0 (sample_tr) (by repeat (first | exact Ap.nil | apply Ap.cons)) ?_)
  intro x43 hJ
  obtain ⟨g43, b43⟩ := x43
  try dsimp only at hJ
  try dsimp only
  refine G.op rfl (G.cS rfl rfl rfl rfl Try.func32 rfl rfl (by repeat (first | exact Sub.nil | (apply Sub.cons; (repeat (first | with_reducible exact Sel.here | exact Sel.here | apply Sel.there))))) (may1 (may_treeC (c := samB b43) (by repeat (first | with_reducible exact Sel.here | exact Sel.here | apply Sel.there)) (by repeat (first | with_reducible exact Sel.here | exact Sel.here | apply Sel.there)) sam_ok (fun w h => sam_dat h))) (drop_tr _ (sampleT b43) [98] (by decide)) (by repeat (first | exact Ap.nil | apply Ap.cons)) ?_)
  intro x44 hJ
  obtain ⟨dv, ds⟩ := x44
  try dsimp only at hJ
  try dsimp only
  rw [sampleT_ens, drop_b] at hJ ⊢
  refine G.op rfl (G.val rfl rfl (pv_move rfl) ?_)
  refine G.op rfl (G.val rfl rfl (pv_extract rfl rfl) ?_)
  refine G.op rfl (G.val rfl rfl (pv_extract rfl rfl) ?_)
  refine G.op rfl (G.val rfl rfl (pv_assign rfl) ?_)
  refine G.op rfl (G.val rfl rfl (pv_assign rfl) ?_)
  refine G.nil ?_
  refine G.nThen ?_
  refine G.seq ?_
  refine G.region ?_
  refine G.op rfl (G.cS rfl rfl rfl rfl Try.func35 rfl rfl (by repeat (first | exact Sub.nil | (apply Sub.cons; (repeat (first | with_reducible exact Sel.here | exact Sel.here | apply Sel.there))))) may0 (sample_tr) (by repeat (first | exact Ap.nil | apply Ap.cons)) ?_)
  intro x48 hJ
  obtain ⟨g48, b48⟩ := x48
  try dsimp only at hJ
  try dsimp only
  refine G.op rfl (G.val rfl rfl (pv_buildSt (z := [.string ⟨#[]⟩, .int .i64 0, .int .i64 0, .slice none 0 0, .string ⟨#[]⟩]) (pl := [(0, 1), (1, 1), (2, 1), (3, 1), (4, 1)]) Try.underlying31 (by kernel_rfl) (by kernel_rfl) rfl (by repeat (first | exact Fl.nil | (apply Fl.cons; exact rfl; (first | exact cells_of (by first | rfl | with_reducible assumption) | exact rfl); exact rfl; exact rfl; repeat (first | exact Sn.nil | (apply Sn.cons; repeat (first | exact St.zero | apply St.succ))))))) ?_)
  refine G.op rfl (G.cS rfl rfl rfl rfl Try.func30 rfl rfl (by repeat (first | exact Sub.nil | (apply Sub.cons; (repeat (first | with_reducible exact Sel.here | exact Sel.here | apply Sel.there))))) (may2 (may_treeC (c := samB b48) (by repeat (first | with_reducible exact Sel.here | exact Sel.here | apply Sel.there)) (by repeat (first | with_reducible exact Sel.here | exact Sel.here | apply Sel.there)) sam_ok (fun w h => sam_dat h)) may_nilB) (put_tr _ (sampleT b48) eF (.slice none 0 0) okF) (by repeat (first | exact Ap.nil | apply Ap.cons)) ?_)
  intro x50 hJ
  obtain ⟨pv, ps⟩ := x50
  try dsimp only at hJ
  try dsimp only
  rw [sampleT_ens, put_F]
  refine G.op rfl (G.val rfl rfl (pv_move rfl) ?_)
  refine G.op rfl (G.val rfl rfl (pv_extract rfl rfl) ?_)
  refine G.op rfl (G.val rfl rfl (pv_extract rfl rfl) ?_)
  refine G.op rfl (G.val rfl rfl (pv_assign rfl) ?_)
  refine G.op rfl (G.val rfl rfl (pv_assign rfl) ?_)
  refine G.nil ?_
  refine G.nThen ?_
  refine G.seq ?_
  refine G.region ?_
  refine G.op rfl (G.cS rfl rfl rfl rfl Try.func35 rfl rfl (by repeat (first | exact Sub.nil | (apply Sub.cons; (repeat (first | with_reducible exact Sel.here | exact Sel.here | apply Sel.there))))) may0 (sample_tr) (by repeat (first | exact Ap.nil | apply Ap.cons)) ?_)
  intro x54 hJ
  obtain ⟨g54, b54⟩ := x54
  try dsimp only at hJ
  try dsimp only
  refine G.op rfl (G.val rfl rfl (pv_move rfl) ?_)
  refine G.op rfl (G.cS rfl rfl rfl rfl Try.func25 rfl rfl (by repeat (first | exact Sub.nil | (apply Sub.cons; (repeat (first | with_reducible exact Sel.here | exact Sel.here | apply Sel.there))))) (may2 (may_treeC (c := samB b54) (by repeat (first | with_reducible exact Sel.here | exact Sel.here | apply Sel.there)) (by repeat (first | with_reducible exact Sel.here | exact Sel.here | apply Sel.there)) sam_ok (fun w h => sam_dat h)) (may_treeC (c := slc rByte (· = b34) (dX b34) [121]) (by repeat (first | with_reducible exact Sel.here | exact Sel.here | apply Sel.there)) (by repeat (first | with_reducible exact Sel.here | exact Sel.here | apply Sel.there)) (allCT okA (allCT okY (all1T okD))) (fun w h => oth_dat h))) (diff_tr _ _ (sampleT b54) [(eA, .slice none 0 0), (eY, dX b34), (eD, .slice none 0 0)]) (by repeat (first | exact Ap.nil | apply Ap.cons)) ?_)
  intro x56 hJ
  obtain ⟨d1, d2, d3⟩ := x56
  try dsimp only at hJ
  try dsimp only
  rw [show diffM (ens (sampleT b54)) (ens [(eA, .slice none 0 0), (eY, dX b34), (eD, .slice none 0 0)]) = ([[100]], [[99]], [[97, 47, 98]]) from diff_known]
  dsimp only
  refine G.op rfl (G.val rfl rfl (pv_move rfl) ?_)
  refine G.op rfl (G.val rfl rfl (pv_extract rfl rfl) ?_)
  refine G.op rfl (G.val rfl rfl (pv_extract rfl rfl) ?_)
  refine G.op rfl (G.val rfl rfl (pv_extract rfl rfl) ?_)
  refine G.op rfl (G.val rfl rfl (pv_assign rfl) ?_)
  refine G.op rfl (G.val rfl rfl (pv_assign rfl) ?_)
  refine G.op rfl (G.val rfl rfl (pv_assign rfl) ?_)
  refine G.nil ?_
  refine G.nThen ?_
  refine G.seq ?_
  refine G.region ?_
  refine G.op rfl (G.val rfl rfl (pv_move rfl) ?_)
  refine G.op rfl (G.cR rfl rfl rfl rfl Try.func36 rfl rfl (may1 (may_treeC (c := samB b12) (by repeat (first | with_reducible exact Sel.here | exact Sel.here | apply Sel.there)) (by repeat (first | with_reducible exact Sel.here | exact Sel.here | apply Sel.there)) (allCT okC (all1T okA)) (fun w h => allCT (p := fun y => IsSl rByte _ w y.2 y.1.data) (nil_sl _ _ _) (all1T (nil_sl _ _ _))))) (lfails_yes _ [(eC, .slice none 0 0), (eA, .slice none 0 0)] 7 1 chk_turned) ?_)
  refine G.op rfl (G.val rfl rfl (pv_move rfl) ?_)
  refine G.want rfl rfl rfl (G.val rfl rfl (pv_move rfl) ?_)
  refine G.want rfl rfl rfl (G.cR rfl rfl rfl rfl Try.func36 rfl rfl (may1 (may_treeC (c := slc rByte (· = b29) (dX b29) [120]) (by repeat (first | with_reducible exact Sel.here | exact Sel.here | apply Sel.there)) (by repeat (first | with_reducible exact Sel.here | exact Sel.here | apply Sel.there)) (all1T okX) (fun w h => dat_dat h))) (lfails_yes _ [(eX, dX b29)] 2 0 chk_data) ?_)
  refine G.op rfl (G.val rfl rfl (pv_pick rfl rfl) ?_)
  refine G.op rfl (G.val rfl rfl (pv_move rfl) ?_)
  refine G.want rfl rfl rfl (G.val rfl rfl (pv_move rfl) ?_)
  refine G.want rfl rfl rfl (G.val rfl rfl ((pv_eql rfl rfl).cast (v' := .bool true) (congrArg Value.bool (by simp))) ?_)
  refine G.op rfl (G.val rfl rfl (pv_pick rfl rfl) ?_)
  refine G.op rfl (G.val rfl rfl (pv_move rfl) ?_)
  refine G.want rfl rfl rfl (G.val rfl rfl (pv_move rfl) ?_)
  refine G.want rfl rfl rfl (G.val rfl rfl ((pv_eql rfl rfl).cast (v' := .bool true) (congrArg Value.bool (by simp))) ?_)
  refine G.op rfl (G.val rfl rfl (pv_pick rfl rfl) ?_)
  refine G.op rfl (G.val rfl rfl (pv_move rfl) ?_)
  refine G.want rfl rfl rfl (G.cS rfl rfl rfl rfl Try.func35 rfl rfl (by repeat (first | exact Sub.nil | (apply Sub.cons; (repeat (first | with_reducible exact Sel.here | exact Sel.here | apply Sel.there))))) may0 (sample_tr) (by repeat (first | exact Ap.nil | apply Ap.cons)) ?_)
  intro x75 hJ
  obtain ⟨g75, b75⟩ := x75
  try dsimp only at hJ
  try dsimp only
  refine G.want rfl rfl rfl (G.cR rfl rfl rfl rfl Try.func22 rfl rfl (may1 (may_treeC (c := samB b75) (by repeat (first | with_reducible exact Sel.here | exact Sel.here | apply Sel.there)) (by repeat (first | with_reducible exact Sel.here | exact Sel.here | apply Sel.there)) sam_ok (fun w h => sam_dat h))) (size_tr _ (sampleT b75) (by show 3 ≤ 1000; omega)) ?_)
  rw [sampleT_ens, size_sample]
  refine G.want rfl rfl rfl (G.val rfl rfl ((pv_eql rfl rfl).cast (v' := .bool true) (congrArg Value.bool (by simp))) ?_)
  refine G.op rfl (G.val rfl rfl (pv_pick rfl rfl) ?_)
  refine G.op rfl (G.val rfl rfl (pv_assign rfl) ?_)
  refine G.nil ?_
  refine G.nThen ?_
  refine G.seq ?_
  refine G.region ?_
  refine G.op rfl (G.cR rfl rfl rfl rfl Try.func10 rfl rfl may0 (awake_tr) ?_)
  refine G.op rfl (G.val rfl rfl (pv_move rfl) ?_)
  refine G.want rfl rfl rfl (G.val rfl rfl (pv_move rfl) ?_)
  refine G.op rfl (G.val rfl rfl (pv_pick rfl rfl) ?_)
  refine G.op rfl (G.val rfl rfl (pv_move rfl) ?_)
  refine G.want rfl rfl rfl (G.val rfl rfl (pv_move rfl) ?_)
  refine G.want rfl rfl rfl (G.lit1 (vs := [vStr [100]]) rfl Try.underlying44 (by kernel_rfl) rfl (by decide) (by decide) rfl rfl ?_)
  intro b85
  refine G.ownBlk (b := b85) (k := 1) (sz := 1) (by repeat (first | with_reducible exact Sel.here | exact Sel.here | apply Sel.there)) rfl (by omega) ?_
  refine G.want rfl rfl rfl (G.cR rfl rfl rfl rfl Try.func27 rfl rfl (may2 (by first | (apply May.old; first | with_reducible assumption | assumption) | (apply Sel.may; (repeat (first | with_reducible exact Sel.here | exact Sel.here | apply Sel.there)); done) | (apply may_own; (repeat (first | with_reducible exact Sel.here | exact Sel.here | apply Sel.there)); exact rfl; exact (fun _ _ => trivial); done) | (apply may_ownB; (repeat (first | with_reducible exact Sel.here | exact Sel.here | apply Sel.there)); done) | (apply may_tree; (repeat (first | with_reducible exact Sel.here | exact Sel.here | apply Sel.there)); (repeat (first | with_reducible exact Sel.here | exact Sel.here | apply Sel.there)); assumption; done)) (by first | (apply May.old; first | with_reducible assumption | assumption) | (apply Sel.may; (repeat (first | with_reducible exact Sel.here | exact Sel.here | apply Sel.there)); done) | (apply may_own; (repeat (first | with_reducible exact Sel.here | exact Sel.here | apply Sel.there)); exact rfl; exact (fun _ _ => trivial); done) | (apply may_ownB; (repeat (first | with_reducible exact Sel.here | exact Sel.here | apply Sel.there)); done) | (apply may_tree; (repeat (first | with_reducible exact Sel.here | exact Sel.here | apply Sel.there)); (repeat (first | with_reducible exact Sel.here | exact Sel.here | apply Sel.there)); assumption; done))) (texts_yes _ _ [[100]]) ?_)
  refine G.op rfl (G.val rfl rfl (pv_pick rfl rfl) ?_)
  refine G.op rfl (G.val rfl rfl (pv_move rfl) ?_)
  refine G.want rfl rfl rfl (G.val rfl rfl (pv_move rfl) ?_)
  refine G.want rfl rfl rfl (G.lit1 (vs := [vStr [99]]) rfl Try.underlying44 (by kernel_rfl) rfl (by decide) (by decide) rfl rfl ?_)
  intro b90
  refine G.ownBlk (b := b90) (k := 1) (sz := 1) (by repeat (first | with_reducible exact Sel.here | exact Sel.here | apply Sel.there)) rfl (by omega) ?_
  refine G.want rfl rfl rfl (G.cR rfl rfl rfl rfl Try.func27 rfl rfl (may2 (by first | (apply May.old; first | with_reducible assumption | assumption) | (apply Sel.may; (repeat (first | with_reducible exact Sel.here | exact Sel.here | apply Sel.there)); done) | (apply may_own; (repeat (first | with_reducible exact Sel.here | exact Sel.here | apply Sel.there)); exact rfl; exact (fun _ _ => trivial); done) | (apply may_ownB; (repeat (first | with_reducible exact Sel.here | exact Sel.here | apply Sel.there)); done) | (apply may_tree; (repeat (first | with_reducible exact Sel.here | exact Sel.here | apply Sel.there)); (repeat (first | with_reducible exact Sel.here | exact Sel.here | apply Sel.there)); assumption; done)) (by first | (apply May.old; first | with_reducible assumption | assumption) | (apply Sel.may; (repeat (first | with_reducible exact Sel.here | exact Sel.here | apply Sel.there)); done) | (apply may_own; (repeat (first | with_reducible exact Sel.here | exact Sel.here | apply Sel.there)); exact rfl; exact (fun _ _ => trivial); done) | (apply may_ownB; (repeat (first | with_reducible exact Sel.here | exact Sel.here | apply Sel.there)); done) | (apply may_tree; (repeat (first | with_reducible exact Sel.here | exact Sel.here | apply Sel.there)); (repeat (first | with_reducible exact Sel.here | exact Sel.here | apply Sel.there)); assumption; done))) (texts_yes _ _ [[99]]) ?_)
  refine G.op rfl (G.val rfl rfl (pv_pick rfl rfl) ?_)
  refine G.op rfl (G.val rfl rfl (pv_move rfl) ?_)
  refine G.want rfl rfl rfl (G.val rfl rfl (pv_move rfl) ?_)
  refine G.want rfl rfl rfl (G.lit1 (vs := [vStr [97, 47, 98]]) rfl Try.underlying44 (by kernel_rfl) rfl (by decide) (by decide) rfl rfl ?_)
  intro b95
  refine G.ownBlk (b := b95) (k := 1) (sz := 1) (by repeat (first | with_reducible exact Sel.here | exact Sel.here | apply Sel.there)) rfl (by omega) ?_
  refine G.want rfl rfl rfl (G.cR rfl rfl rfl rfl Try.func27 rfl rfl (may2 (by first | (apply May.old; first | with_reducible assumption | assumption) | (apply Sel.may; (repeat (first | with_reducible exact Sel.here | exact Sel.here | apply Sel.there)); done) | (apply may_own; (repeat (first | with_reducible exact Sel.here | exact Sel.here | apply Sel.there)); exact rfl; exact (fun _ _ => trivial); done) | (apply may_ownB; (repeat (first | with_reducible exact Sel.here | exact Sel.here | apply Sel.there)); done) | (apply may_tree; (repeat (first | with_reducible exact Sel.here | exact Sel.here | apply Sel.there)); (repeat (first | with_reducible exact Sel.here | exact Sel.here | apply Sel.there)); assumption; done)) (by first | (apply May.old; first | with_reducible assumption | assumption) | (apply Sel.may; (repeat (first | with_reducible exact Sel.here | exact Sel.here | apply Sel.there)); done) | (apply may_own; (repeat (first | with_reducible exact Sel.here | exact Sel.here | apply Sel.there)); exact rfl; exact (fun _ _ => trivial); done) | (apply may_ownB; (repeat (first | with_reducible exact Sel.here | exact Sel.here | apply Sel.there)); done) | (apply may_tree; (repeat (first | with_reducible exact Sel.here | exact Sel.here | apply Sel.there)); (repeat (first | with_reducible exact Sel.here | exact Sel.here | apply Sel.there)); assumption; done))) (texts_yes _ _ [[97, 47, 98]]) ?_)
  refine G.op rfl (G.val rfl rfl (pv_pick rfl rfl) ?_)
  refine G.op rfl (G.val rfl rfl (pv_assign rfl) ?_)
  refine G.nil ?_
  refine G.nThen ?_
  refine G.ret ?_
  exact G.done0G rfl (Rv.tmp rfl Rv.nil) (by first | rfl | exact int_eq (by omega) | (simp; done))
end Go.Proofs.Ytchgaedidfefoaa

set_option linter.unusedVariables false
set_option linter.unusedSimpArgs false
namespace Go.Proofs.Ytchgaedidfefoaa
open Go.RowKit
theorem filt_nil {p : En → Bool} {l : List En} (h : ∀ x ∈ l, p x = false) : l.filter p = [] := List.filter_eq_nil_iff.2 fun x hx => by rw [h x hx]; simp
theorem News.str {w : World} {b off : Nat} {xs : List (List UInt8)} (h : News w b off (xs.map vStr)) (i : Nat) (hi : i < xs.length) : w.cell? ⟨b, off + i * 1, none⟩ = some (.string (sB xs[i])) := by
  have := h i (vStr xs[i]) (by rw [List.getElem?_map, List.getElem?_eq_getElem hi]; rfl)
  rw [show off + i * 1 = off + i by omega]
  exact this
end Go.Proofs.Ytchgaedidfefoaa

set_option linter.unusedVariables false
set_option linter.unusedSimpArgs false
namespace Go.Proofs.Ytchgaedidfefoaa
open Go.RowKit
/-- a tree that may be, as a set of entries in order -/
structure Good (es : List En) : Prop where
  len : es.length ≤ 200
  sort : SortT es
  one : ∀ x ∈ es, oneM x = 0
  par : ∀ x ∈ es, (parentM x.path).2 = true → ∃ p ∈ es, p.path = (parentM x.path).1 ∧ p.kind = 1
theorem idx_lt {es : List En} (hs : SortT es) {i j : Nat} (hi : i < es.length) (hj : j < es.length) (h : compareM es[i].path es[j].path = -1) : i < j := by
  rcases Nat.lt_trichotomy i j with h1 | h1 | h1
  · exact h1
  · subst h1
    have := (compareM_ord.zero es[i].path es[i].path).2 rfl
    omega
  · have h2 := (List.pairwise_iff_getElem.1 hs) j i hj hi h1
    have := compareM_ord.anti es[i].path es[j].path
    omega
theorem good_of {es : List En} (h : (checkT es).1 = 0) : Good es := by
  obtain ⟨h1, h2, _⟩ := checkT_zero h
  refine ⟨h1, sort_all h2, fun x hx => ?_, fun x hx hp => ?_⟩
  · obtain ⟨i, hi, rfl⟩ := List.getElem_of_mem hx
    exact (err_zero hi (h2 i hi)).1
  · obtain ⟨i, hi, rfl⟩ := List.getElem_of_mem hx
    rcases (err_zero hi (h2 i hi)).2.2 with c | ⟨y, hy, c1, c2⟩
    · rw [c] at hp; cases hp
    · exact ⟨y, List.mem_of_mem_take hy, c1, c2⟩
theorem Good.ok {es : List En} (h : Good es) : (checkT es).1 = 0 := by
  rw [checkT_ok (by have := h.len; omega) fun q hq => ?_]
  refine err_ok hq (h.one _ (List.getElem_mem hq)) (fun hb => ?_) ?_
  · rcases Nat.eq_zero_or_pos q with h0 | h0
    · exact prev_zero (by omega) hb
    · have h1 := (prev_pos h0 hq).1 hb
      have h2 := (List.pairwise_iff_getElem.1 h.sort) (q - 1) q (by omega) hq (by omega)
      omega
  · by_cases hp : (parentM es[q].path).2 = true
    · obtain ⟨p, hpm, c1, c2⟩ := h.par _ (List.getElem_mem hq) hp
      obtain ⟨j, hj, rfl⟩ := List.getElem_of_mem hpm
      have hlt := idx_lt h.sort hj hq (by rw [c1]; exact under_ahead (parent_under hp))
      exact .inr ⟨es[j], List.mem_take_iff_getElem.2 ⟨j, by omega, rfl⟩, c1, c2⟩
    · exact .inl (by simpa using hp)
/-- who lies under a path in a tree that may be: that path is there -/
theorem Good.anc {es : List En} (h : Good es) {d : List UInt8} : ∀ (k i : Nat) (hi : i < es.length), i ≤ k → underM es[i].path d → isAt es d := by
  intro k
  induction k with
  | zero =>
    intro i hi hk hu
    obtain ⟨hp, hne⟩ := under_parent hu
    obtain ⟨p, hpm, c1, c2⟩ := h.par _ (List.getElem_mem hi) hp
    obtain ⟨j, hj, rfl⟩ := List.getElem_of_mem hpm
    have hlt := idx_lt h.sort hj hi (by rw [c1]; exact under_ahead (parent_under hp))
    omega
  | succ k ih =>
    intro i hi hk hu
    obtain ⟨hp, hne⟩ := under_parent hu
    obtain ⟨p, hpm, c1, c2⟩ := h.par _ (List.getElem_mem hi) hp
    obtain ⟨j, hj, rfl⟩ := List.getElem_of_mem hpm
    have hlt := idx_lt h.sort hj hi (by rw [c1]; exact under_ahead (parent_under hp))
    by_cases hd : (parentM es[i].path).1 = d
    · exact ⟨es[j], List.getElem_mem hj, c1.trans hd⟩
    · exact ih j hj (by omega) (by rw [c1]; exact hne hd)
theorem Good.under {es : List En} (h : Good es) {d : List UInt8} {x : En} (hx : x ∈ es) (hu : underM x.path d) : isAt es d := by
  obtain ⟨i, hi, rfl⟩ := List.getElem_of_mem hx
  exact h.anc i i hi (Nat.le_refl _) hu
/-- what is dropped takes all that is under it along -/
theorem gone_under {g : List UInt8} {x y : En} (h : goneP g y) (hu : underM x.path y.path) : goneP g x := by
  rcases h with h | h
  · exact .inr (by rw [← h]; exact hu)
  · exact .inr (under_trans hu h)
theorem Good.drop {es : List En} (h : Good es) (g : List UInt8) : Good (es.filter (keepB g)) := by
  refine ⟨Nat.le_trans (List.length_filter_le ..) h.len, List.Pairwise.filter _ h.sort, fun x hx => h.one x (List.mem_filter.1 hx).1, fun x hx hp => ?_⟩
  obtain ⟨hx1, hx2⟩ := List.mem_filter.1 hx
  obtain ⟨p, hpm, c1, c2⟩ := h.par x hx1 hp
  refine ⟨p, List.mem_filter.2 ⟨hpm, ?_⟩, c1, c2⟩
  have hn : ¬ goneP g x := by simpa [keepB] using hx2
  have : ¬ goneP g p := fun k => hn (gone_under k (by rw [c1]; exact parent_under hp))
  simpa [keepB] using this
/-- a tree of which some paths are dropped, one behind the other -/
def dropsL (gs : List (List UInt8)) (es : List En) : List En := es.filter fun e => gs.all fun g => keepB g e
theorem drops_nil (es : List En) : dropsL [] es = es := by simp [dropsL]
theorem drops_snoc (gs : List (List UInt8)) (g : List UInt8) (es : List En) : dropsL (gs ++ [g]) es = (dropsL gs es).filter (keepB g) := by
  unfold dropsL
  rw [List.filter_filter]
  congr 1
  funext e
  simp [Bool.and_comm]
theorem Good.drops : ∀ (gs : List (List UInt8)) {es : List En}, Good es → Good (dropsL gs es)
  | [], es, h => by rw [drops_nil]; exact h
  | g :: gs, es, h => by
    have e : dropsL (g :: gs) es = dropsL gs (es.filter (keepB g)) := by
      unfold dropsL
      rw [List.filter_filter]
      congr 1
      funext x
      simp [Bool.and_comm]
    rw [e]
    exact Good.drops gs (h.drop g)
theorem drops_same {gs : List (List UInt8)} {es : List En} {g : List UInt8} (hg : isAt es g) (hn : ¬ isAt (dropsL gs es) g) : dropsL (gs ++ [g]) es = dropsL gs es := by
  rw [drops_snoc]
  refine List.filter_eq_self.2 fun x hx => ?_
  obtain ⟨y, hy, hyp⟩ := hg
  have hyg : ∃ g2 ∈ gs, goneP g2 y := by
    apply Classical.byContradiction
    intro hc
    refine hn ⟨y, List.mem_filter.2 ⟨hy, ?_⟩, hyp⟩
    rw [List.all_eq_true]
    intro g2 hg2
    have : ¬ goneP g2 y := fun k => hc ⟨g2, hg2, k⟩
    simpa [keepB] using this
  obtain ⟨g2, hg2, hgy⟩ := hyg
  have hx2 := (List.mem_filter.1 hx).2
  rw [List.all_eq_true] at hx2
  have hx3 : ¬ goneP g2 x := by simpa [keepB] using hx2 g2 hg2
  have : ¬ goneP g x := fun k => by
    rcases k with k | k
    · refine hx3 ?_
      rcases hgy with h1 | h1
      · exact .inl (by rw [k, ← hyp, h1])
      · exact .inr (by rw [k, ← hyp]; exact h1)
    · exact hx3 (gone_under hgy (by rw [hyp]; exact k))
  simpa [keepB] using this
theorem drops_less {es : List En} {g : List UInt8} (h : isAt es g) : (es.filter (keepB g)).length < es.length := by
  obtain ⟨y, hy, hyp⟩ := h
  refine Nat.lt_of_le_of_ne (List.length_filter_le ..) fun e => ?_
  have := (List.length_filter_eq_length_iff.1 e) y hy
  simp [keepB, goneP, hyp] at this
/-- who is gone -/
theorem mem_addM {a b : List En} {s : List UInt8} : s ∈ addM a b ↔ isAt b s ∧ ¬ isAt a s := by
  unfold addM
  constructor
  · intro h
    obtain ⟨y, hy, rfl⟩ := List.mem_map.1 h
    obtain ⟨h1, h2⟩ := List.mem_filter.1 hy
    exact ⟨⟨y, h1, rfl⟩, by simpa using h2⟩
  · rintro ⟨⟨y, hy, rfl⟩, h2⟩
    exact List.mem_map.2 ⟨y, List.mem_filter.2 ⟨hy, by simpa using h2⟩, rfl⟩
theorem mem_chgM {a b : List En} (hb : SortT b) {x : En} (hx : x ∈ b) : x.path ∈ chgM a b ↔ isAt a x.path ∧ ¬ x ∈ a := by
  unfold chgM
  constructor
  · intro h
    obtain ⟨y, hy, hp⟩ := List.mem_map.1 h
    obtain ⟨h1, h2⟩ := List.mem_filter.1 hy
    obtain rfl := sort_inj hb h1 hx hp
    simpa using h2
  · intro h
    exact List.mem_map.2 ⟨x, List.mem_filter.2 ⟨hx, by simpa using h⟩, rfl⟩
/-- all that is gone is dropped: what stays are the paths of the other tree -/
theorem drops_all {a b : List En} (ha : Good a) (hb : Good b) : dropsL (addM b a) a = a.filter fun e => decide (isAt b e.path) := by
  unfold dropsL
  refine List.filter_congr fun x hx => ?_
  by_cases h : isAt b x.path
  · rw [decide_eq_true h, List.all_eq_true]
    intro g hg
    obtain ⟨_, h2⟩ := mem_addM.1 hg
    have : ¬ goneP g x := fun k => by
      rcases k with k | k
      · exact h2 (k ▸ h)
      · obtain ⟨y, hy, hyp⟩ := h
        exact h2 (hb.under hy (by rw [hyp]; exact k))
    simpa [keepB] using this
  · rw [decide_eq_false h]
    have hm : x.path ∈ addM b a := mem_addM.2 ⟨⟨x, hx, rfl⟩, h⟩
    rw [List.all_eq_false]
    exact ⟨x.path, hm, by simp [keepB, goneP]⟩
/-- how far one has come with what is put -/
def mixL (a b : List En) (i : Nat) : List En := b.take i ++ a.filter fun e => decide (isAt (b.drop i) e.path)
theorem mix_zero (a b : List En) : mixL a b 0 = a.filter fun e => decide (isAt b e.path) := by simp [mixL]
theorem mix_end {a b : List En} {i : Nat} (h : b.length ≤ i) : mixL a b i = b := by
  unfold mixL
  rw [List.take_of_length_le h, List.drop_of_length_le h, filt_nil (fun x _ => by simp [isAt])]
  simp
theorem isAt_cons {x : En} {R : List En} {s : List UInt8} : isAt (x :: R) s ↔ x.path = s ∨ isAt R s := by
  unfold isAt
  simp
theorem filt_split {x : En} {R : List En} (hR : ∀ y ∈ R, LtP x y) : ∀ {a : List En}, SortT a → (a.filter fun e => decide (isAt (x :: R) e.path)) = (a.filter fun e => decide (e.path = x.path)) ++ a.filter fun e => decide (isAt R e.path)
  | [], _ => rfl
  | y :: a, hs => by
    obtain ⟨hy, hs2⟩ := List.pairwise_cons.1 hs
    have ih := filt_split hR hs2
    by_cases h1 : y.path = x.path
    · have hn : ¬ isAt R y.path := fun ⟨z, hz, hzp⟩ => (hR z hz).ne (by rw [hzp, h1])
      rw [List.filter_cons_of_pos (by simp [isAt_cons, h1]), List.filter_cons_of_pos (by simp [h1]), List.filter_cons_of_neg (by simp [hn]), ih]
      rfl
    · by_cases h2 : isAt R y.path
      · have hx : ∀ z ∈ a, ¬ z.path = x.path := fun z hz e => by
          obtain ⟨r, hr, hrp⟩ := h2
          have k1 : LtP x y := by have := hR r hr; unfold LtP at this ⊢; rw [← hrp]; exact this
          have k2 : LtP y z := hy z hz
          exact (k1.trans k2).ne e.symm
        rw [List.filter_cons_of_pos (by simp [isAt_cons, h2]), List.filter_cons_of_neg (by simp [h1]), List.filter_cons_of_pos (by simp [h2]), ih, filt_nil (p := fun e => decide (e.path = x.path)) (fun z hz => by simp [hx z hz])]
        rfl
      · rw [List.filter_cons_of_neg (by simp [isAt_cons, h2]; exact fun e => h1 e.symm), List.filter_cons_of_neg (by simp [h1]), List.filter_cons_of_neg (by simp [h2]), ih]
theorem drop_gt {b : List En} (hb : SortT b) {i : Nat} (hi : i < b.length) : ∀ y ∈ b.drop (i + 1), LtP b[i] y := fun y hy => by
  obtain ⟨j, hj, rfl⟩ := List.mem_drop_iff_getElem.1 hy
  exact (List.pairwise_iff_getElem.1 hb) i (i + 1 + j) hi (by omega) (by omega)
theorem mix_split {a b : List En} (ha : SortT a) (hb : SortT b) {i : Nat} (hi : i < b.length) : mixL a b i = b.take i ++ ((a.filter fun e => decide (e.path = b[i].path)) ++ a.filter fun e => decide (isAt (b.drop (i + 1)) e.path)) := by
  unfold mixL
  rw [List.drop_eq_getElem_cons hi, filt_split (drop_gt hb hi) ha]
theorem filt_path {a : List En} (ha : SortT a) {y : En} (hy : y ∈ a) : (a.filter fun e => decide (e.path = y.path)) = [y] := by
  induction a with
  | nil => cases hy
  | cons z a ih =>
    obtain ⟨hz, hs2⟩ := List.pairwise_cons.1 ha
    by_cases h : z.path = y.path
    · obtain rfl := sort_inj ha (List.mem_cons_self ..) hy h
      rw [List.filter_cons_of_pos (by simp), filt_nil (fun w hw => by
        have k : LtP z w := hz w hw
        simpa using fun e => k.ne (Eq.symm e))]
    · rw [List.filter_cons_of_neg (by simp [h])]
      rcases List.mem_cons.1 hy with rfl | hy
      · exact absurd rfl h
      · exact ih hs2 hy
theorem filt_none {a : List En} {s : List UInt8} (h : ¬ isAt a s) : (a.filter fun e => decide (e.path = s)) = [] := filt_nil fun x hx => by simpa using fun e => h ⟨x, hx, e⟩
/-- an entry that both have, as it is -/
theorem mix_same {a b : List En} (ha : SortT a) (hb : SortT b) {i : Nat} (hi : i < b.length) (h : b[i] ∈ a) : mixL a b (i + 1) = mixL a b i := by
  rw [mix_split ha hb hi, filt_path ha h]
  unfold mixL
  rw [List.take_succ_eq_append_getElem hi, List.append_assoc]
theorem Good.mix {a b : List En} (ha : Good a) (hb : Good b) (hl : a.length + b.length ≤ 200) (i : Nat) : Good (mixL a b i) := by
  have mem : ∀ x ∈ mixL a b i, x ∈ b.take i ∨ (x ∈ a ∧ isAt (b.drop i) x.path) := fun x hx => by
    rcases List.mem_append.1 hx with h | h
    · exact .inl h
    · obtain ⟨h1, h2⟩ := List.mem_filter.1 h
      exact .inr ⟨h1, by simpa using h2⟩
  refine ⟨?_, ?_, fun x hx => ?_, fun x hx hp => ?_⟩
  · unfold mixL
    have := List.length_filter_le (fun e => decide (isAt (b.drop i) e.path)) a
    rw [List.length_append, List.length_take]
    omega
  · unfold mixL SortT
    refine List.pairwise_append.2 ⟨List.Pairwise.sublist (List.take_sublist _ _) hb.sort, List.Pairwise.filter _ ha.sort, fun x hx y hy => ?_⟩
    obtain ⟨_, h2⟩ := List.mem_filter.1 hy
    obtain ⟨z, hz, hzp⟩ : isAt (b.drop i) y.path := by simpa using h2
    rw [← hzp]
    obtain ⟨p, hp, rfl⟩ := List.mem_take_iff_getElem.1 hx
    obtain ⟨q, hq, rfl⟩ := List.mem_drop_iff_getElem.1 hz
    exact (List.pairwise_iff_getElem.1 hb.sort) p (i + q) (by omega) (by omega) (by omega)
  · rcases mem x hx with h | h
    · exact hb.one x (List.mem_of_mem_take h)
    · exact ha.one x h.1
  · rcases mem x hx with h | ⟨h, z, hz, hzp⟩
    · obtain ⟨p, hpm, c1, c2⟩ := hb.par x (List.mem_of_mem_take h) hp
      obtain ⟨k, hk, rfl⟩ := List.mem_take_iff_getElem.1 h
      obtain ⟨j, hj, rfl⟩ := List.getElem_of_mem hpm
      have hlt := idx_lt (j := k) hb.sort hj (by omega) (by rw [c1]; exact under_ahead (parent_under hp))
      exact ⟨b[j], List.mem_append_left _ (List.mem_take_iff_getElem.2 ⟨j, by omega, rfl⟩), c1, c2⟩
    · obtain ⟨p, hpm, c1, c2⟩ := ha.par x h hp
      have hp2 : (parentM z.path).2 = true := by rw [hzp]; exact hp
      obtain ⟨p2, hpm2, d1, d2⟩ := hb.par z (List.mem_of_mem_drop hz) hp2
      rw [hzp] at d1
      obtain ⟨j, hj, rfl⟩ := List.getElem_of_mem hpm2
      rcases Nat.lt_or_ge j i with hji | hji
      · exact ⟨b[j], List.mem_append_left _ (List.mem_take_iff_getElem.2 ⟨j, by omega, rfl⟩), d1, d2⟩
      · refine ⟨p, List.mem_append_right _ (List.mem_filter.2 ⟨hpm, ?_⟩), c1, c2⟩
        have : isAt (b.drop i) p.path := ⟨b[j], List.mem_drop_iff_getElem.2 ⟨j - i, by omega, by congr 1; omega⟩, by rw [d1, c1]⟩
        simpa using this
/-- an entry that is put -/
theorem mix_put {a b : List En} (ha : Good a) (hb : Good b) (hl : a.length + b.length ≤ 200) {i : Nat} (hi : i < b.length) : putL (mixL a b i) b[i] = mixL a b (i + 1) := by
  have hs := (ha.mix hb hl i).sort
  have hsp := mix_split ha.sort hb.sort hi
  have htl : (b.take i).length = i := by rw [List.length_take]; omega
  have hml : i ≤ (mixL a b i).length := by unfold mixL; rw [List.length_append, htl]; omega
  have hpl : placeK (mixL a b i) b[i].path = i := by
    refine placeK_at hml (fun q hq hqi => ?_) (fun q hq hqi h => ?_)
    · have e0 : (mixL a b i)[q]? = some (b[q]'(by omega)) := by
        unfold mixL
        rw [List.getElem?_append_left (by omega), List.getElem?_take_of_lt hqi, List.getElem?_eq_getElem]
      have : (mixL a b i)[q] = b[q]'(by omega) := Option.some.inj ((List.getElem?_eq_getElem hq).symm.trans e0)
      rw [this, cmp_lt_iff]
      exact (List.pairwise_iff_getElem.1 hb.sort) q i (by omega) hi hqi
    · have hm : (mixL a b i)[q] ∈ a.filter fun e => decide (isAt (b.drop i) e.path) := by
        have e0 : (mixL a b i)[q]? = (a.filter fun e => decide (isAt (b.drop i) e.path))[q - i]? := by
          unfold mixL
          rw [List.getElem?_append_right (by omega), htl]
        exact List.mem_of_getElem? (e0.symm.trans (List.getElem?_eq_getElem hq))
      obtain ⟨z, hz, hzp⟩ : isAt (b.drop i) (mixL a b i)[q].path := by simpa using (List.mem_filter.1 hm).2
      rw [← hzp, cmp_lt_iff] at h
      obtain ⟨r, hr, rfl⟩ := List.mem_drop_iff_getElem.1 hz
      have := idx_lt hb.sort (by omega) hi h
      omega
  unfold putL restL
  rw [hpl]
  have ht : (mixL a b i).take i = b.take i := by
    unfold mixL
    rw [List.take_append_of_le_length (by omega), List.take_of_length_le (by omega)]
  have hend : ∀ A1 : List En, (a.filter fun e => decide (e.path = b[i].path)) = A1 → (mixL a b i).drop (i + A1.length) = a.filter fun e => decide (isAt (b.drop (i + 1)) e.path) := fun A1 e => by
    rw [hsp, e, ← List.append_assoc, List.drop_append_of_le_length (by rw [List.length_append, htl]; omega), List.drop_of_length_le (by rw [List.length_append, htl]; omega), List.nil_append]
  rw [ht]
  have hgo : mixL a b (i + 1) = b.take i ++ [b[i]] ++ a.filter fun e => decide (isAt (b.drop (i + 1)) e.path) := by
    unfold mixL
    rw [List.take_succ_eq_append_getElem hi]
  rw [hgo]
  congr 1
  by_cases hat : isAt a b[i].path
  · obtain ⟨y, hy, hyp⟩ := hat
    have e1 : (a.filter fun e => decide (e.path = b[i].path)) = [y] := by rw [← hyp]; exact filt_path ha.sort hy
    have hm : isAt (mixL a b i) b[i].path := ⟨y, by rw [hsp, e1]; simp, hyp⟩
    rw [if_pos hm]
    exact hend [y] e1
  · have e1 := filt_none hat
    have hm : ¬ isAt (mixL a b i) b[i].path := fun ⟨y, hy, hyp⟩ => by
      rw [hsp, e1] at hy
      rcases List.mem_append.1 hy with h | h
      · obtain ⟨p, hp, rfl⟩ := List.mem_take_iff_getElem.1 h
        have := (List.pairwise_iff_getElem.1 hb.sort) p i (by omega) hi (by omega)
        have h2 := (compareM_ord.zero b[p].path b[i].path).2 hyp
        omega
      · rw [List.nil_append] at h
        exact hat ⟨y, (List.mem_filter.1 h).1, hyp⟩
    rw [if_neg hm]
    exact hend [] e1
/-- how many are put of the first i -/
def putN' (a b : List En) (i : Nat) : Nat := ((b.take i).filter fun e => ! decide (e ∈ a)).length
theorem putN_le (a b : List En) (i : Nat) : putN' a b i ≤ i := by
  unfold putN'
  have := List.length_filter_le (fun e => ! decide (e ∈ a)) (b.take i)
  rw [List.length_take] at this
  omega
theorem putN_yes {a b : List En} {i : Nat} (hi : i < b.length) (h : ¬ b[i] ∈ a) : putN' a b (i + 1) = putN' a b i + 1 := by
  unfold putN'
  rw [List.take_succ_eq_append_getElem hi, List.filter_append, List.filter_cons_of_pos (by simp [h])]
  simp
theorem putN_no {a b : List En} {i : Nat} (hi : i < b.length) (h : b[i] ∈ a) : putN' a b (i + 1) = putN' a b i := by
  unfold putN'
  rw [List.take_succ_eq_append_getElem hi, List.filter_append, List.filter_cons_of_neg (by simp [h])]
  simp
theorem putN_end (a b : List En) : putN' a b b.length = (addM a b).length + (chgM a b).length := by
  unfold putN' addM chgM
  rw [List.take_length, List.length_map, List.length_map]
  induction b with
  | nil => rfl
  | cons x b ih =>
    by_cases h : x ∈ a
    · have h2 : isAt a x.path := ⟨x, h, rfl⟩
      rw [List.filter_cons_of_neg (by simp [h]), List.filter_cons_of_neg (by simp [h2]), List.filter_cons_of_neg (by simp [h]), ih]
    · rw [List.filter_cons_of_pos (by simp [h])]
      by_cases h2 : isAt a x.path
      · rw [List.filter_cons_of_neg (by simp [h2]), List.filter_cons_of_pos (by simp [h, h2])]
        simp only [List.length_cons]
        omega
      · rw [List.filter_cons_of_pos (by simp [h2]), List.filter_cons_of_neg (by simp [h2])]
        simp only [List.length_cons]
        omega
theorem put_cond {a b : List En} (hb : SortT b) {x : En} (hx : x ∈ b) : (¬ x.path ∈ addM a b ∧ ¬ x.path ∈ chgM a b) ↔ x ∈ a := by
  rw [mem_addM, mem_chgM hb hx]
  have h1 : isAt b x.path := ⟨x, hx, rfl⟩
  constructor
  · rintro ⟨k1, k2⟩
    have k3 : isAt a x.path := Classical.byContradiction fun k => k1 ⟨h1, k⟩
    exact Classical.byContradiction fun k => k2 ⟨k3, k⟩
  · intro h
    exact ⟨fun k => k.2 ⟨x, h, rfl⟩, fun k => k.2 h⟩
/-- nothing is added, gone, changed: they are the same -/
theorem diff_same {a b : List En} (ha : SortT a) (hb : SortT b) : a = b ↔ (addM a b).length + (addM b a).length + (chgM a b).length = 0 := by
  constructor
  · rintro rfl
    have h1 : addM a a = [] := by
      unfold addM
      rw [filt_nil fun x hx => by simp [show isAt a x.path from ⟨x, hx, rfl⟩]]
      rfl
    have h2 : chgM a a = [] := by
      unfold chgM
      rw [filt_nil fun x hx => by simp [hx]]
      rfl
    rw [h1, h2]
    rfl
  · intro h
    have h1 : ∀ x ∈ b, x ∈ a := fun x hx => (put_cond hb hx).1 ⟨fun k => by have := List.length_pos_of_mem k; omega, fun k => by have := List.length_pos_of_mem k; omega⟩
    have h2 : ∀ x ∈ a, isAt b x.path := fun x hx => Classical.byContradiction fun k => by
      have := List.length_pos_of_mem (mem_addM.2 ⟨⟨x, hx, rfl⟩, k⟩ : x.path ∈ addM b a)
      omega
    have h3 : ∀ i, i ≤ b.length → mixL a b i = mixL a b 0 := fun i => by
      induction i with
      | zero => intro _; rfl
      | succ i ih =>
        intro hi
        rw [mix_same ha hb (by omega) (h1 _ (List.getElem_mem _)), ih (by omega)]
    have h4 := h3 b.length (Nat.le_refl _)
    rw [mix_end (Nat.le_refl _), mix_zero, List.filter_eq_self.2 (fun x hx => by simp [h2 x hx])] at h4
    exact h4.symm
end Go.Proofs.Ytchgaedidfefoaa

set_option linter.unusedVariables false
set_option linter.unusedSimpArgs false
namespace Go.Proofs.Ytchgaedidfefoaa
open Go.RowKit
theorem mix_mem {a b : List En} {i : Nat} {x : En} (h : x ∈ mixL a b i) : x ∈ a ∨ x ∈ b := by
  rcases List.mem_append.1 h with h | h
  · exact .inr (List.mem_of_mem_take h)
  · exact .inl (List.mem_filter.1 h).1
theorem tsame_yes {Ps Pu : Nat → Prop} (v u : Value) (xs ys : List ET) (h : ens xs = ens ys) : Tr Try.prog 28 #[v, u] [slc rEV Ps v xs, slc rEV Pu u ys] [] (T0 (.bool true)) := by
  have := tsame_tr (Ps := Ps) (Pu := Pu) v u xs ys
  rwa [decide_eq_true h] at this
theorem beq_dec {p q : Prop} [Decidable p] [Decidable q] (h : p ↔ q) : (decide p == decide q) = true := by simp [h]
theorem puts_ok {a b : List En} (ha : Good a) (hb : Good b) (hl : a.length + b.length ≤ 200) {i : Nat} (hi : i < b.length) : putM (mixL a b i) b[i] = (mixL a b (i + 1), 0) := by
  rw [put_ok (ha.mix hb hl i).ok (by rw [mix_put ha hb hl hi]; exact (ha.mix hb hl (i + 1)).ok), mix_put ha hb hl hi]
set_option maxRecDepth 20000 in
set_option maxHeartbeats 4000000 in
theorem tleads {Ps Pu : Nat → Prop} (v u : Value) (xs ys : List ET) : Tr Try.prog 9 #[v, u] [slc rEV Ps v xs, slc rEV Pu u ys] [] (T0 (.bool true)) := by
  refine Tr.of (l := [(0, v), (1, u)]) Try.func9 rfl (n := 186) rfl (.cons rfl (.cons rfl .nil)) (fun w0 hro => ?_)
  obtain ⟨hv0, hu0⟩ := ro2 hro
  have hv := hv0
  have hv' := hv
  obtain ⟨av, cv, bv, fv, rfl, hcapv, hmaxv, hnilv, hadv, helv⟩ := Ro.openT hv
  have hu := hu0
  have hu' := hu
  obtain ⟨au, cu, bu, fu, rfl, hcapu, hmaxu, hnilu, hadu, helu⟩ := Ro.openT hu
  have hlx := ens_length xs
  have hly := ens_length ys
  refine G.seq ?_
  refine G.region ?_
  refine G.op rfl (G.val rfl rfl (pv_assign rfl) ?_)
  refine G.nil ?_
  refine G.nThen ?_
  refine G.seq ?_
  refine G.region ?_
  refine G.op rfl (G.cR rfl rfl rfl rfl Try.func7 rfl rfl may0 (tknown) ?_)
  refine G.op rfl (G.val rfl rfl (pv_assign rfl) ?_)
  refine G.nil ?_
  refine G.nThen ?_
  refine G.seq ?_
  refine G.region ?_
  refine G.op rfl (G.val rfl rfl (pv_move rfl) ?_)
  refine G.op rfl (G.cR rfl rfl rfl rfl Try.func11 rfl rfl (may1 (by first | (apply May.old; first | with_reducible assumption | assumption) | (apply Sel.may; (repeat (first | with_reducible exact Sel.here | exact Sel.here | apply Sel.there)); done) | (apply may_own; (repeat (first | with_reducible exact Sel.here | exact Sel.here | apply Sel.there)); exact rfl; exact (fun _ _ => trivial); done) | (apply may_ownB; (repeat (first | with_reducible exact Sel.here | exact Sel.here | apply Sel.there)); done) | (apply may_tree; (repeat (first | with_reducible exact Sel.here | exact Sel.here | apply Sel.there)); (repeat (first | with_reducible exact Sel.here | exact Sel.here | apply Sel.there)); assumption; done))) (tcheck_tr _ _) ?_)
  refine G.op rfl (G.val rfl rfl (pv_move rfl) ?_)
  refine G.op rfl (G.val rfl rfl (pv_extract rfl rfl) ?_)
  refine G.op rfl (G.val rfl rfl (pv_extract rfl rfl) ?_)
  refine G.op rfl (G.val rfl rfl (pv_assign rfl) ?_)
  refine G.op rfl (G.val rfl rfl (pv_assign rfl) ?_)
  refine G.nil ?_
  refine G.nThen ?_
  refine G.seq ?_
  refine G.region ?_
  refine G.op rfl (G.val rfl rfl (pv_move rfl) ?_)
  refine G.op rfl (G.cR rfl rfl rfl rfl Try.func11 rfl rfl (may1 (by first | (apply May.old; first | with_reducible assumption | assumption) | (apply Sel.may; (repeat (first | with_reducible exact Sel.here | exact Sel.here | apply Sel.there)); done) | (apply may_own; (repeat (first | with_reducible exact Sel.here | exact Sel.here | apply Sel.there)); exact rfl; exact (fun _ _ => trivial); done) | (apply may_ownB; (repeat (first | with_reducible exact Sel.here | exact Sel.here | apply Sel.there)); done) | (apply may_tree; (repeat (first | with_reducible exact Sel.here | exact Sel.here | apply Sel.there)); (repeat (first | with_reducible exact Sel.here | exact Sel.here | apply Sel.there)); assumption; done))) (tcheck_tr _ _) ?_)
  refine G.op rfl (G.val rfl rfl (pv_move rfl) ?_)
  refine G.op rfl (G.val rfl rfl (pv_extract rfl rfl) ?_)
  refine G.op rfl (G.val rfl rfl (pv_extract rfl rfl) ?_)
  refine G.op rfl (G.val rfl rfl (pv_assign rfl) ?_)
  refine G.op rfl (G.val rfl rfl (pv_assign rfl) ?_)
  refine G.nil ?_
  refine G.nThen ?_
  refine G.seq ?_
  refine G.seq ?_
  refine G.cutK (X := Unit) (ts := [0, 1, 4, 5]) (p := []) (fun _ => True) (fun _ => [(51, .bool (decide (bigM (ens xs) 60 4000 ∨ bigM (ens ys) 60 4000 ∨ ¬ (checkT (ens xs)).1 = 0 ∨ ¬ (checkT (ens ys)).1 = 0)))]) (fun _ => []) (.cons rfl (.cons rfl (.cons rfl (.cons rfl .nil)))) (by repeat (first | exact Sub.nil | (apply Sub.cons; (repeat (first | with_reducible exact Sel.here | exact Sel.here | apply Sel.there))))) (.cons .nil) (by repeat (first | exact Ap.nil | apply Ap.cons)) ?_ ?_
  · refine G.region ?_
    refine G.op rfl (G.val rfl rfl (pv_move rfl) ?_)
    refine G.op rfl (G.cR rfl rfl rfl rfl Try.func12 rfl rfl (may1 (by first | (apply May.old; first | with_reducible assumption | assumption) | (apply Sel.may; (repeat (first | with_reducible exact Sel.here | exact Sel.here | apply Sel.there)); done) | (apply may_own; (repeat (first | with_reducible exact Sel.here | exact Sel.here | apply Sel.there)); exact rfl; exact (fun _ _ => trivial); done) | (apply may_ownB; (repeat (first | with_reducible exact Sel.here | exact Sel.here | apply Sel.there)); done) | (apply may_tree; (repeat (first | with_reducible exact Sel.here | exact Sel.here | apply Sel.there)); (repeat (first | with_reducible exact Sel.here | exact Sel.here | apply Sel.there)); assumption; done))) (big_tr _ _ _ _ (by omega)) ?_)
    refine G.op rfl (G.val rfl rfl (pv_move rfl) ?_)
    refine G.partP (t := 40) rfl (fun h40 => ?_) (fun h40 => ?_)
    · refine G.pass rfl rfl rfl rfl rfl rfl ?_
      refine G.pass rfl rfl rfl rfl rfl rfl ?_
      refine G.op rfl (G.val rfl rfl (pv_pick rfl rfl) ?_)
      refine G.op rfl (G.val rfl rfl (pv_move rfl) ?_)
      refine G.pass rfl rfl rfl rfl rfl rfl ?_
      refine G.pass rfl rfl rfl rfl rfl rfl ?_
      refine G.op rfl (G.val rfl rfl (pv_pick rfl rfl) ?_)
      refine G.op rfl (G.val rfl rfl (pv_move rfl) ?_)
      refine G.pass rfl rfl rfl rfl rfl rfl ?_
      refine G.pass rfl rfl rfl rfl rfl rfl ?_
      refine G.op rfl (G.val rfl rfl (pv_pick rfl rfl) ?_)
      refine G.nil ?_
      exact G.meet (()) (by first | exact trivial | ((try dsimp only); exact trivial)) (.consE rfl (by first | exact dec_t (.inl (by assumption)) | exact dec_t (.inr (.inl (by assumption))) | exact dec_t (.inr (.inr (.inl (by assumption)))) | exact dec_e ⟨fun h => .inr (.inr (.inr h)), fun h => by rcases h with h | h | h | h; exact absurd h (by assumption); exact absurd h (by assumption); exact absurd h (by assumption); exact h⟩) (.cons rfl (.cons rfl (.cons rfl (.cons rfl .nil))))) (by repeat (first | exact Sub.nil | (apply Sub.cons; (repeat (first | with_reducible exact Sel.here | exact Sel.here | apply Sel.there)))))
    · refine G.want rfl rfl rfl (G.val rfl rfl (pv_move rfl) ?_)
      refine G.want rfl rfl rfl (G.cR rfl rfl rfl rfl Try.func12 rfl rfl (may1 (by first | (apply May.old; first | with_reducible assumption | assumption) | (apply Sel.may; (repeat (first | with_reducible exact Sel.here | exact Sel.here | apply Sel.there)); done) | (apply may_own; (repeat (first | with_reducible exact Sel.here | exact Sel.here | apply Sel.there)); exact rfl; exact (fun _ _ => trivial); done) | (apply may_ownB; (repeat (first | with_reducible exact Sel.here | exact Sel.here | apply Sel.there)); done) | (apply may_tree; (repeat (first | with_reducible exact Sel.here | exact Sel.here | apply Sel.there)); (repeat (first | with_reducible exact Sel.here | exact Sel.here | apply Sel.there)); assumption; done))) (big_tr _ _ _ _ (by omega)) ?_)
      refine G.op rfl (G.val rfl rfl (pv_pick rfl rfl) ?_)
      refine G.op rfl (G.val rfl rfl (pv_move rfl) ?_)
      refine G.partP (t := 44) rfl (fun h44 => ?_) (fun h44 => ?_)
      · refine G.pass rfl rfl rfl rfl rfl rfl ?_
        refine G.pass rfl rfl rfl rfl rfl rfl ?_
        refine G.op rfl (G.val rfl rfl (pv_pick rfl rfl) ?_)
        refine G.op rfl (G.val rfl rfl (pv_move rfl) ?_)
        refine G.pass rfl rfl rfl rfl rfl rfl ?_
        refine G.pass rfl rfl rfl rfl rfl rfl ?_
        refine G.op rfl (G.val rfl rfl (pv_pick rfl rfl) ?_)
        refine G.nil ?_
        exact G.meet (()) (by first | exact trivial | ((try dsimp only); exact trivial)) (.consE rfl (by first | exact dec_t (.inl (by assumption)) | exact dec_t (.inr (.inl (by assumption))) | exact dec_t (.inr (.inr (.inl (by assumption)))) | exact dec_e ⟨fun h => .inr (.inr (.inr h)), fun h => by rcases h with h | h | h | h; exact absurd h (by assumption); exact absurd h (by assumption); exact absurd h (by assumption); exact h⟩) (.cons rfl (.cons rfl (.cons rfl (.cons rfl .nil))))) (by repeat (first | exact Sub.nil | (apply Sub.cons; (repeat (first | with_reducible exact Sel.here | exact Sel.here | apply Sel.there)))))
      · refine G.want rfl rfl rfl (G.val rfl rfl (pv_move rfl) ?_)
        refine G.want rfl rfl rfl (G.val rfl rfl (pv_neq rfl rfl) ?_)
        refine G.op rfl (G.val rfl rfl (pv_pick rfl rfl) ?_)
        refine G.op rfl (G.val rfl rfl (pv_move rfl) ?_)
        refine G.partP (t := 48) rfl (fun h48 => ?_) (fun h48 => ?_)
        · refine G.pass rfl rfl rfl rfl rfl rfl ?_
          refine G.pass rfl rfl rfl rfl rfl rfl ?_
          refine G.op rfl (G.val rfl rfl (pv_pick rfl rfl) ?_)
          refine G.nil ?_
          exact G.meet (()) (by first | exact trivial | ((try dsimp only); exact trivial)) (.consE rfl (by first | exact dec_t (.inl (by assumption)) | exact dec_t (.inr (.inl (by assumption))) | exact dec_t (.inr (.inr (.inl (by assumption)))) | exact dec_e ⟨fun h => .inr (.inr (.inr h)), fun h => by rcases h with h | h | h | h; exact absurd h (by assumption); exact absurd h (by assumption); exact absurd h (by assumption); exact h⟩) (.cons rfl (.cons rfl (.cons rfl (.cons rfl .nil))))) (by repeat (first | exact Sub.nil | (apply Sub.cons; (repeat (first | with_reducible exact Sel.here | exact Sel.here | apply Sel.there)))))
        · refine G.want rfl rfl rfl (G.val rfl rfl (pv_move rfl) ?_)
          refine G.want rfl rfl rfl (G.val rfl rfl (pv_neq rfl rfl) ?_)
          refine G.op rfl (G.val rfl rfl (pv_pick rfl rfl) ?_)
          refine G.nil ?_
          exact G.meet (()) (by first | exact trivial | ((try dsimp only); exact trivial)) (.consE rfl (by first | exact dec_t (.inl (by assumption)) | exact dec_t (.inr (.inl (by assumption))) | exact dec_t (.inr (.inr (.inl (by assumption)))) | exact dec_e ⟨fun h => .inr (.inr (.inr h)), fun h => by rcases h with h | h | h | h; exact absurd h (by assumption); exact absurd h (by assumption); exact absurd h (by assumption); exact h⟩) (.cons rfl (.cons rfl (.cons rfl (.cons rfl .nil))))) (by repeat (first | exact Sub.nil | (apply Sub.cons; (repeat (first | with_reducible exact Sel.here | exact Sel.here | apply Sel.there)))))
  · intro _ hJ
    try dsimp only at hJ
    try dsimp only
    refine G.condP rfl (fun h51 => ?_) (fun h51 => ?_)
    · refine G.seq ?_
      refine G.region ?_
      refine G.op rfl (G.val rfl rfl (pv_move rfl) ?_)
      refine G.op rfl (G.val rfl rfl (pv_assign rfl) ?_)
      refine G.nil ?_
      refine G.nThen ?_
      refine G.ret ?_
      refine G.rThen ?_
      exact G.done0G rfl (Rv.tmp rfl Rv.nil) (by first | rfl | exact int_eq (by omega) | (simp; done))
    · have hb1 : ¬ bigM (ens xs) 60 4000 := fun h => h51 (.inl h)
      have hb2 : ¬ bigM (ens ys) 60 4000 := fun h => h51 (.inr (.inl h))
      have h0a : (checkT (ens xs)).1 = 0 := Decidable.of_not_not (fun h => h51 (.inr (.inr (.inl h))))
      have h0b : (checkT (ens ys)).1 = 0 := Decidable.of_not_not (fun h => h51 (.inr (.inr (.inr h))))
      have hnx : xs.length ≤ 60 := by unfold bigM at hb1; omega
      have hny : ys.length ≤ 60 := by unfold bigM at hb2; omega
      have hga := good_of h0a
      have hgb := good_of h0b
      have hl200 : (ens xs).length + (ens ys).length ≤ 200 := by omega
      refine G.skip ?_
      refine G.nThen ?_
      refine G.seq ?_
      refine G.region ?_
      refine G.op rfl (G.val rfl rfl (pv_move rfl) ?_)
      refine G.op rfl (G.val rfl rfl (pv_move rfl) ?_)
      refine G.op rfl (G.cS rfl rfl rfl rfl Try.func25 rfl rfl (by repeat (first | exact Sub.nil | (apply Sub.cons; (repeat (first | with_reducible exact Sel.here | exact Sel.here | apply Sel.there))))) (may2 (by first | (apply May.old; first | with_reducible assumption | assumption) | (apply Sel.may; (repeat (first | with_reducible exact Sel.here | exact Sel.here | apply Sel.there)); done) | (apply may_own; (repeat (first | with_reducible exact Sel.here | exact Sel.here | apply Sel.there)); exact rfl; exact (fun _ _ => trivial); done) | (apply may_ownB; (repeat (first | with_reducible exact Sel.here | exact Sel.here | apply Sel.there)); done) | (apply may_tree; (repeat (first | with_reducible exact Sel.here | exact Sel.here | apply Sel.there)); (repeat (first | with_reducible exact Sel.here | exact Sel.here | apply Sel.there)); assumption; done)) (by first | (apply May.old; first | with_reducible assumption | assumption) | (apply Sel.may; (repeat (first | with_reducible exact Sel.here | exact Sel.here | apply Sel.there)); done) | (apply may_own; (repeat (first | with_reducible exact Sel.here | exact Sel.here | apply Sel.there)); exact rfl; exact (fun _ _ => trivial); done) | (apply may_ownB; (repeat (first | with_reducible exact Sel.here | exact Sel.here | apply Sel.there)); done) | (apply may_tree; (repeat (first | with_reducible exact Sel.here | exact Sel.here | apply Sel.there)); (repeat (first | with_reducible exact Sel.here | exact Sel.here | apply Sel.there)); assumption; done))) (diff_tr _ _ _ _) (by repeat (first | exact Ap.nil | apply Ap.cons)) ?_)
      intro x56 hJ
      obtain ⟨d1, d2, d3⟩ := x56
      try dsimp only at hJ
      try dsimp only
      rw [diff_ok h0a h0b]
      dsimp only
      have hsame := diff_same hga.sort hgb.sort
      have hpend := putN_end (ens xs) (ens ys)
      have hple := putN_le (ens xs) (ens ys) (ens ys).length
      obtain ⟨AD, hAD⟩ : ∃ l, addM (ens xs) (ens ys) = l := ⟨_, rfl⟩
      obtain ⟨GN, hGN⟩ : ∃ l, addM (ens ys) (ens xs) = l := ⟨_, rfl⟩
      obtain ⟨CH, hCH⟩ : ∃ l, chgM (ens xs) (ens ys) = l := ⟨_, rfl⟩
      rw [hAD, hGN, hCH] at hsame
      rw [hAD, hCH] at hpend
      have hglen := add_len (ens ys) (ens xs)
      rw [hGN] at hglen
      rw [hAD, hGN, hCH]
      refine G.ownOpen (v := d1) (by repeat (first | with_reducible exact Sel.here | exact Sel.here | apply Sel.there)) (fun oa1 oc1 ov1 ok1 om1 => ?_)
      subst ov1
      refine G.ownNews (v := d2) (by repeat (first | with_reducible exact Sel.here | exact Sel.here | apply Sel.there)) (fun na2 nc2 nb2 nv2 ncap2 nmax2 nad2 nnil2 nnw2 => ?_)
      subst nv2
      refine G.ownOpen (v := d3) (by repeat (first | with_reducible exact Sel.here | exact Sel.here | apply Sel.there)) (fun oa3 oc3 ov3 ok3 om3 => ?_)
      subst ov3
      refine G.op rfl (G.val rfl rfl (pv_move rfl) ?_)
      refine G.op rfl (G.val rfl rfl (pv_extract rfl rfl) ?_)
      refine G.op rfl (G.val rfl rfl (pv_extract rfl rfl) ?_)
      refine G.op rfl (G.val rfl rfl (pv_extract rfl rfl) ?_)
      refine G.op rfl (G.val rfl rfl (pv_assign rfl) ?_)
      refine G.op rfl (G.val rfl rfl (pv_assign rfl) ?_)
      refine G.op rfl (G.val rfl rfl (pv_assign rfl) ?_)
      refine G.nil ?_
      refine G.nThen ?_
      refine G.seq ?_
      refine G.region ?_
      refine G.op rfl (G.val rfl rfl (pv_move rfl) ?_)
      refine G.op rfl (G.cS rfl rfl rfl rfl Try.func18 rfl rfl (by repeat (first | exact Sub.nil | (apply Sub.cons; (repeat (first | with_reducible exact Sel.here | exact Sel.here | apply Sel.there))))) (may1 (by first | (apply May.old; first | with_reducible assumption | assumption) | (apply Sel.may; (repeat (first | with_reducible exact Sel.here | exact Sel.here | apply Sel.there)); done) | (apply may_own; (repeat (first | with_reducible exact Sel.here | exact Sel.here | apply Sel.there)); exact rfl; exact (fun _ _ => trivial); done) | (apply may_ownB; (repeat (first | with_reducible exact Sel.here | exact Sel.here | apply Sel.there)); done) | (apply may_tree; (repeat (first | with_reducible exact Sel.here | exact Sel.here | apply Sel.there)); (repeat (first | with_reducible exact Sel.here | exact Sel.here | apply Sel.there)); assumption; done))) (copyT_tr _ _ (by omega)) (by repeat (first | exact Ap.nil | apply Ap.cons)) ?_)
      intro x61 hJ
      obtain ⟨v', zs0⟩ := x61
      try dsimp only at hJ
      try dsimp only
      have hez : ens zs0 = ens xs := hJ
      refine G.op rfl (G.val rfl rfl (pv_assign rfl) ?_)
      refine G.nil ?_
      refine G.nThen ?_
      refine G.seq ?_
      refine G.seq ?_
      refine G.region ?_
      refine G.op rfl (G.val rfl rfl (pv_assign rfl) ?_)
      refine G.nil ?_
      refine G.nThen ?_
      refine G.block ?_
      refine G.loopK (X := Nat × Value × (List ET)) (ts := [0, 1, 5, 10, 11, 12]) (fun st => st.1 ≤ GN.length ∧ (ens st.2.2 = dropsL (GN.take st.1) (ens xs))) (fun st => [(14, .int .i64 (st.1 : Int)), (13, st.2.1)]) (fun st => [ownT 31 st.2.1 st.2.2, datC 5 st.2.2]) (fun st => GN.length - st.1) (x0 := (0, v', zs0)) (.cons rfl (.cons rfl (.cons rfl (.cons rfl (.cons rfl (.cons rfl .nil)))))) (by repeat (first | exact Sub.nil | (apply Sub.cons; (repeat (first | with_reducible exact Sel.here | exact Sel.here | apply Sel.there))))) (.cons (.cons .nil)) (by repeat (first | exact Ap.nil | apply Ap.cons)) (by first | exact trivial | ((try dsimp only); exact ⟨Nat.zero_le _, (by rw [List.take_zero, drops_nil]; exact hez)⟩)) (.consE rfl (by first | rfl | exact int_eq (by first | omega | (dsimp only; omega)) | exact congrArg _ (by omega)) (.consE rfl (by first | rfl | exact int_eq (by first | omega | (dsimp only; omega)) | exact congrArg _ (by omega)) .nil)) (fun st hJ => ?_)
      obtain ⟨i, lv, zs⟩ := st
      try dsimp only at hJ
      try dsimp only
      obtain ⟨hki, hJ⟩ := hJ
      have hJz := hJ
      refine G.ownOpen (v := lv) (by repeat (first | with_reducible exact Sel.here | exact Sel.here | apply Sel.there)) (fun oa4 oc4 ov4 ok4 om4 => ?_)
      subst ov4
      have hgz := hga.drops (GN.take i)
      rw [← hJz] at hgz
      have hokz := ok_list hJz (fun x hx => ok_ensl (Ro.allOk helv) x (List.mem_filter.1 hx).1)
      have hlz := ens_length zs
      refine G.seq ?_
      refine G.seq ?_
      refine G.region ?_
      refine G.op rfl (G.val rfl rfl (pv_move rfl) ?_)
      refine G.op rfl (G.val rfl rfl (pv_move rfl) ?_)
      refine G.op rfl (G.val rfl rfl (pv_lenSl Try.underlying44 rfl) ?_)
      refine G.op rfl (G.val rfl rfl (pv_lss rfl rfl) ?_)
      refine G.nil ?_
      refine G.nThen ?_
      refine G.condP rfl (fun h65 => ?_) (fun h65 => ?_)
      · have hlt : i < GN.length := by omega
        have hgm : GN[i] ∈ addM (ens ys) (ens xs) := by rw [hGN]; exact List.getElem_mem _
        obtain ⟨hga1, hgb1⟩ := mem_addM.1 hgm
        have hgl : GN[i].length ≤ 140737488355328 := by obtain ⟨y, hy, e⟩ := hga1; rw [← e]; exact (ok_ensl (Ro.allOk helv) y hy).2.2.1
        have htk : GN.take (i + 1) = GN.take i ++ [GN[i]] := List.take_succ_eq_append_getElem hlt
        refine G.skip ?_
        refine G.nThen ?_
        refine G.seq ?_
        refine G.block ?_
        refine G.seq ?_
        refine G.region ?_
        refine G.op rfl (G.val rfl rfl (pv_move rfl) ?_)
        refine G.op rfl (G.val rfl rfl (pv_move rfl) ?_)
        refine G.op rfl (G.val rfl rfl (pv_move rfl) ?_)
        refine G.op rfl (G.val rfl rfl (pv_ixSl (sz := 1) (k := i) Try.underlying44 (by kernel_rfl) rfl rfl nad2 (by omega) (by omega)) ?_)
        refine G.op rfl (G.val rfl rfl (pv_load (v := .string (sB GN[i])) Try.underlying9 rfl rfl (fun w hw => News.str (nnw2 (by repeat (first | with_reducible exact Sel.here | exact Sel.here | apply Sel.there)) w hw) i (by omega))) ?_)
        refine G.op rfl (G.cS rfl rfl rfl rfl Try.func14 rfl rfl (by repeat (first | exact Sub.nil | (apply Sub.cons; (repeat (first | with_reducible exact Sel.here | exact Sel.here | apply Sel.there))))) (may1 (by first | (apply May.old; first | with_reducible assumption | assumption) | (apply Sel.may; (repeat (first | with_reducible exact Sel.here | exact Sel.here | apply Sel.there)); done) | (apply may_own; (repeat (first | with_reducible exact Sel.here | exact Sel.here | apply Sel.there)); exact rfl; exact (fun _ _ => trivial); done) | (apply may_ownB; (repeat (first | with_reducible exact Sel.here | exact Sel.here | apply Sel.there)); done) | (apply may_tree; (repeat (first | with_reducible exact Sel.here | exact Sel.here | apply Sel.there)); (repeat (first | with_reducible exact Sel.here | exact Sel.here | apply Sel.there)); assumption; done))) (find_tr _ zs GN[i] (by omega)) (by repeat (first | exact Ap.nil | apply Ap.cons)) ?_)
        intro x74 hJ
        try dsimp only at hJ
        try dsimp only
        refine G.ownBFact (by repeat (first | with_reducible exact Sel.here | exact Sel.here | apply Sel.there)) (v := x74) (fun hv74 => ?_)
        rw [find_isSome hgz.ok]
        obtain ⟨F, hF⟩ : ∃ F, (findM (ens zs) GN[i]).getD zeroE = F := ⟨_, rfl⟩
        rw [hF]
        refine G.op rfl (G.val rfl rfl (pv_move rfl) ?_)
        refine G.op rfl (G.val rfl rfl (pv_extract rfl rfl) ?_)
        refine G.op rfl (G.val rfl rfl (pv_extract rfl rfl) ?_)
        refine G.op rfl (G.alloc (z := .agg #[.string ⟨#[]⟩, .int .i64 0, .int .i64 0, .slice none 0 0, .string ⟨#[]⟩]) (cs := [.string ⟨#[]⟩, .int .i64 0, .int .i64 0, .slice none 0 0, .string ⟨#[]⟩]) rfl (by kernel_rfl) rfl ?_)
        intro b15
        refine G.op rfl (G.storeN (by kernel_rfl) rfl rfl (by first | exact (all1_cons (by first | rfl | with_reducible assumption) (all1_cons (by first | rfl | with_reducible assumption) (all1_cons (by first | rfl | with_reducible assumption) (all1_cons (by first | rfl | with_reducible assumption) (all1_cons (by first | rfl | with_reducible assumption) all1_nil))))) | exact List.all_eq_true.2 (vByte_one _) | rfl) (by repeat (first | with_reducible exact Sel.here | exact Sel.here | apply Sel.there)) (by first | (simp; done) | exact Nat.le_of_ble_eq_true rfl) ?_)
        refine G.op rfl (G.val rfl rfl (pv_assign rfl) ?_)
        refine G.nil ?_
        refine G.nThen ?_
        refine G.seq ?_
        refine G.seq ?_
        refine G.region ?_
        refine G.op rfl (G.val rfl rfl (pv_move rfl) ?_)
        refine G.op rfl (G.val rfl rfl (pv_notP rfl) ?_)
        refine G.nil ?_
        refine G.nThen ?_
        refine G.condP rfl (fun h78 => ?_) (fun h78 => ?_)
        · refine G.exit ?_
          refine G.eThen ?_
          refine G.eBlock ?_
          refine G.nThen ?_
          refine G.region ?_
          refine G.op rfl (G.val rfl rfl (pv_move rfl) ?_)
          refine G.op rfl (G.val rfl rfl (pv_add64 rfl rfl (by omega)) ?_)
          refine G.op rfl (G.val rfl rfl (pv_assign rfl) ?_)
          refine G.nil ?_
          exact G.next ((i + 1, (.slice oa4 zs.length oc4), zs)) (by first | exact trivial | ((try dsimp only); exact ⟨by omega, (by rw [htk, drops_same hga1 (by rw [← hJz]; exact h78)]; exact hJz)⟩)) (by (try dsimp only); omega) (.consE rfl (by first | rfl | exact int_eq (by first | omega | (dsimp only; omega)) | exact congrArg _ (by omega)) (.consE rfl (by first | rfl | exact int_eq (by first | omega | (dsimp only; omega)) | exact congrArg _ (by omega)) (.cons rfl (.cons rfl (.cons rfl (.cons rfl (.cons rfl (.cons rfl .nil)))))))) (by repeat (first | exact Sub.nil | (apply Sub.cons; (repeat (first | with_reducible exact Sel.here | exact Sel.here | apply Sel.there)))))
        · have hat : isAt (ens zs) GN[i] := Decidable.of_not_not h78
          refine G.skip ?_
          refine G.nThen ?_
          refine G.seq ?_
          refine G.region ?_
          refine G.op rfl (G.val rfl rfl (pv_move rfl) ?_)
          refine G.op rfl (G.val rfl rfl (pv_move rfl) ?_)
          refine G.op rfl (G.val rfl rfl (pv_move rfl) ?_)
          refine G.op rfl (G.val rfl rfl (pv_ixSl (sz := 1) (k := i) Try.underlying44 (by kernel_rfl) rfl rfl nad2 (by omega) (by omega)) ?_)
          refine G.op rfl (G.val rfl rfl (pv_load (v := .string (sB GN[i])) Try.underlying9 rfl rfl (fun w hw => News.str (nnw2 (by repeat (first | with_reducible exact Sel.here | exact Sel.here | apply Sel.there)) w hw) i (by omega))) ?_)
          refine G.op rfl (G.cS rfl rfl rfl rfl Try.func32 rfl rfl (by repeat (first | exact Sub.nil | (apply Sub.cons; (repeat (first | with_reducible exact Sel.here | exact Sel.here | apply Sel.there))))) (may1 (by first | (apply May.old; first | with_reducible assumption | assumption) | (apply Sel.may; (repeat (first | with_reducible exact Sel.here | exact Sel.here | apply Sel.there)); done) | (apply may_own; (repeat (first | with_reducible exact Sel.here | exact Sel.here | apply Sel.there)); exact rfl; exact (fun _ _ => trivial); done) | (apply may_ownB; (repeat (first | with_reducible exact Sel.here | exact Sel.here | apply Sel.there)); done) | (apply may_tree; (repeat (first | with_reducible exact Sel.here | exact Sel.here | apply Sel.there)); (repeat (first | with_reducible exact Sel.here | exact Sel.here | apply Sel.there)); assumption; done))) (drop_tr _ zs GN[i] (by omega)) (by repeat (first | exact Ap.nil | apply Ap.cons)) ?_)
          intro x85 hJ
          obtain ⟨z1, rs⟩ := x85
          try dsimp only at hJ
          try dsimp only
          rw [drop_at hgz.ok hat] at hJ ⊢
          have hrs : ens rs = (ens zs).filter (keepB GN[i]) := hJ
          have hless := drops_less hat
          rw [← hrs, ens_length, ens_length] at hless
          refine G.ownOpen (v := z1) (by repeat (first | with_reducible exact Sel.here | exact Sel.here | apply Sel.there)) (fun oa6 oc6 ov6 ok6 om6 => ?_)
          subst ov6
          refine G.op rfl (G.val rfl rfl (pv_move rfl) ?_)
          refine G.op rfl (G.val rfl rfl (pv_extract rfl rfl) ?_)
          refine G.op rfl (G.val rfl rfl (pv_extract rfl rfl) ?_)
          refine G.op rfl (G.val rfl rfl (pv_assign rfl) ?_)
          refine G.op rfl (G.val rfl rfl (pv_assign rfl) ?_)
          refine G.nil ?_
          refine G.nThen ?_
          refine G.seq ?_
          refine G.seq ?_
          refine G.region ?_
          refine G.op rfl (G.val rfl rfl (pv_move rfl) ?_)
          refine G.op rfl (G.val rfl rfl ((pv_neq rfl rfl).cast (v' := .bool false) (congrArg Value.bool (by simp))) ?_)
          refine G.op rfl (G.val rfl rfl (pv_move rfl) ?_)
          refine G.want rfl rfl rfl (G.val rfl rfl (pv_move rfl) ?_)
          refine G.want rfl rfl rfl (G.val rfl rfl (pv_lenSl Try.underlying22 rfl) ?_)
          refine G.want rfl rfl rfl (G.val rfl rfl (pv_move rfl) ?_)
          refine G.want rfl rfl rfl (G.val rfl rfl (pv_lenSl Try.underlying22 rfl) ?_)
          refine G.want rfl rfl rfl (G.val rfl rfl ((pv_geq rfl rfl).cast (v' := .bool false) (congrArg Value.bool (decide_eq_false (by omega)))) ?_)
          refine G.op rfl (G.val rfl rfl (pv_pick rfl rfl) ?_)
          refine G.nil ?_
          refine G.nThen ?_
          refine G.condF rfl (rfl) ?_
          refine G.skip ?_
          refine G.nThen ?_
          refine G.region ?_
          refine G.op rfl (G.val rfl rfl (pv_move rfl) ?_)
          refine G.op rfl (G.val rfl rfl (pv_assign rfl) ?_)
          refine G.nil ?_
          refine G.nBlock ?_
          refine G.nThen ?_
          refine G.region ?_
          refine G.op rfl (G.val rfl rfl (pv_move rfl) ?_)
          refine G.op rfl (G.val rfl rfl (pv_add64 rfl rfl (by omega)) ?_)
          refine G.op rfl (G.val rfl rfl (pv_assign rfl) ?_)
          refine G.nil ?_
          exact G.next ((i + 1, (.slice oa6 rs.length oc6), rs)) (by first | exact trivial | ((try dsimp only); exact ⟨by omega, (by rw [htk, drops_snoc, ← hJz]; exact hrs)⟩)) (by (try dsimp only); omega) (.consE rfl (by first | rfl | exact int_eq (by first | omega | (dsimp only; omega)) | exact congrArg _ (by omega)) (.consE rfl (by first | rfl | exact int_eq (by first | omega | (dsimp only; omega)) | exact congrArg _ (by omega)) (.cons rfl (.cons rfl (.cons rfl (.cons rfl (.cons rfl (.cons rfl .nil)))))))) (by repeat (first | exact Sub.nil | (apply Sub.cons; (repeat (first | with_reducible exact Sel.here | exact Sel.here | apply Sel.there)))))
      · obtain rfl : i = GN.length := by omega
        rw [List.take_length, ← hGN, drops_all hga hgb, ← mix_zero] at hJz
        refine G.exit ?_
        refine G.eThen ?_
        refine G.eThen ?_
        refine G.eBlock ?_
        refine G.nThen ?_
        refine G.seq ?_
        refine G.region ?_
        refine G.op rfl (G.val rfl rfl (pv_assign rfl) ?_)
        refine G.nil ?_
        refine G.nThen ?_
        refine G.seq ?_
        refine G.seq ?_
        refine G.region ?_
        refine G.op rfl (G.val rfl rfl (pv_assign rfl) ?_)
        refine G.nil ?_
        refine G.nThen ?_
        refine G.block ?_
        refine G.loopK (X := Nat × Value × (List ET)) (ts := [0, 1, 5, 10, 11, 12]) (fun st => st.1 ≤ ys.length ∧ (ens st.2.2 = mixL (ens xs) (ens ys) st.1)) (fun st => [(20, .int .i64 (st.1 : Int)), (13, st.2.1), (19, .int .i64 (putN' (ens xs) (ens ys) st.1 : Int))]) (fun st => [ownT 31 st.2.1 st.2.2, datC 5 st.2.2]) (fun st => ys.length - st.1) (x0 := (0, (.slice oa4 zs.length oc4), zs)) (.cons rfl (.cons rfl (.cons rfl (.cons rfl (.cons rfl (.cons rfl .nil)))))) (by repeat (first | exact Sub.nil | (apply Sub.cons; (repeat (first | with_reducible exact Sel.here | exact Sel.here | apply Sel.there))))) (.cons (.cons (.cons .nil))) (by repeat (first | exact Ap.nil | apply Ap.cons)) (by first | exact trivial | ((try dsimp only); exact ⟨Nat.zero_le _, hJz⟩)) (.consE rfl (by first | rfl | exact int_eq (by first | omega | (dsimp only; omega)) | exact congrArg _ (by omega)) (.consE rfl (by first | rfl | exact int_eq (by first | omega | (dsimp only; omega)) | exact congrArg _ (by omega)) (.consE rfl (by first | rfl | exact int_eq (by first | omega | (dsimp only; omega)) | exact congrArg _ (by omega)) .nil))) (fun st hJ => ?_)
        obtain ⟨j, lw, ws⟩ := st
        try dsimp only at hJ
        try dsimp only
        obtain ⟨hkj, hJ⟩ := hJ
        have hJw := hJ
        have hokw := ok_list hJw (fun x hx => (mix_mem hx).elim (ok_ensl (Ro.allOk helv) x) (ok_ensl (Ro.allOk helu) x))
        have hpj := putN_le (ens xs) (ens ys) j
        refine G.seq ?_
        refine G.seq ?_
        refine G.region ?_
        refine G.op rfl (G.val rfl rfl (pv_move rfl) ?_)
        refine G.op rfl (G.val rfl rfl (pv_move rfl) ?_)
        refine G.op rfl (G.val rfl rfl (pv_lenSl Try.underlying22 rfl) ?_)
        refine G.op rfl (G.val rfl rfl (pv_lss rfl rfl) ?_)
        refine G.nil ?_
        refine G.nThen ?_
        refine G.condP rfl (fun h101 => ?_) (fun h101 => ?_)
        · have hlt : j < ys.length := by omega
          have hEu := helu j hlt
          have hRu := Ro.evRng hEu
          have hDu := Ro.evDat hEu
          obtain ⟨hk1u, hk2u, hlpu, hldu, hltu⟩ := Ro.evOk hEu
          have hCu := Ro.one1 hDu
          have hoky := Ro.evOk hEu
          have hge := ens_get hlt
          have hpno := putN_no (a := ens xs) (b := ens ys) (i := j) (by omega)
          have hpyes := putN_yes (a := ens xs) (b := ens ys) (i := j) (by omega)
          have hput := puts_ok hga hgb hl200 (i := j) (by omega)
          have hcnd := put_cond (a := ens xs) hgb.sort (x := (ens ys)[j]'(by omega)) (List.getElem_mem _)
          rw [hge] at hpno hpyes hput hcnd
          rw [hAD, hCH] at hcnd
          refine G.skip ?_
          refine G.nThen ?_
          refine G.seq ?_
          refine G.block ?_
          refine G.seq ?_
          refine G.region ?_
          refine G.op rfl (G.val rfl rfl (pv_move rfl) ?_)
          refine G.op rfl (G.val rfl rfl (pv_move rfl) ?_)
          refine G.op rfl (G.val rfl rfl (pv_ixSl (sz := 5) Try.underlying22 (by kernel_rfl) rfl rfl (by first | with_reducible assumption | assumption | exact fun _ => rfl) rfl (by omega)) ?_)
          refine G.op rfl (G.val rfl rfl (pv_fieldAddrK (sz := 0) (k := 0) Try.underlying31 rfl (by kernel_rfl) rfl rfl) ?_)
          refine G.op rfl (G.val rfl rfl (pv_load Try.underlying9 rfl rfl (by first | exact blk_cell (by (repeat (first | with_reducible exact Sel.here | exact Sel.here | apply Sel.there)); done) (by rfl) | exact rng_cell (by (repeat (first | with_reducible exact Sel.here | exact Sel.here | apply Sel.there)); done) (by rfl) | exact ro_blk (by assumption) (by rfl) | exact ro_rngC (by assumption) (by rfl) | exact ro_int (by assumption) | exact ro_byte (by assumption) | exact ro_str (by assumption) | with_reducible assumption | assumption)) ?_)
          refine G.op rfl (G.val rfl rfl (pv_assign rfl) ?_)
          refine G.nil ?_
          refine G.nThen ?_
          refine G.seq ?_
          refine G.seq ?_
          refine G.cutK (X := Unit) (ts := [0, 1, 5, 10, 11, 12, 13, 19, 20]) (p := []) (fun _ => True) (fun _ => [(118, .bool (decide (ys[j].1 ∈ ens xs)))]) (fun _ => []) (.cons rfl (.cons rfl (.cons rfl (.cons rfl (.cons rfl (.cons rfl (.cons rfl (.cons rfl (.cons rfl .nil))))))))) (by repeat (first | exact Sub.nil | (apply Sub.cons; (repeat (first | with_reducible exact Sel.here | exact Sel.here | apply Sel.there))))) (.cons .nil) (by repeat (first | exact Ap.nil | apply Ap.cons)) ?_ ?_
          · refine G.region ?_
            refine G.op rfl (G.val rfl rfl (pv_move rfl) ?_)
            refine G.op rfl (G.val rfl rfl (pv_move rfl) ?_)
            refine G.op rfl (G.cR rfl rfl rfl rfl Try.func38 rfl rfl (may1 (by first | (apply May.old; first | with_reducible assumption | assumption) | (apply Sel.may; (repeat (first | with_reducible exact Sel.here | exact Sel.here | apply Sel.there)); done) | (apply may_own; (repeat (first | with_reducible exact Sel.here | exact Sel.here | apply Sel.there)); exact rfl; exact (fun _ _ => trivial); done) | (apply may_ownB; (repeat (first | with_reducible exact Sel.here | exact Sel.here | apply Sel.there)); done) | (apply may_tree; (repeat (first | with_reducible exact Sel.here | exact Sel.here | apply Sel.there)); (repeat (first | with_reducible exact Sel.here | exact Sel.here | apply Sel.there)); assumption; done))) (among_tr _ _ _) ?_)
            refine G.op rfl (G.val rfl rfl (pv_notP rfl) ?_)
            refine G.op rfl (G.val rfl rfl (pv_move rfl) ?_)
            refine G.partP (t := 113) rfl (fun h113 => ?_) (fun h113 => ?_)
            · refine G.want rfl rfl rfl (G.val rfl rfl (pv_move rfl) ?_)
              refine G.want rfl rfl rfl (G.val rfl rfl (pv_move rfl) ?_)
              refine G.want rfl rfl rfl (G.cR rfl rfl rfl rfl Try.func38 rfl rfl (may1 (by first | (apply May.old; first | with_reducible assumption | assumption) | (apply Sel.may; (repeat (first | with_reducible exact Sel.here | exact Sel.here | apply Sel.there)); done) | (apply may_own; (repeat (first | with_reducible exact Sel.here | exact Sel.here | apply Sel.there)); exact rfl; exact (fun _ _ => trivial); done) | (apply may_ownB; (repeat (first | with_reducible exact Sel.here | exact Sel.here | apply Sel.there)); done) | (apply may_tree; (repeat (first | with_reducible exact Sel.here | exact Sel.here | apply Sel.there)); (repeat (first | with_reducible exact Sel.here | exact Sel.here | apply Sel.there)); assumption; done))) (among_tr _ _ _) ?_)
              refine G.want rfl rfl rfl (G.val rfl rfl (pv_notP rfl) ?_)
              refine G.op rfl (G.val rfl rfl (pv_pick rfl rfl) ?_)
              refine G.nil ?_
              exact G.meet (()) (by first | exact trivial | ((try dsimp only); exact trivial)) (.consE rfl (by first | exact dec_e ⟨fun h => hcnd.1 ⟨by assumption, h⟩, fun h => (hcnd.2 h).2⟩ | exact dec_f (fun h => h113 (hcnd.2 h).1)) (.cons rfl (.cons rfl (.cons rfl (.cons rfl (.cons rfl (.cons rfl (.cons rfl (.cons rfl (.cons rfl .nil)))))))))) (by repeat (first | exact Sub.nil | (apply Sub.cons; (repeat (first | with_reducible exact Sel.here | exact Sel.here | apply Sel.there)))))
            · refine G.pass rfl rfl rfl rfl rfl rfl ?_
              refine G.pass rfl rfl rfl rfl rfl rfl ?_
              refine G.pass rfl rfl rfl rfl rfl rfl ?_
              refine G.pass rfl rfl rfl rfl rfl rfl ?_
              refine G.op rfl (G.val rfl rfl (pv_pick rfl rfl) ?_)
              refine G.nil ?_
              exact G.meet (()) (by first | exact trivial | ((try dsimp only); exact trivial)) (.consE rfl (by first | exact dec_e ⟨fun h => hcnd.1 ⟨by assumption, h⟩, fun h => (hcnd.2 h).2⟩ | exact dec_f (fun h => h113 (hcnd.2 h).1)) (.cons rfl (.cons rfl (.cons rfl (.cons rfl (.cons rfl (.cons rfl (.cons rfl (.cons rfl (.cons rfl .nil)))))))))) (by repeat (first | exact Sub.nil | (apply Sub.cons; (repeat (first | with_reducible exact Sel.here | exact Sel.here | apply Sel.there)))))
          · intro _ hJ
            try dsimp only at hJ
            try dsimp only
            refine G.condP rfl (fun h118 => ?_) (fun h118 => ?_)
            · have hpn := hpno h118
              refine G.exit ?_
              refine G.eThen ?_
              refine G.eBlock ?_
              refine G.nThen ?_
              refine G.region ?_
              refine G.op rfl (G.val rfl rfl (pv_move rfl) ?_)
              refine G.op rfl (G.val rfl rfl (pv_add64 rfl rfl (by omega)) ?_)
              refine G.op rfl (G.val rfl rfl (pv_assign rfl) ?_)
              refine G.nil ?_
              exact G.next ((j + 1, lw, ws)) (by first | exact trivial | ((try dsimp only); exact ⟨by omega, (by rw [mix_same hga.sort hgb.sort (by omega) (by rw [hge]; exact h118)]; exact hJw)⟩)) (by (try dsimp only); omega) (.consE rfl (by first | rfl | exact int_eq (by first | omega | (dsimp only; omega)) | exact congrArg _ (by omega)) (.consE rfl (by first | rfl | exact int_eq (by first | omega | (dsimp only; omega)) | exact congrArg _ (by omega)) (.consE rfl (by first | rfl | exact int_eq (by first | omega | (dsimp only; omega)) | exact congrArg _ (by omega)) (.cons rfl (.cons rfl (.cons rfl (.cons rfl (.cons rfl (.cons rfl .nil))))))))) (by repeat (first | exact Sub.nil | (apply Sub.cons; (repeat (first | with_reducible exact Sel.here | exact Sel.here | apply Sel.there)))))
            · have hpn := hpyes h118
              refine G.skip ?_
              refine G.nThen ?_
              refine G.seq ?_
              refine G.region ?_
              refine G.op rfl (G.val rfl rfl (pv_move rfl) ?_)
              refine G.op rfl (G.val rfl rfl (pv_move rfl) ?_)
              refine G.op rfl (G.val rfl rfl (pv_move rfl) ?_)
              refine G.op rfl (G.val rfl rfl (pv_ixSl (sz := 5) Try.underlying22 (by kernel_rfl) rfl rfl (by first | with_reducible assumption | assumption | exact fun _ => rfl) rfl (by omega)) ?_)
              refine G.op rfl (G.val rfl rfl (pv_loadN (cs := [_, _, _, _, _]) Try.underlying31 rfl (by kernel_rfl) rfl (by first | exact blk_range (k := 5) (by (repeat (first | with_reducible exact Sel.here | exact Sel.here | apply Sel.there)); done) (by rfl) | exact ro_rng0 (by assumption) | exact rng_range (k := 5) (by (repeat (first | with_reducible exact Sel.here | exact Sel.here | apply Sel.there)); done) (by rfl) | exact ro_range (k := 5) (by assumption) (by rfl) | exact ro_rngR (k := 5) (by assumption) (by rfl))) ?_)
              refine G.op rfl (G.cS rfl rfl rfl rfl Try.func30 rfl rfl (by repeat (first | exact Sub.nil | (apply Sub.cons; (repeat (first | with_reducible exact Sel.here | exact Sel.here | apply Sel.there))))) (may2 (by first | (apply May.old; first | with_reducible assumption | assumption) | (apply Sel.may; (repeat (first | with_reducible exact Sel.here | exact Sel.here | apply Sel.there)); done) | (apply may_own; (repeat (first | with_reducible exact Sel.here | exact Sel.here | apply Sel.there)); exact rfl; exact (fun _ _ => trivial); done) | (apply may_ownB; (repeat (first | with_reducible exact Sel.here | exact Sel.here | apply Sel.there)); done) | (apply may_tree; (repeat (first | with_reducible exact Sel.here | exact Sel.here | apply Sel.there)); (repeat (first | with_reducible exact Sel.here | exact Sel.here | apply Sel.there)); assumption; done)) (by first | (apply May.old; first | with_reducible assumption | assumption) | (apply Sel.may; (repeat (first | with_reducible exact Sel.here | exact Sel.here | apply Sel.there)); done) | (apply may_own; (repeat (first | with_reducible exact Sel.here | exact Sel.here | apply Sel.there)); exact rfl; exact (fun _ _ => trivial); done) | (apply may_ownB; (repeat (first | with_reducible exact Sel.here | exact Sel.here | apply Sel.there)); done) | (apply may_tree; (repeat (first | with_reducible exact Sel.here | exact Sel.here | apply Sel.there)); (repeat (first | with_reducible exact Sel.here | exact Sel.here | apply Sel.there)); assumption; done))) (put_tr _ _ _ _ (by assumption)) (by repeat (first | exact Ap.nil | apply Ap.cons)) ?_)
              intro x125 hJ
              obtain ⟨p1, ps⟩ := x125
              try dsimp only at hJ
              try dsimp only
              rw [hJw, hput] at hJ ⊢
              have hps : ens ps = mixL (ens xs) (ens ys) (j + 1) := hJ
              refine G.op rfl (G.val rfl rfl (pv_move rfl) ?_)
              refine G.op rfl (G.val rfl rfl (pv_extract rfl rfl) ?_)
              refine G.op rfl (G.val rfl rfl (pv_extract rfl rfl) ?_)
              refine G.op rfl (G.val rfl rfl (pv_assign rfl) ?_)
              refine G.op rfl (G.val rfl rfl (pv_assign rfl) ?_)
              refine G.nil ?_
              refine G.nThen ?_
              refine G.seq ?_
              refine G.seq ?_
              refine G.region ?_
              refine G.op rfl (G.val rfl rfl (pv_move rfl) ?_)
              refine G.op rfl (G.val rfl rfl ((pv_neq rfl rfl).cast (v' := .bool false) (congrArg Value.bool (by simp))) ?_)
              refine G.nil ?_
              refine G.nThen ?_
              refine G.condF rfl (rfl) ?_
              refine G.skip ?_
              refine G.nThen ?_
              refine G.seq ?_
              refine G.region ?_
              refine G.op rfl (G.val rfl rfl (pv_move rfl) ?_)
              refine G.op rfl (G.val rfl rfl (pv_assign rfl) ?_)
              refine G.nil ?_
              refine G.nThen ?_
              refine G.region ?_
              refine G.op rfl (G.val rfl rfl (pv_move rfl) ?_)
              refine G.op rfl (G.val rfl rfl (pv_add64 rfl rfl (by omega)) ?_)
              refine G.op rfl (G.val rfl rfl (pv_assign rfl) ?_)
              refine G.nil ?_
              refine G.nBlock ?_
              refine G.nThen ?_
              refine G.region ?_
              refine G.op rfl (G.val rfl rfl (pv_move rfl) ?_)
              refine G.op rfl (G.val rfl rfl (pv_add64 rfl rfl (by omega)) ?_)
              refine G.op rfl (G.val rfl rfl (pv_assign rfl) ?_)
              refine G.nil ?_
              exact G.next ((j + 1, p1, ps)) (by first | exact trivial | ((try dsimp only); exact ⟨by omega, hps⟩)) (by (try dsimp only); omega) (.consE rfl (by first | rfl | exact int_eq (by first | omega | (dsimp only; omega)) | exact congrArg _ (by omega)) (.consE rfl (by first | rfl | exact int_eq (by first | omega | (dsimp only; omega)) | exact congrArg _ (by omega)) (.consE rfl (by first | rfl | exact int_eq (by first | omega | (dsimp only; omega)) | exact congrArg _ (by omega)) (.cons rfl (.cons rfl (.cons rfl (.cons rfl (.cons rfl (.cons rfl .nil))))))))) (by repeat (first | exact Sub.nil | (apply Sub.cons; (repeat (first | with_reducible exact Sel.here | exact Sel.here | apply Sel.there)))))
        · obtain rfl : j = ys.length := by omega
          rw [mix_end (by omega)] at hJw
          rw [hly] at hpend hple
          have hbb := (diff_same hgb.sort hgb.sort).1 rfl
          refine G.exit ?_
          refine G.eThen ?_
          refine G.eThen ?_
          refine G.eBlock ?_
          refine G.nThen ?_
          refine G.seq ?_
          refine G.region ?_
          refine G.op rfl (G.val rfl rfl (pv_move rfl) ?_)
          refine G.op rfl (G.val rfl rfl (pv_move rfl) ?_)
          refine G.op rfl (G.cS rfl rfl rfl rfl Try.func25 rfl rfl (by repeat (first | exact Sub.nil | (apply Sub.cons; (repeat (first | with_reducible exact Sel.here | exact Sel.here | apply Sel.there))))) (may2 (by first | (apply May.old; first | with_reducible assumption | assumption) | (apply Sel.may; (repeat (first | with_reducible exact Sel.here | exact Sel.here | apply Sel.there)); done) | (apply may_own; (repeat (first | with_reducible exact Sel.here | exact Sel.here | apply Sel.there)); exact rfl; exact (fun _ _ => trivial); done) | (apply may_ownB; (repeat (first | with_reducible exact Sel.here | exact Sel.here | apply Sel.there)); done) | (apply may_tree; (repeat (first | with_reducible exact Sel.here | exact Sel.here | apply Sel.there)); (repeat (first | with_reducible exact Sel.here | exact Sel.here | apply Sel.there)); assumption; done)) (by first | (apply May.old; first | with_reducible assumption | assumption) | (apply Sel.may; (repeat (first | with_reducible exact Sel.here | exact Sel.here | apply Sel.there)); done) | (apply may_own; (repeat (first | with_reducible exact Sel.here | exact Sel.here | apply Sel.there)); exact rfl; exact (fun _ _ => trivial); done) | (apply may_ownB; (repeat (first | with_reducible exact Sel.here | exact Sel.here | apply Sel.there)); done) | (apply may_tree; (repeat (first | with_reducible exact Sel.here | exact Sel.here | apply Sel.there)); (repeat (first | with_reducible exact Sel.here | exact Sel.here | apply Sel.there)); assumption; done))) (diff_tr _ _ ys ys) (by repeat (first | exact Ap.nil | apply Ap.cons)) ?_)
          intro x136 hJ
          obtain ⟨f1, f2, f3⟩ := x136
          try dsimp only at hJ
          try dsimp only
          rw [diff_ok h0b h0b]
          dsimp only
          refine G.ownOpen (v := f1) (by repeat (first | with_reducible exact Sel.here | exact Sel.here | apply Sel.there)) (fun oa7 oc7 ov7 ok7 om7 => ?_)
          subst ov7
          refine G.ownOpen (v := f2) (by repeat (first | with_reducible exact Sel.here | exact Sel.here | apply Sel.there)) (fun oa8 oc8 ov8 ok8 om8 => ?_)
          subst ov8
          refine G.ownOpen (v := f3) (by repeat (first | with_reducible exact Sel.here | exact Sel.here | apply Sel.there)) (fun oa9 oc9 ov9 ok9 om9 => ?_)
          subst ov9
          refine G.op rfl (G.val rfl rfl (pv_move rfl) ?_)
          refine G.op rfl (G.val rfl rfl (pv_extract rfl rfl) ?_)
          refine G.op rfl (G.val rfl rfl (pv_extract rfl rfl) ?_)
          refine G.op rfl (G.val rfl rfl (pv_extract rfl rfl) ?_)
          refine G.op rfl (G.val rfl rfl (pv_assign rfl) ?_)
          refine G.op rfl (G.val rfl rfl (pv_assign rfl) ?_)
          refine G.op rfl (G.val rfl rfl (pv_assign rfl) ?_)
          refine G.nil ?_
          refine G.nThen ?_
          refine G.seq ?_
          refine G.region ?_
          refine G.op rfl (G.val rfl rfl (pv_move rfl) ?_)
          refine G.op rfl (G.val rfl rfl (pv_move rfl) ?_)
          refine G.want rfl rfl rfl (G.val rfl rfl (pv_move rfl) ?_)
          refine G.want rfl rfl rfl (G.val rfl rfl (pv_move rfl) ?_)
          refine G.want rfl rfl rfl (G.val rfl rfl (pv_lenSl Try.underlying44 rfl) ?_)
          refine G.want rfl rfl rfl (G.val rfl rfl (pv_move rfl) ?_)
          refine G.want rfl rfl rfl (G.val rfl rfl (pv_lenSl Try.underlying44 rfl) ?_)
          refine G.want rfl rfl rfl (G.val rfl rfl (pv_add64 rfl rfl (by omega)) ?_)
          refine G.want rfl rfl rfl (G.val rfl rfl ((pv_eql rfl rfl).cast (v' := .bool true) (congrArg Value.bool (decide_eq_true (by omega)))) ?_)
          refine G.op rfl (G.val rfl rfl (pv_pick rfl rfl) ?_)
          refine G.op rfl (G.val rfl rfl (pv_move rfl) ?_)
          refine G.want rfl rfl rfl (G.val rfl rfl (pv_move rfl) ?_)
          refine G.want rfl rfl rfl (G.val rfl rfl (pv_move rfl) ?_)
          refine G.want rfl rfl rfl (G.cR rfl rfl rfl rfl Try.func16 rfl rfl (may2 (by first | (apply May.old; first | with_reducible assumption | assumption) | (apply Sel.may; (repeat (first | with_reducible exact Sel.here | exact Sel.here | apply Sel.there)); done) | (apply may_own; (repeat (first | with_reducible exact Sel.here | exact Sel.here | apply Sel.there)); exact rfl; exact (fun _ _ => trivial); done) | (apply may_ownB; (repeat (first | with_reducible exact Sel.here | exact Sel.here | apply Sel.there)); done) | (apply may_tree; (repeat (first | with_reducible exact Sel.here | exact Sel.here | apply Sel.there)); (repeat (first | with_reducible exact Sel.here | exact Sel.here | apply Sel.there)); assumption; done)) (by first | (apply May.old; first | with_reducible assumption | assumption) | (apply Sel.may; (repeat (first | with_reducible exact Sel.here | exact Sel.here | apply Sel.there)); done) | (apply may_own; (repeat (first | with_reducible exact Sel.here | exact Sel.here | apply Sel.there)); exact rfl; exact (fun _ _ => trivial); done) | (apply may_ownB; (repeat (first | with_reducible exact Sel.here | exact Sel.here | apply Sel.there)); done) | (apply may_tree; (repeat (first | with_reducible exact Sel.here | exact Sel.here | apply Sel.there)); (repeat (first | with_reducible exact Sel.here | exact Sel.here | apply Sel.there)); assumption; done))) (tree_yes _ _ ws ys hJw) ?_)
          refine G.op rfl (G.val rfl rfl (pv_pick rfl rfl) ?_)
          refine G.op rfl (G.val rfl rfl (pv_move rfl) ?_)
          refine G.want rfl rfl rfl (G.val rfl rfl (pv_move rfl) ?_)
          refine G.want rfl rfl rfl (G.val rfl rfl (pv_move rfl) ?_)
          refine G.want rfl rfl rfl (G.cR rfl rfl rfl rfl Try.func28 rfl rfl (may2 (by first | (apply May.old; first | with_reducible assumption | assumption) | (apply Sel.may; (repeat (first | with_reducible exact Sel.here | exact Sel.here | apply Sel.there)); done) | (apply may_own; (repeat (first | with_reducible exact Sel.here | exact Sel.here | apply Sel.there)); exact rfl; exact (fun _ _ => trivial); done) | (apply may_ownB; (repeat (first | with_reducible exact Sel.here | exact Sel.here | apply Sel.there)); done) | (apply may_tree; (repeat (first | with_reducible exact Sel.here | exact Sel.here | apply Sel.there)); (repeat (first | with_reducible exact Sel.here | exact Sel.here | apply Sel.there)); assumption; done)) (by first | (apply May.old; first | with_reducible assumption | assumption) | (apply Sel.may; (repeat (first | with_reducible exact Sel.here | exact Sel.here | apply Sel.there)); done) | (apply may_own; (repeat (first | with_reducible exact Sel.here | exact Sel.here | apply Sel.there)); exact rfl; exact (fun _ _ => trivial); done) | (apply may_ownB; (repeat (first | with_reducible exact Sel.here | exact Sel.here | apply Sel.there)); done) | (apply may_tree; (repeat (first | with_reducible exact Sel.here | exact Sel.here | apply Sel.there)); (repeat (first | with_reducible exact Sel.here | exact Sel.here | apply Sel.there)); assumption; done))) (tsame_yes _ _ ws ys hJw) ?_)
          refine G.op rfl (G.val rfl rfl (pv_pick rfl rfl) ?_)
          refine G.op rfl (G.val rfl rfl (pv_move rfl) ?_)
          refine G.want rfl rfl rfl (G.val rfl rfl (pv_move rfl) ?_)
          refine G.want rfl rfl rfl (G.val rfl rfl (pv_lenSl Try.underlying44 rfl) ?_)
          refine G.want rfl rfl rfl (G.val rfl rfl (pv_move rfl) ?_)
          refine G.want rfl rfl rfl (G.val rfl rfl (pv_lenSl Try.underlying44 rfl) ?_)
          refine G.want rfl rfl rfl (G.val rfl rfl (pv_add64 rfl rfl (by omega)) ?_)
          refine G.want rfl rfl rfl (G.val rfl rfl (pv_move rfl) ?_)
          refine G.want rfl rfl rfl (G.val rfl rfl (pv_lenSl Try.underlying44 rfl) ?_)
          refine G.want rfl rfl rfl (G.val rfl rfl (pv_add64 rfl rfl (by omega)) ?_)
          refine G.want rfl rfl rfl (G.val rfl rfl ((pv_eql rfl rfl).cast (v' := .bool true) (congrArg Value.bool (decide_eq_true (by omega)))) ?_)
          refine G.op rfl (G.val rfl rfl (pv_pick rfl rfl) ?_)
          refine G.op rfl (G.val rfl rfl (pv_move rfl) ?_)
          refine G.want rfl rfl rfl (G.val rfl rfl (pv_move rfl) ?_)
          refine G.want rfl rfl rfl (G.val rfl rfl (pv_move rfl) ?_)
          refine G.want rfl rfl rfl (G.cR rfl rfl rfl rfl Try.func28 rfl rfl (may2 (by first | (apply May.old; first | with_reducible assumption | assumption) | (apply Sel.may; (repeat (first | with_reducible exact Sel.here | exact Sel.here | apply Sel.there)); done) | (apply may_own; (repeat (first | with_reducible exact Sel.here | exact Sel.here | apply Sel.there)); exact rfl; exact (fun _ _ => trivial); done) | (apply may_ownB; (repeat (first | with_reducible exact Sel.here | exact Sel.here | apply Sel.there)); done) | (apply may_tree; (repeat (first | with_reducible exact Sel.here | exact Sel.here | apply Sel.there)); (repeat (first | with_reducible exact Sel.here | exact Sel.here | apply Sel.there)); assumption; done)) (by first | (apply May.old; first | with_reducible assumption | assumption) | (apply Sel.may; (repeat (first | with_reducible exact Sel.here | exact Sel.here | apply Sel.there)); done) | (apply may_own; (repeat (first | with_reducible exact Sel.here | exact Sel.here | apply Sel.there)); exact rfl; exact (fun _ _ => trivial); done) | (apply may_ownB; (repeat (first | with_reducible exact Sel.here | exact Sel.here | apply Sel.there)); done) | (apply may_tree; (repeat (first | with_reducible exact Sel.here | exact Sel.here | apply Sel.there)); (repeat (first | with_reducible exact Sel.here | exact Sel.here | apply Sel.there)); assumption; done))) (tsame_tr _ _ _ _) ?_)
          refine G.want rfl rfl rfl (G.val rfl rfl (pv_move rfl) ?_)
          refine G.want rfl rfl rfl (G.val rfl rfl (pv_lenSl Try.underlying44 rfl) ?_)
          refine G.want rfl rfl rfl (G.val rfl rfl (pv_move rfl) ?_)
          refine G.want rfl rfl rfl (G.val rfl rfl (pv_lenSl Try.underlying44 rfl) ?_)
          refine G.want rfl rfl rfl (G.val rfl rfl (pv_add64 rfl rfl (by omega)) ?_)
          refine G.want rfl rfl rfl (G.val rfl rfl (pv_move rfl) ?_)
          refine G.want rfl rfl rfl (G.val rfl rfl (pv_lenSl Try.underlying44 rfl) ?_)
          refine G.want rfl rfl rfl (G.val rfl rfl (pv_add64 rfl rfl (by omega)) ?_)
          refine G.want rfl rfl rfl (G.val rfl rfl (pv_eql rfl rfl) ?_)
          refine G.want rfl rfl rfl (G.val rfl rfl ((pv_eqlB Try.underlying4 rfl rfl).cast (v' := .bool true) (congrArg Value.bool (beq_dec (hsame.trans ⟨fun h => by omega, fun h => by omega⟩)))) ?_)
          refine G.op rfl (G.val rfl rfl (pv_pick rfl rfl) ?_)
          refine G.op rfl (G.val rfl rfl (pv_assign rfl) ?_)
          refine G.nil ?_
          refine G.nThen ?_
          refine G.ret ?_
          exact G.done0G rfl (Rv.tmp rfl Rv.nil) (by first | rfl | exact int_eq (by omega) | (simp; done))
end Go.Proofs.Ytchgaedidfefoaa

set_option maxRecDepth 100000
set_option linter.unusedVariables false
set_option linter.unusedSimpArgs false
namespace Go.Proofs.Ytchgaedidfefoaa
open Go.ChangeShapes Go.WideShapes Go.ChangeAt Go.RowKit Go.Deep
theorem in1 {p : Ck → Prop} {a : Ck} (h : p a) : ∀ x ∈ [a], p x := fun x hx => by obtain rfl : x = a := (by simpa using hx); exact h
theorem inC {p : Ck → Prop} {a : Ck} {l : List Ck} (h : p a) (r : ∀ x ∈ l, p x) : ∀ x ∈ a :: l, p x := fun x hx => by
  rcases List.mem_cons.1 hx with rfl | hx
  · exact h
  · exact r x hx
section
variable {H : Type} {enc : TypeId × Value → H} {W : World}
theorem opn_weak {P : Program} {α β : Type} {t : TypeId} {E : Rdr α} {F : Rdr β} (h : Opn H enc P W t E) (hs : E.sz = F.sz) (hf : ∀ Ps w b o a, E.R Ps w b o a → ∃ a', F.R Ps w b o a') : Opn H enc P W t F := ⟨h.sz.trans hs, fun fuel cs x b o hx hwt hA hb => by
  obtain ⟨a, ha⟩ := h.mem fuel cs x b o hx hwt hA hb
  exact hf _ _ _ _ _ ha⟩
theorem opn_entry : Opn H enc Try.prog W 31 rEV := by
  refine opn_weak (opn_struct Try.underlying31 (F := rProd rStrB (rProd rInt (rProd rInt (rProd (rSlB rByte) (rProd rStrB rUnit))))) (by kernel_rfl)
    (.cons (opn_str Try.underlying9 (by kernel_rfl)) rfl (.cons (opn_int Try.underlying3 (by kernel_rfl)) rfl (.cons (opn_int Try.underlying3 (by kernel_rfl)) rfl
      (.cons (opn_rSl Try.underlying29 (by kernel_rfl) (of_decide_eq_true (by kernel_rfl)) (opn_byte Try.underlying5 (by kernel_rfl)) (by decide)) rfl (.cons (opn_str Try.underlying9 (by kernel_rfl)) rfl .nil)))))) rfl ?_
  rintro Ps w b o ⟨a0, a1, a2, a3, a4, _⟩ ⟨⟨hb, h0, l0⟩, ⟨_, h1, l1⟩, ⟨_, h2, l2⟩, ⟨⟨_, d, h3, hd⟩, l3⟩, ⟨_, h4, l4⟩, _⟩
  refine ⟨(⟨a0, a1, a2, a3, a4⟩, d), hb, fun j v hj => ?_, hd, l1, l2, l0, l3, l4⟩
  have hlt : j < 5 := by
    have := (List.getElem?_eq_some_iff.1 hj).1
    exact this
  rcases (by omega : j = 0 ∨ j = 1 ∨ j = 2 ∨ j = 3 ∨ j = 4) with rfl | rfl | rfl | rfl | rfl
  · obtain rfl : _ = v := Option.some.inj hj
    exact h0
  · obtain rfl : _ = v := Option.some.inj hj
    exact h1
  · obtain rfl : _ = v := Option.some.inj hj
    exact h2
  · obtain rfl : _ = v := Option.some.inj hj
    exact h3
  · obtain rfl : _ = v := Option.some.inj hj
    exact h4
theorem opn_tree {v : Value} {d : DataW H} {p : List MemPlace} {r : Reach} {base : Nat} (hok : Value.okWide Try.prog W r base 22 v) (h : DataW.Trod enc Try.prog W 0 (fun _ => true) true 22 v d p)
    {ts : List TypeId} {ds : List (DataW H)} {j : Nat} (hsz : (DataW.weightsEach Try.prog ts ds).all (· ≤ reachBytes) = true) (hts : ts[j]? = some 22) (hds : ds[j]? = some d) :
    ∃ xs : List ET, Ro W (fun _ => False) (slc rEV (· < W.heap.size) v xs) ∧ xs.length ≤ 140737488355328 :=
  opn_arg Try.underlying22 (of_decide_eq_true (by kernel_rfl)) opn_entry (by decide) hok h hsz hts hds
end
end Go.Proofs.Ytchgaedidfefoaa

