/- Contracts of the statements' kit: lists of numbers, of IDs, notes: the same, copied, long. Conditions: they lie in memory; what is copied is not long. -/
import Derived.Test.YtakcffhknnailaaWC
import Derived.Test.YtakcffhknnailaaOpg
import Derived.Test.YtakcffhknnailaaFK
set_option linter.unusedVariables false
set_option linter.unusedSimpArgs false
namespace Go.Proofs.Ytakcffhknnailaa
open Go.RowKit

/-! IDs in memory -/
def rID : Rdr (List UInt8) := rArr 16 rByte
def flatI (ids : List (List UInt8)) : List Value := ids.flatMap fun x => x.map vByte
def all16 (ids : List (List UInt8)) : Prop := ∀ x ∈ ids, x.length = 16
theorem all16.cons {x : List UInt8} {ids : List (List UInt8)} (h : all16 (x :: ids)) : x.length = 16 ∧ all16 ids := ⟨h x (List.mem_cons_self ..), fun y hy => h y (List.mem_cons_of_mem _ hy)⟩
theorem all16.snoc {x : List UInt8} {ids : List (List UInt8)} (h : all16 ids) (hx : x.length = 16) : all16 (ids ++ [x]) := fun y hy => by
  rcases List.mem_append.1 hy with h1 | h1
  · exact h y h1
  · obtain rfl : y = x := by simpa using h1
    exact hx
theorem flatI_length : ∀ {ids : List (List UInt8)}, all16 ids → (flatI ids).length = ids.length * 16
  | [], _ => rfl
  | x :: ids, h => by
    have := flatI_length h.cons.2
    unfold flatI at this ⊢
    rw [List.flatMap_cons, List.length_append, List.length_map, this, h.cons.1, List.length_cons]
    omega
theorem flatI_get : ∀ {ids : List (List UInt8)}, all16 ids → ∀ (i j : Nat) (hi : i < ids.length), j < 16 → (flatI ids)[i * 16 + j]? = (ids[i].map vByte)[j]?
  | x :: ids, h, 0, j, hi, hj => by
    unfold flatI
    rw [List.flatMap_cons, List.getElem?_append_left (by rw [List.length_map, h.cons.1]; omega)]
    simp
  | x :: ids, h, i + 1, j, hi, hj => by
    have := flatI_get h.cons.2 i j (by simpa using hi) hj
    unfold flatI at this ⊢
    rw [List.flatMap_cons, List.getElem?_append_right (by rw [List.length_map, h.cons.1]; omega), List.length_map, h.cons.1, show (i + 1) * 16 + j - 16 = i * 16 + j by omega, this]
    rfl
theorem flatI_app (a b : List (List UInt8)) : flatI (a ++ b) = flatI a ++ flatI b := List.flatMap_append
theorem flatI_one (ids : List (List UInt8)) : ∀ u ∈ flatI ids, u.oneCell' = true := fun u hu => by
  obtain ⟨x, hx, hu⟩ := List.mem_flatMap.1 hu
  exact vByte_one x u hu
theorem flatI_at {ids : List (List UInt8)} (h : all16 ids) {q : Nat} {u : Value} (hq : (flatI ids)[q]? = some u) : ∃ (hi : q / 16 < ids.length), (ids[q / 16].map vByte)[q % 16]? = some u := by
  have hlt := (List.getElem?_eq_some_iff.1 hq).1
  rw [flatI_length h] at hlt
  have hi : q / 16 < ids.length := by omega
  refine ⟨hi, ?_⟩
  have := flatI_get h (q / 16) (q % 16) hi (by omega)
  rw [← this, show q / 16 * 16 + q % 16 = q by omega]
  exact hq
section
variable {P : Program} {n : Nat} {w0 : World} {S : Nat → Prop} {l : Fr} {m : List Ck} {Q : Exit → Act → World → Prop} {K : Act → World → Prop}
theorem IsSl.flat {Ps : Nat → Prop} {w : World} {v : Value} {ids : List (List UInt8)} (h : IsSl rID Ps w v ids) : all16 ids ∧ ∃ ad cap b off, v = .slice ad ids.length cap ∧ (0 < ids.length → ad = some ⟨b, off, none⟩) ∧ (ad = none → cap = 0) ∧ News w b off (flatI ids) := by
  obtain ⟨ad, cap, b, off, e, hs⟩ := h
  have h16 : all16 ids := fun x hx => by
    obtain ⟨i, hi, rfl⟩ := List.getElem_of_mem hx
    exact (hs.cell i hi).1
  refine ⟨h16, ad, cap, b, off, e, hs.had, hs.hnil, fun q u hq => ?_⟩
  obtain ⟨hi, hu⟩ := flatI_at h16 hq
  rw [List.getElem?_map] at hu
  obtain ⟨y, hy, rfl⟩ := Option.map_eq_some_iff.1 hu
  obtain ⟨hj, rfl⟩ := List.getElem?_eq_some_iff.1 hy
  have := ((hs.cell _ hi).2 _ hj).2.1
  have e1 : off + q / 16 * rID.sz + q % 16 * rByte.sz = off + q := by show off + q / 16 * 16 + q % 16 * 1 = off + q; omega
  rwa [e1] at this
theorem own_isI {e : TypeId} {v : Value} {ids : List (List UInt8)} {w : World} (h : w.ownsRow 0 e 16 v ids.length (flatI ids)) (h16 : all16 ids) : IsSl rID (fun b => v.ownBlock = some b) w v ids := by
  have h0 := h
  rcases h.2 with ⟨rfl, h2⟩ | ⟨g', cap, cur, rfl, _, hg, hc, hm, hs, ht⟩
  · obtain rfl : ids = [] := List.length_eq_zero_iff.1 h2
    exact ⟨none, 0, 0, 0, rfl, Nat.le_refl _, by omega, fun _ => rfl, fun h => absurd h (by simp), fun i hi => absurd hi (by simp)⟩
  · refine ⟨_, cap, g', 0, rfl, hc, by unfold maxLen at hm; omega, (fun h => by cases h), fun _ => rfl, fun i hi => ⟨h16 _ (List.getElem_mem hi), fun j hj => ⟨rfl, ?_, trivial⟩⟩⟩
    have hj' : j < 16 := by have := h16 _ (List.getElem_mem hi); omega
    have := h0.cells (g := g') rfl (i * 16 + j) (vByte ids[i][j]) (by rw [flatI_get h16 i j hi hj', List.getElem?_map, List.getElem?_eq_getElem hj]; rfl)
    rw [addr_mid] at this
    have e1 : 0 + i * rID.sz + j * rByte.sz = 0 + (i * 16 + j) := by show 0 + i * 16 + j * 1 = _; omega
    rw [e1]
    exact this
theorem may_ownI {e : TypeId} {v : Value} {ids : List (List UInt8)} {r : List Ck} (h : Sel m (own e 16 v ids.length (flatI ids)) r) (h16 : all16 ids) : May w0 S m (slc rID (fun b => v.ownBlock = some b) v ids) := .view h.mem (fun w hw => own_isI hw h16) fun b h => h
theorem may_ownN {e : TypeId} {v : Value} {xs : List Int} {r : List Ck} (h : Sel m (own e 1 v xs.length (xs.map vInt)) r) (h64 : ∀ x ∈ xs, I64 x) : May w0 S m (slc rInt (fun b => v.ownBlock = some b) v xs) := may_own h rfl h64
theorem Ro.all16 {Ps : Nat → Prop} {v : Value} {ids : List (List UInt8)} (h : Ro w0 S (slc rID Ps v ids)) : all16 ids := (IsSl.flat h.1).1
theorem Ro.i64s {Ps : Nat → Prop} {v : Value} {xs : List Int} (h : Ro w0 S (slc rInt Ps v xs)) : ∀ x ∈ xs, I64 x := by
  obtain ⟨ad, cap, b, off, e, hs⟩ := h.1
  intro x hx
  obtain ⟨i, hi, rfl⟩ := List.getElem_of_mem hx
  exact (hs.cell i hi).2.2
/-- IDs that are read, behind IDs of the call's own -/
theorem G.appendI {ty : TypeId} {pos : String} {after : Array Edge} {g : Option (Nat × Bool)} {Ps : Nat → Prop} {t e d k : Nat} {s x : Operand} {v u : Value} {cs : List Value} {ids : List (List UInt8)} {r : List Ck} (hn : Nat.blt d n = true) (hu : P.underlying t = some (.slice e)) (hi : (P.info? e).map (fun i => (i.zero.map (·.cells.size), i.size, i.bytes)) = some (some 16, 16, 16))
    (hs : ev l s = some v) (hx : ev l x = some u) (hsel : Sel m (own e 16 v k cs) r) (hsl : ∀ w, Hp w0 S w m → IsSl rID Ps w u ids) (hbig : (k + ids.length) * 16 ≤ 140737488355328)
    (h : ∀ v', G n w0 S ((d, v') :: l) (own e 16 v' (k + ids.length) (cs ++ flatI ids) :: r) K) : G n w0 S l m (fun a w => Oper.wp P ⟨some d, .call ⟨.builtin .append, #[s, x], #[t, t]⟩, ty, pos, after, g⟩ a w K Q) := fun a w ha hw => by
  obtain ⟨h16, ad, cap, b, off, rfl, had, hnil, _⟩ := (hsl w hw).flat
  refine G.append (K := K) (Q := Q) (w0 := w0) (S := S) (m := m) (l := l) (off := off) (b := b) hn hu hi rfl hs hx hsel had hnil (flatI_length h16) (fun w2 hw2 => ?_) (flatI_one ids) hbig (by omega) h a w ha hw
  obtain ⟨_, ad2, cap2, b2, off2, e2, had2, _, hn2⟩ := (hsl w2 hw2).flat
  injection e2 with e3 e4 e5
  subst e3
  intro i y hy
  have hj : 0 < ids.length := by
    obtain ⟨hlt, _⟩ := flatI_at h16 hy
    omega
  have := (had hj).symm.trans (had2 hj)
  injection this with this
  injection this with e6 e7
  subst e6 e7
  exact hn2 i y hy
end
theorem takes_next {α : Type} {a b : List α} {k : Nat} (h : a.take k = b.take k) (ha : k < a.length) (hb : k < b.length) (e : a[k] = b[k]) : a.take (k + 1) = b.take (k + 1) := by
  rw [List.take_succ_eq_append_getElem ha, List.take_succ_eq_append_getElem hb, h, e]
theorem takes_off {α : Type} {a b : List α} {k : Nat} (ha : k < a.length) (hb : k < b.length) (e : ¬ a[k] = b[k]) : ¬ a = b := fun h => by
  subst h
  exact e rfl
theorem takes_all {α : Type} {a b : List α} {k : Nat} (h : a.take k = b.take k) (ha : a.length ≤ k) (hb : b.length ≤ k) : a = b := by
  rwa [List.take_of_length_le ha, List.take_of_length_le hb] at h
theorem Try.infoInt' : (Try.prog.info? 3).map (fun i => (i.zero.map (·.cells.size), i.size, i.bytes)) = some (some 1, 1, 8) := by kernel_rfl
theorem Try.infoID' : (Try.prog.info? 49).map (fun i => (i.zero.map (·.cells.size), i.size, i.bytes)) = some (some 16, 16, 16) := by kernel_rfl
set_option maxRecDepth 20000 in

theorem sameInts_tr {Pv Pu : Nat → Prop} (v u : Value) (a b : List Int) : Tr Try.prog 45 #[v, u] [slc rInt Pv v a, slc rInt Pu u b] [] (T0 (.bool (decide (a = b)))) := by
  refine Tr.of (l := [(0, v), (1, u)]) Try.func45 rfl (n := 26) rfl (.cons rfl (.cons rfl .nil)) (fun w0 hro => ?_)
  obtain ⟨hv, hu⟩ := ro2 hro
  obtain ⟨ad, ca, ba, oa, rfl, hca, hma, -, had, hea⟩ := Ro.open hv
  obtain ⟨ad2, cb, bb, ob, rfl, hcb, hmb, -, hbd, heb⟩ := Ro.open hu
  refine G.seq ?_
  refine G.region ?_
  refine G.op rfl (G.val rfl rfl (pv_assign rfl) ?_)
  refine G.nil ?_
  refine G.nThen ?_
  refine G.seq ?_
  refine G.seq ?_
  refine G.region ?_
  refine G.op rfl (G.val rfl rfl (pv_move rfl) ?_)
  refine G.op rfl (G.val rfl rfl (pv_lenSl Try.underlying22 rfl) ?_)
  refine G.op rfl (G.val rfl rfl (pv_move rfl) ?_)
  refine G.op rfl (G.val rfl rfl (pv_lenSl Try.underlying22 rfl) ?_)
  refine G.op rfl (G.val rfl rfl (pv_neq rfl rfl) ?_)
  refine G.nil ?_
  refine G.nThen ?_
  refine G.condP rfl (fun h10 => ?_) (fun h10 => ?_)
  · refine G.seq ?_
    refine G.region ?_
    refine G.op rfl (G.val rfl rfl (pv_assign rfl) ?_)
    refine G.nil ?_
    refine G.nThen ?_
    refine G.ret ?_
    refine G.rThen ?_
    exact G.done1 rfl rfl .nil ⟨congrArg Value.bool ((decide_eq_false (fun e => by subst e; omega)).symm), rfl⟩
  · refine G.skip ?_
    refine G.nThen ?_
    refine G.seq ?_
    refine G.seq ?_
    refine G.region ?_
    refine G.op rfl (G.val rfl rfl (pv_assign rfl) ?_)
    refine G.nil ?_
    refine G.nThen ?_
    refine G.block ?_
    refine G.loopK (X := Nat) (ts := [0, 1]) (fun k => k ≤ a.length ∧ (a.take k = b.take k)) (fun k => [(5, .int .i64 (k : Int))]) (fun k => []) (fun k => a.length - k) (x0 := 0) (.cons rfl (.cons rfl .nil)) (by repeat (first | exact Sub.nil | (apply Sub.cons; (repeat (first | with_reducible exact Sel.here | exact Sel.here | apply Sel.there))))) (.cons .nil) Ap.nil (by first | exact trivial | ((try dsimp only); exact ⟨Nat.zero_le _, (by rw [List.take_zero, List.take_zero])⟩)) (.consE rfl (by first | rfl | exact int_eq (by omega) | exact congrArg _ (by omega)) .nil) (fun k hJ => ?_)
    try dsimp only at hJ
    try dsimp only
    obtain ⟨hkk, hJ⟩ := hJ
    refine G.seq ?_
    refine G.seq ?_
    refine G.region ?_
    refine G.op rfl (G.val rfl rfl (pv_move rfl) ?_)
    refine G.op rfl (G.val rfl rfl (pv_move rfl) ?_)
    refine G.op rfl (G.val rfl rfl (pv_lenSl Try.underlying22 rfl) ?_)
    refine G.op rfl (G.val rfl rfl (pv_lss rfl rfl) ?_)
    refine G.nil ?_
    refine G.nThen ?_
    refine G.condP rfl (fun h14 => ?_) (fun h14 => ?_)
    · have hka : k < a.length := by omega
      have hkb : k < b.length := by omega
      have hA := hea k hka
      have hB := heb k hkb
      refine G.skip ?_
      refine G.nThen ?_
      refine G.seq ?_
      refine G.block ?_
      refine G.seq ?_
      refine G.drawT (nn := 9) (p := []) (rem := 511) [0, 0, 3, 4, 0, 0, 48, 64, 136] [0, 0, 3, 4, 0, 0, 48, 64, 136] (by kernel_rfl) ⟨rfl, by kernel_rfl, by kernel_rfl⟩ (by repeat (first | exact Sub.nil | (apply Sub.cons; (repeat (first | with_reducible exact Sel.here | exact Sel.here | apply Sel.there))))) (by kernel_rfl) (fun hT6 => ?_)
      refine G.takeT hT6 (i := 0) (rem' := 510) rfl rfl rfl (by kernel_rfl) (fun _ _ _ h => h) rfl (pv_move rfl) (by repeat (first | exact Sub.nil | (apply Sub.cons; (repeat (first | with_reducible exact Sel.here | exact Sel.here | apply Sel.there))))) ?_
      refine G.takeT hT6 (i := 1) (rem' := 508) rfl rfl rfl (by kernel_rfl) (fun _ _ _ h => h) rfl (pv_move rfl) (by repeat (first | exact Sub.nil | (apply Sub.cons; (repeat (first | with_reducible exact Sel.here | exact Sel.here | apply Sel.there))))) ?_
      refine G.takeT hT6 (i := 2) (rem' := 504) rfl rfl rfl (by kernel_rfl) (fun _ _ _ h => h) rfl (pv_ixSl (sz := 1) Try.underlying22 (by kernel_rfl) rfl rfl (by first | assumption | exact fun _ => rfl) rfl (by omega)) (by repeat (first | exact Sub.nil | (apply Sub.cons; (repeat (first | with_reducible exact Sel.here | exact Sel.here | apply Sel.there))))) ?_
      refine G.takeT hT6 (i := 4) (rem' := 488) rfl rfl rfl (by kernel_rfl) (fun _ _ _ h => h) rfl (pv_move rfl) (by repeat (first | exact Sub.nil | (apply Sub.cons; (repeat (first | with_reducible exact Sel.here | exact Sel.here | apply Sel.there))))) ?_
      refine G.takeT hT6 (i := 5) (rem' := 456) rfl rfl rfl (by kernel_rfl) (fun _ _ _ h => h) rfl (pv_move rfl) (by repeat (first | exact Sub.nil | (apply Sub.cons; (repeat (first | with_reducible exact Sel.here | exact Sel.here | apply Sel.there))))) ?_
      refine G.takeT hT6 (i := 6) (rem' := 392) rfl rfl rfl (by kernel_rfl) (fun _ _ _ h => h) rfl (pv_ixSl (sz := 1) Try.underlying22 (by kernel_rfl) rfl rfl (by first | assumption | exact fun _ => rfl) rfl (by omega)) (by repeat (first | exact Sub.nil | (apply Sub.cons; (repeat (first | with_reducible exact Sel.here | exact Sel.here | apply Sel.there))))) ?_
      refine G.takeT hT6 (i := 3) (rem' := 384) rfl rfl rfl (by kernel_rfl) (fun _ _ _ h => h) rfl (pv_load Try.underlying3 rfl rfl (by first | exact blk_cell (by (repeat (first | with_reducible exact Sel.here | exact Sel.here | apply Sel.there)); done) (by rfl) | exact rng_cell (by (repeat (first | with_reducible exact Sel.here | exact Sel.here | apply Sel.there)); done) (by rfl) | exact ro_blk (by assumption) (by rfl) | exact ro_rngC (by assumption) (by rfl) | exact ro_int (by assumption) | exact ro_byte (by assumption) | exact ro_str (by assumption) | assumption)) (by repeat (first | exact Sub.nil | (apply Sub.cons; (repeat (first | with_reducible exact Sel.here | exact Sel.here | apply Sel.there))))) ?_
      refine G.oneT hT6 (i := 7) (rem' := 256) (by kernel_rfl) (by kernel_rfl) ?_
      refine G.turnOp rfl rfl (G.val rfl rfl (pv_load Try.underlying3 rfl rfl (by first | exact blk_cell (by (repeat (first | with_reducible exact Sel.here | exact Sel.here | apply Sel.there)); done) (by rfl) | exact rng_cell (by (repeat (first | with_reducible exact Sel.here | exact Sel.here | apply Sel.there)); done) (by rfl) | exact ro_blk (by assumption) (by rfl) | exact ro_rngC (by assumption) (by rfl) | exact ro_int (by assumption) | exact ro_byte (by assumption) | exact ro_str (by assumption) | assumption)) ?_)
      refine G.back (by repeat (first | exact Sub.nil | (apply Sub.cons; (repeat (first | with_reducible exact Sel.here | exact Sel.here | apply Sel.there))))) ?_
      refine G.takeT hT6 (i := 8) (rem' := 0) rfl rfl rfl (by kernel_rfl) (fun _ _ _ h => h) rfl (pv_neq rfl rfl) (by repeat (first | exact Sub.nil | (apply Sub.cons; (repeat (first | with_reducible exact Sel.here | exact Sel.here | apply Sel.there))))) ?_
      refine G.overT hT6 (by kernel_rfl) ?_
      refine G.nThen ?_
      refine G.condP rfl (fun h25 => ?_) (fun h25 => ?_)
      · refine G.seq ?_
        refine G.region ?_
        refine G.op rfl (G.val rfl rfl (pv_assign rfl) ?_)
        refine G.nil ?_
        refine G.nThen ?_
        refine G.ret ?_
        refine G.rBlock ?_
        refine G.rThen ?_
        refine G.rThen ?_
        refine G.rBlock ?_
        refine G.rThen ?_
        exact G.done1 rfl rfl .nil ⟨congrArg Value.bool ((decide_eq_false (takes_off hka hkb h25)).symm), rfl⟩
      · refine G.skip ?_
        refine G.nBlock ?_
        refine G.nThen ?_
        refine G.region ?_
        refine G.op rfl (G.val rfl rfl (pv_move rfl) ?_)
        refine G.op rfl (G.val rfl rfl (pv_add64 rfl rfl (by omega)) ?_)
        refine G.op rfl (G.val rfl rfl (pv_assign rfl) ?_)
        refine G.nil ?_
        exact G.next (k + 1) (by first | exact trivial | ((try dsimp only); exact ⟨by omega, takes_next hJ hka hkb (by first | exact Decidable.of_not_not h25 | (simpa using h25))⟩)) (by (try dsimp only); omega) (.consE rfl (by first | rfl | exact int_eq (by omega) | exact congrArg _ (by omega)) (.cons rfl (.cons rfl .nil))) (by repeat (first | exact Sub.nil | (apply Sub.cons; (repeat (first | with_reducible exact Sel.here | exact Sel.here | apply Sel.there)))))
    · refine G.exit ?_
      refine G.eThen ?_
      refine G.eThen ?_
      refine G.eBlock ?_
      refine G.nThen ?_
      refine G.seq ?_
      refine G.region ?_
      refine G.op rfl (G.val rfl rfl (pv_assign rfl) ?_)
      refine G.nil ?_
      refine G.nThen ?_
      refine G.ret ?_
      exact G.done1 rfl rfl .nil ⟨congrArg Value.bool ((decide_eq_true (takes_all hJ (by omega) (by omega))).symm), rfl⟩
set_option maxRecDepth 20000 in

theorem sameIDs_tr {Pv Pu : Nat → Prop} (v u : Value) (a b : List (List UInt8)) : Tr Try.prog 46 #[v, u] [slc rID Pv v a, slc rID Pu u b] [] (T0 (.bool (decide (a = b)))) := by
  refine Tr.of (l := [(0, v), (1, u)]) Try.func46 rfl (n := 26) rfl (.cons rfl (.cons rfl .nil)) (fun w0 hro => ?_)
  obtain ⟨hv, hu⟩ := ro2 hro
  obtain ⟨ad, ca, ba, oa, rfl, hca, hma, -, had, hea⟩ := Ro.open hv
  obtain ⟨ad2, cb, bb, ob, rfl, hcb, hmb, -, hbd, heb⟩ := Ro.open hu
  refine G.seq ?_
  refine G.region ?_
  refine G.op rfl (G.val rfl rfl (pv_assign rfl) ?_)
  refine G.nil ?_
  refine G.nThen ?_
  refine G.seq ?_
  refine G.seq ?_
  refine G.region ?_
  refine G.op rfl (G.val rfl rfl (pv_move rfl) ?_)
  refine G.op rfl (G.val rfl rfl (pv_lenSl Try.underlying23 rfl) ?_)
  refine G.op rfl (G.val rfl rfl (pv_move rfl) ?_)
  refine G.op rfl (G.val rfl rfl (pv_lenSl Try.underlying23 rfl) ?_)
  refine G.op rfl (G.val rfl rfl (pv_neq rfl rfl) ?_)
  refine G.nil ?_
  refine G.nThen ?_
  refine G.condP rfl (fun h10 => ?_) (fun h10 => ?_)
  · refine G.seq ?_
    refine G.region ?_
    refine G.op rfl (G.val rfl rfl (pv_assign rfl) ?_)
    refine G.nil ?_
    refine G.nThen ?_
    refine G.ret ?_
    refine G.rThen ?_
    exact G.done1 rfl rfl .nil ⟨congrArg Value.bool ((decide_eq_false (fun e => by subst e; omega)).symm), rfl⟩
  · refine G.skip ?_
    refine G.nThen ?_
    refine G.seq ?_
    refine G.seq ?_
    refine G.region ?_
    refine G.op rfl (G.val rfl rfl (pv_assign rfl) ?_)
    refine G.nil ?_
    refine G.nThen ?_
    refine G.block ?_
    refine G.loopK (X := Nat) (ts := [0, 1]) (fun k => k ≤ a.length ∧ (a.take k = b.take k)) (fun k => [(5, .int .i64 (k : Int))]) (fun k => []) (fun k => a.length - k) (x0 := 0) (.cons rfl (.cons rfl .nil)) (by repeat (first | exact Sub.nil | (apply Sub.cons; (repeat (first | with_reducible exact Sel.here | exact Sel.here | apply Sel.there))))) (.cons .nil) Ap.nil (by first | exact trivial | ((try dsimp only); exact ⟨Nat.zero_le _, (by rw [List.take_zero, List.take_zero])⟩)) (.consE rfl (by first | rfl | exact int_eq (by omega) | exact congrArg _ (by omega)) .nil) (fun k hJ => ?_)
    try dsimp only at hJ
    try dsimp only
    obtain ⟨hkk, hJ⟩ := hJ
    refine G.seq ?_
    refine G.seq ?_
    refine G.region ?_
    refine G.op rfl (G.val rfl rfl (pv_move rfl) ?_)
    refine G.op rfl (G.val rfl rfl (pv_move rfl) ?_)
    refine G.op rfl (G.val rfl rfl (pv_lenSl Try.underlying23 rfl) ?_)
    refine G.op rfl (G.val rfl rfl (pv_lss rfl rfl) ?_)
    refine G.nil ?_
    refine G.nThen ?_
    refine G.condP rfl (fun h14 => ?_) (fun h14 => ?_)
    · have hka : k < a.length := by omega
      have hkb : k < b.length := by omega
      have hA := hea k hka
      have hB := heb k hkb
      obtain ⟨la, ra⟩ := Ro.arr8 hA
      obtain ⟨lb, rb⟩ := Ro.arr8 hB
      refine G.skip ?_
      refine G.nThen ?_
      refine G.seq ?_
      refine G.block ?_
      refine G.seq ?_
      refine G.drawT (nn := 9) (p := []) (rem := 511) [0, 0, 3, 4, 0, 0, 48, 64, 136] [0, 0, 3, 4, 0, 0, 48, 64, 136] (by kernel_rfl) ⟨rfl, by kernel_rfl, by kernel_rfl⟩ (by repeat (first | exact Sub.nil | (apply Sub.cons; (repeat (first | with_reducible exact Sel.here | exact Sel.here | apply Sel.there))))) (by kernel_rfl) (fun hT6 => ?_)
      refine G.takeT hT6 (i := 0) (rem' := 510) rfl rfl rfl (by kernel_rfl) (fun _ _ _ h => h) rfl (pv_move rfl) (by repeat (first | exact Sub.nil | (apply Sub.cons; (repeat (first | with_reducible exact Sel.here | exact Sel.here | apply Sel.there))))) ?_
      refine G.takeT hT6 (i := 1) (rem' := 508) rfl rfl rfl (by kernel_rfl) (fun _ _ _ h => h) rfl (pv_move rfl) (by repeat (first | exact Sub.nil | (apply Sub.cons; (repeat (first | with_reducible exact Sel.here | exact Sel.here | apply Sel.there))))) ?_
      refine G.takeT hT6 (i := 2) (rem' := 504) rfl rfl rfl (by kernel_rfl) (fun _ _ _ h => h) rfl (pv_ixSl (sz := 16) Try.underlying23 (by kernel_rfl) rfl rfl (by first | assumption | exact fun _ => rfl) rfl (by omega)) (by repeat (first | exact Sub.nil | (apply Sub.cons; (repeat (first | with_reducible exact Sel.here | exact Sel.here | apply Sel.there))))) ?_
      refine G.takeT hT6 (i := 4) (rem' := 488) rfl rfl rfl (by kernel_rfl) (fun _ _ _ h => h) rfl (pv_move rfl) (by repeat (first | exact Sub.nil | (apply Sub.cons; (repeat (first | with_reducible exact Sel.here | exact Sel.here | apply Sel.there))))) ?_
      refine G.takeT hT6 (i := 5) (rem' := 456) rfl rfl rfl (by kernel_rfl) (fun _ _ _ h => h) rfl (pv_move rfl) (by repeat (first | exact Sub.nil | (apply Sub.cons; (repeat (first | with_reducible exact Sel.here | exact Sel.here | apply Sel.there))))) ?_
      refine G.takeT hT6 (i := 6) (rem' := 392) rfl rfl rfl (by kernel_rfl) (fun _ _ _ h => h) rfl (pv_ixSl (sz := 16) Try.underlying23 (by kernel_rfl) rfl rfl (by first | assumption | exact fun _ => rfl) rfl (by omega)) (by repeat (first | exact Sub.nil | (apply Sub.cons; (repeat (first | with_reducible exact Sel.here | exact Sel.here | apply Sel.there))))) ?_
      refine G.takeT hT6 (i := 3) (rem' := 384) rfl rfl rfl (by kernel_rfl) (fun _ _ _ h => h) rfl (pv_loadN (cs := a[k].map vByte) Try.underlying49 rfl (by rw [List.length_map, la]; kernel_rfl) rfl ra) (by repeat (first | exact Sub.nil | (apply Sub.cons; (repeat (first | with_reducible exact Sel.here | exact Sel.here | apply Sel.there))))) ?_
      refine G.oneT hT6 (i := 7) (rem' := 256) (by kernel_rfl) (by kernel_rfl) ?_
      refine G.turnOp rfl rfl (G.val rfl rfl (pv_loadN (cs := b[k].map vByte) Try.underlying49 rfl (by rw [List.length_map, lb]; kernel_rfl) rfl rb) ?_)
      refine G.back (by repeat (first | exact Sub.nil | (apply Sub.cons; (repeat (first | with_reducible exact Sel.here | exact Sel.here | apply Sel.there))))) ?_
      refine G.takeT hT6 (i := 8) (rem' := 0) rfl rfl rfl (by kernel_rfl) (fun _ _ _ h => h) rfl (pv_neqAr8 (a := a[k]) (b := b[k]) Try.underlying49 rfl (by kernel_rfl) Try.underlying5 (by kernel_rfl) rfl rfl la lb) (by repeat (first | exact Sub.nil | (apply Sub.cons; (repeat (first | with_reducible exact Sel.here | exact Sel.here | apply Sel.there))))) ?_
      refine G.overT hT6 (by kernel_rfl) ?_
      refine G.nThen ?_
      refine G.cond rfl (fun h25 => ?_) (fun h25 => ?_)
      · refine G.seq ?_
        refine G.region ?_
        refine G.op rfl (G.val rfl rfl (pv_assign rfl) ?_)
        refine G.nil ?_
        refine G.nThen ?_
        refine G.ret ?_
        refine G.rBlock ?_
        refine G.rThen ?_
        refine G.rThen ?_
        refine G.rBlock ?_
        refine G.rThen ?_
        exact G.done1 rfl rfl .nil ⟨congrArg Value.bool ((decide_eq_false (takes_off hka hkb (by simpa using h25))).symm), rfl⟩
      · refine G.skip ?_
        refine G.nBlock ?_
        refine G.nThen ?_
        refine G.region ?_
        refine G.op rfl (G.val rfl rfl (pv_move rfl) ?_)
        refine G.op rfl (G.val rfl rfl (pv_add64 rfl rfl (by omega)) ?_)
        refine G.op rfl (G.val rfl rfl (pv_assign rfl) ?_)
        refine G.nil ?_
        exact G.next (k + 1) (by first | exact trivial | ((try dsimp only); exact ⟨by omega, takes_next hJ hka hkb (by first | exact Decidable.of_not_not h25 | (simpa using h25))⟩)) (by (try dsimp only); omega) (.consE rfl (by first | rfl | exact int_eq (by omega) | exact congrArg _ (by omega)) (.cons rfl (.cons rfl .nil))) (by repeat (first | exact Sub.nil | (apply Sub.cons; (repeat (first | with_reducible exact Sel.here | exact Sel.here | apply Sel.there)))))
    · refine G.exit ?_
      refine G.eThen ?_
      refine G.eThen ?_
      refine G.eBlock ?_
      refine G.nThen ?_
      refine G.seq ?_
      refine G.region ?_
      refine G.op rfl (G.val rfl rfl (pv_assign rfl) ?_)
      refine G.nil ?_
      refine G.nThen ?_
      refine G.ret ?_
      exact G.done1 rfl rfl .nil ⟨congrArg Value.bool ((decide_eq_true (takes_all hJ (by omega) (by omega))).symm), rfl⟩
end Go.Proofs.Ytakcffhknnailaa
