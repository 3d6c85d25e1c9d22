/- A walk by chunks: cells that are cleared. Conditions: none. -/
import Derived.Test.YtkhffndeomihhaaDoorWT
set_option linter.unusedVariables false
set_option linter.unusedSimpArgs false
set_option maxRecDepth 100000
namespace Go.Proofs.YtkhffndeomihhaaDoor
open Go.RowKit
theorem putN_len (vs : List Value) : ∀ (cs : List Value) (o : Nat), (putN cs o vs).length = cs.length := by
  induction vs with
  | nil => intro cs o; rfl
  | cons v vs ih => intro cs o; show (putN (cs.set o v) (o + 1) vs).length = _; rw [ih, List.length_set]
theorem putN_take (vs : List Value) : ∀ (cs : List Value) (o k : Nat), k ≤ o → (putN cs o vs).take k = cs.take k := by
  induction vs with
  | nil => intro cs o k _; rfl
  | cons v vs ih => intro cs o k hk; show (putN (cs.set o v) (o + 1) vs).take k = _; rw [ih _ _ _ (by omega), List.take_set_of_le hk]
theorem putN_get (vs : List Value) : ∀ (cs : List Value) (o j : Nat), o + vs.length ≤ cs.length → (putN cs o vs)[j]? = if o ≤ j ∧ j < o + vs.length then vs[j - o]? else cs[j]? := by
  induction vs with
  | nil => intro cs o j _; rw [if_neg (by rintro ⟨h1, h2⟩; rw [List.length_nil] at h2; omega)]; rfl
  | cons v vs ih =>
    intro cs o j hl
    show (putN (cs.set o v) (o + 1) vs)[j]? = _
    rw [List.length_cons] at hl
    rw [ih _ _ _ (by rw [List.length_set]; omega), List.length_cons]
    by_cases h1 : o + 1 ≤ j ∧ j < o + 1 + vs.length
    · rw [if_pos h1, if_pos ⟨by omega, by omega⟩, show j - o = (j - (o + 1)) + 1 by omega, List.getElem?_cons_succ]
    · rw [if_neg h1]
      by_cases h2 : o = j
      · subst h2
        rw [if_pos ⟨by omega, by omega⟩, List.getElem?_set_self (by omega), Nat.sub_self]
        rfl
      · rw [if_neg (by omega), List.getElem?_set_ne h2]
section
variable {P : Program} {n : Nat} {w0 : World} {S : Nat → Prop} {l : Fr} {m : List Ck} {Q : Exit → Act → World → Prop} {K : Act → World → Prop}
  {ty : TypeId} {pos : String} {after : Array Edge} {g : Option (Nat × Bool)}
theorem ro_blk {b o : Nat} {T : TypeId} {cs : List Value} {v : Value} (h : Ro w0 S (blk b T cs)) (hv : cs[o]? = some v) : ∀ w, Hp w0 S w m → w.cell? ⟨b, o, none⟩ = some v := fun w hw => by
  have hh : w.heap[b]? = some (.cells cs.toArray T (0, 0)) := h.at hw
  rw [cell_of_row _ _ _ _ _ _ hh, List.getElem?_toArray, hv]
theorem ro_range {b o k : Nat} {T : TypeId} {cs xs : List Value} (h : Ro w0 S (blk b T cs)) (hv : (cs.drop o).take k = xs) : ∀ w, Hp w0 S w m → w.rangeAt b o xs := fun w hw => blk_rngAt (h.at hw) hv
theorem G.effN {o : Oper} (hd : o.dst = none)
    (he : ∀ a w, At a n l → Hp w0 S w m → ∃ v w' m', (execOp a.eval o).run P w = .ok (.value v) w' ∧ Hp w0 S w' m' ∧ G n w0 S l m' K) : G n w0 S l m (fun a w => o.wp P a w K Q) := fun a w ha hw => by
  obtain ⟨v, w', m', hr, hw', hk⟩ := he a w ha hw
  show Oper.wp P o a w K Q
  unfold Oper.wp
  rw [hr, Oper.upon_value, hd]
  exact hk _ _ ha hw'
theorem run_clear {w : World} {t e b o k cap : Nat} {T : TypeId} {z cs : List Value} (hu : P.underlying t = some (.slice e)) (hz : (P.info? e).map (fun i => i.zero.map (·.cells)) = some (some z.toArray)) (hz1 : z.all (·.oneCell') = true) (hh : w.heap[b]? = some (.cells cs.toArray T (0, 0))) (hfit : o + k * z.length ≤ cs.length) :
    ∃ vs : List Value, vs.length = k * z.length ∧ (Builtin.clear_ #[t] ty #[.slice (some ⟨b, o, none⟩) k cap]).run P w = .ok (.tuple #[]) (w.setCells b o vs) := by
  cases hi : P.info? e with
  | none => simp [hi] at hz
  | some i =>
    cases hi2 : i.zero with
    | none => simp [hi, hi2] at hz
    | some zv =>
      have hc : zv.cells = z.toArray := by simpa [hi, hi2] using hz
      cases k with
      | zero =>
        refine ⟨[], by simp, ?_⟩
        simp [Builtin.clear_, Sem.run_bind, run_underlying hu, Result.andThen, Sem.run_pure]
        rfl
      | succ k =>
        have hlen : (Builtin.zeroCells zv.cells (k + 1)).toList.length = (k + 1) * z.length := by simp [Builtin.zeroCells, hc]
        refine ⟨(Builtin.zeroCells zv.cells (k + 1)).toList, hlen, ?_⟩
        have hst := run_storeCells_cells (P := P) b o (Builtin.zeroCells zv.cells (k + 1)).toList 0 w (fun j hj => by
            rw [hlen] at hj
            rw [cell_of_row _ _ _ _ _ _ hh, List.getElem?_toArray, List.getElem?_eq_getElem (by omega)]
            rfl) (fun j hj => frozen_of_row _ _ _ _ _ hh) (fun v hv => by
            have hv := hv
            simp only [Builtin.zeroCells, hc, Array.toList_map, Array.toList_range, List.mem_map, List.mem_range] at hv
            obtain ⟨q, hq, rfl⟩ := hv
            have hq : q < (k + 1) * z.length := by simpa using hq
            have hz0 : 0 < z.length := Nat.pos_of_ne_zero fun h => by rw [h] at hq; simp at hq
            have hm := Nat.mod_lt q hz0
            have : z.toArray[q % z.toArray.size]! = z[q % z.length] := by simp [hm, getElem!_def]
            rw [this]
            exact List.all_eq_true.1 hz1 _ (List.getElem_mem hm))
        have hzr : (zeroValue e).run P w = .ok zv w := by simp [zeroValue, typeInfo, program, Sem.run_bind, Sem.run, hi, hi2, Result.andThen, Sem.run_pure]
        simp [Builtin.clear_, Sem.run_bind, run_underlying hu, Result.andThen, Sem.run_pure, hzr]
        rw [hst]
        rfl
/-- cells of the call's own that are cleared -/
theorem G.clear {t e b o k cap : Nat} {T : TypeId} {x : Operand} {z cs : List Value} {r : List Ck} (hu : P.underlying t = some (.slice e)) (hz : (P.info? e).map (fun i => i.zero.map (·.cells)) = some (some z.toArray)) (hz1 : z.all (·.oneCell') = true) (hx : ev l x = some (.slice (some ⟨b, o, none⟩) k cap)) (hs : Sel m (blk b T cs) r) (hfit : o + k * z.length ≤ cs.length)
    (h : ∀ sp, (cs.take o ++ sp).length = cs.length → G n w0 S l (blk b T (cs.take o ++ sp) :: r) K) : G n w0 S l m (fun a w => Oper.wp P ⟨none, .call ⟨.builtin .clear, #[x], #[t]⟩, ty, pos, after, g⟩ a w K Q) := G.effN rfl fun a w ha hw => by
  have hw' := hw.sel hs
  have hh := hw'.holds _ (List.mem_cons_self ..)
  obtain ⟨vs, hvl, hr⟩ := run_clear (P := P) (ty := ty) (cap := cap) hu hz hz1 hh hfit
  have hp : putN cs o vs = cs.take o ++ (putN cs o vs).drop o := by
    rw [← putN_take vs cs o o (Nat.le_refl _), List.take_append_drop]
  refine ⟨.tuple #[], _, _, ?_, setCells_blk vs cs o hw', ?_⟩
  · simp only [execOp, resolve, invoke, builtin, Sem.run_bind, Sem.run_pure, Result.andThen_ok, List.map_toArray, List.map_cons, List.map_nil, ha.eval hx, hr]
  · rw [hp]
    exact h _ (by rw [← hp, putN_len])
/-- the bytes of a constant text: a block that is read from then on -/
theorem G.constB {t e d b : Nat} {x : Operand} {xs : List UInt8} {r : List Ck} (hn : Nat.blt d n = true) (hu : P.underlying t = some (.slice e)) (he : P.underlying e = some (.int .u8)) (hx : ev l x = some (.slice (some ⟨b, 0, none⟩) xs.length xs.length)) (hm : xs.length ≤ 9223372036854775807)
    (hs : Sel m (blk b e (xs.map vByte)) r)
    (h : G n w0 S ((d, .slice (some ⟨b, 0, none⟩) xs.length xs.length) :: l) (slc rByte (· = b) (.slice (some ⟨b, 0, none⟩) xs.length xs.length) xs :: r) K) : G n w0 S l m (fun a w => Oper.wp P ⟨some d, .convert t t x, ty, pos, after, g⟩ a w K Q) := G.eff rfl hn fun a w ha hw => by
  have hw' := hw.sel hs
  have hh : w.heap[b]? = some (.cells (xs.map vByte).toArray e (0, 0)) := hw'.holds _ (List.mem_cons_self ..)
  have hlt : b < w.heap.size := by
    rcases Nat.lt_or_ge b w.heap.size with h | h
    · exact h
    · rw [Array.getElem?_eq_none h] at hh; cases hh
  have hsh : w.shape? b = some (e, (xs.map vByte).toArray.size) := by unfold World.shape?; rw [hh]
  have hr : (convert t t (a.eval x)).run P w = .ok (.slice (some ⟨b, 0, none⟩) xs.length xs.length) (w.freeze ⟨b, (xs.map vByte).toArray.size, none⟩ 1) := by
    rw [ha.eval hx]
    simp [convert, run_underlying hu, run_underlying he, markStringish, hsh]
  have hb : (w.freeze ⟨b, (xs.map vByte).toArray.size, none⟩ 1).heap[b]? = some (.cells (xs.map vByte).toArray e ((xs.map vByte).toArray.size, (xs.map vByte).toArray.size + 1)) := by
    unfold World.freeze
    rw [if_neg (by decide)]
    show (w.heap.modify b _)[b]? = _
    rw [Array.getElem?_modify, if_pos rfl, hh]
    rfl
  have hsz : (w.freeze ⟨b, (xs.map vByte).toArray.size, none⟩ 1).heap.size = w.heap.size := by
    unfold World.freeze
    rw [if_neg (by decide)]
    exact Array.size_modify
  refine ⟨_, _, _, run_v hr, Hp.turn (p := [blk b e (xs.map vByte)]) (p' := [slc rByte (· = b) (.slice (some ⟨b, 0, none⟩) xs.length xs.length) xs]) hw' ⟨⟨?_, ?_, ?_, ?_, fun k hk hS => ?_⟩, fun c hc => ?_, fun c hc k hk => ?_, by simp⟩, h⟩
  · unfold World.freeze; rw [if_neg (by decide)]
  · unfold World.freeze; rw [if_neg (by decide)]
  · unfold World.freeze; rw [if_neg (by decide)]
  · rw [hsz]; exact Nat.le_refl _
  · unfold World.freeze
    rw [if_neg (by decide)]
    show (w.heap.modify b _)[k]? = _
    rw [Array.getElem?_modify, if_neg (fun e => hS ⟨_, List.mem_cons_self .., e.symm⟩)]
  · obtain rfl : c = _ := by simpa using hc
    refine ⟨_, _, b, 0, rfl, Nat.le_refl _, hm, (fun h => by cases h), (fun _ => rfl), fun i hi => ⟨rfl, ?_, trivial⟩⟩
    unfold World.cell?
    show (match (w.freeze ⟨b, (xs.map vByte).toArray.size, none⟩ 1).heap[b]? with | some (.cells c _ _) => _ | _ => _) = _
    rw [hb]
    show (xs.map vByte).toArray[0 + i * 1]? = _
    simp [hi]
  · obtain rfl : c = _ := by simpa using hc
    obtain rfl : k = b := hk
    exact ⟨.inl ⟨_, List.mem_cons_self .., rfl⟩, by rw [hsz]; exact hlt⟩
theorem wpAnyH_up {P : Program} {md : Region.Mode} {ops : Array Oper} {Q : Exit → Act → World → Prop} {A B : World → Prop} (hAB : ∀ w, A w → B w) : ∀ (fuel : Nat) (listed : Array Bool) (a : Act) (w : World), wpAnyH P md ops Q A fuel listed a w → wpAnyH P md ops Q B fuel listed a w
  | 0, _, _, _, h => h
  | fuel + 1, _, _, _, h => ⟨h.1, fun i hi => wpOp_mono (fun a' w' h' => ⟨hAB w' h'.1, wpAnyH_up hAB fuel _ a' w' h'.2⟩) (h.2 i hi)⟩
/-- more memory is held from then on -/
theorem G.upT {ops : Array Oper} {nn fuel rem : Nat} {p mS mS' r : List Ck} (hs : Sub m p mS') (hs2 : Sub mS' mS r) (h : G n w0 S l m (GA P ops Q (fun w => Hp w0 S w mS') nn fuel rem)) : G n w0 S l m (GA P ops Q (fun w => Hp w0 S w mS) nn fuel rem) := fun a w ha hw listed hl =>
  wpAnyH_up (fun w' hw' => (hw'.perm hs2.perm).sub (List.sublist_append_left _ _)) _ _ _ _ (h a w ha hw listed hl)
theorem G.takeUT {ops : Array Oper} {deps frs : List Nat} {nn rem rem' fuel i j d t : Nat} {b : Bool} {oi : Oper} {mS r : List Ck} (hT : Tab ops deps frs nn) (hi : ops[i]? = some oi) (hd : oi.dst = some d) (hn : Nat.blt d n = true) (hk : tkB deps frs rem i rem' = true)
    (hQ : ∀ c a w, Q (.panic c) (a.put oi.dst undef) w → Q (.panic c) a w) (hg : oi.guard = some (j, b)) (hj : (ops[j]?).bind (·.dst) = some t) (ht : Fr.get l t = some undef) (hs : Sub m mS r)
    (h : G n w0 S ((d, undef) :: l) m (GA P ops Q (fun w => Hp w0 S w mS) nn fuel rem')) : G n w0 S l m (GA P ops Q (fun w => Hp w0 S w mS) nn (fuel + 1) rem) := fun a w ha hw' listed hl => by
  obtain ⟨dd, f, h1, h2, h3, h4, h5, h6⟩ := tkB_spec hk
  have hr : (Region.ready .any ops listed).contains i = true := by
    rw [hT.ready hl]
    have := mem_readyGo (i := 0) h1 h3 (by rw [Nat.zero_add]; exact h5)
    rw [Nat.zero_add] at this
    simpa using this
  have hwn : Region.wanted oi (yielded ops a.tmps) = false := by
    simp only [Region.wanted, hg, ha.yieldedU hj ht]
    rfl
  refine wpAnyH_take hi hT.sel (hT.free hl hi h2 h4) hr hQ (.inr ⟨hwn, rfl⟩) ((hw'.perm hs.perm).sub (List.sublist_append_left _ _)) ?_
  rw [hd]
  exact h _ _ (ha.put hn undef) hw' _ (hl.tk' h6)
end
end Go.Proofs.YtkhffndeomihhaaDoor
