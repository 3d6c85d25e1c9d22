/- A walk by chunks: bytes of the call's own, with what lies in their spare room. Conditions: none. -/
import Derived.Test.YtkhffndeomihhaaDoorW9
set_option linter.unusedVariables false
set_option linter.unusedSimpArgs false
set_option maxRecDepth 100000
namespace Go.Proofs.YtkhffndeomihhaaDoor
open Go.RowKit

/-- bytes of the call's own: the spare room holds bytes too -/
def OwnB (w : World) (e : TypeId) (v : Value) (xs : List UInt8) : Prop := (v = .slice none 0 0 ∧ xs = []) ∨ ∃ (g : Nat) (sp : List UInt8), v = .slice (some ⟨g, 0, none⟩) xs.length (xs.length + sp.length) ∧ xs.length + sp.length ≤ 9223372036854775807 ∧ w.heap[g]? = some (.cells ((xs ++ sp).map vByte).toArray e (0, 0))
def ownB (e : TypeId) (v : Value) (xs : List UInt8) : Ck := ⟨fun b => v.ownBlock = some b, fun w => OwnB w e v xs, fun w w' h hw => by
  rcases hw with h1 | ⟨g, sp, rfl, hm, hg⟩
  · exact .inl h1
  · exact .inr ⟨g, sp, rfl, hm, (h g rfl).trans hg⟩⟩
theorem OwnB.own {w : World} {e : TypeId} {v : Value} {xs : List UInt8} (h : OwnB w e v xs) : w.ownsRow 0 e 1 v xs.length (xs.map vByte) := by
  rcases h with ⟨rfl, rfl⟩ | ⟨g, sp, rfl, hm, hg⟩
  · exact World.ownsRow_nil w 0 e 1
  · refine ⟨by simp, .inr ⟨g, _, _, rfl, Nat.zero_le _, hg, by omega, by unfold maxLen; omega, by simp, ?_⟩⟩
    simp [List.map_append]
theorem zeroB (k : Nat) : Builtin.zeroCells (Value.int .u8 0).cells k = ((List.replicate k (0 : UInt8)).map vByte).toArray := by
  unfold Builtin.zeroCells
  apply Array.ext
  · simp [Value.cells]
  · intro i h1 h2
    simp [Value.cells, vByte, Nat.mod_one]
section
variable {P : Program} {n : Nat} {w0 : World} {S : Nat → Prop} {l : Fr} {m : List Ck} {Q : Exit → Act → World → Prop} {K : Act → World → Prop}
  {dst : Option Tmp} {ty : TypeId} {pos : String} {after : Array Edge} {g : Option (Nat × Bool)}
theorem run_append_ownB {w : World} {t ty e : TypeId} {i : TypeInfo} {bytes : Nat} (ht : P.underlying t = some (.slice e)) (hi : P.info? e = some i) (hz : i.zero = some (.int .u8 0)) (hsize : i.size = 1) (hby : i.bytes = bytes) {v : Value} {xs ys : List UInt8} (h : OwnB w e v xs)
    (a : Addr) (c : Nat) (hnews : ∀ j u, (ys.map vByte)[j]? = some u → w.cell? (a.add j) = some u) (h63 : xs.length + ys.length ≤ 9223372036854775807) (hbytes : (xs.length + ys.length) * bytes ≤ 140737488355328) :
    ∃ v' w', (Builtin.append_ #[t, t] ty #[v, .slice (some a) ys.length c]).run P w = .ok v' w' ∧ OwnB w' e v' (xs ++ ys) ∧ w.grownBy w' v.ownBlock ∧ ∀ k, v'.ownBlock = some k → v.ownBlock = some k ∨ w.heap.size ≤ k := by
  subst hby
  have hl : (ys.map vByte).length = ys.length * i.size := by rw [hsize]; simp
  have hlx : (xs.map vByte).length = xs.length * i.size := by rw [hsize]; simp
  rcases h with ⟨rfl, rfl⟩ | ⟨g, sp, rfl, hm, hg⟩
  · by_cases hy : ys = []
    · subst hy
      refine ⟨.slice none 0 0, w, ?_, .inl ⟨rfl, rfl⟩, ⟨rfl, rfl, rfl, Nat.le_refl _, fun _ _ _ => rfl⟩, fun k hk => by cases hk⟩
      simp [Builtin.append_, run_underlying ht, sizeOf, typeInfo, hi, Builtin.lenOf, Builtin.firstCells, loadCells, loadCellsFrom]
    · have h0 : 0 < ys.length := List.length_pos_iff.2 hy
      have hr := run_append_nil (P := P) w t ty e i _ ht hi hz a ys.length c _ hl hnews h0 (by simp at h63; omega) (by simp at hbytes; omega)
      have hge := grownCap_ge w ys.length 0 e
      have hcm : grownCap w ys.length 0 e ≤ maxLen := grownCap_le_maxLen w ys.length 0 e (by unfold maxLen; simp at h63; omega)
      refine ⟨_, _, hr, .inr ⟨w.heap.size, List.replicate (grownCap w ys.length 0 e - ys.length) 0, ?_, ?_, ?_⟩, ⟨rfl, rfl, rfl, by simp, fun k hk _ => heap_alloc_old w.drew _ hk⟩, fun k hk => ?_⟩
      · simp; omega
      · unfold maxLen at hcm; simp; omega
      · rw [zeroB, show ((ys.map vByte).toArray ++ ((List.replicate (grownCap w ys.length 0 e - ys.length) (0 : UInt8)).map vByte).toArray) = (([] ++ ys ++ List.replicate (grownCap w ys.length 0 e - ys.length) (0 : UInt8)).map vByte).toArray by apply Array.ext'; simp]
        exact heap_alloc_new w.drew _
      · simp [Value.ownBlock] at hk
        exact .inr (by omega)
  · by_cases hroom : xs.length + ys.length ≤ xs.length + sp.length
    · have hr := run_append_room (P := P) w t ty e i ht hi g xs.length (xs.length + sp.length) _ hg a ys.length c _ hl hnews (fun u hu => vByte_one ys u hu) hroom (by rw [hsize]; simp; omega)
      refine ⟨_, _, hr, .inr ⟨g, sp.drop ys.length, ?_, ?_, ?_⟩, ⟨rfl, rfl, rfl, by simp, fun k _ hk => setRow_other w g k _ (fun e => hk (by simp [Value.ownBlock, e]))⟩, fun k hk => .inl hk⟩
      · simp; omega
      · simp; omega
      · have := setRow_heap w g _ (((xs ++ sp).map vByte).toArray.toList.take (xs.length * i.size) ++ ys.map vByte ++ ((xs ++ sp).map vByte).toArray.toList.drop (xs.length * i.size + (ys.map vByte).length)).toArray e _ hg
        rw [this]
        congr 3
        rw [hsize]
        simp [List.map_append, List.take_append, List.drop_append]
    · have holds : ∀ j u, (xs.map vByte)[j]? = some u → w.cell? ((⟨g, 0, none⟩ : Addr).add j) = some u := fun j u hu => by
        rw [addr_mid, cell_of_row _ _ _ _ _ _ hg]
        simp only [List.getElem?_toArray, List.map_append]
        rw [Nat.zero_add, List.getElem?_append_left (List.getElem?_eq_some_iff.1 hu).1]
        exact hu
      have hr := run_append_grow (P := P) w t ty e i _ ht hi hz ⟨g, 0, none⟩ xs.length (xs.length + sp.length) _ hlx holds a ys.length c _ hl hnews (by omega) (by omega) (growslice_fits (by omega) hbytes)
      have hge := grownCap_ge w (xs.length + ys.length) (xs.length + sp.length) e
      have hcm : grownCap w (xs.length + ys.length) (xs.length + sp.length) e ≤ maxLen := grownCap_le_maxLen w _ _ e (by unfold maxLen; omega)
      generalize hcap : grownCap w (xs.length + ys.length) (xs.length + sp.length) e = cp at hr hge hcm
      refine ⟨_, _, hr, .inr ⟨w.heap.size, List.replicate (cp - (xs.length + ys.length)) 0, ?_, ?_, ?_⟩, ⟨rfl, rfl, rfl, by simp, fun k hk _ => heap_alloc_old w.drew _ hk⟩, fun k hk => ?_⟩
      · simp; omega
      · unfold maxLen at hcm; simp; omega
      · rw [zeroB, show ((xs.map vByte).toArray ++ (ys.map vByte).toArray ++ ((List.replicate (cp - (xs.length + ys.length)) (0 : UInt8)).map vByte).toArray) = ((xs ++ ys ++ List.replicate (cp - (xs.length + ys.length)) (0 : UInt8)).map vByte).toArray by apply Array.ext'; simp]
        exact heap_alloc_new w.drew _
      · simp [Value.ownBlock] at hk
        exact .inr (by omega)
theorem OwnB.lt {w : World} {e : TypeId} {v : Value} {xs : List UInt8} (h : OwnB w e v xs) {b : Nat} (hb : v.ownBlock = some b) : b < w.heap.size := by
  rcases h with ⟨rfl, rfl⟩ | ⟨g, sp, rfl, hm, hg⟩
  · cases hb
  · simp [Value.ownBlock] at hb
    subst hb
    exact (Array.getElem?_eq_some_iff.1 hg).1
theorem hp_appendB {w w' : World} {e : TypeId} {v v' : Value} {xs ys : List UInt8} {r : List Ck} (hw : Hp w0 S w (ownB e v xs :: r)) (ho : OwnB w' e v' ys) (hg : w.grownBy w' v.ownBlock) (hk : ∀ k, v'.ownBlock = some k → v.ownBlock = some k ∨ w.heap.size ≤ k) :
    Hp w0 S w' (ownB e v' ys :: r) := by
  refine Hp.turn (p := [ownB e v xs]) (p' := [ownB e v' ys]) hw ⟨(Chg.of_grown hg).mono fun b hb => ⟨_, List.mem_cons_self .., hb⟩, fun c hc => ?_, fun c hc b hb => ?_, by simp⟩
  · obtain rfl : c = _ := by simpa using hc
    exact ho
  · obtain rfl : c = _ := by simpa using hc
    refine ⟨?_, ho.lt hb⟩
    rcases hk b hb with h | h
    · exact .inl ⟨_, List.mem_cons_self .., h⟩
    · exact .inr h
theorem G.ownBNil (e : TypeId) (h : G n w0 S l (ownB e (.slice none 0 0) [] :: m) K) : G n w0 S l m K := G.mem (fun w hw => by
  refine hw.adds (m' := [ownB e (.slice none 0 0) []]) ⟨Chg.refl _ _, fun c hc => ?_, fun c hc b hb => ?_, by simp⟩
  · obtain rfl : c = _ := by simpa using hc
    exact .inl ⟨rfl, rfl⟩
  · obtain rfl : c = _ := by simpa using hc
    cases hb) h
/-- the spare room is forgotten -/
theorem hp_view {c d : Ck} {r : List Ck} {w : World} (hw : Hp w0 S w (c :: r)) (hφ : c.φ w → d.φ w) (hS : ∀ b, d.S b → c.S b) : Hp w0 S w (d :: r) := by
  refine ⟨hw.chg, fun x hx => ?_, fun x hx b hb => ?_, List.pairwise_cons.2 ⟨fun x hx b h1 h2 => (List.pairwise_cons.1 hw.dis).1 x hx b (hS b h1) h2, (List.pairwise_cons.1 hw.dis).2⟩⟩
  · rcases List.mem_cons.1 hx with rfl | hx
    · exact hφ (hw.holds _ (List.mem_cons_self ..))
    · exact hw.holds x (List.mem_cons_of_mem _ hx)
  · rcases List.mem_cons.1 hx with rfl | hx
    · exact hw.own _ (List.mem_cons_self ..) b (hS b hb)
    · exact hw.own x (List.mem_cons_of_mem _ hx) b hb
theorem G.ownBOwn {e : TypeId} {v : Value} {xs : List UInt8} {r : List Ck} (hs : Sel m (ownB e v xs) r) (h : G n w0 S l (own e 1 v xs.length (xs.map vByte) :: r) K) : G n w0 S l m K := G.mem (fun w hw => hp_view (c := ownB e v xs) (d := own e 1 v xs.length (xs.map vByte)) (hw.sel hs) OwnB.own fun b hb => hb) h
theorem may_ownB {e : TypeId} {v : Value} {xs : List UInt8} {r : List Ck} (h : Sel m (ownB e v xs) r) : May w0 S m (slc rByte (fun b => v.ownBlock = some b) v xs) :=
  .view h.mem (fun w hw => own_isSl' (OwnB.own hw) rfl fun _ _ => trivial) fun b h => h
/-- bytes of the call's own, grown by whatever slice reads so -/
theorem G.appendB {Ps : Nat → Prop} {t e d bytes : Nat} {s x : Operand} {v u : Value} {xs ys : List UInt8} {r : List Ck} (hn : Nat.blt d n = true) (hu : P.underlying t = some (.slice e)) (hi : (P.info? e).map (fun i => (i.zero, i.size, i.bytes)) = some (some (.int .u8 0), 1, bytes))
    (hs : ev l s = some v) (hx : ev l x = some u) (hsel : Sel m (ownB e v xs) r) (hsl : ∀ w, Hp w0 S w m → IsSl rByte Ps w u ys) (hbig : (xs.length + ys.length) * bytes ≤ 140737488355328) (h63 : xs.length + ys.length ≤ 9223372036854775807)
    (h : ∀ v', G n w0 S ((d, v') :: l) (ownB e v' (xs ++ ys) :: r) K) : G n w0 S l m (fun a w => Oper.wp P ⟨some d, .call ⟨.builtin .append, #[s, x], #[t, t]⟩, ty, pos, after, g⟩ a w K Q) := G.eff rfl hn fun a w ha hw => by
  obtain ⟨i, hi1, hi2⟩ := Option.map_eq_some_iff.1 hi
  have hz : i.zero = some (.int .u8 0) := congrArg Prod.fst hi2
  have hi4 : i.size = 1 := congrArg (fun p => p.2.1) hi2
  have hi5 : i.bytes = bytes := congrArg (fun p => p.2.2) hi2
  have hw' := hw.sel hsel
  have hown : OwnB w e v xs := hw'.holds _ (List.mem_cons_self ..)
  obtain ⟨ad, cap, b, off, rfl, hsv⟩ := hsl w hw
  have run : ∀ v' w', (Builtin.append_ #[t, t] ty #[v, .slice ad ys.length cap]).run P w = .ok v' w' → (execOp a.eval ⟨some d, .call ⟨.builtin .append, #[s, x], #[t, t]⟩, ty, pos, after, g⟩).run P w = .ok (.value v') w' := fun v' w' hr => by
    simp only [execOp, resolve, invoke, builtin, Sem.run_bind, Sem.run_pure, Result.andThen_ok, List.map_toArray, List.map_cons, List.map_nil, ha.eval hs, ha.eval hx, hr]
  cases ad with
  | none =>
    have hj : ys.length = 0 := by
      rcases Nat.eq_zero_or_pos ys.length with h | h
      · exact h
      · cases hsv.had h
    have hnw : ys = [] := List.eq_nil_of_length_eq_zero hj
    subst hnw
    have := hsv.hnil rfl
    subst this
    have hr := run_append_owned_none (P := P) w 0 t ty e i 1 hu hi1 v _ _ hown.own
    refine ⟨_, _, _, run _ _ hr, hw', ?_⟩
    have := h v
    simpa using this
  | some ad =>
    obtain ⟨v', w', hr, h2, h3, h4⟩ := run_append_ownB (P := P) (w := w) (t := t) (ty := ty) (ys := ys) hu hi1 hz hi4 hi5 hown ad cap (fun j u hj => by
      rw [List.getElem?_map] at hj
      obtain ⟨z, hzz, rfl⟩ := Option.map_eq_some_iff.1 hj
      obtain ⟨hlt, rfl⟩ := List.getElem?_eq_some_iff.1 hzz
      have e1 := Option.some.inj (hsv.had (by omega))
      rw [e1, addr_mid]
      have := (hsv.cell j hlt).2.1
      rwa [show off + j * rByte.sz = off + j from by show off + j * 1 = _; omega] at this) h63 hbig
    exact ⟨_, _, _, run _ _ hr, hp_appendB hw' h2 h3 h4, h v'⟩
/-- .. opened: nil, or a block -/
theorem G.ownBOpen {e : TypeId} {v : Value} {xs : List UInt8} {r : List Ck} (hs : Sel m (ownB e v xs) r) (h0 : v = .slice none 0 0 → xs = [] → G n w0 S l r K)
    (h1 : ∀ (b : Nat) (sp : List UInt8), v = .slice (some ⟨b, 0, none⟩) xs.length (xs.length + sp.length) → xs.length + sp.length ≤ 9223372036854775807 → G n w0 S l (blk b e ((xs ++ sp).map vByte) :: r) K) : G n w0 S l m K := fun a w ha hw => by
  have hw' := hw.sel hs
  rcases hw'.holds _ (List.mem_cons_self ..) with ⟨hv, hx⟩ | ⟨b, sp, hv, hm, hg⟩
  · exact h0 hv hx a w ha hw'.tail
  · refine h1 b sp hv hm a w ha (hp_view hw' (fun _ => hg) fun k hk => ?_)
    obtain rfl : k = b := hk
    rw [hv]
    rfl
end
end Go.Proofs.YtkhffndeomihhaaDoor
