/- Trees in memory: entries that are read, entries of the call's own, their bytes. Conditions: none. -/
import Derived.Test.YtchgaedidfefoaaWT
import Derived.Test.YtchgaedidfefoaaWS
import Derived.Test.YtchgaedidfefoaaOpg
set_option linter.unusedVariables false
set_option linter.unusedSimpArgs false
namespace Go.Proofs.Ytchgaedidfefoaa
open Go.RowKit

/-- an entry -/
structure En where
  path : List UInt8
  kind : Int
  mode : Int
  data : List UInt8
  to : List UInt8
/-- .. and the value of its bytes' slice -/
abbrev ET := En × Value
def evC (x : ET) : List Value := [vStr x.1.path, vInt x.1.kind, vInt x.1.mode, x.2, vStr x.1.to]
def EnOk (e : En) : Prop := I64 e.kind ∧ I64 e.mode ∧ e.path.length ≤ 140737488355328 ∧ e.data.length ≤ 140737488355328 ∧ e.to.length ≤ 140737488355328
theorem rangeAt_loc {w w' : World} {b o : Nat} {cs : List Value} (h : w'.heap[b]? = w.heap[b]?) (hw : w.rangeAt b o cs) : w'.rangeAt b o cs := fun j v hj => (World.cell?_of_block h).trans (hw j v hj)
def rEV : Rdr ET where
  sz := 5
  R := fun Ps w b o x => Ps b ∧ w.rangeAt b o (evC x) ∧ IsSl rByte Ps w x.2 x.1.data ∧ EnOk x.1
  loc := fun h ⟨h1, h2, h3, h4⟩ => ⟨h1, rangeAt_loc (h _ h1) h2, h3.loc h, h4⟩
  mono := fun h ⟨h1, h2, h3, h4⟩ => ⟨h _ h1, h2, h3.mono h, h4⟩
def flatT (xs : List ET) : List Value := xs.flatMap evC
theorem evC_length (x : ET) : (evC x).length = 5 := rfl
theorem flatT_length (xs : List ET) : (flatT xs).length = xs.length * 5 := flatMap_length evC 5 evC_length xs
theorem flatT_get {xs : List ET} {i j : Nat} (hi : i < xs.length) (hj : j < 5) : (flatT xs)[i * 5 + j]? = (evC xs[i])[j]? := flatMap_get evC 5 evC_length xs i j hi hj
theorem flatT_app (xs ys : List ET) : flatT (xs ++ ys) = flatT xs ++ flatT ys := List.flatMap_append ..
theorem flatT_one (x : ET) : flatT [x] = evC x := by simp [flatT]
/-- entries' names, without their bytes' places -/
def ens (xs : List ET) : List En := xs.map (·.1)
theorem ens_length (xs : List ET) : (ens xs).length = xs.length := List.length_map ..
theorem ens_get {xs : List ET} {i : Nat} (h : i < xs.length) : (ens xs)[i]'(by rw [ens_length]; exact h) = xs[i].1 := List.getElem_map ..
theorem flat_at {xs : List ET} {sp : List Value} {i : Nat} (h : i < xs.length) (j : Nat) (hj : j < 5) : (flatT xs ++ sp)[0 + i * 5 + j]? = (evC xs[i])[j]? := by
  rw [List.getElem?_append_left (by rw [flatT_length]; omega), show 0 + i * 5 + j = i * 5 + j by omega]
  exact flatT_get h hj
theorem flat_row {xs : List ET} {sp : List Value} {i : Nat} (h : i < xs.length) : ((flatT xs ++ sp).drop (0 + i * 5)).take 5 = [vStr xs[i].1.path, vInt xs[i].1.kind, vInt xs[i].1.mode, xs[i].2, vStr xs[i].1.to] := by
  apply List.ext_getElem?
  intro j
  rcases Nat.lt_or_ge j 5 with hj | hj
  · rw [List.getElem?_take_of_lt hj, List.getElem?_drop]
    exact flat_at h j hj
  · rw [List.getElem?_eq_none (by rw [List.length_take]; omega)]
    exact (List.getElem?_eq_none (by simpa using hj)).symm
/-- the bytes' slice of an entry is laid anew -/
theorem flat_set {xs : List ET} {sp : List Value} {i : Nat} (h : i < xs.length) (d : Value) : (flatT xs ++ sp).set (0 + i * 5 + 3) d = flatT (xs.set i (xs[i].1, d)) ++ sp := by
  have hl : (flatT (xs.set i (xs[i].1, d))).length = xs.length * 5 := by rw [flatT_length, List.length_set]
  apply List.ext_getElem?
  intro j
  rcases Nat.lt_or_ge j (xs.length * 5) with hj | hj
  · obtain ⟨q, r, rfl, hr, hq⟩ : ∃ q r, j = q * 5 + r ∧ r < 5 ∧ q < xs.length := ⟨j / 5, j % 5, by omega, by omega, by omega⟩
    rw [List.getElem?_append_left (by rw [hl]; omega), flatT_get (by rw [List.length_set]; exact hq) hr]
    by_cases hiq : i = q
    · subst hiq
      rw [List.getElem_set_self]
      by_cases hr3 : r = 3
      · subst hr3
        rw [show 0 + i * 5 + 3 = i * 5 + 3 by omega, List.getElem?_set_self (by rw [List.length_append, flatT_length]; omega)]
        rfl
      · rw [List.getElem?_set_ne (by omega), List.getElem?_append_left (by rw [flatT_length]; omega), flatT_get hq hr]
        have : r = 0 ∨ r = 1 ∨ r = 2 ∨ r = 4 := by omega
        rcases this with rfl | rfl | rfl | rfl <;> rfl
    · rw [List.getElem_set_ne hiq, List.getElem?_set_ne (by omega), List.getElem?_append_left (by rw [flatT_length]; omega), flatT_get hq hr]
  · rw [List.getElem?_set_ne (by omega), List.getElem?_append_right (by rw [flatT_length]; omega), List.getElem?_append_right (by rw [hl]; omega), flatT_length, hl]
/-- entries of the call's own -/
def ownT (e : TypeId) (v : Value) (xs : List ET) : Ck := own e 5 v xs.length (flatT xs)
/-- their bytes -/
def datC (e : TypeId) (xs : List ET) : Ck := star (xs.map fun x => ownB e x.2 x.1.data)
section
variable {P : Program} {n : Nat} {w0 : World} {S : Nat → Prop} {l : Fr} {m : List Ck} {Q : Exit → Act → World → Prop} {K : Act → World → Prop}
theorem Hp.part {w : World} {r p : List Ck} (h : Hp w0 S w (p ++ r)) : Hp w0 S w p := h.sub (List.sublist_append_left _ _)
/-- entries that are read, opened -/
theorem Ro.openT {Ps : Nat → Prop} {v : Value} {xs : List ET} (h : Ro w0 S (slc rEV Ps v xs)) : ∃ ad cap b off, v = .slice ad xs.length cap ∧ xs.length ≤ cap ∧ cap ≤ 9223372036854775807 ∧ (ad = none → cap = 0) ∧ (0 < xs.length → ad = some ⟨b, off, none⟩) ∧ ∀ i (hi : i < xs.length), Ro w0 S (elc rEV Ps b (off + i * 5) xs[i]) := h.open
theorem Ro.evRng {Ps : Nat → Prop} {b o : Nat} {x : ET} (h : Ro w0 S (elc rEV Ps b o x)) : Ro w0 S (rng b o [.string (sB x.1.path), .int .i64 x.1.kind, .int .i64 x.1.mode, x.2, .string (sB x.1.to)]) :=
  ⟨h.1.2.1, fun k hk => h.2 k (by obtain rfl : k = b := hk; exact h.1.1)⟩
theorem Ro.evDat {Ps : Nat → Prop} {b o : Nat} {x : ET} (h : Ro w0 S (elc rEV Ps b o x)) : Ro w0 S (slc rByte Ps x.2 x.1.data) := ⟨h.1.2.2.1, h.2⟩
theorem Ro.evOk {Ps : Nat → Prop} {b o : Nat} {x : ET} (h : Ro w0 S (elc rEV Ps b o x)) : EnOk x.1 := h.1.2.2.2
theorem Ro.slv {α : Type} {E : Rdr α} {Ps : Nat → Prop} {v : Value} {xs : List α} (h : Ro w0 S (slc E Ps v xs)) : ∃ ad cap, v = .slice ad xs.length cap := by
  obtain ⟨⟨ad, cap, b, off, e, _⟩, _⟩ := h
  exact ⟨ad, cap, e⟩
/-- fresh entries are read: their bytes lie in chunks, or in old blocks -/
theorem ownT_sl {e : TypeId} {v : Value} {xs : List ET} {w : World} {Ps : Nat → Prop} (h : w.ownsRow 0 e 5 v xs.length (flatT xs)) (hP : ∀ b, v.ownBlock = some b → Ps b) (hok : ∀ x ∈ xs, EnOk x.1) (hd : ∀ x ∈ xs, IsSl rByte Ps w x.2 x.1.data) : IsSl rEV Ps w v xs := by
  obtain ⟨ad, cap, b, hv, had, hnil, hnw⟩ := own_news h
  obtain ⟨h1, h2⟩ := h
  have hb : xs.length ≤ cap ∧ cap ≤ 9223372036854775807 := by
    rcases h2 with ⟨rfl, h0⟩ | ⟨g, cap', cur, rfl, _, _, hc, hm, _⟩
    · injection hv with e1 e2 e3
      subst e3
      omega
    · injection hv with e1 e2 e3
      subst e3
      exact ⟨hc, by unfold maxLen at hm; omega⟩
  refine ⟨ad, cap, b, 0, hv, hb.1, hb.2, hnil, had, fun i hi => ⟨hP b ?_, fun j u hj => ?_, hd _ (List.getElem_mem hi), hok _ (List.getElem_mem hi)⟩⟩
  · rw [hv, had (by omega)]
    rfl
  · have hj5 : j < 5 := (List.getElem?_eq_some_iff.1 hj).1
    have := hnw (i * 5 + j) u (by rw [flatT_get hi hj5]; exact hj)
    rw [show 0 + i * rEV.sz + j = 0 + (i * 5 + j) from by show 0 + i * 5 + j = _; omega]
    exact this
theorem datC_dat {w : World} {e : TypeId} {xs : List ET} (h : (datC e xs).φ w) : ∀ x ∈ xs, IsSl rByte (datC e xs).S w x.2 x.1.data := fun x hx => by
  have h1 : (ownB e x.2 x.1.data).φ w := h.1 _ (List.mem_map.2 ⟨x, hx, rfl⟩)
  exact (own_isSl' (p := fun _ => True) (OwnB.own h1) rfl (fun _ _ => trivial)).mono fun k hk => ⟨_, List.mem_map.2 ⟨x, hx, rfl⟩, hk⟩
/-- a tree of the call's own may be read -/
theorem may_tree {e e2 : TypeId} {v : Value} {xs : List ET} {r r' : List Ck} (h : Sel m (ownT e v xs) r) (h' : Sel m (datC e2 xs) r') (hok : ∀ x ∈ xs, EnOk x.1) : May w0 S m (slc rEV (fun b => v.ownBlock = some b ∨ (datC e2 xs).S b) v xs) :=
  .mix (fun w hw => ownT_sl (hw.holds _ h.mem) (fun b hb => .inl hb) hok fun x hx => (datC_dat (hw.holds _ h'.mem) x hx).mono fun k hk => .inr hk) fun b hb => .inr (by
    rcases hb with hb | hb
    · exact ⟨_, h.mem, hb⟩
    · exact ⟨_, h'.mem, hb⟩)
/-- .. whose bytes lie in old blocks -/
theorem may_treeR {e : TypeId} {Pd : Nat → Prop} {v : Value} {xs : List ET} {r : List Ck} (h : Sel m (ownT e v xs) r) (hok : ∀ x ∈ xs, EnOk x.1) (hP : ∀ b, Pd b → b < w0.heap.size ∧ ¬ S b) (hd : ∀ x ∈ xs, Ro w0 S (slc rByte Pd x.2 x.1.data)) : May w0 S m (slc rEV (fun b => v.ownBlock = some b ∨ Pd b) v xs) :=
  .mix (fun w hw => ownT_sl (hw.holds _ h.mem) (fun b hb => .inl hb) hok fun x hx => ((hd x hx).at hw : IsSl rByte Pd w x.2 x.1.data).mono fun k hk => .inr hk) fun b hb => by
    rcases hb with hb | hb
    · exact .inr ⟨_, h.mem, hb⟩
    · exact .inl (hP b hb)
end
end Go.Proofs.Ytchgaedidfefoaa
