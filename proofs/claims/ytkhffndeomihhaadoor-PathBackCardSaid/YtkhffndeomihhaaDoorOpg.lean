/- How whatever came in is opened: readers of structs, arrays, slices of any of these. Conditions: none. -/
import Derived.Test.YtkhffndeomihhaaDoorLaw
import Derived.Deep.Slices
set_option maxRecDepth 100000
set_option linter.unusedVariables false
set_option linter.unusedSimpArgs false
namespace Go.Proofs.YtkhffndeomihhaaDoor
open Go.ChangeShapes Go.WideShapes Go.ChangeAt Go.RowKit Go.Deep

/-- no cell -/
def rUnit : Rdr Unit := ⟨0, fun _ _ _ _ _ => True, fun _ h => h, fun _ h => h⟩
/-- one behind the other -/
def rProd {α β : Type} (E : Rdr α) (F : Rdr β) : Rdr (α × β) where
  sz := E.sz + F.sz
  R := fun Ps w b o x => E.R Ps w b o x.1 ∧ F.R Ps w b (o + E.sz) x.2
  loc := fun h ⟨h1, h2⟩ => ⟨E.loc h h1, F.loc h h2⟩
  mono := fun h ⟨h1, h2⟩ => ⟨E.mono h h1, F.mono h h2⟩
/-- so many of a kind -/
def rArr {α : Type} (n : Nat) (E : Rdr α) : Rdr (List α) where
  sz := n * E.sz
  R := fun Ps w b o xs => xs.length = n ∧ ∀ i (h : i < xs.length), E.R Ps w b (o + i * E.sz) xs[i]
  loc := fun h ⟨h1, h2⟩ => ⟨h1, fun i hi => E.loc h (h2 i hi)⟩
  mono := fun h ⟨h1, h2⟩ => ⟨h1, fun i hi => E.mono h (h2 i hi)⟩
def vBool (x : Bool) : Value := .bool x
def rBool : Rdr Bool := r1 vBool fun _ => True
/-- texts, slices, that fit into memory -/
def rStrB : Rdr (List UInt8) := r1 vStr fun x => x.length ≤ 140737488355328
def rSlB {α : Type} (E : Rdr α) : Rdr (List α) where
  sz := 1
  R := fun Ps w b o xs => (rSl E).R Ps w b o xs ∧ xs.length ≤ 140737488355328
  loc := fun h ⟨h1, h2⟩ => ⟨(rSl E).loc h h1, h2⟩
  mono := fun h ⟨h1, h2⟩ => ⟨(rSl E).mono h h1, h2⟩
/-- named anew -/
def rMap {α β : Type} (E : Rdr α) (g : β → α) : Rdr β := ⟨E.sz, fun Ps w b o y => E.R Ps w b o (g y), E.loc, E.mono⟩

section
variable {H : Type} {enc : TypeId × Value → H} {P : Program} {W : World}
def At0 (w : World) (b o : Nat) (cs : List Value) : Prop := ∀ (j : Nat) v, cs[j]? = some v → w.cell? ⟨b, o + j, none⟩ = some v
theorem At0.drop {w : World} {b o : Nat} {cs : List Value} (h : At0 w b o cs) (k n : Nat) : At0 w b (o + k) ((cs.drop k).take n) := fun j v hj => by
  rw [List.getElem?_take] at hj
  split at hj
  · rw [List.getElem?_drop] at hj
    rw [Nat.add_assoc]
    exact h _ v hj
  · cases hj
theorem list_of_each {α : Type} {q : Nat → α → Prop} : ∀ n : Nat, (∀ i, i < n → ∃ y, q i y) → ∃ ys : List α, ys.length = n ∧ ∀ i (h : i < ys.length), q i ys[i]
  | 0, _ => ⟨[], rfl, fun i h => absurd h (by simp)⟩
  | n + 1, h => by
    obtain ⟨ys, hl, hy⟩ := list_of_each n fun i hi => h i (by omega)
    obtain ⟨y, hn⟩ := h n (by omega)
    refine ⟨ys ++ [y], by simp [hl], fun i hi => ?_⟩
    rcases Nat.lt_or_ge i n with hlt | hge
    · rw [List.getElem_append_left (by omega)]
      exact hy i (by omega)
    · have hin : i = n := by simp [hl] at hi; omega
      subst hin
      rw [List.getElem_append_right (by omega)]
      simpa [hl] using hn
/-- data of a type are read so -/
structure Opn (H : Type) (enc : TypeId × Value → H) (P : Program) (W : World) {α : Type} (t : TypeId) (E : Rdr α) : Prop where
  sz : P.cellsOf t = E.sz
  mem : ∀ fuel cs x b o, DataW.trod enc P W 0 (fun _ => true) true fuel t cs = some x → (∀ k ∈ DataW.weights P t x.1, k ≤ reachBytes) → At0 W b o cs → b < W.heap.size → ∃ a, E.R (· < W.heap.size) W b o a
theorem weightsAll_memG {e : TypeId} : ∀ {l : List (DataW H)} {d : DataW H}, d ∈ l → ∀ n ∈ d.weights P e, n ∈ DataW.weightsAll P e l
  | x :: l, d, hd, n, hn => by
    simp only [DataW.weightsAll, List.mem_append]
    rcases List.mem_cons.1 hd with rfl | h
    · exact Or.inl hn
    · exact Or.inr (weightsAll_memG h n hn)
theorem opn_int {t : TypeId} (ht : P.underlying t = some (.int .i64)) (hc : P.cellsOf t = 1) : Opn H enc P W t rInt := ⟨hc, fun fuel cs x b o h hwt hA hb => by
  obtain ⟨n, rfl, _, hw⟩ := DataW.trod_int ht h
  exact ⟨n, hb, by show W.cell? ⟨b, o, none⟩ = some (.int .i64 n); simpa using hA 0 _ rfl, wf_I64 hw⟩⟩
theorem opn_byte {t : TypeId} (ht : P.underlying t = some (.int .u8)) (hc : P.cellsOf t = 1) : Opn H enc P W t rByte := ⟨hc, fun fuel cs x b o h hwt hA hb => by
  obtain ⟨n, rfl, _, hw⟩ := DataW.trod_int ht h
  simp only [Lit.wf, Bool.and_eq_true, decide_eq_true_eq] at hw
  have h0 : (0 : Int) ≤ n := hw.1
  have h1 : n ≤ 255 := hw.2
  refine ⟨UInt8.ofNat n.toNat, hb, ?_, trivial⟩
  have e : vByte (UInt8.ofNat n.toNat) = .int .u8 n := by
    unfold vByte
    congr 1
    rw [UInt8.toNat_ofNat']
    omega
  rw [e]
  simpa using hA 0 _ rfl⟩
theorem opn_bool {t : TypeId} (ht : P.underlying t = some .bool) (hc : P.cellsOf t = 1) : Opn H enc P W t rBool := ⟨hc, fun fuel cs x b o h hwt hA hb => by
  obtain ⟨bb, rfl, _⟩ := DataW.trod_bool ht h
  exact ⟨bb, hb, by show W.cell? ⟨b, o, none⟩ = some (.bool bb); simpa using hA 0 _ rfl, trivial⟩⟩
theorem opn_str {t : TypeId} (ht : P.underlying t = some .string) (hc : P.cellsOf t = 1) : Opn H enc P W t rStrB := ⟨hc, fun fuel cs x b o h hwt hA hb => by
  obtain ⟨s, rfl, rfl, hs⟩ := DataW.trod_string ht h
  refine ⟨s.data.toList, hb, ?_, by have := hwt s.data.toList.length (by simp [DataW.weights]); unfold reachBytes at this; show s.data.toList.length ≤ _; omega⟩
  have := hA 0 _ rfl
  simpa [vStr, sB] using this⟩
theorem opn_slice {α : Type} {t e : TypeId} {E : Rdr α} (ht : P.underlying t = some (.slice e)) (hby : 0 < P.bytesOf e) (hE : Opn H enc P W e E) (hpos : 0 < E.sz) : ∀ fuel cs x, DataW.trod enc P W 0 (fun _ => true) true fuel t cs = some x → (∀ k ∈ DataW.weights P t x.1, k ≤ reachBytes) → ∃ v xs, cs = [v] ∧ IsSl E (· < W.heap.size) W v xs ∧ xs.length ≤ 140737488355328 := fun fuel cs x h hwt => by
  rcases open_slice ht h with ⟨rfl, rfl⟩ | ⟨a, len, cap, m, n, D, Pl, rfl, _, hl, hm, hmm, rfl, hx⟩
  · exact ⟨_, [], rfl, ⟨none, 0, 0, 0, rfl, Nat.le_refl _, by omega, fun _ => rfl, fun h => absurd h (by simp), fun i hi => absurd hi (by simp)⟩, by simp⟩
  · simp only [if_true] at hmm
    subst hmm
    rw [hE.sz] at hx
    have e0 : a.add 0 = a := by unfold Addr.add; simp
    simp only [DataW.weights, ht] at hwt
    have hlen := hwt _ (List.mem_cons_self ..)
    have each : ∀ i, i < len → ∃ y, E.R (· < W.heap.size) W a.block (a.off + i * E.sz) y := fun i hi => by
      obtain ⟨c0, h0, _⟩ := hx 0 (by omega)
      rw [Nat.zero_mul, e0] at h0
      obtain ⟨cs', h1, h2⟩ := hx i (by omega)
      obtain ⟨_, hl0, hc0⟩ := World.cells?_some h0
      obtain ⟨_, hl1, hc1⟩ := World.cells?_some h1
      have g0 := (hc0 0 (by omega)).trans (List.getElem?_eq_getElem (by omega))
      rw [e0] at g0
      have hs := spot_none g0
      refine hE.mem _ cs' _ _ _ h2 (fun k hk => hwt k (List.mem_cons_of_mem _ (List.mem_append_left _ (weightsAll_memG (List.mem_map.2 ⟨i, List.mem_range.2 hi, rfl⟩) k hk)))) (fun j v hj => ?_) (cell_lt g0)
      have hjl : j < cs'.length := (List.getElem?_eq_some_iff.1 hj).1
      have := (hc1 j (by omega)).trans hj
      rw [add_add] at this
      have := add_none this hs
      rw [show a.off + i * E.sz + j = a.off + (i * E.sz + j) by omega]
      exact this
    obtain ⟨ys, hyl, hy⟩ := list_of_each len each
    refine ⟨_, ys, rfl, ⟨some a, m, a.block, a.off, by rw [hyl], by rw [hyl]; exact hl, by unfold maxLen at hm; omega, by simp, fun h0 => ?_, hy⟩, ?_⟩
    · have h0' : 0 < len := by rw [hyl] at h0; exact h0
      obtain ⟨c0, h1, _⟩ := hx 0 (by omega)
      rw [Nat.zero_mul, e0] at h1
      obtain ⟨_, hl0, hc0⟩ := World.cells?_some h1
      have g0 := (hc0 0 (by omega)).trans (List.getElem?_eq_getElem (by omega))
      rw [e0] at g0
      exact congrArg some (spot_none g0)
    · rw [hyl]
      simp only [List.length_map, List.length_range] at hlen
      unfold reachBytes at hlen
      have := Nat.le_mul_of_pos_right (len + (m - len)) hby
      omega
theorem opn_rSl {α : Type} {t e : TypeId} {E : Rdr α} (ht : P.underlying t = some (.slice e)) (hc : P.cellsOf t = 1) (hby : 0 < P.bytesOf e) (hE : Opn H enc P W e E) (hpos : 0 < E.sz) : Opn H enc P W t (rSlB E) := ⟨hc, fun fuel cs x b o h hwt hA hb => by
  obtain ⟨v, xs, rfl, hs, hl⟩ := opn_slice ht hby hE hpos fuel cs x h hwt
  exact ⟨xs, ⟨hb, v, by simpa using hA 0 _ rfl, hs⟩, hl⟩⟩
theorem mapM_each {α β : Type} {f : α → Option β} : ∀ {l : List α} {ys : List β}, l.mapM f = some ys → ∀ x ∈ l, ∃ y, f x = some y
  | [], _, _, x, hx => by simp at hx
  | a :: l, ys, h, x, hx => by
    rw [List.mapM_cons] at h
    simp only [bind, Option.bind_eq_some_iff, pure, Option.some.injEq] at h
    obtain ⟨y, h1, ys', h2, rfl⟩ := h
    rcases List.mem_cons.1 hx with rfl | hx
    · exact ⟨y, h1⟩
    · exact mapM_each h2 x hx
theorem opn_arr {α : Type} {t e : TypeId} {E : Rdr α} {n : Nat} (ht : P.underlying t = some (.array n e)) (hc : P.cellsOf t = n * E.sz) (hE : Opn H enc P W e E) : Opn H enc P W t (rArr n E) := ⟨hc, fun fuel cs x b o h hwt hA hb => by
  obtain ⟨xs, k, rfl, rfl, hl, hxl, hx⟩ := DataW.trod_array ht h
  simp only [DataW.weights, ht] at hwt
  have each : ∀ i, i < n → ∃ y, E.R (· < W.heap.size) W b (o + i * E.sz) y := fun i hi => by
    have hy := hx i hi
    rw [List.getElem?_eq_getElem (by omega)] at hy
    rw [hE.sz] at hy
    exact hE.mem _ _ _ _ _ hy (fun k hk => hwt k (weightsAll_memG (List.mem_map.2 ⟨_, List.getElem_mem (by omega), rfl⟩) k hk)) (hA.drop _ _) hb
  obtain ⟨ys, hyl, hy⟩ := list_of_each n each
  exact ⟨ys, hyl, hy⟩⟩
/-- a struct's fields, one behind the other -/
inductive OpnFs (H : Type) (enc : TypeId × Value → H) (P : Program) (W : World) : {α : Type} → List Field → Nat → Rdr α → Prop
  | nil {off : Nat} : OpnFs H enc P W [] off rUnit
  | cons {α β : Type} {f : Field} {fs : List Field} {E : Rdr α} {F : Rdr β} {off : Nat} (h : Opn H enc P W f.type E) (ho : f.offset = off) (r : OpnFs H enc P W fs (off + E.sz) F) : OpnFs H enc P W (f :: fs) off (rProd E F)
theorem opn_fields {α : Type} {fs : List Field} {off : Nat} {F : Rdr α} (h : OpnFs H enc P W fs off F) : ∀ {fuel : Nat} {cs : List Value} {b o : Nat} {xs : List (DataW H × List MemPlace)}, xs.length = fs.length → (∀ (i : Nat) (f : Field), fs[i]? = some f → DataW.trod enc P W 0 (fun _ => true) true fuel f.type ((cs.drop f.offset).take (P.cellsOf f.type)) = xs[i]?) →
    (∀ k ∈ DataW.weightsEach P (fs.map (·.type)) (xs.map (·.1)), k ≤ reachBytes) → At0 W b o cs → b < W.heap.size → ∃ a, F.R (· < W.heap.size) W b (o + off) a := by
  induction h with
  | nil => intro fuel cs b o xs _ _ _ _ _; exact ⟨(), trivial⟩
  | cons h ho r ih =>
    intro fuel cs b o xs hl hx hwt hA hb
    cases xs with
    | nil => simp at hl
    | cons y ys =>
      simp only [List.map_cons, DataW.weightsEach, List.mem_append] at hwt
      have h0 := hx 0 _ rfl
      obtain ⟨a, ha⟩ := h.mem _ _ _ _ _ h0 (fun k hk => hwt k (.inl hk)) (hA.drop _ _) hb
      obtain ⟨c, hc⟩ := ih (by simpa using hl) (fun i f hf => hx (i + 1) f hf) (fun k hk => hwt k (.inr hk)) hA hb
      rw [ho] at ha
      exact ⟨(a, c), ha, by rw [Nat.add_assoc]; exact hc⟩
theorem opn_struct {α : Type} {t : TypeId} {fs : Array Field} {F : Rdr α} (ht : P.underlying t = some (.struct fs)) (hc : P.cellsOf t = F.sz) (h : OpnFs H enc P W fs.toList 0 F) : Opn H enc P W t F := ⟨hc, fun fuel cs x b o hx hwt hA hb => by
  obtain ⟨xs, k, rfl, rfl, hl, hxl, hxx⟩ := DataW.trod_struct ht hx
  simp only [DataW.weights, ht] at hwt
  have := opn_fields h (xs := xs) (by simpa using hxl) (fun i f hf => hxx i f (by simpa using hf)) hwt hA hb
  simpa using this⟩
theorem opn_map {α β : Type} {t : TypeId} {E : Rdr α} (h : Opn H enc P W t E) (f : α → β) (g : β → α) (hfg : ∀ a, g (f a) = a) : Opn H enc P W t (rMap E g) := ⟨h.sz, fun fuel cs x b o hx hwt hA hb => by
  obtain ⟨a, ha⟩ := h.mem fuel cs x b o hx hwt hA hb
  exact ⟨f a, by show E.R _ W b o (g (f a)); rw [hfg]; exact ha⟩⟩
/-- a slice that came in -/
theorem opn_arg {α : Type} {t e : TypeId} {E : Rdr α} {v : Value} {d : DataW H} {p : List MemPlace} {r : Reach} {base : Nat} (ht : P.underlying t = some (.slice e)) (hby : 0 < P.bytesOf e) (hE : Opn H enc P W e E) (hpos : 0 < E.sz) (hok : Value.okWide P W r base t v) (h : DataW.Trod enc P W 0 (fun _ => true) true t v d p)
    {ts : List TypeId} {ds : List (DataW H)} {j : Nat} (hsz : (DataW.weightsEach P ts ds).all (· ≤ reachBytes) = true) (hts : ts[j]? = some t) (hds : ds[j]? = some d) :
    ∃ xs : List α, Ro W (fun _ => False) (slc E (· < W.heap.size) v xs) ∧ xs.length ≤ 140737488355328 := by
  obtain ⟨a1, len, cap, rfl⟩ := okWide_slice ht hok
  obtain ⟨fuel, hf⟩ := h
  obtain ⟨v, xs, e1, hs, hl⟩ := opn_slice ht hby hE hpos fuel _ _ hf fun k hk => of_decide_eq_true (List.all_eq_true.1 hsz k (DataW.weights_mem_each hts hds k hk))
  simp [Value.cells] at e1
  exact ⟨xs, ro_new (e1 ▸ hs) (fun b hb => hb), hl⟩
end
section
variable {w0 : World} {S : Nat → Prop} {Ps : Nat → Prop} {b o : Nat}
theorem Ro.fst {α β : Type} {E : Rdr α} {F : Rdr β} {x : α × β} (h : Ro w0 S (elc (rProd E F) Ps b o x)) : Ro w0 S (elc E Ps b o x.1) := ⟨h.1.1, h.2⟩
theorem Ro.snd {α β : Type} {E : Rdr α} {F : Rdr β} {x : α × β} (h : Ro w0 S (elc (rProd E F) Ps b o x)) : Ro w0 S (elc F Ps b (o + E.sz) x.2) := ⟨h.1.2, h.2⟩
theorem Ro.map {α β : Type} {E : Rdr α} {g : β → α} {y : β} (h : Ro w0 S (elc (rMap E g) Ps b o y)) : Ro w0 S (elc E Ps b o (g y)) := h
/-- a slice in a cell -/
theorem Ro.cellSl {α : Type} {E : Rdr α} {xs : List α} (h : Ro w0 S (elc (rSlB E) Ps b o xs)) : ∃ v, (∀ {m : List Ck} w, Hp w0 S w m → w.cell? ⟨b, o, none⟩ = some v) ∧ Ro w0 S (slc E Ps v xs) ∧ xs.length ≤ 140737488355328 := by
  obtain ⟨⟨⟨hb, v, hv, hs⟩, hl⟩, hS⟩ := h
  refine ⟨v, fun {m} w hw => ?_, ⟨hs, hS⟩, hl⟩
  have := hw.chg.block b (hS b hb).1 (hS b hb).2
  exact (World.cell?_of_block this).trans hv
/-- an array of bytes -/
theorem Ro.arr8 {n : Nat} {xs : List UInt8} (h : Ro w0 S (elc (rArr n rByte) Ps b o xs)) : xs.length = n ∧ ∀ {m : List Ck} w, Hp w0 S w m → w.rangeAt b o (xs.map vByte) := by
  refine ⟨h.1.1, fun {m} w hw j v hj => ?_⟩
  rw [List.getElem?_map] at hj
  obtain ⟨y, hy, rfl⟩ := Option.map_eq_some_iff.1 hj
  obtain ⟨hlt, rfl⟩ := List.getElem?_eq_some_iff.1 hy
  have := (h.at hw).2 j hlt
  have := this.2.1
  rwa [show o + j * rByte.sz = o + j from by show o + j * 1 = _; omega] at this
end
end Go.Proofs.YtkhffndeomihhaaDoor
