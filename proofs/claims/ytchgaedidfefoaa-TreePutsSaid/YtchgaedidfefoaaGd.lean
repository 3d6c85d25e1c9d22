/- Merged of FrameG, Law, Opn, Opg, PthOpn, TreeA, TreeB, TreeOpn. Conditions: none. -/
import Derived.Test.YtchgaedidfefoaaRows
import Derived.Test.YtchgaedidfefoaaGa
import Derived.ProofKit
import Derived.OpenShut
import Derived.SizedLaws
import Derived.JoinedCond
import Derived.Deep.CondSized
import Derived.Deep.SlicePairs
import Derived.ChangeSlices
import Derived.Lib.SmallJoins
import Derived.Test.YtchgaedidfefoaaGb
import Derived.Deep.Slices
import Derived.ChangeMaps5
import Derived.Test.YtchgaedidfefoaaGc
/- The frame of every statement of this seat: a law that returns true, and leaves what was there as it was, meets its row; how arguments are opened. Conditions: none. -/
set_option maxRecDepth 100000
set_option linter.unusedVariables false
set_option linter.unusedSimpArgs false
namespace Go.Proofs.Ytchgaedidfefoaa
open Go.ChangeShapes Go.WideShapes Go.ChangeAt Go.RowKit Go.Deep

theorem Try.own : ownKnob Try.prog.godebug = none := by kernel_rfl
theorem Try.laidOut : laidOutB Try.prog = true := by kernel_rfl

theorem trodAll_below {H : Type} {enc : TypeId × Value → H} {W W' : World} (hb : Below W.heap.size W W') : ∀ (ts : List TypeId) (vs : List Value) (ds : List (DataW H)) (ps : List MemPlace),
    (∀ t ∈ ts, Try.prog.readableRec t = true ∧ t < Try.prog.types.size) → DataW.TrodAll enc Try.prog W 0 (fun _ => true) true ts vs ds ps → (∀ x ∈ ps, x.block < W.heap.size) →
    DataW.TrodAll enc Try.prog W' 0 (fun b => decide (b < W.heap.size)) true ts vs ds ps
  | [], [], [], ps, _, h, _ => h
  | t :: ts, v :: vs, d :: ds, ps, ht, h, hlt => by
    obtain ⟨p, q, h1, h2, rfl⟩ := h
    have h3 := ht t (by simp)
    exact ⟨p, q, Below.trod Try.laidOut h3.1 h3.2 h1 hb (fun x hx => hlt x (by simp [hx])), trodAll_below hb ts vs ds q (fun t' h' => ht t' (by simp [h'])) h2 (fun x hx => hlt x (by simp [hx])), rfl⟩
  | [], _ :: _, _, _, _, h, _ => h.elim
  | [], [], _ :: _, _, _, h, _ => h.elim
  | _ :: _, [], _, _, _, h, _ => h.elim
  | _ :: _, _ :: _, [], _, _, h, _ => h.elim

theorem law_post {H : Type} {enc : TypeId × Value → H} {s : ChangeSpec} {fn : Func} {W W' : World} {args : Array Value} {ds gs : List (DataW H)} {before : List MemPlace}
    (hW : DataW.Whole enc Try.prog fn.params.toList s.vars false W args.toList ds gs before) (hts : ∀ t ∈ fn.params.toList, Try.prog.readableRec t = true ∧ t < Try.prog.types.size) (hv : s.vars = []) (hres : fn.resultTypes = #[4])
    (hr : (s.fn H (ds ++ gs)).results = [.lit (.bool true)]) (ha : (s.fn H (ds ++ gs)).args = ds) (hvv : (s.fn H (ds ++ gs)).vars = []) (hb : Below W.heap.size W W') :
    s.post enc Try.prog fn false true false false W args (.bool true) W' := by
  have hlt := hW.lt
  obtain ⟨p, q, hA, hV, hpq, _, _⟩ := id hW
  refine ⟨ds, gs, before, [], p, [], hW, ?_, ?_, ?_, hb.frame _, fun h => by cases h⟩
  · rw [hr, hres]
    exact trodAll_mk1 (shut_bool Try.underlying4 true)
  · rw [ha]
    exact trodAll_below hb _ _ _ _ hts hA fun x hx => hlt x (by rw [hpq]; simp [hx])
  · rw [hv, hvv]; rfl

section
variable {H : Type} {enc : TypeId × Value → H} {W : World}

theorem add_none {a : Addr} {v : Value} {b o : Nat} {n : Nat} (h : W.cell? (a.add n) = some v) (e : a = ⟨b, o, none⟩) : W.cell? ⟨b, o + n, none⟩ = some v := by
  subst e
  unfold Addr.add at h
  split at h
  · subst_vars; exact h
  · exact h
theorem spot_none {a : Addr} {v : Value} (h : W.cell? a = some v) : a = ⟨a.block, a.off, none⟩ := by
  have := World.cell?_spot h
  cases a
  simp at this
  subst this
  rfl

theorem wf_I64 {x : Int} (h : (Lit.int .i64 x).wf = true) : I64 x := by
  simp only [Lit.wf, Bool.and_eq_true, decide_eq_true_eq] at h
  exact ⟨h.1, h.2⟩

/-- the length of a slice's datum -/
def sliceLen : DataW H → Nat
  | .slice es _ => es.length
  | _ => 0

theorem open_intv {r : Reach} {base : Nat} {v : Value} {d : DataW H} {p : List MemPlace} (hok : Value.okWide Try.prog W r base 3 v) (h : DataW.Trod enc Try.prog W 0 (fun _ => true) true 3 v d p) :
    ∃ x : Int, v = .int .i64 x ∧ I64 x := by
  obtain ⟨x, rfl, _, _, w⟩ := open_int Try.underlying3 hok h
  exact ⟨x, rfl, wf_I64 w⟩
end
end Go.Proofs.Ytchgaedidfefoaa

/- From a contract to a statement. Conditions: none. -/
set_option linter.unusedVariables false
set_option linter.unusedSimpArgs false
namespace Go.Proofs.Ytchgaedidfefoaa
open Go.RowKit
theorem U_nil : U [] = fun _ => False := by
  funext b
  simp [U]
theorem law_callsR {P : Program} {f : FuncId} {args : Array Value} {ro : List Ck} (h : Tr P f args ro [] (T0 (.bool true))) (w : World) (hro : ∀ c ∈ ro, Ro w (fun _ => False) c) : Calls P f args w fun e w' => e = .returned (.bool true) ∧ Below w.heap.size w w' := by
  refine (h w (fun c hc => by rw [U_nil]; exact hro c hc) ⟨Chg.refl _ _, by simp, by simp, .nil⟩).mono ?_
  rintro e w' ⟨v, m', he, ⟨hv, -⟩, hw⟩
  have hc := hw.chg
  rw [U_nil] at hc
  exact ⟨by rw [he, hv], Chg.below_of_none hc⟩
theorem law_calls {P : Program} {f : FuncId} {args : Array Value} (h : Tr P f args [] [] (T0 (.bool true))) (w : World) : Calls P f args w fun e w' => e = .returned (.bool true) ∧ Below w.heap.size w w' :=
  law_callsR h w (by simp)
theorem ro_new {c : Ck} {w : World} (h : c.φ w) (hb : ∀ b, c.S b → b < w.heap.size) : Ro w (fun _ => False) c := ⟨h, fun b hc => ⟨hb b hc, id⟩⟩
end Go.Proofs.Ytchgaedidfefoaa

/- How bytes that came in are opened, as chunks. Conditions: none. -/
set_option maxRecDepth 100000
set_option linter.unusedVariables false
set_option linter.unusedSimpArgs false
namespace Go.Proofs.Ytchgaedidfefoaa
open Go.ChangeShapes Go.WideShapes Go.ChangeAt Go.RowKit

section
variable {H : Type} {enc : TypeId × Value → H} {W : World}
theorem opn_bytes {r : Reach} {base : Nat} {v : Value} {d : DataW H} {p : List MemPlace} (hok : Value.okWide Try.prog W r base 29 v) (h : DataW.Trod enc Try.prog W 0 (fun _ => true) true 29 v d p) :
    ∃ l : List UInt8, Ro W (fun _ => False) (slc rByte (· < W.heap.size) v l) ∧ sliceLen d = l.length := by
  suffices hs : ∃ l : List UInt8, IsSl rByte (· < W.heap.size) W v l ∧ sliceLen d = l.length by
    obtain ⟨l, h1, h2⟩ := hs
    exact ⟨l, ro_new h1 fun b hb => hb, h2⟩
  obtain ⟨a1, len, cap, rfl⟩ := okWide_slice Try.underlying29 hok
  obtain ⟨fuel, hf⟩ := h
  rcases open_ints Try.underlying29 Try.underlying5 (by kernel_rfl) hf with ⟨hcs, hx⟩ | ⟨a, len', cap', zs, hcs, _, hl, hm, hz, hx, hcell, hwz⟩
  · simp [Value.cells] at hcs
    obtain ⟨rfl, rfl, rfl⟩ := hcs
    simp only [Prod.mk.injEq] at hx
    obtain ⟨rfl, rfl⟩ := hx
    exact ⟨[], ⟨none, 0, 0, 0, rfl, Nat.le_refl _, by omega, fun _ => rfl, fun h => absurd h (by simp), fun i hi => absurd hi (by simp)⟩, rfl⟩
  · simp [Value.cells] at hcs
    obtain ⟨rfl, rfl, rfl⟩ := hcs
    simp only [Prod.mk.injEq] at hx
    obtain ⟨rfl, rfl⟩ := hx
    simp only [if_true] at hz
    have hlen : ((zs.take len).map fun n => UInt8.ofNat n.toNat).length = len := by simp; omega
    refine ⟨(zs.take len).map fun n => UInt8.ofNat n.toNat, ⟨some a, cap, a.block, a.off, by rw [hlen], by omega, by unfold maxLen at hm; omega, by simp, fun h0 => ?_, fun i hi => ?_⟩, ?_⟩
    · rw [hlen] at h0
      have h1 := hcell 0 (by omega)
      have e : a.add 0 = a := by unfold Addr.add; simp
      rw [e] at h1
      exact congrArg some (spot_none h1)
    · rw [hlen] at hi
      have h0 := hcell 0 (by omega)
      have e : a.add 0 = a := by unfold Addr.add; simp
      rw [e] at h0
      have hs := spot_none h0
      have g := add_none (hcell i (by omega)) hs
      have hb := range_u8 hwz i
      have e2 : zs.getD i 0 = zs[i]'(by omega) := by simp [List.getD, List.getElem?_eq_getElem (show i < zs.length by omega)]
      have e3 : zs[i]?.getD 0 = zs[i]'(by omega) := by simp [List.getElem?_eq_getElem (show i < zs.length by omega)]
      rw [e2] at g
      rw [e3] at hb
      refine ⟨cell_lt h0, ?_, trivial⟩
      show W.cell? ⟨a.block, a.off + i * 1, none⟩ = _
      rw [Nat.mul_one, g]
      simp only [List.getElem_map, List.getElem_take, vByte]
      congr 2
      simp only [UInt8.toNat_ofNat']
      omega
    · simp [sliceLen, lits]
end
end Go.Proofs.Ytchgaedidfefoaa

/- How whatever came in is opened: readers of structs, arrays, slices of any of these. Conditions: none. -/
set_option maxRecDepth 100000
set_option linter.unusedVariables false
set_option linter.unusedSimpArgs false
namespace Go.Proofs.Ytchgaedidfefoaa
open Go.ChangeShapes Go.WideShapes Go.ChangeAt Go.RowKit Go.Deep

/-- no cell -/
def rUnit : Rdr Unit := ⟨0, fun _ _ _ _ _ => True, fun _ h => h, fun _ h => h⟩
/-- one behind the other -/
def rProd {α β : Type} (E : Rdr α) (F : Rdr β) : Rdr (α × β) where
  sz := E.sz + F.sz
  R := fun Ps w b o x => E.R Ps w b o x.1 ∧ F.R Ps w b (o + E.sz) x.2
  loc := fun h ⟨h1, h2⟩ => ⟨E.loc h h1, F.loc h h2⟩
  mono := fun h ⟨h1, h2⟩ => ⟨E.mono h h1, F.mono h h2⟩
/-- so many of a kind -/
def rArr {α : Type} (n : Nat) (E : Rdr α) : Rdr (List α) where
  sz := n * E.sz
  R := fun Ps w b o xs => xs.length = n ∧ ∀ i (h : i < xs.length), E.R Ps w b (o + i * E.sz) xs[i]
  loc := fun h ⟨h1, h2⟩ => ⟨h1, fun i hi => E.loc h (h2 i hi)⟩
  mono := fun h ⟨h1, h2⟩ => ⟨h1, fun i hi => E.mono h (h2 i hi)⟩
def vBool (x : Bool) : Value := .bool x
def rBool : Rdr Bool := r1 vBool fun _ => True
/-- texts, slices, that fit into memory -/
def rStrB : Rdr (List UInt8) := r1 vStr fun x => x.length ≤ 140737488355328
def rSlB {α : Type} (E : Rdr α) : Rdr (List α) where
  sz := 1
  R := fun Ps w b o xs => (rSl E).R Ps w b o xs ∧ xs.length ≤ 140737488355328
  loc := fun h ⟨h1, h2⟩ => ⟨(rSl E).loc h h1, h2⟩
  mono := fun h ⟨h1, h2⟩ => ⟨(rSl E).mono h h1, h2⟩
/-- named anew -/
def rMap {α β : Type} (E : Rdr α) (g : β → α) : Rdr β := ⟨E.sz, fun Ps w b o y => E.R Ps w b o (g y), E.loc, E.mono⟩

section
variable {H : Type} {enc : TypeId × Value → H} {P : Program} {W : World}
def At0 (w : World) (b o : Nat) (cs : List Value) : Prop := ∀ (j : Nat) v, cs[j]? = some v → w.cell? ⟨b, o + j, none⟩ = some v
theorem At0.drop {w : World} {b o : Nat} {cs : List Value} (h : At0 w b o cs) (k n : Nat) : At0 w b (o + k) ((cs.drop k).take n) := fun j v hj => by
  rw [List.getElem?_take] at hj
  split at hj
  · rw [List.getElem?_drop] at hj
    rw [Nat.add_assoc]
    exact h _ v hj
  · cases hj
theorem list_of_each {α : Type} {q : Nat → α → Prop} : ∀ n : Nat, (∀ i, i < n → ∃ y, q i y) → ∃ ys : List α, ys.length = n ∧ ∀ i (h : i < ys.length), q i ys[i]
  | 0, _ => ⟨[], rfl, fun i h => absurd h (by simp)⟩
  | n + 1, h => by
    obtain ⟨ys, hl, hy⟩ := list_of_each n fun i hi => h i (by omega)
    obtain ⟨y, hn⟩ := h n (by omega)
    refine ⟨ys ++ [y], by simp [hl], fun i hi => ?_⟩
    rcases Nat.lt_or_ge i n with hlt | hge
    · rw [List.getElem_append_left (by omega)]
      exact hy i (by omega)
    · have hin : i = n := by simp [hl] at hi; omega
      subst hin
      rw [List.getElem_append_right (by omega)]
      simpa [hl] using hn
/-- data of a type are read so -/
structure Opn (H : Type) (enc : TypeId × Value → H) (P : Program) (W : World) {α : Type} (t : TypeId) (E : Rdr α) : Prop where
  sz : P.cellsOf t = E.sz
  mem : ∀ fuel cs x b o, DataW.trod enc P W 0 (fun _ => true) true fuel t cs = some x → (∀ k ∈ DataW.weights P t x.1, k ≤ reachBytes) → At0 W b o cs → b < W.heap.size → ∃ a, E.R (· < W.heap.size) W b o a
theorem weightsAll_memG {e : TypeId} : ∀ {l : List (DataW H)} {d : DataW H}, d ∈ l → ∀ n ∈ d.weights P e, n ∈ DataW.weightsAll P e l
  | x :: l, d, hd, n, hn => by
    simp only [DataW.weightsAll, List.mem_append]
    rcases List.mem_cons.1 hd with rfl | h
    · exact Or.inl hn
    · exact Or.inr (weightsAll_memG h n hn)
theorem opn_int {t : TypeId} (ht : P.underlying t = some (.int .i64)) (hc : P.cellsOf t = 1) : Opn H enc P W t rInt := ⟨hc, fun fuel cs x b o h hwt hA hb => by
  obtain ⟨n, rfl, _, hw⟩ := DataW.trod_int ht h
  exact ⟨n, hb, by show W.cell? ⟨b, o, none⟩ = some (.int .i64 n); simpa using hA 0 _ rfl, wf_I64 hw⟩⟩
theorem opn_byte {t : TypeId} (ht : P.underlying t = some (.int .u8)) (hc : P.cellsOf t = 1) : Opn H enc P W t rByte := ⟨hc, fun fuel cs x b o h hwt hA hb => by
  obtain ⟨n, rfl, _, hw⟩ := DataW.trod_int ht h
  simp only [Lit.wf, Bool.and_eq_true, decide_eq_true_eq] at hw
  have h0 : (0 : Int) ≤ n := hw.1
  have h1 : n ≤ 255 := hw.2
  refine ⟨UInt8.ofNat n.toNat, hb, ?_, trivial⟩
  have e : vByte (UInt8.ofNat n.toNat) = .int .u8 n := by
    unfold vByte
    congr 1
    rw [UInt8.toNat_ofNat']
    omega
  rw [e]
  simpa using hA 0 _ rfl⟩
theorem opn_bool {t : TypeId} (ht : P.underlying t = some .bool) (hc : P.cellsOf t = 1) : Opn H enc P W t rBool := ⟨hc, fun fuel cs x b o h hwt hA hb => by
  obtain ⟨bb, rfl, _⟩ := DataW.trod_bool ht h
  exact ⟨bb, hb, by show W.cell? ⟨b, o, none⟩ = some (.bool bb); simpa using hA 0 _ rfl, trivial⟩⟩
theorem opn_str {t : TypeId} (ht : P.underlying t = some .string) (hc : P.cellsOf t = 1) : Opn H enc P W t rStrB := ⟨hc, fun fuel cs x b o h hwt hA hb => by
  obtain ⟨s, rfl, rfl, hs⟩ := DataW.trod_string ht h
  refine ⟨s.data.toList, hb, ?_, by have := hwt s.data.toList.length (by simp [DataW.weights]); unfold reachBytes at this; show s.data.toList.length ≤ _; omega⟩
  have := hA 0 _ rfl
  simpa [vStr, sB] using this⟩
theorem opn_slice {α : Type} {t e : TypeId} {E : Rdr α} (ht : P.underlying t = some (.slice e)) (hby : 0 < P.bytesOf e) (hE : Opn H enc P W e E) (hpos : 0 < E.sz) : ∀ fuel cs x, DataW.trod enc P W 0 (fun _ => true) true fuel t cs = some x → (∀ k ∈ DataW.weights P t x.1, k ≤ reachBytes) → ∃ v xs, cs = [v] ∧ IsSl E (· < W.heap.size) W v xs ∧ xs.length ≤ 140737488355328 := fun fuel cs x h hwt => by
  rcases open_slice ht h with ⟨rfl, rfl⟩ | ⟨a, len, cap, m, n, D, Pl, rfl, _, hl, hm, hmm, rfl, hx⟩
  · exact ⟨_, [], rfl, ⟨none, 0, 0, 0, rfl, Nat.le_refl _, by omega, fun _ => rfl, fun h => absurd h (by simp), fun i hi => absurd hi (by simp)⟩, by simp⟩
  · simp only [if_true] at hmm
    subst hmm
    rw [hE.sz] at hx
    have e0 : a.add 0 = a := by unfold Addr.add; simp
    simp only [DataW.weights, ht] at hwt
    have hlen := hwt _ (List.mem_cons_self ..)
    have each : ∀ i, i < len → ∃ y, E.R (· < W.heap.size) W a.block (a.off + i * E.sz) y := fun i hi => by
      obtain ⟨c0, h0, _⟩ := hx 0 (by omega)
      rw [Nat.zero_mul, e0] at h0
      obtain ⟨cs', h1, h2⟩ := hx i (by omega)
      obtain ⟨_, hl0, hc0⟩ := World.cells?_some h0
      obtain ⟨_, hl1, hc1⟩ := World.cells?_some h1
      have g0 := (hc0 0 (by omega)).trans (List.getElem?_eq_getElem (by omega))
      rw [e0] at g0
      have hs := spot_none g0
      refine hE.mem _ cs' _ _ _ h2 (fun k hk => hwt k (List.mem_cons_of_mem _ (List.mem_append_left _ (weightsAll_memG (List.mem_map.2 ⟨i, List.mem_range.2 hi, rfl⟩) k hk)))) (fun j v hj => ?_) (cell_lt g0)
      have hjl : j < cs'.length := (List.getElem?_eq_some_iff.1 hj).1
      have := (hc1 j (by omega)).trans hj
      rw [add_add] at this
      have := add_none this hs
      rw [show a.off + i * E.sz + j = a.off + (i * E.sz + j) by omega]
      exact this
    obtain ⟨ys, hyl, hy⟩ := list_of_each len each
    refine ⟨_, ys, rfl, ⟨some a, m, a.block, a.off, by rw [hyl], by rw [hyl]; exact hl, by unfold maxLen at hm; omega, by simp, fun h0 => ?_, hy⟩, ?_⟩
    · have h0' : 0 < len := by rw [hyl] at h0; exact h0
      obtain ⟨c0, h1, _⟩ := hx 0 (by omega)
      rw [Nat.zero_mul, e0] at h1
      obtain ⟨_, hl0, hc0⟩ := World.cells?_some h1
      have g0 := (hc0 0 (by omega)).trans (List.getElem?_eq_getElem (by omega))
      rw [e0] at g0
      exact congrArg some (spot_none g0)
    · rw [hyl]
      simp only [List.length_map, List.length_range] at hlen
      unfold reachBytes at hlen
      have := Nat.le_mul_of_pos_right (len + (m - len)) hby
      omega
theorem opn_rSl {α : Type} {t e : TypeId} {E : Rdr α} (ht : P.underlying t = some (.slice e)) (hc : P.cellsOf t = 1) (hby : 0 < P.bytesOf e) (hE : Opn H enc P W e E) (hpos : 0 < E.sz) : Opn H enc P W t (rSlB E) := ⟨hc, fun fuel cs x b o h hwt hA hb => by
  obtain ⟨v, xs, rfl, hs, hl⟩ := opn_slice ht hby hE hpos fuel cs x h hwt
  exact ⟨xs, ⟨hb, v, by simpa using hA 0 _ rfl, hs⟩, hl⟩⟩
theorem mapM_each {α β : Type} {f : α → Option β} : ∀ {l : List α} {ys : List β}, l.mapM f = some ys → ∀ x ∈ l, ∃ y, f x = some y
  | [], _, _, x, hx => by simp at hx
  | a :: l, ys, h, x, hx => by
    rw [List.mapM_cons] at h
    simp only [bind, Option.bind_eq_some_iff, pure, Option.some.injEq] at h
    obtain ⟨y, h1, ys', h2, rfl⟩ := h
    rcases List.mem_cons.1 hx with rfl | hx
    · exact ⟨y, h1⟩
    · exact mapM_each h2 x hx
theorem opn_arr {α : Type} {t e : TypeId} {E : Rdr α} {n : Nat} (ht : P.underlying t = some (.array n e)) (hc : P.cellsOf t = n * E.sz) (hE : Opn H enc P W e E) : Opn H enc P W t (rArr n E) := ⟨hc, fun fuel cs x b o h hwt hA hb => by
  obtain ⟨xs, k, rfl, rfl, hl, hxl, hx⟩ := DataW.trod_array ht h
  simp only [DataW.weights, ht] at hwt
  have each : ∀ i, i < n → ∃ y, E.R (· < W.heap.size) W b (o + i * E.sz) y := fun i hi => by
    have hy := hx i hi
    rw [List.getElem?_eq_getElem (by omega)] at hy
    rw [hE.sz] at hy
    exact hE.mem _ _ _ _ _ hy (fun k hk => hwt k (weightsAll_memG (List.mem_map.2 ⟨_, List.getElem_mem (by omega), rfl⟩) k hk)) (hA.drop _ _) hb
  obtain ⟨ys, hyl, hy⟩ := list_of_each n each
  exact ⟨ys, hyl, hy⟩⟩
/-- a struct's fields, one behind the other -/
inductive OpnFs (H : Type) (enc : TypeId × Value → H) (P : Program) (W : World) : {α : Type} → List Field → Nat → Rdr α → Prop
  | nil {off : Nat} : OpnFs H enc P W [] off rUnit
  | cons {α β : Type} {f : Field} {fs : List Field} {E : Rdr α} {F : Rdr β} {off : Nat} (h : Opn H enc P W f.type E) (ho : f.offset = off) (r : OpnFs H enc P W fs (off + E.sz) F) : OpnFs H enc P W (f :: fs) off (rProd E F)
theorem opn_fields {α : Type} {fs : List Field} {off : Nat} {F : Rdr α} (h : OpnFs H enc P W fs off F) : ∀ {fuel : Nat} {cs : List Value} {b o : Nat} {xs : List (DataW H × List MemPlace)}, xs.length = fs.length → (∀ (i : Nat) (f : Field), fs[i]? = some f → DataW.trod enc P W 0 (fun _ => true) true fuel f.type ((cs.drop f.offset).take (P.cellsOf f.type)) = xs[i]?) →
    (∀ k ∈ DataW.weightsEach P (fs.map (·.type)) (xs.map (·.1)), k ≤ reachBytes) → At0 W b o cs → b < W.heap.size → ∃ a, F.R (· < W.heap.size) W b (o + off) a := by
  induction h with
  | nil => intro fuel cs b o xs _ _ _ _ _; exact ⟨(), trivial⟩
  | cons h ho r ih =>
    intro fuel cs b o xs hl hx hwt hA hb
    cases xs with
    | nil => simp at hl
    | cons y ys =>
      simp only [List.map_cons, DataW.weightsEach, List.mem_append] at hwt
      have h0 := hx 0 _ rfl
      obtain ⟨a, ha⟩ := h.mem _ _ _ _ _ h0 (fun k hk => hwt k (.inl hk)) (hA.drop _ _) hb
      obtain ⟨c, hc⟩ := ih (by simpa using hl) (fun i f hf => hx (i + 1) f hf) (fun k hk => hwt k (.inr hk)) hA hb
      rw [ho] at ha
      exact ⟨(a, c), ha, by rw [Nat.add_assoc]; exact hc⟩
theorem opn_struct {α : Type} {t : TypeId} {fs : Array Field} {F : Rdr α} (ht : P.underlying t = some (.struct fs)) (hc : P.cellsOf t = F.sz) (h : OpnFs H enc P W fs.toList 0 F) : Opn H enc P W t F := ⟨hc, fun fuel cs x b o hx hwt hA hb => by
  obtain ⟨xs, k, rfl, rfl, hl, hxl, hxx⟩ := DataW.trod_struct ht hx
  simp only [DataW.weights, ht] at hwt
  have := opn_fields h (xs := xs) (by simpa using hxl) (fun i f hf => hxx i f (by simpa using hf)) hwt hA hb
  simpa using this⟩
theorem opn_map {α β : Type} {t : TypeId} {E : Rdr α} (h : Opn H enc P W t E) (f : α → β) (g : β → α) (hfg : ∀ a, g (f a) = a) : Opn H enc P W t (rMap E g) := ⟨h.sz, fun fuel cs x b o hx hwt hA hb => by
  obtain ⟨a, ha⟩ := h.mem fuel cs x b o hx hwt hA hb
  exact ⟨f a, by show E.R _ W b o (g (f a)); rw [hfg]; exact ha⟩⟩
/-- a slice that came in -/
theorem opn_arg {α : Type} {t e : TypeId} {E : Rdr α} {v : Value} {d : DataW H} {p : List MemPlace} {r : Reach} {base : Nat} (ht : P.underlying t = some (.slice e)) (hby : 0 < P.bytesOf e) (hE : Opn H enc P W e E) (hpos : 0 < E.sz) (hok : Value.okWide P W r base t v) (h : DataW.Trod enc P W 0 (fun _ => true) true t v d p)
    {ts : List TypeId} {ds : List (DataW H)} {j : Nat} (hsz : (DataW.weightsEach P ts ds).all (· ≤ reachBytes) = true) (hts : ts[j]? = some t) (hds : ds[j]? = some d) :
    ∃ xs : List α, Ro W (fun _ => False) (slc E (· < W.heap.size) v xs) ∧ xs.length ≤ 140737488355328 := by
  obtain ⟨a1, len, cap, rfl⟩ := okWide_slice ht hok
  obtain ⟨fuel, hf⟩ := h
  obtain ⟨v, xs, e1, hs, hl⟩ := opn_slice ht hby hE hpos fuel _ _ hf fun k hk => of_decide_eq_true (List.all_eq_true.1 hsz k (DataW.weights_mem_each hts hds k hk))
  simp [Value.cells] at e1
  exact ⟨xs, ro_new (e1 ▸ hs) (fun b hb => hb), hl⟩
end
section
variable {w0 : World} {S : Nat → Prop} {Ps : Nat → Prop} {b o : Nat}
theorem Ro.fst {α β : Type} {E : Rdr α} {F : Rdr β} {x : α × β} (h : Ro w0 S (elc (rProd E F) Ps b o x)) : Ro w0 S (elc E Ps b o x.1) := ⟨h.1.1, h.2⟩
theorem Ro.snd {α β : Type} {E : Rdr α} {F : Rdr β} {x : α × β} (h : Ro w0 S (elc (rProd E F) Ps b o x)) : Ro w0 S (elc F Ps b (o + E.sz) x.2) := ⟨h.1.2, h.2⟩
theorem Ro.map {α β : Type} {E : Rdr α} {g : β → α} {y : β} (h : Ro w0 S (elc (rMap E g) Ps b o y)) : Ro w0 S (elc E Ps b o (g y)) := h
/-- a slice in a cell -/
theorem Ro.cellSl {α : Type} {E : Rdr α} {xs : List α} (h : Ro w0 S (elc (rSlB E) Ps b o xs)) : ∃ v, (∀ {m : List Ck} w, Hp w0 S w m → w.cell? ⟨b, o, none⟩ = some v) ∧ Ro w0 S (slc E Ps v xs) ∧ xs.length ≤ 140737488355328 := by
  obtain ⟨⟨⟨hb, v, hv, hs⟩, hl⟩, hS⟩ := h
  refine ⟨v, fun {m} w hw => ?_, ⟨hs, hS⟩, hl⟩
  have := hw.chg.block b (hS b hb).1 (hS b hb).2
  exact (World.cell?_of_block this).trans hv
/-- an array of bytes -/
theorem Ro.arr8 {n : Nat} {xs : List UInt8} (h : Ro w0 S (elc (rArr n rByte) Ps b o xs)) : xs.length = n ∧ ∀ {m : List Ck} w, Hp w0 S w m → w.rangeAt b o (xs.map vByte) := by
  refine ⟨h.1.1, fun {m} w hw j v hj => ?_⟩
  rw [List.getElem?_map] at hj
  obtain ⟨y, hy, rfl⟩ := Option.map_eq_some_iff.1 hj
  obtain ⟨hlt, rfl⟩ := List.getElem?_eq_some_iff.1 hy
  have := (h.at hw).2 j hlt
  have := this.2.1
  rwa [show o + j * rByte.sz = o + j from by show o + j * 1 = _; omega] at this
end
end Go.Proofs.Ytchgaedidfefoaa

/- How texts that came in are opened. Conditions: none. -/
set_option linter.unusedVariables false
set_option linter.unusedSimpArgs false
namespace Go.Proofs.Ytchgaedidfefoaa
open Go.ChangeShapes Go.WideShapes Go.ChangeAt Go.RowKit
section
variable {H : Type} {enc : TypeId × Value → H} {W : World}
theorem open_strv {r : Reach} {base : Nat} {v : Value} {d : DataW H} {p : List MemPlace} (hok : Value.okWide Try.prog W r base 9 v) (h : DataW.Trod enc Try.prog W 0 (fun _ => true) true 9 v d p) :
    ∃ l : List UInt8, v = .string (sB l) ∧ l.length ≤ 9223372036854775807 := by
  obtain ⟨s, rfl, _, _, hs⟩ := Go.ChangeMaps.open_string Try.underlying9 hok h
  obtain ⟨l, rfl⟩ := sB_ext s
  rw [sB_size] at hs
  unfold maxLen at hs
  exact ⟨l, rfl, by omega⟩
end
end Go.Proofs.Ytchgaedidfefoaa

/- Trees in memory: entries that are read, entries of the call's own, their bytes. Conditions: none. -/
set_option linter.unusedVariables false
set_option linter.unusedSimpArgs false
namespace Go.Proofs.Ytchgaedidfefoaa
open Go.RowKit

/-- an entry -/
structure En where
  path : List UInt8
  kind : Int
  mode : Int
  data : List UInt8
  to : List UInt8
/-- .. and the value of its bytes' slice -/
abbrev ET := En × Value
def evC (x : ET) : List Value := [vStr x.1.path, vInt x.1.kind, vInt x.1.mode, x.2, vStr x.1.to]
def EnOk (e : En) : Prop := I64 e.kind ∧ I64 e.mode ∧ e.path.length ≤ 140737488355328 ∧ e.data.length ≤ 140737488355328 ∧ e.to.length ≤ 140737488355328
theorem rangeAt_loc {w w' : World} {b o : Nat} {cs : List Value} (h : w'.heap[b]? = w.heap[b]?) (hw : w.rangeAt b o cs) : w'.rangeAt b o cs := fun j v hj => (World.cell?_of_block h).trans (hw j v hj)
def rEV : Rdr ET where
  sz := 5
  R := fun Ps w b o x => Ps b ∧ w.rangeAt b o (evC x) ∧ IsSl rByte Ps w x.2 x.1.data ∧ EnOk x.1
  loc := fun h ⟨h1, h2, h3, h4⟩ => ⟨h1, rangeAt_loc (h _ h1) h2, h3.loc h, h4⟩
  mono := fun h ⟨h1, h2, h3, h4⟩ => ⟨h _ h1, h2, h3.mono h, h4⟩
def flatT (xs : List ET) : List Value := xs.flatMap evC
theorem evC_length (x : ET) : (evC x).length = 5 := rfl
theorem flatT_length (xs : List ET) : (flatT xs).length = xs.length * 5 := flatMap_length evC 5 evC_length xs
theorem flatT_get {xs : List ET} {i j : Nat} (hi : i < xs.length) (hj : j < 5) : (flatT xs)[i * 5 + j]? = (evC xs[i])[j]? := flatMap_get evC 5 evC_length xs i j hi hj
theorem flatT_app (xs ys : List ET) : flatT (xs ++ ys) = flatT xs ++ flatT ys := List.flatMap_append ..
theorem flatT_one (x : ET) : flatT [x] = evC x := by simp [flatT]
/-- entries' names, without their bytes' places -/
def ens (xs : List ET) : List En := xs.map (·.1)
theorem ens_length (xs : List ET) : (ens xs).length = xs.length := List.length_map ..
theorem ens_get {xs : List ET} {i : Nat} (h : i < xs.length) : (ens xs)[i]'(by rw [ens_length]; exact h) = xs[i].1 := List.getElem_map ..
theorem flat_at {xs : List ET} {sp : List Value} {i : Nat} (h : i < xs.length) (j : Nat) (hj : j < 5) : (flatT xs ++ sp)[0 + i * 5 + j]? = (evC xs[i])[j]? := by
  rw [List.getElem?_append_left (by rw [flatT_length]; omega), show 0 + i * 5 + j = i * 5 + j by omega]
  exact flatT_get h hj
theorem flat_row {xs : List ET} {sp : List Value} {i : Nat} (h : i < xs.length) : ((flatT xs ++ sp).drop (0 + i * 5)).take 5 = [vStr xs[i].1.path, vInt xs[i].1.kind, vInt xs[i].1.mode, xs[i].2, vStr xs[i].1.to] := by
  apply List.ext_getElem?
  intro j
  rcases Nat.lt_or_ge j 5 with hj | hj
  · rw [List.getElem?_take_of_lt hj, List.getElem?_drop]
    exact flat_at h j hj
  · rw [List.getElem?_eq_none (by rw [List.length_take]; omega)]
    exact (List.getElem?_eq_none (by simpa using hj)).symm
/-- the bytes' slice of an entry is laid anew -/
theorem flat_set {xs : List ET} {sp : List Value} {i : Nat} (h : i < xs.length) (d : Value) : (flatT xs ++ sp).set (0 + i * 5 + 3) d = flatT (xs.set i (xs[i].1, d)) ++ sp := by
  have hl : (flatT (xs.set i (xs[i].1, d))).length = xs.length * 5 := by rw [flatT_length, List.length_set]
  apply List.ext_getElem?
  intro j
  rcases Nat.lt_or_ge j (xs.length * 5) with hj | hj
  · obtain ⟨q, r, rfl, hr, hq⟩ : ∃ q r, j = q * 5 + r ∧ r < 5 ∧ q < xs.length := ⟨j / 5, j % 5, by omega, by omega, by omega⟩
    rw [List.getElem?_append_left (by rw [hl]; omega), flatT_get (by rw [List.length_set]; exact hq) hr]
    by_cases hiq : i = q
    · subst hiq
      rw [List.getElem_set_self]
      by_cases hr3 : r = 3
      · subst hr3
        rw [show 0 + i * 5 + 3 = i * 5 + 3 by omega, List.getElem?_set_self (by rw [List.length_append, flatT_length]; omega)]
        rfl
      · rw [List.getElem?_set_ne (by omega), List.getElem?_append_left (by rw [flatT_length]; omega), flatT_get hq hr]
        have : r = 0 ∨ r = 1 ∨ r = 2 ∨ r = 4 := by omega
        rcases this with rfl | rfl | rfl | rfl <;> rfl
    · rw [List.getElem_set_ne hiq, List.getElem?_set_ne (by omega), List.getElem?_append_left (by rw [flatT_length]; omega), flatT_get hq hr]
  · rw [List.getElem?_set_ne (by omega), List.getElem?_append_right (by rw [flatT_length]; omega), List.getElem?_append_right (by rw [hl]; omega), flatT_length, hl]
/-- entries of the call's own -/
def ownT (e : TypeId) (v : Value) (xs : List ET) : Ck := own e 5 v xs.length (flatT xs)
/-- their bytes -/
def datC (e : TypeId) (xs : List ET) : Ck := star (xs.map fun x => ownB e x.2 x.1.data)
section
variable {P : Program} {n : Nat} {w0 : World} {S : Nat → Prop} {l : Fr} {m : List Ck} {Q : Exit → Act → World → Prop} {K : Act → World → Prop}
theorem Hp.part {w : World} {r p : List Ck} (h : Hp w0 S w (p ++ r)) : Hp w0 S w p := h.sub (List.sublist_append_left _ _)
/-- entries that are read, opened -/
theorem Ro.openT {Ps : Nat → Prop} {v : Value} {xs : List ET} (h : Ro w0 S (slc rEV Ps v xs)) : ∃ ad cap b off, v = .slice ad xs.length cap ∧ xs.length ≤ cap ∧ cap ≤ 9223372036854775807 ∧ (ad = none → cap = 0) ∧ (0 < xs.length → ad = some ⟨b, off, none⟩) ∧ ∀ i (hi : i < xs.length), Ro w0 S (elc rEV Ps b (off + i * 5) xs[i]) := h.open
theorem Ro.evRng {Ps : Nat → Prop} {b o : Nat} {x : ET} (h : Ro w0 S (elc rEV Ps b o x)) : Ro w0 S (rng b o [.string (sB x.1.path), .int .i64 x.1.kind, .int .i64 x.1.mode, x.2, .string (sB x.1.to)]) :=
  ⟨h.1.2.1, fun k hk => h.2 k (by obtain rfl : k = b := hk; exact h.1.1)⟩
theorem Ro.evDat {Ps : Nat → Prop} {b o : Nat} {x : ET} (h : Ro w0 S (elc rEV Ps b o x)) : Ro w0 S (slc rByte Ps x.2 x.1.data) := ⟨h.1.2.2.1, h.2⟩
theorem Ro.evOk {Ps : Nat → Prop} {b o : Nat} {x : ET} (h : Ro w0 S (elc rEV Ps b o x)) : EnOk x.1 := h.1.2.2.2
theorem Ro.slv {α : Type} {E : Rdr α} {Ps : Nat → Prop} {v : Value} {xs : List α} (h : Ro w0 S (slc E Ps v xs)) : ∃ ad cap, v = .slice ad xs.length cap := by
  obtain ⟨⟨ad, cap, b, off, e, _⟩, _⟩ := h
  exact ⟨ad, cap, e⟩
/-- fresh entries are read: their bytes lie in chunks, or in old blocks -/
theorem ownT_sl {e : TypeId} {v : Value} {xs : List ET} {w : World} {Ps : Nat → Prop} (h : w.ownsRow 0 e 5 v xs.length (flatT xs)) (hP : ∀ b, v.ownBlock = some b → Ps b) (hok : ∀ x ∈ xs, EnOk x.1) (hd : ∀ x ∈ xs, IsSl rByte Ps w x.2 x.1.data) : IsSl rEV Ps w v xs := by
  obtain ⟨ad, cap, b, hv, had, hnil, hnw⟩ := own_news h
  obtain ⟨h1, h2⟩ := h
  have hb : xs.length ≤ cap ∧ cap ≤ 9223372036854775807 := by
    rcases h2 with ⟨rfl, h0⟩ | ⟨g, cap', cur, rfl, _, _, hc, hm, _⟩
    · injection hv with e1 e2 e3
      subst e3
      omega
    · injection hv with e1 e2 e3
      subst e3
      exact ⟨hc, by unfold maxLen at hm; omega⟩
  refine ⟨ad, cap, b, 0, hv, hb.1, hb.2, hnil, had, fun i hi => ⟨hP b ?_, fun j u hj => ?_, hd _ (List.getElem_mem hi), hok _ (List.getElem_mem hi)⟩⟩
  · rw [hv, had (by omega)]
    rfl
  · have hj5 : j < 5 := (List.getElem?_eq_some_iff.1 hj).1
    have := hnw (i * 5 + j) u (by rw [flatT_get hi hj5]; exact hj)
    rw [show 0 + i * rEV.sz + j = 0 + (i * 5 + j) from by show 0 + i * 5 + j = _; omega]
    exact this
theorem datC_dat {w : World} {e : TypeId} {xs : List ET} (h : (datC e xs).φ w) : ∀ x ∈ xs, IsSl rByte (datC e xs).S w x.2 x.1.data := fun x hx => by
  have h1 : (ownB e x.2 x.1.data).φ w := h.1 _ (List.mem_map.2 ⟨x, hx, rfl⟩)
  exact (own_isSl' (p := fun _ => True) (OwnB.own h1) rfl (fun _ _ => trivial)).mono fun k hk => ⟨_, List.mem_map.2 ⟨x, hx, rfl⟩, hk⟩
/-- a tree of the call's own may be read -/
theorem may_tree {e e2 : TypeId} {v : Value} {xs : List ET} {r r' : List Ck} (h : Sel m (ownT e v xs) r) (h' : Sel m (datC e2 xs) r') (hok : ∀ x ∈ xs, EnOk x.1) : May w0 S m (slc rEV (fun b => v.ownBlock = some b ∨ (datC e2 xs).S b) v xs) :=
  .mix (fun w hw => ownT_sl (hw.holds _ h.mem) (fun b hb => .inl hb) hok fun x hx => (datC_dat (hw.holds _ h'.mem) x hx).mono fun k hk => .inr hk) fun b hb => .inr (by
    rcases hb with hb | hb
    · exact ⟨_, h.mem, hb⟩
    · exact ⟨_, h'.mem, hb⟩)
/-- .. whose bytes lie in old blocks -/
theorem may_treeR {e : TypeId} {Pd : Nat → Prop} {v : Value} {xs : List ET} {r : List Ck} (h : Sel m (ownT e v xs) r) (hok : ∀ x ∈ xs, EnOk x.1) (hP : ∀ b, Pd b → b < w0.heap.size ∧ ¬ S b) (hd : ∀ x ∈ xs, Ro w0 S (slc rByte Pd x.2 x.1.data)) : May w0 S m (slc rEV (fun b => v.ownBlock = some b ∨ Pd b) v xs) :=
  .mix (fun w hw => ownT_sl (hw.holds _ h.mem) (fun b hb => .inl hb) hok fun x hx => ((hd x hx).at hw : IsSl rByte Pd w x.2 x.1.data).mono fun k hk => .inr hk) fun b hb => by
    rcases hb with hb | hb
    · exact .inr ⟨_, h.mem, hb⟩
    · exact .inl (hP b hb)
end
end Go.Proofs.Ytchgaedidfefoaa

/- Trees in memory: entries that are copied, their bytes one by one. Conditions: none. -/
set_option linter.unusedVariables false
set_option linter.unusedSimpArgs false
namespace Go.Proofs.Ytchgaedidfefoaa
open Go.RowKit
theorem flat_dat {xs : List ET} {sp : List Value} {i : Nat} (h : i < xs.length) : (flatT xs ++ sp)[0 + i * 5 + 3]? = some xs[i].2 := flat_at h 3 (by omega)
theorem flat_pth {xs : List ET} {sp : List Value} {i : Nat} (h : i < xs.length) : (flatT xs ++ sp)[0 + i * 5 + 0]? = some (.string (sB xs[i].1.path)) := flat_at h 0 (by omega)
theorem flat_len {xs : List ET} {sp : List Value} {i j : Nat} (h : i < xs.length) (hj : j < 5) : 0 + i * 5 + j < (flatT xs ++ sp).length := by
  rw [List.length_append, flatT_length]
  omega
theorem take_set_succ {α : Type} {zs : List α} {i : Nat} (h : i < zs.length) (x : α) : (zs.set i x).take (i + 1) = zs.take i ++ [x] := by
  rw [List.take_succ_eq_append_getElem (by rw [List.length_set]; exact h), List.getElem_set_self, List.take_set_of_le (Nat.le_refl _)]
theorem ens_set {xs : List ET} {i : Nat} (h : i < xs.length) (d : Value) : ens (xs.set i (xs[i].1, d)) = ens xs := by
  unfold ens
  rw [List.map_set]
  apply List.ext_getElem?
  intro j
  by_cases hj : i = j
  · subst hj
    rw [List.getElem?_set_self (by rw [List.length_map]; exact h)]
    simp [h]
  · rw [List.getElem?_set_ne hj]
theorem ok_ens {xs ys : List ET} (h : ens xs = ens ys) (hok : ∀ x ∈ ys, EnOk x.1) : ∀ x ∈ xs, EnOk x.1 := fun x hx => by
  have : x.1 ∈ ens xs := List.mem_map.2 ⟨x, hx, rfl⟩
  rw [h] at this
  obtain ⟨y, hy, e⟩ := List.mem_map.1 this
  rw [← e]
  exact hok y hy
theorem len_ens {xs ys : List ET} (h : ens xs = ens ys) : xs.length = ys.length := by
  have := congrArg List.length h
  rwa [ens_length, ens_length] at this
theorem get_ens {xs ys : List ET} (h : ens xs = ens ys) {i : Nat} (hx : i < xs.length) (hy : i < ys.length) : xs[i].1 = ys[i].1 := by
  rw [← ens_get hx, ← ens_get hy]
  simp only [h]
section
variable {P : Program} {n : Nat} {w0 : World} {S : Nat → Prop} {l : Fr} {m : List Ck} {Q : Exit → Act → World → Prop} {K : Act → World → Prop}
theorem Ro.allOk {b o : Nat} {Ps : Nat → Prop} {xs : List ET} (hel : ∀ i (hi : i < xs.length), Ro w0 S (elc rEV Ps b (o + i * 5) xs[i])) : ∀ x ∈ xs, EnOk x.1 := fun x hx => by
  obtain ⟨i, hi, rfl⟩ := List.getElem_of_mem hx
  exact Ro.evOk (hel i hi)
theorem Ro.allDat {b o : Nat} {Ps : Nat → Prop} {xs : List ET} (hel : ∀ i (hi : i < xs.length), Ro w0 S (elc rEV Ps b (o + i * 5) xs[i])) : ∀ x ∈ xs, Ro w0 S (slc rByte Ps x.2 x.1.data) := fun x hx => by
  obtain ⟨i, hi, rfl⟩ := List.getElem_of_mem hx
  exact Ro.evDat (hel i hi)
theorem newsT {b o : Nat} {Ps : Nat → Prop} {xs : List ET} (hel : ∀ i (hi : i < xs.length), Ro w0 S (elc rEV Ps b (o + i * 5) xs[i])) : ∀ w, Hp w0 S w m → News w b o (flatT xs) := fun w hw j u hj => by
  have hl : j < xs.length * 5 := by
    have := (List.getElem?_eq_some_iff.1 hj).1
    rwa [flatT_length] at this
  obtain ⟨q, r, rfl, hr, hq⟩ : ∃ q r, j = q * 5 + r ∧ r < 5 ∧ q < xs.length := ⟨j / 5, j % 5, by omega, by omega, by omega⟩
  rw [flatT_get hq hr] at hj
  have h2 := ((hel q hq).at hw : rEV.R Ps w b (o + q * 5) xs[q]).2.1 r u hj
  rwa [Nat.add_assoc] at h2
theorem flatT_one' {xs : List ET} (h : ∀ x ∈ xs, x.2.oneCell' = true) : ∀ u ∈ flatT xs, u.oneCell' = true := fun u hu => by
  obtain ⟨x, hx, hu⟩ := List.mem_flatMap.1 hu
  simp only [evC, List.mem_cons, List.not_mem_nil, or_false] at hu
  rcases hu with rfl | rfl | rfl | rfl | rfl
  · rfl
  · rfl
  · rfl
  · exact h x hx
  · rfl
theorem Ro.allOne {b o : Nat} {Ps : Nat → Prop} {xs : List ET} (hel : ∀ i (hi : i < xs.length), Ro w0 S (elc rEV Ps b (o + i * 5) xs[i])) : ∀ u ∈ flatT xs, u.oneCell' = true := flatT_one' fun x hx => by
  obtain ⟨ad, cap, e⟩ := Ro.slv (Ro.allDat hel x hx)
  rw [e]
  rfl
theorem G.datNil (e : TypeId) (h : G n w0 S l (datC e [] :: m) K) : G n w0 S l m K := G.mem (fun w hw => Hp.star (m := []) hw) h
theorem G.datSnoc {e : TypeId} {ys : List ET} {x : ET} {r r' : List Ck} (h1 : Sel m (datC e ys) r) (h2 : Sel r (ownB e x.2 x.1.data) r') (h : G n w0 S l (datC e (ys ++ [x]) :: r') K) : G n w0 S l m K := G.mem (fun w hw => by
  have h3 := Hp.unstar (hw.sel h1)
  have p : (ys.map (fun x : ET => ownB e x.2 x.1.data) ++ r).Perm (((ys ++ [x]).map fun x : ET => ownB e x.2 x.1.data) ++ r') := by
    rw [List.map_append, List.append_assoc]
    exact List.Perm.append_left _ h2.perm
  exact Hp.star (h3.perm p)) h
theorem G.datOne {e : TypeId} {x : ET} {r : List Ck} (h1 : Sel m (datC e [x]) r) (h : G n w0 S l (ownB e x.2 x.1.data :: r) K) : G n w0 S l m K := G.mem (fun w hw => Hp.unstar (hw.sel h1)) h
end
end Go.Proofs.Ytchgaedidfefoaa

/- How entries that came in are opened. Conditions: none. -/
set_option maxRecDepth 100000
set_option linter.unusedVariables false
set_option linter.unusedSimpArgs false
namespace Go.Proofs.Ytchgaedidfefoaa
open Go.ChangeShapes Go.WideShapes Go.ChangeAt Go.RowKit Go.Deep

theorem in1 {p : Ck → Prop} {a : Ck} (h : p a) : ∀ x ∈ [a], p x := fun x hx => by obtain rfl : x = a := (by simpa using hx); exact h
theorem inC {p : Ck → Prop} {a : Ck} {l : List Ck} (h : p a) (r : ∀ x ∈ l, p x) : ∀ x ∈ a :: l, p x := fun x hx => by
  rcases List.mem_cons.1 hx with rfl | hx
  · exact h
  · exact r x hx
section
variable {H : Type} {enc : TypeId × Value → H} {W : World}
theorem opn_weak {P : Program} {α β : Type} {t : TypeId} {E : Rdr α} {F : Rdr β} (h : Opn H enc P W t E) (hs : E.sz = F.sz) (hf : ∀ Ps w b o a, E.R Ps w b o a → ∃ a', F.R Ps w b o a') : Opn H enc P W t F := ⟨h.sz.trans hs, fun fuel cs x b o hx hwt hA hb => by
  obtain ⟨a, ha⟩ := h.mem fuel cs x b o hx hwt hA hb
  exact hf _ _ _ _ _ ha⟩
theorem opn_entry : Opn H enc Try.prog W 31 rEV := by
  refine opn_weak (opn_struct Try.underlying31 (F := rProd rStrB (rProd rInt (rProd rInt (rProd (rSlB rByte) (rProd rStrB rUnit))))) (by kernel_rfl)
    (.cons (opn_str Try.underlying9 (by kernel_rfl)) rfl (.cons (opn_int Try.underlying3 (by kernel_rfl)) rfl (.cons (opn_int Try.underlying3 (by kernel_rfl)) rfl
      (.cons (opn_rSl Try.underlying29 (by kernel_rfl) (of_decide_eq_true (by kernel_rfl)) (opn_byte Try.underlying5 (by kernel_rfl)) (by decide)) rfl (.cons (opn_str Try.underlying9 (by kernel_rfl)) rfl .nil)))))) rfl ?_
  rintro Ps w b o ⟨a0, a1, a2, a3, a4, _⟩ ⟨⟨hb, h0, l0⟩, ⟨_, h1, l1⟩, ⟨_, h2, l2⟩, ⟨⟨_, d, h3, hd⟩, l3⟩, ⟨_, h4, l4⟩, _⟩
  refine ⟨(⟨a0, a1, a2, a3, a4⟩, d), hb, fun j v hj => ?_, hd, l1, l2, l0, l3, l4⟩
  have hlt : j < 5 := by
    have := (List.getElem?_eq_some_iff.1 hj).1
    exact this
  rcases (by omega : j = 0 ∨ j = 1 ∨ j = 2 ∨ j = 3 ∨ j = 4) with rfl | rfl | rfl | rfl | rfl
  · obtain rfl : _ = v := Option.some.inj hj
    exact h0
  · obtain rfl : _ = v := Option.some.inj hj
    exact h1
  · obtain rfl : _ = v := Option.some.inj hj
    exact h2
  · obtain rfl : _ = v := Option.some.inj hj
    exact h3
  · obtain rfl : _ = v := Option.some.inj hj
    exact h4
theorem opn_tree {v : Value} {d : DataW H} {p : List MemPlace} {r : Reach} {base : Nat} (hok : Value.okWide Try.prog W r base 22 v) (h : DataW.Trod enc Try.prog W 0 (fun _ => true) true 22 v d p)
    {ts : List TypeId} {ds : List (DataW H)} {j : Nat} (hsz : (DataW.weightsEach Try.prog ts ds).all (· ≤ reachBytes) = true) (hts : ts[j]? = some 22) (hds : ds[j]? = some d) :
    ∃ xs : List ET, Ro W (fun _ => False) (slc rEV (· < W.heap.size) v xs) ∧ xs.length ≤ 140737488355328 :=
  opn_arg Try.underlying22 (of_decide_eq_true (by kernel_rfl)) opn_entry (by decide) hok h hsz hts hds
theorem open_entry {v : Value} {d : DataW H} {p : List MemPlace} {r : Reach} {base : Nat} (hok : Value.okWide Try.prog W r base 31 v) (h : DataW.Trod enc Try.prog W 0 (fun _ => true) true 31 v d p)
    {ts : List TypeId} {ds : List (DataW H)} {j : Nat} (hsz : (DataW.weightsEach Try.prog ts ds).all (· ≤ reachBytes) = true) (hts : ts[j]? = some 31) (hds : ds[j]? = some d) :
    ∃ (e : En) (u : Value), v = .agg #[.string (sB e.path), .int .i64 e.kind, .int .i64 e.mode, u, .string (sB e.to)] ∧ EnOk e ∧ Ro W (fun _ => False) (slc rByte (· < W.heap.size) u e.data) := by
  obtain ⟨cs, rfl, hcs⟩ := okWide_struct Try.underlying31 hok
  rw [show Try.prog.cellsOf 31 = 5 by kernel_rfl] at hcs
  obtain ⟨fuel, hf⟩ := h
  obtain ⟨xs, n, rfl, hx, hl, hxl, hxx⟩ := DataW.trod_struct Try.underlying31 hf
  have hw : ∀ k ∈ DataW.weights Try.prog 31 d, k ≤ reachBytes := fun k hk => of_decide_eq_true (List.all_eq_true.1 hsz k (DataW.weights_mem_each hts hds k hk))
  have hd : d = .agg (xs.map (·.1)) := congrArg Prod.fst hx
  subst hd
  simp only [DataW.weights, Try.underlying31] at hw
  obtain ⟨c0, c1, c2, c3, c4, rfl⟩ : ∃ c0 c1 c2 c3 c4, cs = #[c0, c1, c2, c3, c4] := by
    obtain ⟨l⟩ := cs
    match l, hcs with
    | [c0, c1, c2, c3, c4], _ => exact ⟨c0, c1, c2, c3, c4, rfl⟩
  obtain ⟨y0, y1, y2, y3, y4, rfl⟩ : ∃ y0 y1 y2 y3 y4, xs = [y0, y1, y2, y3, y4] := by
    match xs, hxl with
    | [y0, y1, y2, y3, y4], _ => exact ⟨y0, y1, y2, y3, y4, rfl⟩
  have f0 : DataW.trod enc Try.prog W 0 (fun _ => true) true n 9 (([c0, c1, c2, c3, c4].drop 0).take (Try.prog.cellsOf 9)) = some y0 := hxx 0 _ rfl
  have f1 : DataW.trod enc Try.prog W 0 (fun _ => true) true n 3 (([c0, c1, c2, c3, c4].drop 1).take (Try.prog.cellsOf 3)) = some y1 := hxx 1 _ rfl
  have f2 : DataW.trod enc Try.prog W 0 (fun _ => true) true n 3 (([c0, c1, c2, c3, c4].drop 2).take (Try.prog.cellsOf 3)) = some y2 := hxx 2 _ rfl
  have f3 : DataW.trod enc Try.prog W 0 (fun _ => true) true n 29 (([c0, c1, c2, c3, c4].drop 3).take (Try.prog.cellsOf 29)) = some y3 := hxx 3 _ rfl
  have f4 : DataW.trod enc Try.prog W 0 (fun _ => true) true n 9 (([c0, c1, c2, c3, c4].drop 4).take (Try.prog.cellsOf 9)) = some y4 := hxx 4 _ rfl
  rw [show Try.prog.cellsOf 9 = 1 by kernel_rfl] at f0 f4
  rw [show Try.prog.cellsOf 3 = 1 by kernel_rfl] at f1 f2
  rw [show Try.prog.cellsOf 29 = 1 by kernel_rfl] at f3
  obtain ⟨s0, e0, g0, _⟩ := DataW.trod_string Try.underlying9 f0
  obtain ⟨k1, e1, _, w1⟩ := DataW.trod_int Try.underlying3 f1
  obtain ⟨k2, e2, _, w2⟩ := DataW.trod_int Try.underlying3 f2
  obtain ⟨u3, bs, e3, h3, l3⟩ := opn_slice (E := rByte) Try.underlying29 (of_decide_eq_true (by kernel_rfl)) (opn_byte Try.underlying5 (by kernel_rfl)) (by decide) n _ _ f3 (fun q hq => hw q (DataW.weights_mem_each (j := 3) rfl rfl q hq))
  obtain ⟨s4, e4, g4, _⟩ := DataW.trod_string Try.underlying9 f4
  have q0 := hw s0.data.toList.length (DataW.weights_mem_each (j := 0) (t := 9) rfl rfl _ (by subst g0; simp [DataW.weights]))
  have q4 := hw s4.data.toList.length (DataW.weights_mem_each (j := 4) (t := 9) rfl rfl _ (by subst g4; simp [DataW.weights]))
  unfold reachBytes at q0 q4
  obtain ⟨p0, rfl⟩ := sB_ext s0
  obtain ⟨p4, rfl⟩ := sB_ext s4
  have g0 : c0 = .string (sB p0) := by simpa [Value.cells] using e0
  have g1 : c1 = .int .i64 k1 := by simpa [Value.cells] using e1
  have g2 : c2 = .int .i64 k2 := by simpa [Value.cells] using e2
  have g3 : c3 = u3 := by simpa [Value.cells] using e3
  have g4 : c4 = .string (sB p4) := by simpa [Value.cells] using e4
  subst g0 g1 g2 g3 g4
  exact ⟨⟨p0, k1, k2, bs, p4⟩, _, rfl, ⟨wf_I64 w1, wf_I64 w2, Nat.le_trans (m := 140737488351232) (by simpa [sB] using q0) (by decide), l3, Nat.le_trans (m := 140737488351232) (by simpa [sB] using q4) (by decide)⟩, ro_new h3 fun b hb => hb⟩
end
end Go.Proofs.Ytchgaedidfefoaa
