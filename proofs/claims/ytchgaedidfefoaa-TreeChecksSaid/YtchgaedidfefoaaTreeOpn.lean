/- How entries that came in are opened. Conditions: none. -/
import Derived.Test.YtchgaedidfefoaaTreeA
import Derived.Test.YtchgaedidfefoaaPthOpn
set_option maxRecDepth 100000
set_option linter.unusedVariables false
set_option linter.unusedSimpArgs false
namespace Go.Proofs.Ytchgaedidfefoaa
open Go.ChangeShapes Go.WideShapes Go.ChangeAt Go.RowKit Go.Deep

theorem in1 {p : Ck → Prop} {a : Ck} (h : p a) : ∀ x ∈ [a], p x := fun x hx => by obtain rfl : x = a := (by simpa using hx); exact h
theorem inC {p : Ck → Prop} {a : Ck} {l : List Ck} (h : p a) (r : ∀ x ∈ l, p x) : ∀ x ∈ a :: l, p x := fun x hx => by
  rcases List.mem_cons.1 hx with rfl | hx
  · exact h
  · exact r x hx
section
variable {H : Type} {enc : TypeId × Value → H} {W : World}
theorem opn_weak {P : Program} {α β : Type} {t : TypeId} {E : Rdr α} {F : Rdr β} (h : Opn H enc P W t E) (hs : E.sz = F.sz) (hf : ∀ Ps w b o a, E.R Ps w b o a → ∃ a', F.R Ps w b o a') : Opn H enc P W t F := ⟨h.sz.trans hs, fun fuel cs x b o hx hwt hA hb => by
  obtain ⟨a, ha⟩ := h.mem fuel cs x b o hx hwt hA hb
  exact hf _ _ _ _ _ ha⟩
theorem opn_entry : Opn H enc Try.prog W 31 rEV := by
  refine opn_weak (opn_struct Try.underlying31 (F := rProd rStrB (rProd rInt (rProd rInt (rProd (rSlB rByte) (rProd rStrB rUnit))))) (by kernel_rfl)
    (.cons (opn_str Try.underlying9 (by kernel_rfl)) rfl (.cons (opn_int Try.underlying3 (by kernel_rfl)) rfl (.cons (opn_int Try.underlying3 (by kernel_rfl)) rfl
      (.cons (opn_rSl Try.underlying29 (by kernel_rfl) (of_decide_eq_true (by kernel_rfl)) (opn_byte Try.underlying5 (by kernel_rfl)) (by decide)) rfl (.cons (opn_str Try.underlying9 (by kernel_rfl)) rfl .nil)))))) rfl ?_
  rintro Ps w b o ⟨a0, a1, a2, a3, a4, _⟩ ⟨⟨hb, h0, l0⟩, ⟨_, h1, l1⟩, ⟨_, h2, l2⟩, ⟨⟨_, d, h3, hd⟩, l3⟩, ⟨_, h4, l4⟩, _⟩
  refine ⟨(⟨a0, a1, a2, a3, a4⟩, d), hb, fun j v hj => ?_, hd, l1, l2, l0, l3, l4⟩
  have hlt : j < 5 := by
    have := (List.getElem?_eq_some_iff.1 hj).1
    exact this
  rcases (by omega : j = 0 ∨ j = 1 ∨ j = 2 ∨ j = 3 ∨ j = 4) with rfl | rfl | rfl | rfl | rfl
  · obtain rfl : _ = v := Option.some.inj hj
    exact h0
  · obtain rfl : _ = v := Option.some.inj hj
    exact h1
  · obtain rfl : _ = v := Option.some.inj hj
    exact h2
  · obtain rfl : _ = v := Option.some.inj hj
    exact h3
  · obtain rfl : _ = v := Option.some.inj hj
    exact h4
theorem opn_tree {v : Value} {d : DataW H} {p : List MemPlace} {r : Reach} {base : Nat} (hok : Value.okWide Try.prog W r base 22 v) (h : DataW.Trod enc Try.prog W 0 (fun _ => true) true 22 v d p)
    {ts : List TypeId} {ds : List (DataW H)} {j : Nat} (hsz : (DataW.weightsEach Try.prog ts ds).all (· ≤ reachBytes) = true) (hts : ts[j]? = some 22) (hds : ds[j]? = some d) :
    ∃ xs : List ET, Ro W (fun _ => False) (slc rEV (· < W.heap.size) v xs) ∧ xs.length ≤ 140737488355328 :=
  opn_arg Try.underlying22 (of_decide_eq_true (by kernel_rfl)) opn_entry (by decide) hok h hsz hts hds
theorem open_entry {v : Value} {d : DataW H} {p : List MemPlace} {r : Reach} {base : Nat} (hok : Value.okWide Try.prog W r base 31 v) (h : DataW.Trod enc Try.prog W 0 (fun _ => true) true 31 v d p)
    {ts : List TypeId} {ds : List (DataW H)} {j : Nat} (hsz : (DataW.weightsEach Try.prog ts ds).all (· ≤ reachBytes) = true) (hts : ts[j]? = some 31) (hds : ds[j]? = some d) :
    ∃ (e : En) (u : Value), v = .agg #[.string (sB e.path), .int .i64 e.kind, .int .i64 e.mode, u, .string (sB e.to)] ∧ EnOk e ∧ Ro W (fun _ => False) (slc rByte (· < W.heap.size) u e.data) := by
  obtain ⟨cs, rfl, hcs⟩ := okWide_struct Try.underlying31 hok
  rw [show Try.prog.cellsOf 31 = 5 by kernel_rfl] at hcs
  obtain ⟨fuel, hf⟩ := h
  obtain ⟨xs, n, rfl, hx, hl, hxl, hxx⟩ := DataW.trod_struct Try.underlying31 hf
  have hw : ∀ k ∈ DataW.weights Try.prog 31 d, k ≤ reachBytes := fun k hk => of_decide_eq_true (List.all_eq_true.1 hsz k (DataW.weights_mem_each hts hds k hk))
  have hd : d = .agg (xs.map (·.1)) := congrArg Prod.fst hx
  subst hd
  simp only [DataW.weights, Try.underlying31] at hw
  obtain ⟨c0, c1, c2, c3, c4, rfl⟩ : ∃ c0 c1 c2 c3 c4, cs = #[c0, c1, c2, c3, c4] := by
    obtain ⟨l⟩ := cs
    match l, hcs with
    | [c0, c1, c2, c3, c4], _ => exact ⟨c0, c1, c2, c3, c4, rfl⟩
  obtain ⟨y0, y1, y2, y3, y4, rfl⟩ : ∃ y0 y1 y2 y3 y4, xs = [y0, y1, y2, y3, y4] := by
    match xs, hxl with
    | [y0, y1, y2, y3, y4], _ => exact ⟨y0, y1, y2, y3, y4, rfl⟩
  have f0 : DataW.trod enc Try.prog W 0 (fun _ => true) true n 9 (([c0, c1, c2, c3, c4].drop 0).take (Try.prog.cellsOf 9)) = some y0 := hxx 0 _ rfl
  have f1 : DataW.trod enc Try.prog W 0 (fun _ => true) true n 3 (([c0, c1, c2, c3, c4].drop 1).take (Try.prog.cellsOf 3)) = some y1 := hxx 1 _ rfl
  have f2 : DataW.trod enc Try.prog W 0 (fun _ => true) true n 3 (([c0, c1, c2, c3, c4].drop 2).take (Try.prog.cellsOf 3)) = some y2 := hxx 2 _ rfl
  have f3 : DataW.trod enc Try.prog W 0 (fun _ => true) true n 29 (([c0, c1, c2, c3, c4].drop 3).take (Try.prog.cellsOf 29)) = some y3 := hxx 3 _ rfl
  have f4 : DataW.trod enc Try.prog W 0 (fun _ => true) true n 9 (([c0, c1, c2, c3, c4].drop 4).take (Try.prog.cellsOf 9)) = some y4 := hxx 4 _ rfl
  rw [show Try.prog.cellsOf 9 = 1 by kernel_rfl] at f0 f4
  rw [show Try.prog.cellsOf 3 = 1 by kernel_rfl] at f1 f2
  rw [show Try.prog.cellsOf 29 = 1 by kernel_rfl] at f3
  obtain ⟨s0, e0, g0, _⟩ := DataW.trod_string Try.underlying9 f0
  obtain ⟨k1, e1, _, w1⟩ := DataW.trod_int Try.underlying3 f1
  obtain ⟨k2, e2, _, w2⟩ := DataW.trod_int Try.underlying3 f2
  obtain ⟨u3, bs, e3, h3, l3⟩ := opn_slice (E := rByte) Try.underlying29 (of_decide_eq_true (by kernel_rfl)) (opn_byte Try.underlying5 (by kernel_rfl)) (by decide) n _ _ f3 (fun q hq => hw q (DataW.weights_mem_each (j := 3) rfl rfl q hq))
  obtain ⟨s4, e4, g4, _⟩ := DataW.trod_string Try.underlying9 f4
  have q0 := hw s0.data.toList.length (DataW.weights_mem_each (j := 0) (t := 9) rfl rfl _ (by subst g0; simp [DataW.weights]))
  have q4 := hw s4.data.toList.length (DataW.weights_mem_each (j := 4) (t := 9) rfl rfl _ (by subst g4; simp [DataW.weights]))
  unfold reachBytes at q0 q4
  obtain ⟨p0, rfl⟩ := sB_ext s0
  obtain ⟨p4, rfl⟩ := sB_ext s4
  have g0 : c0 = .string (sB p0) := by simpa [Value.cells] using e0
  have g1 : c1 = .int .i64 k1 := by simpa [Value.cells] using e1
  have g2 : c2 = .int .i64 k2 := by simpa [Value.cells] using e2
  have g3 : c3 = u3 := by simpa [Value.cells] using e3
  have g4 : c4 = .string (sB p4) := by simpa [Value.cells] using e4
  subst g0 g1 g2 g3 g4
  exact ⟨⟨p0, k1, k2, bs, p4⟩, _, rfl, ⟨wf_I64 w1, wf_I64 w2, Nat.le_trans (m := 140737488351232) (by simpa [sB] using q0) (by decide), l3, Nat.le_trans (m := 140737488351232) (by simpa [sB] using q4) (by decide)⟩, ro_new h3 fun b hb => hb⟩
end
end Go.Proofs.Ytchgaedidfefoaa
