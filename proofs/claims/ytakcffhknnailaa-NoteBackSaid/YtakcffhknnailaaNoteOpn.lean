/- How a note that came in is opened. Conditions: none. -/
import Derived.Test.YtakcffhknnailaaNA
set_option maxRecDepth 100000
set_option linter.unusedVariables false
set_option linter.unusedSimpArgs false
namespace Go.Proofs.Ytakcffhknnailaa
open Go.ChangeShapes Go.WideShapes Go.ChangeAt Go.RowKit Go.Deep

theorem in1 {p : Ck → Prop} {a : Ck} (h : p a) : ∀ x ∈ [a], p x := fun x hx => by obtain rfl : x = a := (by simpa using hx); exact h
theorem inC {p : Ck → Prop} {a : Ck} {l : List Ck} (h : p a) (r : ∀ x ∈ l, p x) : ∀ x ∈ a :: l, p x := fun x hx => by
  rcases List.mem_cons.1 hx with rfl | hx
  · exact h
  · exact r x hx
section
variable {H : Type} {enc : TypeId × Value → H} {W : World}
theorem open_note {v : Value} {d : DataW H} {p : List MemPlace} {r : Reach} {base : Nat} (hok : Value.okWide Try.prog W r base 26 v) (h : DataW.Trod enc Try.prog W 0 (fun _ => true) true 26 v d p)
    {ts : List TypeId} {ds : List (DataW H)} {j : Nat} (hsz : (DataW.weightsEach Try.prog ts ds).all (· ≤ reachBytes) = true) (hts : ts[j]? = some 26) (hds : ds[j]? = some d) :
    ∃ (k : Int) (v1 v2 v3 : Value) (ns : List Int) (ids : List (List UInt8)) (bs : List UInt8), v = .agg #[.int .i64 k, v1, v2, v3] ∧ Ro W (fun _ => False) (slc rInt (· < W.heap.size) v1 ns) ∧ Ro W (fun _ => False) (slc rID (· < W.heap.size) v2 ids) ∧ Ro W (fun _ => False) (slc rByte (· < W.heap.size) v3 bs) := by
  obtain ⟨cs, rfl, hcs⟩ := okWide_struct Try.underlying26 hok
  rw [show Try.prog.cellsOf 26 = 4 by kernel_rfl] at hcs
  obtain ⟨fuel, hf⟩ := h
  obtain ⟨xs, n, rfl, hx, hl, hxl, hxx⟩ := DataW.trod_struct Try.underlying26 hf
  have hw : ∀ k ∈ DataW.weights Try.prog 26 d, k ≤ reachBytes := fun k hk => of_decide_eq_true (List.all_eq_true.1 hsz k (DataW.weights_mem_each hts hds k hk))
  have hd : d = .agg (xs.map (·.1)) := congrArg Prod.fst hx
  subst hd
  simp only [DataW.weights, Try.underlying26] at hw
  obtain ⟨c0, c1, c2, c3, rfl⟩ : ∃ c0 c1 c2 c3, cs = #[c0, c1, c2, c3] := by
    obtain ⟨l⟩ := cs
    match l, hcs with
    | [c0, c1, c2, c3], _ => exact ⟨c0, c1, c2, c3, rfl⟩
  obtain ⟨y0, y1, y2, y3, rfl⟩ : ∃ y0 y1 y2 y3, xs = [y0, y1, y2, y3] := by
    match xs, hxl with
    | [y0, y1, y2, y3], _ => exact ⟨y0, y1, y2, y3, rfl⟩
  have f0 : DataW.trod enc Try.prog W 0 (fun _ => true) true n 3 (([c0, c1, c2, c3].drop 0).take (Try.prog.cellsOf 3)) = some y0 := hxx 0 _ rfl
  have f1 : DataW.trod enc Try.prog W 0 (fun _ => true) true n 22 (([c0, c1, c2, c3].drop 1).take (Try.prog.cellsOf 22)) = some y1 := hxx 1 _ rfl
  have f2 : DataW.trod enc Try.prog W 0 (fun _ => true) true n 23 (([c0, c1, c2, c3].drop 2).take (Try.prog.cellsOf 23)) = some y2 := hxx 2 _ rfl
  have f3 : DataW.trod enc Try.prog W 0 (fun _ => true) true n 24 (([c0, c1, c2, c3].drop 3).take (Try.prog.cellsOf 24)) = some y3 := hxx 3 _ rfl
  rw [show Try.prog.cellsOf 3 = 1 by kernel_rfl] at f0
  rw [show Try.prog.cellsOf 22 = 1 by kernel_rfl] at f1
  rw [show Try.prog.cellsOf 23 = 1 by kernel_rfl] at f2
  rw [show Try.prog.cellsOf 24 = 1 by kernel_rfl] at f3
  obtain ⟨k, e0, _, w0⟩ := DataW.trod_int Try.underlying3 f0
  obtain ⟨u1, ns, e1, h1, _⟩ := opn_slice (E := rInt) Try.underlying22 (of_decide_eq_true (by kernel_rfl)) (opn_int Try.underlying3 (by kernel_rfl)) (by decide) n _ _ f1 (fun q hq => hw q (DataW.weights_mem_each (j := 1) rfl rfl q hq))
  obtain ⟨u2, ids, e2, h2, _⟩ := opn_slice (E := rID) Try.underlying23 (of_decide_eq_true (by kernel_rfl)) (opn_arr Try.underlying49 (by kernel_rfl) (opn_byte Try.underlying5 (by kernel_rfl))) (by decide) n _ _ f2 (fun q hq => hw q (DataW.weights_mem_each (j := 2) rfl rfl q hq))
  obtain ⟨u3, bs, e3, h3, _⟩ := opn_slice (E := rByte) Try.underlying24 (of_decide_eq_true (by kernel_rfl)) (opn_byte Try.underlying5 (by kernel_rfl)) (by decide) n _ _ f3 (fun q hq => hw q (DataW.weights_mem_each (j := 3) rfl rfl q hq))
  have g0 : c0 = .int .i64 k := by simpa [Value.cells] using e0
  have g1 : c1 = u1 := by simpa [Value.cells] using e1
  have g2 : c2 = u2 := by simpa [Value.cells] using e2
  have g3 : c3 = u3 := by simpa [Value.cells] using e3
  subst g0 g1 g2 g3
  exact ⟨k, _, _, _, ns, ids, bs, rfl, ro_new h1 fun b hb => hb, ro_new h2 fun b hb => hb, ro_new h3 fun b hb => hb⟩
end
end Go.Proofs.Ytakcffhknnailaa
