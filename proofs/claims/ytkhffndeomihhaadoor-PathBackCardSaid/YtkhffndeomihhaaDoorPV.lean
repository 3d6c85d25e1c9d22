/- Contracts: texts that are joined by a stroke, by the library. Conditions: the texts are together of not more than a million bytes. -/
import Derived.Test.YtkhffndeomihhaaDoorPT
import Derived.Test.YtkhffndeomihhaaDoorStrW
set_option linter.unusedVariables false
set_option linter.unusedSimpArgs false
namespace Go.Proofs.YtkhffndeomihhaaDoor
open Go.RowKit

/-- how long the first texts are together -/
def sumL (ps : List (List UInt8)) (i : Nat) : Nat := ((ps.take i).map (·.length)).sum
theorem sumL_succ {ps : List (List UInt8)} {i : Nat} (h : i < ps.length) : sumL ps (i + 1) = sumL ps i + ps[i].length := by
  unfold sumL
  rw [List.take_succ_eq_append_getElem h, List.map_append, List.sum_append]
  simp only [List.map_cons, List.map_nil, List.sum_cons, List.sum_nil, Nat.add_zero]
theorem take_ne {ps : List (List UInt8)} {i : Nat} (h0 : 0 < i) (h : i ≤ ps.length) : ps.take i ≠ [] := fun e => by
  have := congrArg List.length e
  rw [List.length_take, Nat.min_eq_left h, List.length_nil] at this
  omega
theorem sumL_zero (ps : List (List UInt8)) : sumL ps 0 = 0 := by simp [sumL]
theorem sumL_le (ps : List (List UInt8)) (i : Nat) : sumL ps i ≤ sumL ps ps.length := by
  unfold sumL
  rw [List.take_length, List.map_take]
  exact sum_take_le _ i
theorem joinL_len : ∀ {ps : List (List UInt8)}, ps ≠ [] → (joinL ps).length + 1 = sumL ps ps.length + ps.length
  | [], h => absurd rfl h
  | [p], _ => by simp [joinL, sumL]
  | p :: q :: r, _ => by
    have ih := joinL_len (ps := q :: r) (by simp)
    rw [joinL_cons (by simp)]
    simp [sumL] at ih ⊢
    omega
theorem joinL_take {ps : List (List UInt8)} {i : Nat} (h0 : 0 < i) (h : i < ps.length) : joinL (ps.take i) ++ [47] ++ ps[i] = joinL (ps.take (i + 1)) := by
  rw [List.take_succ_eq_append_getElem h, joinL_app (take_ne h0 (by omega)) (by simp)]
  simp [joinL]
theorem joinL_take_len {ps : List (List UInt8)} {i : Nat} (h0 : 0 < i) (h : i ≤ ps.length) : (joinL (ps.take i)).length + 1 = sumL ps i + i := by
  have e : sumL (ps.take i) (ps.take i).length = sumL ps i := by unfold sumL; rw [List.take_length]
  rw [joinL_len (ps := ps.take i) (take_ne h0 h), e, List.length_take, Nat.min_eq_left h]
theorem joinL_one {ps : List (List UInt8)} (h : ps.length = 1) : joinL ps = ps[0]'(by omega) := by
  match ps, h with
  | [p], _ => rfl
theorem joinL_take1 {ps : List (List UInt8)} (h : 0 < ps.length) : joinL (ps.take 1) = ps[0]'(by omega) := by
  match ps, h with
  | p :: r, _ => rfl
theorem sub_one {b f len cap : Nat} (h : 1 ≠ cap) : subV 1 (some ⟨b, f, none⟩) 1 len cap = .slice (some ⟨b, f + 1, none⟩) (len - 1) (cap - 1) := by
  unfold subV
  rw [if_neg (by omega)]
  rfl
theorem quo_lt {n : Int} (h0 : 1 ≤ n) (h : n ≤ 1000000) : 1 < 9223372036854775807 / n := by
  have : (2 : Int) ≤ 9223372036854775807 / n := (Int.le_ediv_iff_mul_le (by omega)).2 (by omega)
  omega
set_option maxRecDepth 20000 in
set_option maxHeartbeats 4000000 in

theorem sjoin_tr {Ps : Nat → Prop} {p : List UInt8 → Prop} (v : Value) (ps : List (List UInt8)) (hn : 0 < ps.length) (hsum : sumL ps ps.length ≤ 100000) (hpl : ps.length ≤ 100000) : Tr Tryd.prog 19 #[v, .string (sB [47])] [slc (r1 vStr p) Ps v ps] [] (T0 (.string (sB (joinL ps)))) := by
  refine Tr.of (l := [(0, v), (1, .string (sB [47]))]) Tryd.func19 rfl (n := 75) rfl (.cons rfl (.cons rfl .nil)) (fun w0 hro => ?_)
  have h47 : ([47] : List UInt8).length = 1 := rfl
  have hv := ro1 hro
  have hv' := hv
  obtain ⟨av, cv, bv, fv, rfl, hcapv, hmaxv, hnilv, hadv, helv⟩ := Ro.open hv
  refine G.seq ?_
  refine G.region ?_
  refine G.op rfl (G.val rfl rfl (pv_assign rfl) ?_)
  refine G.nil ?_
  refine G.nThen ?_
  refine G.seq ?_
  refine G.seq ?_
  refine G.region ?_
  refine G.op rfl (G.val rfl rfl (pv_move rfl) ?_)
  refine G.op rfl (G.val rfl rfl (pv_lenSl Tryd.underlying25 rfl) ?_)
  refine G.nil ?_
  refine G.nThen ?_
  refine G.block ?_
  refine G.seq ?_
  refine G.region ?_
  refine G.op rfl (G.val rfl rfl (pv_eql rfl rfl) ?_)
  refine G.op rfl (G.val rfl rfl (pv_assign rfl) ?_)
  refine G.nil ?_
  refine G.nThen ?_
  refine G.condP rfl (fun h13 => ?_) (fun h13 => ?_)
  · exfalso; omega
  · refine G.seq ?_
    refine G.region ?_
    refine G.op rfl (G.val rfl rfl (pv_eql rfl rfl) ?_)
    refine G.op rfl (G.val rfl rfl (pv_assign rfl) ?_)
    refine G.nil ?_
    refine G.nThen ?_
    refine G.condP rfl (fun h15 => ?_) (fun h15 => ?_)
    · refine G.seq ?_
      refine G.region ?_
      refine G.op rfl (G.val rfl rfl (pv_move rfl) ?_)
      refine G.op rfl (G.val rfl rfl (pv_ixSl (sz := 1) (k := 0) Tryd.underlying25 (by kernel_rfl) rfl rfl (by first | with_reducible assumption | assumption) (by omega) (by omega)) ?_)
      refine G.op rfl (G.val rfl rfl (pv_load (v := .string (sB (ps[0]'(by omega)))) Tryd.underlying9 rfl rfl (ro_cell (f := vStr) (helv 0 (by omega)))) ?_)
      refine G.op rfl (G.val rfl rfl (pv_assign rfl) ?_)
      refine G.nil ?_
      refine G.nThen ?_
      refine G.ret ?_
      refine G.rBlock ?_
      refine G.rThen ?_
      exact G.done0G rfl (Rv.tmp rfl Rv.nil) (by rw [joinL_one (by omega)]; rfl)
    · have h2 : 2 ≤ ps.length := by omega
      have hq := quo_lt (n := (ps.length : Int) - 1) (by omega) (by omega)
      obtain rfl := hadv (by omega)
      have hs00 := sumL_zero ps
      have hs01 := sumL_le ps (0 + 1)
      have hs02 := sumL_succ (ps := ps) (i := 0) (by omega)
      refine G.skip ?_
      refine G.nBlock ?_
      refine G.nThen ?_
      refine G.seq ?_
      refine G.region ?_
      refine G.op rfl (G.val rfl rfl (pv_assign rfl) ?_)
      refine G.nil ?_
      refine G.nThen ?_
      refine G.seq ?_
      refine G.seq ?_
      refine G.region ?_
      refine G.op rfl (G.val rfl rfl (pv_move rfl) ?_)
      refine G.op rfl (G.val rfl rfl (pv_lenS Tryd.underlying9 rfl) ?_)
      refine G.op rfl (G.val rfl rfl (pv_gtr rfl rfl) ?_)
      refine G.nil ?_
      refine G.nThen ?_
      refine G.condP rfl (fun h22 => ?_) (fun h22 => ?_)
      · refine G.seq ?_
        refine G.seq ?_
        refine G.region ?_
        refine G.op rfl (G.val rfl rfl (pv_move rfl) ?_)
        refine G.op rfl (G.val rfl rfl (pv_lenS Tryd.underlying9 rfl) ?_)
        refine G.op rfl (G.val rfl rfl (pv_move rfl) ?_)
        refine G.op rfl (G.val rfl rfl (pv_lenSl Tryd.underlying25 rfl) ?_)
        refine G.op rfl (G.val rfl rfl (pv_sub64 rfl rfl (by omega)) ?_)
        refine G.op rfl (G.val rfl rfl (pv_quo64 rfl rfl (by omega) (by omega)) ?_)
        refine G.op rfl (G.val rfl rfl (pv_geq rfl rfl) ?_)
        refine G.nil ?_
        refine G.nThen ?_
        refine G.condP rfl (fun h29 => ?_) (fun h29 => ?_)
        · exfalso; omega
        · refine G.skip ?_
          refine G.nThen ?_
          refine G.region ?_
          refine G.op rfl (G.val rfl rfl (pv_move rfl) ?_)
          refine G.op rfl (G.val rfl rfl (pv_move rfl) ?_)
          refine G.op rfl (G.val rfl rfl (pv_lenS Tryd.underlying9 rfl) ?_)
          refine G.op rfl (G.val rfl rfl (pv_move rfl) ?_)
          refine G.op rfl (G.val rfl rfl (pv_lenSl Tryd.underlying25 rfl) ?_)
          refine G.op rfl (G.val rfl rfl (pv_sub64 rfl rfl (by omega)) ?_)
          refine G.op rfl (G.val rfl rfl ((pv_mul64 rfl rfl (by rw [h47]; omega)).int (show (([47] : List UInt8).length : Int) * ((ps.length : Int) - 1) = ((ps.length - 1 : Nat) : Int) from by rw [h47]; omega)) ?_)
          refine G.op rfl (G.val rfl rfl (pv_add64 rfl rfl (by omega)) ?_)
          refine G.op rfl (G.val rfl rfl (pv_assign rfl) ?_)
          refine G.nil ?_
          refine G.nThen ?_
          refine G.seq ?_
          refine G.seq ?_
          refine G.region ?_
          refine G.op rfl (G.val rfl rfl (pv_move rfl) ?_)
          refine G.op rfl (G.val rfl rfl (pv_lenSl Tryd.underlying25 rfl) ?_)
          refine G.op rfl (G.val rfl rfl (pv_move rfl) ?_)
          refine G.nil ?_
          refine G.nThen ?_
          refine G.block ?_
          have hs0 := sumL_zero ps
          refine G.loopK (X := Nat) (ts := [0, 1, 4, 39, 40]) (fun i => i ≤ ps.length ∧ (True)) (fun i => [(41, .int .i64 (i : Int)), (5, .int .i64 ((ps.length - 1 + sumL ps i : Nat) : Int))]) (fun i => []) (fun i => ps.length - i) (x0 := 0) (.cons rfl (.cons rfl (.cons rfl (.cons rfl (.cons rfl .nil))))) (by repeat (first | exact Sub.nil | (apply Sub.cons; (repeat (first | with_reducible exact Sel.here | exact Sel.here | apply Sel.there))))) (.cons (.cons .nil)) (by repeat (first | exact Ap.nil | apply Ap.cons)) (by first | exact trivial | ((try dsimp only) <;> exact ⟨Nat.zero_le _, trivial⟩)) (.consE rfl (by first | rfl | exact int_eq (by first | omega | (dsimp only; omega)) | exact congrArg _ (by omega)) (.consE rfl (by first | rfl | exact int_eq (by first | omega | (dsimp only; omega)) | exact congrArg _ (by omega)) .nil)) (fun i hJ => ?_)
          try dsimp only at hJ
          try dsimp only
          obtain ⟨hki, hJ⟩ := hJ
          refine G.seq ?_
          refine G.region ?_
          refine G.op rfl (G.val rfl rfl (pv_lss rfl rfl) ?_)
          refine G.nil ?_
          refine G.nThen ?_
          refine G.seq ?_
          refine G.condP rfl (fun h42 => ?_) (fun h42 => ?_)
          · have hi : i < ps.length := by omega
            have hle := sumL_le ps (i + 1)
            have hsc := sumL_succ hi
            refine G.skip ?_
            refine G.nThen ?_
            refine G.seq ?_
            refine G.block ?_
            refine G.seq ?_
            refine G.region ?_
            refine G.op rfl (G.val rfl rfl (pv_ixSl (sz := 1) (k := i) Tryd.underlying25 (by kernel_rfl) rfl rfl (fun _ => rfl) (by omega) (by omega)) ?_)
            refine G.op rfl (G.val rfl rfl (pv_load (v := .string (sB (ps[i]'(by omega)))) Tryd.underlying9 rfl rfl (ro_cell (f := vStr) (helv i (by omega)))) ?_)
            refine G.op rfl (G.val rfl rfl (pv_assign rfl) ?_)
            refine G.nil ?_
            refine G.nThen ?_
            refine G.seq ?_
            refine G.seq ?_
            refine G.region ?_
            refine G.op rfl (G.val rfl rfl (pv_move rfl) ?_)
            refine G.op rfl (G.val rfl rfl (pv_lenS Tryd.underlying9 rfl) ?_)
            refine G.op rfl (G.val rfl rfl (pv_move rfl) ?_)
            refine G.op rfl (G.val rfl rfl (pv_sub64 rfl rfl (by omega)) ?_)
            refine G.op rfl (G.val rfl rfl (pv_gtr rfl rfl) ?_)
            refine G.nil ?_
            refine G.nThen ?_
            refine G.condP rfl (fun h49 => ?_) (fun h49 => ?_)
            · exfalso; omega
            · refine G.skip ?_
              refine G.nThen ?_
              refine G.region ?_
              refine G.op rfl (G.val rfl rfl (pv_move rfl) ?_)
              refine G.op rfl (G.val rfl rfl (pv_move rfl) ?_)
              refine G.op rfl (G.val rfl rfl (pv_lenS Tryd.underlying9 rfl) ?_)
              refine G.op rfl (G.val rfl rfl (pv_add64 rfl rfl (by omega)) ?_)
              refine G.op rfl (G.val rfl rfl (pv_assign rfl) ?_)
              refine G.nil ?_
              refine G.nBlock ?_
              refine G.nThen ?_
              refine G.region ?_
              refine G.op rfl (G.val rfl rfl (pv_add64 rfl rfl (by omega)) ?_)
              refine G.op rfl (G.val rfl rfl (pv_move rfl) ?_)
              refine G.nil ?_
              exact G.next (i + 1) (by first | exact trivial | ((try dsimp only) <;> exact ⟨by omega, trivial⟩)) (by (try dsimp only); omega) (.consE rfl (by first | rfl | exact int_eq (by first | omega | (dsimp only; omega)) | exact congrArg _ (by omega)) (.consE rfl (by first | rfl | exact int_eq (by first | omega | (dsimp only; omega)) | exact congrArg _ (by omega)) (.cons rfl (.cons rfl (.cons rfl (.cons rfl (.cons rfl .nil))))))) (by repeat (first | exact Sub.nil | (apply Sub.cons; (repeat (first | with_reducible exact Sel.here | exact Sel.here | apply Sel.there)))))
          · obtain rfl : i = ps.length := by omega
            refine G.exit ?_
            refine G.eThen ?_
            refine G.eThen ?_
            refine G.eBlock ?_
            refine G.nThen ?_
            refine G.seq ?_
            refine G.region ?_
            refine G.op rfl (G.alloc (z := .agg #[.pointer none, .slice none 0 0]) (cs := [.pointer none, .slice none 0 0]) rfl (by kernel_rfl) rfl ?_)
            intro b8
            refine G.nil ?_
            refine G.nThen ?_
            refine G.seq ?_
            refine G.region ?_
            refine G.op rfl (G.val rfl rfl (pv_move rfl) ?_)
            refine G.op rfl (G.callB (X := Value) (V := fun _ => .tuple #[]) (M := fun v => bldM b8 v []) rfl rfl (pe_fn rfl rfl Tryd.func31 rfl rfl) (fun w hw => grow_bld (k := ps.length - 1 + sumL ps ps.length) hw (by omega)) ?_)
            intro v0
            refine G.nil ?_
            refine G.nThen ?_
            refine G.seq ?_
            refine G.region ?_
            refine G.op rfl (G.val rfl rfl (pv_move rfl) ?_)
            refine G.op rfl (G.val rfl rfl (pv_ixSl (sz := 1) (k := 0) Tryd.underlying25 (by kernel_rfl) rfl rfl (fun _ => rfl) (by omega) (by omega)) ?_)
            refine G.op rfl (G.val rfl rfl (pv_load (v := .string (sB (ps[0]'(by omega)))) Tryd.underlying9 rfl rfl (ro_cell (f := vStr) (helv 0 (by omega)))) ?_)
            refine G.op rfl (G.callB (X := Value) (V := fun _ => .tuple #[.int .i64 ((ps[0]'(by omega)).length : Int), .nilIface]) (M := fun v => bldM b8 v ((([] : List UInt8)) ++ (ps[0]'(by omega)))) rfl rfl (pe_fn rfl rfl Tryd.func32 rfl rfl) (fun w hw => write_bld (l := ([] : List UInt8)) (s := ps[0]'(by omega)) hw (by simp; omega)) ?_)
            intro v1
            rw [List.nil_append, ← joinL_take1 (ps := ps) (by omega)]
            refine G.nil ?_
            refine G.nThen ?_
            refine G.seq ?_
            refine G.seq ?_
            refine G.region ?_
            refine G.op rfl (G.val rfl rfl (pv_move rfl) ?_)
            refine G.op rfl (G.val rfl rfl ((pv_subL (sz := 1) (k := 1) Tryd.underlying25 (by kernel_rfl) rfl rfl rfl (by omega)).cast (sub_one (by omega))) ?_)
            refine G.op rfl (G.val rfl rfl (pv_lenSl Tryd.underlying25 rfl) ?_)
            refine G.op rfl (G.val rfl rfl (pv_move rfl) ?_)
            refine G.nil ?_
            refine G.nThen ?_
            refine G.block ?_
            refine G.loopK (X := Nat × Value) (ts := [1, 4, 8, 63, 64]) (fun st => st.1 ≤ ps.length - 1 ∧ (True)) (fun st => [(65, .int .i64 (st.1 : Int))]) (fun st => [blk b8 52 [.pointer (some ⟨b8, 0, none⟩), st.2], own 5 1 st.2 (joinL (ps.take (st.1 + 1))).length ((joinL (ps.take (st.1 + 1))).map vByte)]) (fun st => ps.length - 1 - st.1) (x0 := (0, v1)) (.cons rfl (.cons rfl (.cons rfl (.cons rfl (.cons rfl .nil))))) (by repeat (first | exact Sub.nil | (apply Sub.cons; (repeat (first | with_reducible exact Sel.here | exact Sel.here | apply Sel.there))))) (.cons .nil) (by repeat (first | exact Ap.nil | apply Ap.cons)) (by first | exact trivial | ((try dsimp only) <;> exact ⟨Nat.zero_le _, trivial⟩)) (.consE rfl (by first | rfl | exact int_eq (by first | omega | (dsimp only; omega)) | exact congrArg _ (by omega)) .nil) (fun st hJ => ?_)
            obtain ⟨i, vb⟩ := st
            try dsimp only at hJ
            try dsimp only
            obtain ⟨hki, hJ⟩ := hJ
            refine G.seq ?_
            refine G.region ?_
            refine G.op rfl (G.val rfl rfl (pv_lss rfl rfl) ?_)
            refine G.nil ?_
            refine G.nThen ?_
            refine G.seq ?_
            refine G.condP rfl (fun h66 => ?_) (fun h66 => ?_)
            · have hi : i + 1 < ps.length := by omega
              have hle := sumL_le ps (i + 1 + 1)
              have hsc := sumL_succ hi
              have hjl := joinL_take_len (ps := ps) (i := i + 1) (by omega) (by omega)
              refine G.skip ?_
              refine G.nThen ?_
              refine G.seq ?_
              refine G.block ?_
              refine G.seq ?_
              refine G.region ?_
              refine G.op rfl (G.val rfl rfl (pv_ixSl (sz := 1) (k := i) Tryd.underlying25 (by kernel_rfl) rfl rfl (fun _ => rfl) (by omega) (by omega)) ?_)
              refine G.op rfl (G.val rfl rfl (pv_load (v := .string (sB ps[i + 1])) Tryd.underlying9 rfl rfl (fun w hw => by have := ro_cell (f := vStr) (helv (i + 1) (by omega)) w hw; rw [show fv + 1 + i * 1 = fv + (i + 1) * 1 by omega]; exact this)) ?_)
              refine G.op rfl (G.val rfl rfl (pv_assign rfl) ?_)
              refine G.nil ?_
              refine G.nThen ?_
              refine G.seq ?_
              refine G.region ?_
              refine G.op rfl (G.val rfl rfl (pv_move rfl) ?_)
              refine G.op rfl (G.callB (X := Value) (V := fun _ => .tuple #[.int .i64 ((([47] : List UInt8)).length : Int), .nilIface]) (M := fun v => bldM b8 v ((joinL (ps.take (i + 1))) ++ (([47] : List UInt8)))) rfl rfl (pe_fn rfl rfl Tryd.func32 rfl rfl) (fun w hw => write_bld (l := joinL (ps.take (i + 1))) (s := ([47] : List UInt8)) hw (by simp; omega)) ?_)
              intro v2
              refine G.nil ?_
              refine G.nThen ?_
              refine G.region ?_
              refine G.op rfl (G.val rfl rfl (pv_move rfl) ?_)
              refine G.op rfl (G.callB (X := Value) (V := fun _ => .tuple #[.int .i64 ((ps[i + 1]).length : Int), .nilIface]) (M := fun v => bldM b8 v ((joinL (ps.take (i + 1)) ++ [47]) ++ (ps[i + 1]))) rfl rfl (pe_fn rfl rfl Tryd.func32 rfl rfl) (fun w hw => write_bld (l := joinL (ps.take (i + 1)) ++ [47]) (s := ps[i + 1]) hw (by simp; omega)) ?_)
              intro v3
              rw [joinL_take (by omega) hi]
              refine G.nil ?_
              refine G.nBlock ?_
              refine G.nThen ?_
              refine G.region ?_
              refine G.op rfl (G.val rfl rfl (pv_add64 rfl rfl (by omega)) ?_)
              refine G.op rfl (G.val rfl rfl (pv_move rfl) ?_)
              refine G.nil ?_
              exact G.next ((i + 1, v3)) (by first | exact trivial | ((try dsimp only) <;> exact ⟨by omega, trivial⟩)) (by (try dsimp only); omega) (.consE rfl (by first | rfl | exact int_eq (by first | omega | (dsimp only; omega)) | exact congrArg _ (by omega)) (.cons rfl (.cons rfl (.cons rfl (.cons rfl (.cons rfl .nil)))))) (by repeat (first | exact Sub.nil | (apply Sub.cons; (repeat (first | with_reducible exact Sel.here | exact Sel.here | apply Sel.there)))))
            · have hin : i + 1 = ps.length := by omega
              rw [hin, List.take_length]
              refine G.exit ?_
              refine G.eThen ?_
              refine G.eThen ?_
              refine G.eBlock ?_
              refine G.nThen ?_
              refine G.seq ?_
              refine G.region ?_
              refine G.op rfl (G.callB (X := Unit) (V := fun _ => .string (sB (joinL ps))) (M := fun _ => []) rfl rfl (pe_fn rfl rfl Tryd.func33 rfl rfl) (fun w hw => string_bld hw) ?_)
              rintro -
              refine G.op rfl (G.val rfl rfl (pv_assign rfl) ?_)
              refine G.nil ?_
              refine G.nThen ?_
              refine G.ret ?_
              exact G.done0G rfl (Rv.tmp rfl Rv.nil) (by first | rfl | exact int_eq (by omega) | (simp; done))
      · exfalso; omega
end Go.Proofs.YtkhffndeomihhaaDoor
