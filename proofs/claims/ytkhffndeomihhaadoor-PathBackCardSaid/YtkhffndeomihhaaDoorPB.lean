/- Contracts: a text cut at its first stroke. Conditions: the text is not of more than a thousand million bytes. -/
import Derived.Test.YtkhffndeomihhaaDoorPA
import Derived.Test.YtkhffndeomihhaaDoorShelf
set_option linter.unusedVariables false
set_option linter.unusedSimpArgs false
namespace Go.Proofs.YtkhffndeomihhaaDoor
open Go.RowKit

/-- where the first stroke is -/
def at1 (s : List UInt8) : Nat := s.findIdx (· == 47)
def cutM (s : List UInt8) : List UInt8 × List UInt8 × Bool := if at1 s < s.length then (s.take (at1 s), s.drop (at1 s + 1), true) else (s, [], false)
theorem at1_le (s : List UInt8) : at1 s ≤ s.length := List.findIdx_le_length
theorem index1 : ∀ s : List UInt8, Lib.indexByte s 47 = if at1 s < s.length then (at1 s : Int) else -1
  | [] => rfl
  | b :: l => by
    have ih := index1 l
    have hle := at1_le l
    unfold Lib.indexByte
    by_cases h : b = 47
    · subst h
      have e : at1 (47 :: l) = 0 := by simp [at1, List.findIdx_cons]
      rw [e]
      simp
    · have hb : (b == 47) = false := by simpa using h
      have e : at1 (b :: l) = at1 l + 1 := by simp [at1, List.findIdx_cons, hb]
      rw [e, hb, ih]
      by_cases hlt : at1 l < l.length
      · rw [if_pos hlt, if_pos (show at1 l + 1 < (b :: l).length by simp; omega), if_neg (by simp), if_neg (by rw [beq_iff_eq]; omega)]
        rfl
      · rw [if_neg hlt, if_neg (show ¬ at1 l + 1 < (b :: l).length by simp; omega)]
        simp
theorem Tr.ofQ {P : Program} {f : FuncId} {args : Array Value} {v : Value} (h : ∀ w, Calls P f args w fun e w' => e = .returned v ∧ w' = w) : Tr P f args [] [] (T0 v) := fun w _ _ =>
  (h w).mono fun e w' ⟨he, hb⟩ => ⟨v, [], he, ⟨rfl, rfl⟩, ⟨(Chg.none_of_below (hb ▸ Below.refl _ _)).mono fun b hb => hb.elim, by simp, by simp, .nil⟩⟩
theorem index_tr (s : List UInt8) : Tr Tryd.prog 54 #[.string (sB s), .string (sB [47])] [] [] (T0 (.int .i64 (if at1 s < s.length then (at1 s : Int) else -1))) := Tr.ofQ fun w => by
  have h := Tryd.stringslite_Index_one (sB s) 47 w
  rw [show (sB s).data.toList = s by simp [sB], index1 s] at h
  exact h
theorem index_tr1 (s : List UInt8) (ha : at1 s < s.length) : Tr Tryd.prog 54 #[.string (sB s), .string (sB [47])] [] [] (T0 (.int .i64 (at1 s : Int))) := by
  have h := index_tr s
  rwa [if_pos ha] at h
theorem index_tr0 (s : List UInt8) (ha : ¬ at1 s < s.length) : Tr Tryd.prog 54 #[.string (sB s), .string (sB [47])] [] [] (T0 (.int .i64 (-1))) := by
  have h := index_tr s
  rwa [if_neg ha] at h
set_option maxRecDepth 20000 in
set_option maxHeartbeats 4000000 in

theorem scut1 (s : List UInt8) (hs : s.length ≤ 1000000000) (ha : at1 s < s.length) : Tr Tryd.prog 48 #[.string (sB s), .string (sB [47])] [] [] (T0 (.tuple #[.string (sB (s.take (at1 s))), .string (sB (s.drop (at1 s + 1))), .bool true])) := by
  refine Tr.of (l := [(0, .string (sB s)), (1, .string (sB [47]))]) Tryd.func48 rfl (n := 23) rfl (.cons rfl (.cons rfl .nil)) (fun w0 hro => ?_)
  have h47 : ([47] : List UInt8).length = 1 := rfl
  refine G.seq ?_
  refine G.region ?_
  refine G.op rfl (G.val rfl rfl (pv_assign rfl) ?_)
  refine G.op rfl (G.val rfl rfl (pv_assign rfl) ?_)
  refine G.op rfl (G.val rfl rfl (pv_assign rfl) ?_)
  refine G.nil ?_
  refine G.nThen ?_
  refine G.seq ?_
  refine G.seq ?_
  refine G.region ?_
  refine G.op rfl (G.val rfl rfl (pv_move rfl) ?_)
  refine G.op rfl (G.val rfl rfl (pv_move rfl) ?_)
  refine G.op rfl (G.cR rfl rfl rfl rfl Tryd.func54 rfl rfl may0 (index_tr1 s ha) ?_)
  refine G.op rfl (G.val rfl rfl (pv_assign rfl) ?_)
  refine G.nil ?_
  refine G.nThen ?_
  refine G.seq ?_
  refine G.region ?_
  refine G.op rfl (G.val rfl rfl (pv_move rfl) ?_)
  refine G.op rfl (G.val rfl rfl (pv_geq rfl rfl) ?_)
  refine G.nil ?_
  refine G.nThen ?_
  refine G.condP rfl (fun h12 => ?_) (fun h12 => ?_)
  · refine G.seq ?_
    refine G.drawT (nn := 12) (p := []) (rem := 4095) [0, 0, 3, 0, 0, 0, 32, 80, 136, 7, 1023, 2047] [0, 0, 3, 0, 0, 0, 32, 80, 136, 4, 256, 0] (by kernel_rfl) ⟨rfl, by kernel_rfl, by kernel_rfl⟩ (by repeat (first | exact Sub.nil | (apply Sub.cons; (repeat (first | with_reducible exact Sel.here | exact Sel.here | apply Sel.there))))) (by kernel_rfl) (fun hT3 => ?_)
    refine G.takeT hT3 (i := 0) (rem' := 4094) rfl rfl rfl (by kernel_rfl) (fun _ _ _ h => h) rfl (pv_move rfl) (by repeat (first | exact Sub.nil | (apply Sub.cons; (repeat (first | with_reducible exact Sel.here | exact Sel.here | apply Sel.there))))) ?_
    refine G.takeT hT3 (i := 1) (rem' := 4092) rfl rfl rfl (by kernel_rfl) (fun _ _ _ h => h) rfl (pv_move rfl) (by repeat (first | exact Sub.nil | (apply Sub.cons; (repeat (first | with_reducible exact Sel.here | exact Sel.here | apply Sel.there))))) ?_
    refine G.takeT hT3 (i := 2) (rem' := 4088) rfl rfl rfl (by kernel_rfl) (fun _ _ _ h => h) rfl (pv_strH Tryd.underlying9 rfl rfl rfl (by omega)) (by repeat (first | exact Sub.nil | (apply Sub.cons; (repeat (first | with_reducible exact Sel.here | exact Sel.here | apply Sel.there))))) ?_
    refine G.takeT hT3 (i := 3) (rem' := 4080) rfl rfl rfl (by kernel_rfl) (fun _ _ _ h => h) rfl (pv_move rfl) (by repeat (first | exact Sub.nil | (apply Sub.cons; (repeat (first | with_reducible exact Sel.here | exact Sel.here | apply Sel.there))))) ?_
    refine G.takeT hT3 (i := 4) (rem' := 4064) rfl rfl rfl (by kernel_rfl) (fun _ _ _ h => h) rfl (pv_move rfl) (by repeat (first | exact Sub.nil | (apply Sub.cons; (repeat (first | with_reducible exact Sel.here | exact Sel.here | apply Sel.there))))) ?_
    refine G.takeT hT3 (i := 5) (rem' := 4032) rfl rfl rfl (by kernel_rfl) (fun _ _ _ h => h) rfl (pv_move rfl) (by repeat (first | exact Sub.nil | (apply Sub.cons; (repeat (first | with_reducible exact Sel.here | exact Sel.here | apply Sel.there))))) ?_
    refine G.takeT hT3 (i := 6) (rem' := 3968) rfl rfl rfl (by kernel_rfl) (fun _ _ _ h => h) rfl (pv_lenS Tryd.underlying9 rfl) (by repeat (first | exact Sub.nil | (apply Sub.cons; (repeat (first | with_reducible exact Sel.here | exact Sel.here | apply Sel.there))))) ?_
    refine G.takeT hT3 (i := 7) (rem' := 3840) rfl rfl rfl (by kernel_rfl) (fun _ _ _ h => h) rfl (pv_add64 rfl rfl (by omega)) (by repeat (first | exact Sub.nil | (apply Sub.cons; (repeat (first | with_reducible exact Sel.here | exact Sel.here | apply Sel.there))))) ?_
    refine G.takeT hT3 (i := 8) (rem' := 3584) rfl rfl rfl (by kernel_rfl) (fun _ _ _ h => h) rfl (pv_strL Tryd.underlying9 rfl rfl rfl (by omega)) (by repeat (first | exact Sub.nil | (apply Sub.cons; (repeat (first | with_reducible exact Sel.here | exact Sel.here | apply Sel.there))))) ?_
    refine G.takeT hT3 (i := 9) (rem' := 3072) rfl rfl rfl (by kernel_rfl) (fun _ _ _ h => h) rfl (pv_assign rfl) (by repeat (first | exact Sub.nil | (apply Sub.cons; (repeat (first | with_reducible exact Sel.here | exact Sel.here | apply Sel.there))))) ?_
    refine G.takeT hT3 (i := 10) (rem' := 2048) rfl rfl rfl (by kernel_rfl) (fun _ _ _ h => h) rfl (pv_assign rfl) (by repeat (first | exact Sub.nil | (apply Sub.cons; (repeat (first | with_reducible exact Sel.here | exact Sel.here | apply Sel.there))))) ?_
    refine G.takeT hT3 (i := 11) (rem' := 0) rfl rfl rfl (by kernel_rfl) (fun _ _ _ h => h) rfl (pv_assign rfl) (by repeat (first | exact Sub.nil | (apply Sub.cons; (repeat (first | with_reducible exact Sel.here | exact Sel.here | apply Sel.there))))) ?_
    refine G.overT hT3 (by kernel_rfl) ?_
    refine G.nThen ?_
    refine G.ret ?_
    refine G.rThen ?_
    exact G.done0G rfl (Rv.tmp rfl (Rv.tmp rfl (Rv.tmp rfl Rv.nil))) (by first | rfl | exact int_eq (by omega) | (simp; done))
  · exfalso; omega
set_option maxRecDepth 20000 in
set_option maxHeartbeats 4000000 in

theorem scut0 (s : List UInt8) (hs : s.length ≤ 1000000000) (ha : ¬ at1 s < s.length) : Tr Tryd.prog 48 #[.string (sB s), .string (sB [47])] [] [] (T0 (.tuple #[.string (sB s), .string (sB []), .bool false])) := by
  refine Tr.of (l := [(0, .string (sB s)), (1, .string (sB [47]))]) Tryd.func48 rfl (n := 23) rfl (.cons rfl (.cons rfl .nil)) (fun w0 hro => ?_)
  refine G.seq ?_
  refine G.region ?_
  refine G.op rfl (G.val rfl rfl (pv_assign rfl) ?_)
  refine G.op rfl (G.val rfl rfl (pv_assign rfl) ?_)
  refine G.op rfl (G.val rfl rfl (pv_assign rfl) ?_)
  refine G.nil ?_
  refine G.nThen ?_
  refine G.seq ?_
  refine G.seq ?_
  refine G.region ?_
  refine G.op rfl (G.val rfl rfl (pv_move rfl) ?_)
  refine G.op rfl (G.val rfl rfl (pv_move rfl) ?_)
  refine G.op rfl (G.cR rfl rfl rfl rfl Tryd.func54 rfl rfl may0 (index_tr0 s ha) ?_)
  refine G.op rfl (G.val rfl rfl (pv_assign rfl) ?_)
  refine G.nil ?_
  refine G.nThen ?_
  refine G.seq ?_
  refine G.region ?_
  refine G.op rfl (G.val rfl rfl (pv_move rfl) ?_)
  refine G.op rfl (G.val rfl rfl (pv_geq rfl rfl) ?_)
  refine G.nil ?_
  refine G.nThen ?_
  refine G.condP rfl (fun h12 => ?_) (fun h12 => ?_)
  · exfalso; omega
  · refine G.skip ?_
    refine G.nThen ?_
    refine G.seq ?_
    refine G.region ?_
    refine G.op rfl (G.val rfl rfl (pv_move rfl) ?_)
    refine G.op rfl (G.val rfl rfl (pv_assign rfl) ?_)
    refine G.op rfl (G.val rfl rfl (pv_assign rfl) ?_)
    refine G.op rfl (G.val rfl rfl (pv_assign rfl) ?_)
    refine G.nil ?_
    refine G.nThen ?_
    refine G.ret ?_
    exact G.done0G rfl (Rv.tmp rfl (Rv.tmp rfl (Rv.tmp rfl Rv.nil))) (by first | rfl | exact int_eq (by omega) | (simp; done))
theorem scut_tr (s : List UInt8) (hs : s.length ≤ 1000000000) : Tr Tryd.prog 48 #[.string (sB s), .string (sB [47])] [] [] (T0 (.tuple #[.string (sB (cutM s).1), .string (sB (cutM s).2.1), .bool (cutM s).2.2])) := by
  unfold cutM
  split
  · exact scut1 s hs (by assumption)
  · exact scut0 s hs (by assumption)
set_option maxRecDepth 20000 in
set_option maxHeartbeats 4000000 in

theorem cut_tr (s : List UInt8) (hs : s.length ≤ 1000000000) : Tr Tryd.prog 40 #[.string (sB s), .string (sB [47])] [] [] (T0 (.tuple #[.string (sB (cutM s).1), .string (sB (cutM s).2.1), .bool (cutM s).2.2])) := by
  refine Tr.of (l := [(0, .string (sB s)), (1, .string (sB [47]))]) Tryd.func40 rfl (n := 13) rfl (.cons rfl (.cons rfl .nil)) (fun w0 hro => ?_)
  refine G.seq ?_
  refine G.region ?_
  refine G.op rfl (G.val rfl rfl (pv_assign rfl) ?_)
  refine G.op rfl (G.val rfl rfl (pv_assign rfl) ?_)
  refine G.op rfl (G.val rfl rfl (pv_assign rfl) ?_)
  refine G.nil ?_
  refine G.nThen ?_
  refine G.seq ?_
  refine G.region ?_
  refine G.op rfl (G.val rfl rfl (pv_move rfl) ?_)
  refine G.op rfl (G.val rfl rfl (pv_move rfl) ?_)
  refine G.op rfl (G.cR rfl rfl rfl rfl Tryd.func48 rfl rfl may0 (scut_tr s (by omega)) ?_)
  refine G.op rfl (G.val rfl rfl (pv_extract rfl rfl) ?_)
  refine G.op rfl (G.val rfl rfl (pv_extract rfl rfl) ?_)
  refine G.op rfl (G.val rfl rfl (pv_extract rfl rfl) ?_)
  refine G.op rfl (G.val rfl rfl (pv_assign rfl) ?_)
  refine G.op rfl (G.val rfl rfl (pv_assign rfl) ?_)
  refine G.op rfl (G.val rfl rfl (pv_assign rfl) ?_)
  refine G.nil ?_
  refine G.nThen ?_
  refine G.ret ?_
  exact G.done0G rfl (Rv.tmp rfl (Rv.tmp rfl (Rv.tmp rfl Rv.nil))) (by first | rfl | exact int_eq (by omega) | (simp; done))
end Go.Proofs.YtkhffndeomihhaaDoor
