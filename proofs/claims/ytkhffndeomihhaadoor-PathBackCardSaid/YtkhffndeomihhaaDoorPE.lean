/- Contracts: what a text begins with, where its last stroke is. Conditions: the texts are not of more than a thousand million bytes. -/
import Derived.Test.YtkhffndeomihhaaDoorPD
set_option linter.unusedVariables false
set_option linter.unusedSimpArgs false
namespace Go.Proofs.YtkhffndeomihhaaDoor
open Go.RowKit

/-- the place behind the last stroke of the first k bytes; 0 where there is none -/
def lastM (s : List UInt8) : Nat → Nat
  | 0 => 0
  | k + 1 => if s[k]? = some 47 then k + 1 else lastM s k
theorem last_yes {s : List UInt8} {k : Nat} (h0 : 0 < k) (hk : k - 1 < s.length) (h : (s[k - 1].toNat : Int) = 47) : lastM s k = k := by
  obtain ⟨j, rfl⟩ : ∃ j, k = j + 1 := ⟨k - 1, by omega⟩
  have hj : j < s.length := hk
  have h' : (s[j].toNat : Int) = 47 := h
  have e : s[j] = 47 := UInt8.toNat_inj.1 (show s[j].toNat = 47 by omega)
  unfold lastM
  rw [if_pos (by rw [List.getElem?_eq_getElem hj, e])]
theorem last_no {s : List UInt8} {k : Nat} (h0 : 0 < k) (hk : k - 1 < s.length) (h : ¬ (s[k - 1].toNat : Int) = 47) : lastM s k = lastM s (k - 1) := by
  obtain ⟨j, rfl⟩ : ∃ j, k = j + 1 := ⟨k - 1, by omega⟩
  have hj : j < s.length := by omega
  rw [lastM.eq_2, if_neg]
  · rfl
  · rw [List.getElem?_eq_getElem hj]
    intro e
    injection e with e
    exact h (by show ((s[j].toNat : Nat) : Int) = 47; rw [e]; rfl)
set_option maxRecDepth 20000 in
set_option maxHeartbeats 4000000 in

theorem last0 (s : List UInt8) (hs : s.length ≤ 9223372036854775807) : Tr Tryd.prog 37 #[.string (sB s), .int .u8 47] [] [] (T0 (.int .i64 ((lastM s s.length : Int) - 1))) := by
  refine Tr.of (l := [(0, .string (sB s)), (1, .int .u8 47)]) Tryd.func37 rfl (n := 19) rfl (.cons rfl (.cons rfl .nil)) (fun w0 hro => ?_)
  refine G.seq ?_
  refine G.region ?_
  refine G.op rfl (G.val rfl rfl (pv_assign rfl) ?_)
  refine G.nil ?_
  refine G.nThen ?_
  refine G.seq ?_
  refine G.seq ?_
  refine G.region ?_
  refine G.op rfl (G.val rfl rfl (pv_move rfl) ?_)
  refine G.op rfl (G.val rfl rfl (pv_lenS Tryd.underlying9 rfl) ?_)
  refine G.op rfl (G.val rfl rfl (pv_sub64 rfl rfl (by omega)) ?_)
  refine G.op rfl (G.val rfl rfl (pv_assign rfl) ?_)
  refine G.nil ?_
  refine G.nThen ?_
  refine G.block ?_
  refine G.loopK (X := Nat) (ts := [0, 1]) (fun k => k ≤ s.length ∧ lastM s s.length = lastM s k) (fun k => [(5, .int .i64 ((k : Int) - 1))]) (fun k => []) (fun k => k) (x0 := s.length) (.cons rfl (.cons rfl .nil)) (by repeat (first | exact Sub.nil | (apply Sub.cons; (repeat (first | with_reducible exact Sel.here | exact Sel.here | apply Sel.there))))) (.cons .nil) (by repeat (first | exact Ap.nil | apply Ap.cons)) (by first | exact trivial | ((try dsimp only) <;> exact ⟨Nat.le_refl _, rfl⟩)) (.consE rfl (by first | rfl | exact int_eq (by first | omega | (dsimp only; omega)) | exact congrArg _ (by omega)) .nil) (fun k hJ => ?_)
  try dsimp only at hJ
  try dsimp only
  obtain ⟨hk1, hk2⟩ := hJ
  refine G.seq ?_
  refine G.seq ?_
  refine G.region ?_
  refine G.op rfl (G.val rfl rfl (pv_move rfl) ?_)
  refine G.op rfl (G.val rfl rfl (pv_geq rfl rfl) ?_)
  refine G.nil ?_
  refine G.nThen ?_
  refine G.condP rfl (fun h10 => ?_) (fun h10 => ?_)
  · refine G.skip ?_
    refine G.nThen ?_
    refine G.seq ?_
    refine G.block ?_
    refine G.seq ?_
    refine G.region ?_
    refine G.op rfl (G.val rfl rfl (pv_move rfl) ?_)
    refine G.op rfl (G.val rfl rfl (pv_move rfl) ?_)
    refine G.op rfl (G.val rfl rfl (pv_ixS Tryd.underlying9 (k := k - 1) rfl rfl (by omega) (by omega)) ?_)
    refine G.op rfl (G.val rfl rfl (pv_move rfl) ?_)
    refine G.op rfl (G.val rfl rfl (pv_eql rfl rfl) ?_)
    refine G.nil ?_
    refine G.nThen ?_
    refine G.condP rfl (fun h17 => ?_) (fun h17 => ?_)
    · refine G.seq ?_
      refine G.region ?_
      refine G.op rfl (G.val rfl rfl (pv_move rfl) ?_)
      refine G.op rfl (G.val rfl rfl (pv_assign rfl) ?_)
      refine G.nil ?_
      refine G.nThen ?_
      refine G.ret ?_
      refine G.rBlock ?_
      refine G.rThen ?_
      refine G.rThen ?_
      refine G.rBlock ?_
      refine G.rThen ?_
      exact G.done0G rfl (Rv.tmp rfl Rv.nil) (by rw [hk2, last_yes (by omega) (by omega) (by assumption)]; rfl)
    · refine G.skip ?_
      refine G.nBlock ?_
      refine G.nThen ?_
      refine G.region ?_
      refine G.op rfl (G.val rfl rfl (pv_move rfl) ?_)
      refine G.op rfl (G.val rfl rfl (pv_sub64 rfl rfl (by omega)) ?_)
      refine G.op rfl (G.val rfl rfl (pv_assign rfl) ?_)
      refine G.nil ?_
      exact G.next (k - 1) (by first | exact trivial | ((try dsimp only) <;> exact ⟨by omega, by rw [hk2]; exact last_no (by omega) (by omega) (by assumption)⟩)) (by (try dsimp only); omega) (.consE rfl (by first | rfl | exact int_eq (by first | omega | (dsimp only; omega)) | exact congrArg _ (by omega)) (.cons rfl (.cons rfl .nil))) (by repeat (first | exact Sub.nil | (apply Sub.cons; (repeat (first | with_reducible exact Sel.here | exact Sel.here | apply Sel.there)))))
  · refine G.exit ?_
    refine G.eThen ?_
    refine G.eThen ?_
    refine G.eBlock ?_
    refine G.nThen ?_
    refine G.seq ?_
    refine G.region ?_
    refine G.op rfl (G.val rfl rfl (pv_assign rfl) ?_)
    refine G.nil ?_
    refine G.nThen ?_
    refine G.ret ?_
    exact G.done0G rfl (Rv.tmp rfl Rv.nil) (by rw [hk2, show k = 0 by omega]; rfl)
set_option maxRecDepth 20000 in
set_option maxHeartbeats 4000000 in

theorem last_tr (s : List UInt8) (hs : s.length ≤ 9223372036854775807) : Tr Tryd.prog 23 #[.string (sB s), .int .u8 47] [] [] (T0 (.int .i64 ((lastM s s.length : Int) - 1))) := by
  refine Tr.of (l := [(0, .string (sB s)), (1, .int .u8 47)]) Tryd.func23 rfl (n := 8) rfl (.cons rfl (.cons rfl .nil)) (fun w0 hro => ?_)
  refine G.seq ?_
  refine G.region ?_
  refine G.op rfl (G.val rfl rfl (pv_assign rfl) ?_)
  refine G.nil ?_
  refine G.nThen ?_
  refine G.seq ?_
  refine G.region ?_
  refine G.op rfl (G.val rfl rfl (pv_move rfl) ?_)
  refine G.op rfl (G.val rfl rfl (pv_move rfl) ?_)
  refine G.op rfl (G.cR rfl rfl rfl rfl Tryd.func37 rfl rfl may0 (last0 s hs) ?_)
  refine G.op rfl (G.val rfl rfl (pv_assign rfl) ?_)
  refine G.nil ?_
  refine G.nThen ?_
  refine G.ret ?_
  exact G.done0G rfl (Rv.tmp rfl Rv.nil) (by first | rfl | exact int_eq (by omega) | (simp; done))
end Go.Proofs.YtkhffndeomihhaaDoor
