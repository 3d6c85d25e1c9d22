/- Contracts of layer 7's parts: what is wrong with one, which of two texts is ahead. Conditions: the text is not of more than a thousand million bytes. -/
import Derived.Test.YtkhffndeomihhaaDoorWC
import Derived.Test.YtkhffndeomihhaaDoorOpg
set_option linter.unusedVariables false
set_option linter.unusedSimpArgs false
namespace Go.Proofs.YtkhffndeomihhaaDoor
open Go.RowKit

/-- a byte that may not be -/
def badP (c : UInt8) : Bool := decide (c.toNat < 33) || decide (126 < c.toNat) || decide (c.toNat = 47)
/-- what is wrong with a part -/
def stepB (bad : UInt8 → Bool) (s : List UInt8) : Int × Int :=
  if s = [] ∨ s = [46] ∨ s = [46, 46] then (2, 0)
  else if s.findIdx bad < s.length then (4, s.findIdx bad)
  else if 60 < s.length then (3, 60) else (0, 0)

/-- .. the reference's -/
def badR (c : UInt8) : Bool := decide (c.toNat < 33) || decide (126 < c.toNat)
theorem stepJ {s : List UInt8} {k : Nat} (h : ∀ j, j < k → ∀ h : j < s.length, badP s[j] = false) (hk : k < s.length) (h1 : ¬ ((s[k].toNat : Int) < 33)) (h2 : ¬ ((126 : Int) < s[k].toNat)) (h3 : ¬ ((s[k].toNat : Int) = 47)) : ∀ j, j < k + 1 → ∀ h : j < s.length, badP s[j] = false := fun j hj hl => by
  rcases Nat.lt_or_ge j k with h4 | h4
  · exact h j h4 hl
  · obtain rfl : j = k := by omega
    unfold badP
    simp
    omega
theorem stepJR {s : List UInt8} {k : Nat} (h : ∀ j, j < k → ∀ h : j < s.length, badR s[j] = false) (hk : k < s.length) (h1 : ¬ ((s[k].toNat : Int) < 33)) (h2 : ¬ ((126 : Int) < s[k].toNat)) : ∀ j, j < k + 1 → ∀ h : j < s.length, badR s[j] = false := fun j hj hl => by
  rcases Nat.lt_or_ge j k with h4 | h4
  · exact h j h4 hl
  · obtain rfl : j = k := by omega
    unfold badR
    simp
    omega
theorem stepArg {bad : UInt8 → Bool} {s : List UInt8} (h : s = [] ∨ s = [46] ∨ s = [46, 46]) : stepB bad s = (2, 0) := if_pos h
theorem stepBad {bad : UInt8 → Bool} {s : List UInt8} {k : Nat} (h1 : ¬ s = []) (h2 : ¬ s = [46]) (h3 : ¬ s = [46, 46]) (h : ∀ j, j < k → ∀ h : j < s.length, bad s[j] = false) (hk : k < s.length) (hb : bad s[k] = true) : stepB bad s = (4, (k : Int)) := by
  have e : s.findIdx bad = k := (List.findIdx_eq hk).2 ⟨hb, fun j hj => h j hj (by omega)⟩
  unfold stepB
  rw [if_neg (by simp [h1, h2, h3]), e, if_pos hk]
theorem stepAll {bad : UInt8 → Bool} {s : List UInt8} {k : Nat} (h : ∀ j, j < k → ∀ h : j < s.length, bad s[j] = false) (hk : s.length ≤ k) : s.findIdx bad = s.length := List.findIdx_eq_length_of_false fun x hx => by
  obtain ⟨j, hj, rfl⟩ := List.getElem_of_mem hx
  exact h j (by omega) hj
theorem stepLong {bad : UInt8 → Bool} {s : List UInt8} {k : Nat} (h1 : ¬ s = []) (h2 : ¬ s = [46]) (h3 : ¬ s = [46, 46]) (h : ∀ j, j < k → ∀ h : j < s.length, bad s[j] = false) (hk : s.length ≤ k) (hl : 60 < s.length) : stepB bad s = (3, 60) := by
  unfold stepB
  rw [if_neg (by simp [h1, h2, h3]), stepAll h hk, if_neg (by omega), if_pos hl]
theorem stepOk {bad : UInt8 → Bool} {s : List UInt8} {k : Nat} (h1 : ¬ s = []) (h2 : ¬ s = [46]) (h3 : ¬ s = [46, 46]) (h : ∀ j, j < k → ∀ h : j < s.length, bad s[j] = false) (hk : s.length ≤ k) (hl : ¬ 60 < s.length) : stepB bad s = (0, 0) := by
  unfold stepB
  rw [if_neg (by simp [h1, h2, h3]), stepAll h hk, if_neg (by omega), if_neg hl]
theorem bad1 {c : UInt8} (h : (c.toNat : Int) < 33) : badP c = true := by unfold badP; simp; omega
theorem bad2 {c : UInt8} (h : (126 : Int) < c.toNat) : badP c = true := by unfold badP; simp; omega
theorem badR1 {c : UInt8} (h : (c.toNat : Int) < 33) : badR c = true := by unfold badR; simp; omega
theorem badR2 {c : UInt8} (h : (126 : Int) < c.toNat) : badR c = true := by unfold badR; simp; omega
theorem bad3 {c : UInt8} (h : (c.toNat : Int) = 47) : badP c = true := by unfold badP; simp; omega
set_option maxRecDepth 20000 in
set_option maxHeartbeats 4000000 in

theorem step_tr (s : List UInt8) (hs : s.length ≤ 1000000000) : Tr Tryd.prog 27 #[.string (sB s)] [] [] (T0 (.tuple #[.int .i64 (stepB badP s).1, .int .i64 (stepB badP s).2])) := by
  refine Tr.of (l := [(0, .string (sB s))]) Tryd.func27 rfl (n := 41) rfl (.cons rfl .nil) (fun w0 hro => ?_)
  refine G.seq ?_
  refine G.region ?_
  refine G.op rfl (G.val rfl rfl (pv_assign rfl) ?_)
  refine G.op rfl (G.val rfl rfl (pv_assign rfl) ?_)
  refine G.nil ?_
  refine G.nThen ?_
  refine G.seq ?_
  refine G.seq ?_
  refine G.region ?_
  refine G.op rfl (G.val rfl rfl (pv_move rfl) ?_)
  refine G.op rfl (G.val rfl rfl (pv_eqlS rfl rfl) ?_)
  refine G.op rfl (G.val rfl rfl (pv_move rfl) ?_)
  refine G.partP (t := 7) rfl (fun h7 => ?_) (fun h7 => ?_)
  · refine G.pass rfl rfl rfl rfl rfl rfl ?_
    refine G.pass rfl rfl rfl rfl rfl rfl ?_
    refine G.op rfl (G.val rfl rfl (pv_pick rfl rfl) ?_)
    refine G.op rfl (G.val rfl rfl (pv_move rfl) ?_)
    refine G.pass rfl rfl rfl rfl rfl rfl ?_
    refine G.pass rfl rfl rfl rfl rfl rfl ?_
    refine G.op rfl (G.val rfl rfl (pv_pick rfl rfl) ?_)
    refine G.nil ?_
    refine G.nThen ?_
    refine G.condT rfl (rfl) ?_
    refine G.seq ?_
    refine G.region ?_
    refine G.op rfl (G.val rfl rfl (pv_assign rfl) ?_)
    refine G.op rfl (G.val rfl rfl (pv_assign rfl) ?_)
    refine G.nil ?_
    refine G.nThen ?_
    refine G.ret ?_
    refine G.rThen ?_
    exact G.done0G rfl (Rv.tmp rfl (Rv.tmp rfl Rv.nil)) (by rw [stepArg (.inl (by assumption))]; rfl)
  · refine G.want rfl rfl rfl (G.val rfl rfl (pv_move rfl) ?_)
    refine G.want rfl rfl rfl (G.val rfl rfl (pv_eqlS rfl rfl) ?_)
    refine G.op rfl (G.val rfl rfl (pv_pick rfl rfl) ?_)
    refine G.op rfl (G.val rfl rfl (pv_move rfl) ?_)
    refine G.partP (t := 11) rfl (fun h11 => ?_) (fun h11 => ?_)
    · refine G.pass rfl rfl rfl rfl rfl rfl ?_
      refine G.pass rfl rfl rfl rfl rfl rfl ?_
      refine G.op rfl (G.val rfl rfl (pv_pick rfl rfl) ?_)
      refine G.nil ?_
      refine G.nThen ?_
      refine G.condT rfl (rfl) ?_
      refine G.seq ?_
      refine G.region ?_
      refine G.op rfl (G.val rfl rfl (pv_assign rfl) ?_)
      refine G.op rfl (G.val rfl rfl (pv_assign rfl) ?_)
      refine G.nil ?_
      refine G.nThen ?_
      refine G.ret ?_
      refine G.rThen ?_
      exact G.done0G rfl (Rv.tmp rfl (Rv.tmp rfl Rv.nil)) (by rw [stepArg (.inr (.inl (by assumption)))]; rfl)
    · refine G.want rfl rfl rfl (G.val rfl rfl (pv_move rfl) ?_)
      refine G.want rfl rfl rfl (G.val rfl rfl (pv_eqlS rfl rfl) ?_)
      refine G.op rfl (G.val rfl rfl (pv_pick rfl rfl) ?_)
      refine G.nil ?_
      refine G.nThen ?_
      refine G.condP rfl (fun h14 => ?_) (fun h14 => ?_)
      · refine G.seq ?_
        refine G.region ?_
        refine G.op rfl (G.val rfl rfl (pv_assign rfl) ?_)
        refine G.op rfl (G.val rfl rfl (pv_assign rfl) ?_)
        refine G.nil ?_
        refine G.nThen ?_
        refine G.ret ?_
        refine G.rThen ?_
        exact G.done0G rfl (Rv.tmp rfl (Rv.tmp rfl Rv.nil)) (by rw [stepArg (.inr (.inr (by assumption)))]; rfl)
      · refine G.skip ?_
        refine G.nThen ?_
        refine G.seq ?_
        refine G.seq ?_
        refine G.region ?_
        refine G.op rfl (G.val rfl rfl (pv_move rfl) ?_)
        refine G.op rfl (G.val rfl rfl (pv_lenS Tryd.underlying9 rfl) ?_)
        refine G.op rfl (G.val rfl rfl (pv_move rfl) ?_)
        refine G.nil ?_
        refine G.nThen ?_
        refine G.block ?_
        refine G.loopK (X := Nat) (ts := [0, 16]) (fun k => k ≤ s.length ∧ (∀ j, j < k → ∀ h : j < s.length, badP s[j] = false)) (fun k => [(17, .int .i64 (k : Int))]) (fun k => []) (fun k => s.length - k) (x0 := 0) (.cons rfl (.cons rfl .nil)) (by repeat (first | exact Sub.nil | (apply Sub.cons; (repeat (first | with_reducible exact Sel.here | exact Sel.here | apply Sel.there))))) (.cons .nil) (by repeat (first | exact Ap.nil | apply Ap.cons)) (by first | exact trivial | ((try dsimp only) <;> exact ⟨Nat.zero_le _, fun j h => absurd h (by omega)⟩)) (.consE rfl (by first | rfl | exact int_eq (by first | omega | (dsimp only; omega)) | exact congrArg _ (by omega)) .nil) (fun k hJ => ?_)
        try dsimp only at hJ
        try dsimp only
        obtain ⟨hkk, hJ⟩ := hJ
        refine G.seq ?_
        refine G.region ?_
        refine G.op rfl (G.val rfl rfl (pv_lss rfl rfl) ?_)
        refine G.nil ?_
        refine G.nThen ?_
        refine G.seq ?_
        refine G.condP rfl (fun h18 => ?_) (fun h18 => ?_)
        · refine G.skip ?_
          refine G.nThen ?_
          refine G.seq ?_
          refine G.block ?_
          refine G.seq ?_
          refine G.region ?_
          refine G.op rfl (G.val rfl rfl (pv_move rfl) ?_)
          refine G.op rfl (G.val rfl rfl (pv_assign rfl) ?_)
          refine G.nil ?_
          refine G.nThen ?_
          refine G.seq ?_
          refine G.region ?_
          refine G.op rfl (G.val rfl rfl (pv_move rfl) ?_)
          refine G.op rfl (G.val rfl rfl (pv_move rfl) ?_)
          refine G.op rfl (G.val rfl rfl (pv_ixS Tryd.underlying9 rfl rfl rfl (by omega)) ?_)
          refine G.op rfl (G.val rfl rfl (pv_lss rfl rfl) ?_)
          refine G.op rfl (G.val rfl rfl (pv_move rfl) ?_)
          refine G.partP (t := 24) rfl (fun h24 => ?_) (fun h24 => ?_)
          · refine G.pass rfl rfl rfl rfl rfl rfl ?_
            refine G.pass rfl rfl rfl rfl rfl rfl ?_
            refine G.pass rfl rfl rfl rfl rfl rfl ?_
            refine G.pass rfl rfl rfl rfl rfl rfl ?_
            refine G.op rfl (G.val rfl rfl (pv_pick rfl rfl) ?_)
            refine G.op rfl (G.val rfl rfl (pv_move rfl) ?_)
            refine G.pass rfl rfl rfl rfl rfl rfl ?_
            refine G.pass rfl rfl rfl rfl rfl rfl ?_
            refine G.pass rfl rfl rfl rfl rfl rfl ?_
            refine G.pass rfl rfl rfl rfl rfl rfl ?_
            refine G.op rfl (G.val rfl rfl (pv_pick rfl rfl) ?_)
            refine G.nil ?_
            refine G.nThen ?_
            refine G.condT rfl (rfl) ?_
            refine G.seq ?_
            refine G.region ?_
            refine G.op rfl (G.val rfl rfl (pv_move rfl) ?_)
            refine G.op rfl (G.val rfl rfl (pv_assign rfl) ?_)
            refine G.op rfl (G.val rfl rfl (pv_assign rfl) ?_)
            refine G.nil ?_
            refine G.nThen ?_
            refine G.ret ?_
            refine G.rBlock ?_
            refine G.rThen ?_
            refine G.rThen ?_
            refine G.rBlock ?_
            refine G.rThen ?_
            exact G.done0G rfl (Rv.tmp rfl (Rv.tmp rfl Rv.nil)) (by rw [stepBad (by assumption) (by assumption) (by assumption) hJ (by omega) (bad1 (by assumption))]; rfl)
          · refine G.want rfl rfl rfl (G.val rfl rfl (pv_move rfl) ?_)
            refine G.want rfl rfl rfl (G.val rfl rfl (pv_move rfl) ?_)
            refine G.want rfl rfl rfl (G.val rfl rfl (pv_ixS Tryd.underlying9 rfl rfl rfl (by omega)) ?_)
            refine G.want rfl rfl rfl (G.val rfl rfl (pv_gtr rfl rfl) ?_)
            refine G.op rfl (G.val rfl rfl (pv_pick rfl rfl) ?_)
            refine G.op rfl (G.val rfl rfl (pv_move rfl) ?_)
            refine G.partP (t := 30) rfl (fun h30 => ?_) (fun h30 => ?_)
            · refine G.pass rfl rfl rfl rfl rfl rfl ?_
              refine G.pass rfl rfl rfl rfl rfl rfl ?_
              refine G.pass rfl rfl rfl rfl rfl rfl ?_
              refine G.pass rfl rfl rfl rfl rfl rfl ?_
              refine G.op rfl (G.val rfl rfl (pv_pick rfl rfl) ?_)
              refine G.nil ?_
              refine G.nThen ?_
              refine G.condT rfl (rfl) ?_
              refine G.seq ?_
              refine G.region ?_
              refine G.op rfl (G.val rfl rfl (pv_move rfl) ?_)
              refine G.op rfl (G.val rfl rfl (pv_assign rfl) ?_)
              refine G.op rfl (G.val rfl rfl (pv_assign rfl) ?_)
              refine G.nil ?_
              refine G.nThen ?_
              refine G.ret ?_
              refine G.rBlock ?_
              refine G.rThen ?_
              refine G.rThen ?_
              refine G.rBlock ?_
              refine G.rThen ?_
              exact G.done0G rfl (Rv.tmp rfl (Rv.tmp rfl Rv.nil)) (by rw [stepBad (by assumption) (by assumption) (by assumption) hJ (by omega) (bad2 (by assumption))]; rfl)
            · refine G.want rfl rfl rfl (G.val rfl rfl (pv_move rfl) ?_)
              refine G.want rfl rfl rfl (G.val rfl rfl (pv_move rfl) ?_)
              refine G.want rfl rfl rfl (G.val rfl rfl (pv_ixS Tryd.underlying9 rfl rfl rfl (by omega)) ?_)
              refine G.want rfl rfl rfl (G.val rfl rfl (pv_eql rfl rfl) ?_)
              refine G.op rfl (G.val rfl rfl (pv_pick rfl rfl) ?_)
              refine G.nil ?_
              refine G.nThen ?_
              refine G.condP rfl (fun h35 => ?_) (fun h35 => ?_)
              · refine G.seq ?_
                refine G.region ?_
                refine G.op rfl (G.val rfl rfl (pv_move rfl) ?_)
                refine G.op rfl (G.val rfl rfl (pv_assign rfl) ?_)
                refine G.op rfl (G.val rfl rfl (pv_assign rfl) ?_)
                refine G.nil ?_
                refine G.nThen ?_
                refine G.ret ?_
                refine G.rBlock ?_
                refine G.rThen ?_
                refine G.rThen ?_
                refine G.rBlock ?_
                refine G.rThen ?_
                exact G.done0G rfl (Rv.tmp rfl (Rv.tmp rfl Rv.nil)) (by rw [stepBad (by assumption) (by assumption) (by assumption) hJ (by omega) (bad3 (by assumption))]; rfl)
              · refine G.skip ?_
                refine G.nBlock ?_
                refine G.nThen ?_
                refine G.region ?_
                refine G.op rfl (G.val rfl rfl (pv_add64 rfl rfl (by omega)) ?_)
                refine G.op rfl (G.val rfl rfl (pv_move rfl) ?_)
                refine G.nil ?_
                exact G.next (k + 1) (by first | exact trivial | ((try dsimp only) <;> exact ⟨by omega, stepJ hJ (by omega) (by assumption) (by assumption) (by assumption)⟩)) (by (try dsimp only); omega) (.consE rfl (by first | rfl | exact int_eq (by first | omega | (dsimp only; omega)) | exact congrArg _ (by omega)) (.cons rfl (.cons rfl .nil))) (by repeat (first | exact Sub.nil | (apply Sub.cons; (repeat (first | with_reducible exact Sel.here | exact Sel.here | apply Sel.there)))))
        · refine G.exit ?_
          refine G.eThen ?_
          refine G.eThen ?_
          refine G.eBlock ?_
          refine G.nThen ?_
          refine G.seq ?_
          refine G.seq ?_
          refine G.region ?_
          refine G.op rfl (G.val rfl rfl (pv_move rfl) ?_)
          refine G.op rfl (G.val rfl rfl (pv_lenS Tryd.underlying9 rfl) ?_)
          refine G.op rfl (G.val rfl rfl (pv_gtr rfl rfl) ?_)
          refine G.nil ?_
          refine G.nThen ?_
          refine G.condP rfl (fun h40 => ?_) (fun h40 => ?_)
          · refine G.seq ?_
            refine G.region ?_
            refine G.op rfl (G.val rfl rfl (pv_assign rfl) ?_)
            refine G.op rfl (G.val rfl rfl (pv_assign rfl) ?_)
            refine G.nil ?_
            refine G.nThen ?_
            refine G.ret ?_
            refine G.rThen ?_
            exact G.done0G rfl (Rv.tmp rfl (Rv.tmp rfl Rv.nil)) (by rw [stepLong (by assumption) (by assumption) (by assumption) hJ (by omega) (by omega)]; rfl)
          · refine G.skip ?_
            refine G.nThen ?_
            refine G.seq ?_
            refine G.region ?_
            refine G.op rfl (G.val rfl rfl (pv_assign rfl) ?_)
            refine G.op rfl (G.val rfl rfl (pv_assign rfl) ?_)
            refine G.nil ?_
            refine G.nThen ?_
            refine G.ret ?_
            exact G.done0G rfl (Rv.tmp rfl (Rv.tmp rfl Rv.nil)) (by rw [stepOk (by assumption) (by assumption) (by assumption) hJ (by omega) (by omega)]; rfl)
set_option maxRecDepth 20000 in
set_option maxHeartbeats 4000000 in

theorem part_tr (s : List UInt8) (hs : s.length ≤ 1000000000) : Tr Tryd.prog 29 #[.string (sB s)] [] [] (T0 (.tuple #[.int .i64 (stepB badR s).1, .int .i64 (stepB badR s).2])) := by
  refine Tr.of (l := [(0, .string (sB s))]) Tryd.func29 rfl (n := 35) rfl (.cons rfl .nil) (fun w0 hro => ?_)
  refine G.seq ?_
  refine G.region ?_
  refine G.op rfl (G.val rfl rfl (pv_assign rfl) ?_)
  refine G.op rfl (G.val rfl rfl (pv_assign rfl) ?_)
  refine G.nil ?_
  refine G.nThen ?_
  refine G.seq ?_
  refine G.seq ?_
  refine G.region ?_
  refine G.op rfl (G.val rfl rfl (pv_move rfl) ?_)
  refine G.op rfl (G.val rfl rfl (pv_eqlS rfl rfl) ?_)
  refine G.op rfl (G.val rfl rfl (pv_move rfl) ?_)
  refine G.partP (t := 7) rfl (fun h7 => ?_) (fun h7 => ?_)
  · refine G.pass rfl rfl rfl rfl rfl rfl ?_
    refine G.pass rfl rfl rfl rfl rfl rfl ?_
    refine G.op rfl (G.val rfl rfl (pv_pick rfl rfl) ?_)
    refine G.op rfl (G.val rfl rfl (pv_move rfl) ?_)
    refine G.pass rfl rfl rfl rfl rfl rfl ?_
    refine G.pass rfl rfl rfl rfl rfl rfl ?_
    refine G.op rfl (G.val rfl rfl (pv_pick rfl rfl) ?_)
    refine G.nil ?_
    refine G.nThen ?_
    refine G.condT rfl (rfl) ?_
    refine G.seq ?_
    refine G.region ?_
    refine G.op rfl (G.val rfl rfl (pv_assign rfl) ?_)
    refine G.op rfl (G.val rfl rfl (pv_assign rfl) ?_)
    refine G.nil ?_
    refine G.nThen ?_
    refine G.ret ?_
    refine G.rThen ?_
    exact G.done0G rfl (Rv.tmp rfl (Rv.tmp rfl Rv.nil)) (by rw [stepArg (.inl (by assumption))]; rfl)
  · refine G.want rfl rfl rfl (G.val rfl rfl (pv_move rfl) ?_)
    refine G.want rfl rfl rfl (G.val rfl rfl (pv_eqlS rfl rfl) ?_)
    refine G.op rfl (G.val rfl rfl (pv_pick rfl rfl) ?_)
    refine G.op rfl (G.val rfl rfl (pv_move rfl) ?_)
    refine G.partP (t := 11) rfl (fun h11 => ?_) (fun h11 => ?_)
    · refine G.pass rfl rfl rfl rfl rfl rfl ?_
      refine G.pass rfl rfl rfl rfl rfl rfl ?_
      refine G.op rfl (G.val rfl rfl (pv_pick rfl rfl) ?_)
      refine G.nil ?_
      refine G.nThen ?_
      refine G.condT rfl (rfl) ?_
      refine G.seq ?_
      refine G.region ?_
      refine G.op rfl (G.val rfl rfl (pv_assign rfl) ?_)
      refine G.op rfl (G.val rfl rfl (pv_assign rfl) ?_)
      refine G.nil ?_
      refine G.nThen ?_
      refine G.ret ?_
      refine G.rThen ?_
      exact G.done0G rfl (Rv.tmp rfl (Rv.tmp rfl Rv.nil)) (by rw [stepArg (.inr (.inl (by assumption)))]; rfl)
    · refine G.want rfl rfl rfl (G.val rfl rfl (pv_move rfl) ?_)
      refine G.want rfl rfl rfl (G.val rfl rfl (pv_eqlS rfl rfl) ?_)
      refine G.op rfl (G.val rfl rfl (pv_pick rfl rfl) ?_)
      refine G.nil ?_
      refine G.nThen ?_
      refine G.condP rfl (fun h14 => ?_) (fun h14 => ?_)
      · refine G.seq ?_
        refine G.region ?_
        refine G.op rfl (G.val rfl rfl (pv_assign rfl) ?_)
        refine G.op rfl (G.val rfl rfl (pv_assign rfl) ?_)
        refine G.nil ?_
        refine G.nThen ?_
        refine G.ret ?_
        refine G.rThen ?_
        exact G.done0G rfl (Rv.tmp rfl (Rv.tmp rfl Rv.nil)) (by rw [stepArg (.inr (.inr (by assumption)))]; rfl)
      · refine G.skip ?_
        refine G.nThen ?_
        refine G.seq ?_
        refine G.seq ?_
        refine G.region ?_
        refine G.op rfl (G.val rfl rfl (pv_assign rfl) ?_)
        refine G.nil ?_
        refine G.nThen ?_
        refine G.block ?_
        refine G.loopK (X := Nat) (ts := [0]) (fun k => k ≤ s.length ∧ (∀ j, j < k → ∀ h : j < s.length, badR s[j] = false)) (fun k => [(4, .int .i64 (k : Int))]) (fun k => []) (fun k => s.length - k) (x0 := 0) (.cons rfl .nil) (by repeat (first | exact Sub.nil | (apply Sub.cons; (repeat (first | with_reducible exact Sel.here | exact Sel.here | apply Sel.there))))) (.cons .nil) (by repeat (first | exact Ap.nil | apply Ap.cons)) (by first | exact trivial | ((try dsimp only) <;> exact ⟨Nat.zero_le _, fun j h => absurd h (by omega)⟩)) (.consE rfl (by first | rfl | exact int_eq (by first | omega | (dsimp only; omega)) | exact congrArg _ (by omega)) .nil) (fun k hJ => ?_)
        try dsimp only at hJ
        try dsimp only
        obtain ⟨hkk, hJ⟩ := hJ
        refine G.seq ?_
        refine G.seq ?_
        refine G.region ?_
        refine G.op rfl (G.val rfl rfl (pv_move rfl) ?_)
        refine G.op rfl (G.val rfl rfl (pv_move rfl) ?_)
        refine G.op rfl (G.val rfl rfl (pv_lenS Tryd.underlying9 rfl) ?_)
        refine G.op rfl (G.val rfl rfl (pv_lss rfl rfl) ?_)
        refine G.nil ?_
        refine G.nThen ?_
        refine G.condP rfl (fun h18 => ?_) (fun h18 => ?_)
        · refine G.skip ?_
          refine G.nThen ?_
          refine G.seq ?_
          refine G.block ?_
          refine G.seq ?_
          refine G.region ?_
          refine G.op rfl (G.val rfl rfl (pv_move rfl) ?_)
          refine G.op rfl (G.val rfl rfl (pv_move rfl) ?_)
          refine G.op rfl (G.val rfl rfl (pv_ixS Tryd.underlying9 rfl rfl rfl (by omega)) ?_)
          refine G.op rfl (G.val rfl rfl (pv_lss rfl rfl) ?_)
          refine G.op rfl (G.val rfl rfl (pv_move rfl) ?_)
          refine G.partP (t := 25) rfl (fun h25 => ?_) (fun h25 => ?_)
          · refine G.pass rfl rfl rfl rfl rfl rfl ?_
            refine G.pass rfl rfl rfl rfl rfl rfl ?_
            refine G.pass rfl rfl rfl rfl rfl rfl ?_
            refine G.pass rfl rfl rfl rfl rfl rfl ?_
            refine G.op rfl (G.val rfl rfl (pv_pick rfl rfl) ?_)
            refine G.nil ?_
            refine G.nThen ?_
            refine G.condT rfl (rfl) ?_
            refine G.seq ?_
            refine G.region ?_
            refine G.op rfl (G.val rfl rfl (pv_move rfl) ?_)
            refine G.op rfl (G.val rfl rfl (pv_assign rfl) ?_)
            refine G.op rfl (G.val rfl rfl (pv_assign rfl) ?_)
            refine G.nil ?_
            refine G.nThen ?_
            refine G.ret ?_
            refine G.rBlock ?_
            refine G.rThen ?_
            refine G.rThen ?_
            refine G.rBlock ?_
            refine G.rThen ?_
            exact G.done0G rfl (Rv.tmp rfl (Rv.tmp rfl Rv.nil)) (by rw [stepBad (by assumption) (by assumption) (by assumption) hJ (by omega) (badR1 (by assumption))]; rfl)
          · refine G.want rfl rfl rfl (G.val rfl rfl (pv_move rfl) ?_)
            refine G.want rfl rfl rfl (G.val rfl rfl (pv_move rfl) ?_)
            refine G.want rfl rfl rfl (G.val rfl rfl (pv_ixS Tryd.underlying9 rfl rfl rfl (by omega)) ?_)
            refine G.want rfl rfl rfl (G.val rfl rfl (pv_gtr rfl rfl) ?_)
            refine G.op rfl (G.val rfl rfl (pv_pick rfl rfl) ?_)
            refine G.nil ?_
            refine G.nThen ?_
            refine G.condP rfl (fun h30 => ?_) (fun h30 => ?_)
            · refine G.seq ?_
              refine G.region ?_
              refine G.op rfl (G.val rfl rfl (pv_move rfl) ?_)
              refine G.op rfl (G.val rfl rfl (pv_assign rfl) ?_)
              refine G.op rfl (G.val rfl rfl (pv_assign rfl) ?_)
              refine G.nil ?_
              refine G.nThen ?_
              refine G.ret ?_
              refine G.rBlock ?_
              refine G.rThen ?_
              refine G.rThen ?_
              refine G.rBlock ?_
              refine G.rThen ?_
              exact G.done0G rfl (Rv.tmp rfl (Rv.tmp rfl Rv.nil)) (by rw [stepBad (by assumption) (by assumption) (by assumption) hJ (by omega) (badR2 (by assumption))]; rfl)
            · refine G.skip ?_
              refine G.nBlock ?_
              refine G.nThen ?_
              refine G.region ?_
              refine G.op rfl (G.val rfl rfl (pv_move rfl) ?_)
              refine G.op rfl (G.val rfl rfl (pv_add64 rfl rfl (by omega)) ?_)
              refine G.op rfl (G.val rfl rfl (pv_assign rfl) ?_)
              refine G.nil ?_
              exact G.next (k + 1) (by first | exact trivial | ((try dsimp only) <;> exact ⟨by omega, stepJR hJ (by omega) (by assumption) (by assumption)⟩)) (by (try dsimp only); omega) (.consE rfl (by first | rfl | exact int_eq (by first | omega | (dsimp only; omega)) | exact congrArg _ (by omega)) (.cons rfl .nil)) (by repeat (first | exact Sub.nil | (apply Sub.cons; (repeat (first | with_reducible exact Sel.here | exact Sel.here | apply Sel.there)))))
        · refine G.exit ?_
          refine G.eThen ?_
          refine G.eThen ?_
          refine G.eBlock ?_
          refine G.nThen ?_
          refine G.seq ?_
          refine G.seq ?_
          refine G.region ?_
          refine G.op rfl (G.val rfl rfl (pv_move rfl) ?_)
          refine G.op rfl (G.val rfl rfl (pv_lenS Tryd.underlying9 rfl) ?_)
          refine G.op rfl (G.val rfl rfl (pv_gtr rfl rfl) ?_)
          refine G.nil ?_
          refine G.nThen ?_
          refine G.condP rfl (fun h34 => ?_) (fun h34 => ?_)
          · refine G.seq ?_
            refine G.region ?_
            refine G.op rfl (G.val rfl rfl (pv_assign rfl) ?_)
            refine G.op rfl (G.val rfl rfl (pv_assign rfl) ?_)
            refine G.nil ?_
            refine G.nThen ?_
            refine G.ret ?_
            refine G.rThen ?_
            exact G.done0G rfl (Rv.tmp rfl (Rv.tmp rfl Rv.nil)) (by rw [stepLong (by assumption) (by assumption) (by assumption) hJ (by omega) (by omega)]; rfl)
          · refine G.skip ?_
            refine G.nThen ?_
            refine G.seq ?_
            refine G.region ?_
            refine G.op rfl (G.val rfl rfl (pv_assign rfl) ?_)
            refine G.op rfl (G.val rfl rfl (pv_assign rfl) ?_)
            refine G.nil ?_
            refine G.nThen ?_
            refine G.ret ?_
            exact G.done0G rfl (Rv.tmp rfl (Rv.tmp rfl Rv.nil)) (by rw [stepOk (by assumption) (by assumption) (by assumption) hJ (by omega) (by omega)]; rfl)
end Go.Proofs.YtkhffndeomihhaaDoor
