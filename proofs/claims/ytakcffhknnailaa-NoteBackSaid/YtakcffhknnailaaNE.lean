/- Contracts of layer 1's reference reader by its state. Conditions: what is read is not more than a thousand million bytes. -/
import Derived.Test.YtakcffhknnailaaND
set_option linter.unusedVariables false
set_option linter.unusedSimpArgs false
namespace Go.Proofs.Ytakcffhknnailaa
open Go.RowKit

def numF1 (g : Rn) (a : Nat) (high above : Int) : Int × Int := if errN g = 0 ∧ high < numN g then (above, a) else (errN g, posN 0 g)
def numF2 (f : Int × Int) (g : Rn) (a : Nat) (low : Int) : Int × Int := if f.1 = 0 ∧ (numN g : Int) < low then (5, a) else f
theorem getM_err {b : List UInt8} {a e q : Nat} (h : getM b a = .bad e q) : e ≠ 0 := fun h0 => by subst h0; exact getM_bad0 h
theorem numS_bad {b : List UInt8} {low high above : Int} {s : Rs} {g : Rn} (hg : getM b s.a = g) (h0 : s.e = 0) (ha : 1 ≤ above) (h : (numF2 (numF1 g s.a high above) g s.a low).1 ≠ 0) :
    numS b low high above s = (0, ⟨s.a, (numF2 (numF1 g s.a high above) g s.a low).1.toNat, (numF2 (numF1 g s.a high above) g s.a low).2⟩) ∧ 0 ≤ (numF2 (numF1 g s.a high above) g s.a low).1 := by
  unfold numS
  rw [if_pos h0]
  cases g with
  | bad e q =>
    have he := getM_err hg
    have f1 : numF1 (Rn.bad e q) s.a high above = ((e : Int), (q : Int)) := if_neg fun h => he h.1
    have f2 : numF2 ((e : Int), (q : Int)) (Rn.bad e q) s.a low = ((e : Int), (q : Int)) := if_neg fun h => he (by have := h.1; simp at this; exact this)
    rw [f1, f2]
    unfold bndM
    rw [hg]
    exact ⟨by simp [numN, nextN, errN, posN], Int.natCast_nonneg _⟩
  | ok n nx =>
    by_cases h1 : high < n
    · have f1 : numF1 (Rn.ok n nx) s.a high above = (above, (s.a : Int)) := if_pos ⟨rfl, h1⟩
      have f2 : numF2 (above, (s.a : Int)) (Rn.ok n nx) s.a low = (above, (s.a : Int)) := if_neg fun h => by have := h.1; simp at this; omega
      rw [f1, f2]
      have := bnd_hi (low := low) (above := above) hg h1
      rw [this]
      exact ⟨rfl, by show 0 ≤ above; omega⟩
    · have f1 : numF1 (Rn.ok n nx) s.a high above = (0, 0) := if_neg fun h => h1 h.2
      rw [f1] at h ⊢
      by_cases h2 : (n : Int) < low
      · have f2 : numF2 (0, 0) (Rn.ok n nx) s.a low = (5, (s.a : Int)) := if_pos ⟨rfl, h2⟩
        rw [f2]
        have := bnd_lo (above := above) hg h1 h2
        rw [this]
        exact ⟨rfl, by show (0 : Int) ≤ 5; decide⟩
      · have f2 : numF2 (0, 0) (Rn.ok n nx) s.a low = (0, 0) := if_neg fun h => h2 h.2
        rw [f2] at h
        exact absurd rfl h
theorem numS_good {b : List UInt8} {low high above : Int} {s : Rs} {g : Rn} (hg : getM b s.a = g) (h0 : s.e = 0) (hp : s.p = 0) (ha : 1 ≤ above) (h : (numF2 (numF1 g s.a high above) g s.a low).1 = 0) :
    numS b low high above s = (numN g, ⟨nextN 0 g, s.e, s.p⟩) := by
  unfold numS
  rw [if_pos h0]
  cases g with
  | bad e q =>
    have he := getM_err hg
    have f1 : numF1 (Rn.bad e q) s.a high above = ((e : Int), (q : Int)) := if_neg fun h => he h.1
    have f2 : numF2 ((e : Int), (q : Int)) (Rn.bad e q) s.a low = ((e : Int), (q : Int)) := if_neg fun h => he (by have := h.1; simp at this; exact this)
    rw [f1, f2] at h
    exact absurd (by simpa using h) he
  | ok n nx =>
    by_cases h1 : high < n
    · have f1 : numF1 (Rn.ok n nx) s.a high above = (above, (s.a : Int)) := if_pos ⟨rfl, h1⟩
      have f2 : numF2 (above, (s.a : Int)) (Rn.ok n nx) s.a low = (above, (s.a : Int)) := if_neg fun h => by have := h.1; simp at this; omega
      rw [f1, f2] at h
      have h : above = 0 := h
      omega
    · have f1 : numF1 (Rn.ok n nx) s.a high above = (0, 0) := if_neg fun h => h1 h.2
      rw [f1] at h
      by_cases h2 : (n : Int) < low
      · have f2 : numF2 (0, 0) (Rn.ok n nx) s.a low = (5, (s.a : Int)) := if_pos ⟨rfl, h2⟩
        rw [f2] at h
        cases h
      · rw [bnd_ok hg h1 h2]
        show (n, (⟨nx, 0, s.p⟩ : Rs)) = (n, ⟨nx, s.e, s.p⟩)
        rw [h0]
theorem getM_le {b : List UInt8} {a : Nat} (ha : a ≤ b.length) : nextN 0 (getM b a) ≤ b.length := by
  cases h : getM b a with
  | ok n nx => exact getM_next h
  | bad e p => exact Nat.zero_le _
def someS (b : List UInt8) (n a0 : Nat) (s : Rs) : List UInt8 × Rs := if s.e = 0 then (if b.length < s.a + n then ([], ⟨a0, 4, b.length⟩) else (subB b s.a n, ⟨s.a + n, s.e, s.p⟩)) else ([], s)
set_option maxRecDepth 20000 in

theorem numberR (D : Nat) (v : Value) (b : List UInt8) (s : Rs) (low high above : Int) (ha : 1 ≤ above) (hs : okS b s) (hb : b.length ≤ 1000000000) {Pu : Nat → Prop} : Tr Try.prog 72 #[.pointer (some ⟨D, 0, none⟩), .int .i64 low, .int .i64 high, .int .i64 above] [slc rByte Pu v b] [blk D 87 [v, .int .i64 (s.a : Int), .int .i64 (s.e : Int), .int .i64 s.p]]
    (TX (fun _ : Unit => True) (fun _ => .int .i64 ((numS b low high above s).1 : Int)) (fun _ => [blk D 87 [v, .int .i64 ((numS b low high above s).2.a : Int), .int .i64 ((numS b low high above s).2.e : Int), .int .i64 (numS b low high above s).2.p]])) := by
  refine Tr.of (l := [(0, .pointer (some ⟨D, 0, none⟩)), (1, .int .i64 low), (2, .int .i64 high), (3, .int .i64 above)]) Try.func72 rfl (n := 70) rfl (.cons rfl (.cons rfl (.cons rfl (.cons rfl .nil)))) (fun w0 hro => ?_)
  have hv := ro1 hro
  have hv' := hv
  obtain ⟨ad, cap, bb, off, rfl, -⟩ := Ro.open hv'
  refine G.seq ?_
  refine G.region ?_
  refine G.op rfl (G.val rfl rfl (pv_assign rfl) ?_)
  refine G.nil ?_
  refine G.nThen ?_
  refine G.seq ?_
  refine G.seq ?_
  refine G.region ?_
  refine G.op rfl (G.val rfl rfl (pv_move rfl) ?_)
  refine G.op rfl (G.val rfl rfl (pv_nilCheck rfl) ?_)
  refine G.op rfl (G.val rfl rfl (pv_fieldAddrK (sz := 1) (k := 2) Try.underlying87 rfl (by kernel_rfl) rfl rfl) ?_)
  refine G.op rfl (G.val rfl rfl (pv_fieldAddrK (sz := 0) (k := 0) Try.underlying39 rfl (by kernel_rfl) rfl rfl) ?_)
  refine G.op rfl (G.val rfl rfl (pv_load Try.underlying29 rfl rfl (by first | exact blk_cell (by (repeat (first | with_reducible exact Sel.here | exact Sel.here | apply Sel.there)); done) (by rfl) | exact rng_cell (by (repeat (first | with_reducible exact Sel.here | exact Sel.here | apply Sel.there)); done) (by rfl) | exact ro_blk (by assumption) (by rfl) | exact ro_rngC (by assumption) (by rfl) | exact ro_int (by assumption) | exact ro_byte (by assumption) | exact ro_str (by assumption) | assumption)) ?_)
  refine G.op rfl (G.val rfl rfl (pv_neq rfl rfl) ?_)
  refine G.nil ?_
  refine G.nThen ?_
  refine G.condP rfl (fun h17 => ?_) (fun h17 => ?_)
  · have e1 : numS b low high above s = (0, s) := if_neg (by omega)
    rw [e1]
    refine G.seq ?_
    refine G.region ?_
    refine G.op rfl (G.val rfl rfl (pv_assign rfl) ?_)
    refine G.nil ?_
    refine G.nThen ?_
    refine G.ret ?_
    refine G.rThen ?_
    exact G.doneX1 (()) (by first | exact trivial | ((try dsimp only); exact trivial)) rfl rfl (by first | rfl | exact int_eq (by omega) | (simp; done)) (by repeat (first | exact Sub.nil | (apply Sub.cons; (repeat (first | with_reducible exact Sel.here | exact Sel.here | apply Sel.there)))))
  · have hs0 : s.e = 0 := by omega
    obtain ⟨g, hg⟩ : ∃ g, getM b s.a = g := ⟨_, rfl⟩
    refine G.skip ?_
    refine G.nThen ?_
    refine G.seq ?_
    refine G.cutK (X := Nat) (ts := [0, 1, 2, 3, 8]) (p := []) (fun q => True) (fun q => [(9, .int .i64 (numN g : Int)), (10, .int .i64 (nextN 0 g : Int)), (11, .pointer (some ⟨q, 0, none⟩))]) (fun q => [blk q 39 [.int .i64 (errN g : Int), .int .i64 (posN 0 g)]]) (.cons rfl (.cons rfl (.cons rfl (.cons rfl (.cons rfl .nil))))) (by repeat (first | exact Sub.nil | (apply Sub.cons; (repeat (first | with_reducible exact Sel.here | exact Sel.here | apply Sel.there))))) (.cons (.cons (.cons .nil))) (.cons .nil) ?_ ?_
    · refine G.drawT (nn := 17) (p := []) (rem := 131071) [0, 1, 2, 4, 0, 16, 32, 64, 136, 256, 512, 512, 512, 0, 10239, 28671, 65535] [0, 1, 2, 4, 0, 16, 32, 64, 136, 256, 512, 512, 512, 0, 1024, 2048, 12288] (by kernel_rfl) ⟨rfl, by kernel_rfl, by kernel_rfl⟩ (by repeat (first | exact Sub.nil | (apply Sub.cons; (repeat (first | with_reducible exact Sel.here | exact Sel.here | apply Sel.there))))) (by kernel_rfl) (fun hT3 => ?_)
      refine G.takeT hT3 (i := 0) (rem' := 131070) rfl rfl rfl (by kernel_rfl) (fun _ _ _ h => h) rfl (pv_move rfl) (by repeat (first | exact Sub.nil | (apply Sub.cons; (repeat (first | with_reducible exact Sel.here | exact Sel.here | apply Sel.there))))) ?_
      refine G.takeT hT3 (i := 1) (rem' := 131068) rfl rfl rfl (by kernel_rfl) (fun _ _ _ h => h) rfl (pv_nilCheck rfl) (by repeat (first | exact Sub.nil | (apply Sub.cons; (repeat (first | with_reducible exact Sel.here | exact Sel.here | apply Sel.there))))) ?_
      refine G.takeT hT3 (i := 2) (rem' := 131064) rfl rfl rfl (by kernel_rfl) (fun _ _ _ h => h) rfl (pv_fieldAddrK (sz := 0) (k := 0) Try.underlying87 rfl (by kernel_rfl) rfl rfl) (by repeat (first | exact Sub.nil | (apply Sub.cons; (repeat (first | with_reducible exact Sel.here | exact Sel.here | apply Sel.there))))) ?_
      refine G.takeT hT3 (i := 4) (rem' := 131048) rfl rfl rfl (by kernel_rfl) (fun _ _ _ h => h) rfl (pv_move rfl) (by repeat (first | exact Sub.nil | (apply Sub.cons; (repeat (first | with_reducible exact Sel.here | exact Sel.here | apply Sel.there))))) ?_
      refine G.takeT hT3 (i := 5) (rem' := 131016) rfl rfl rfl (by kernel_rfl) (fun _ _ _ h => h) rfl (pv_nilCheck rfl) (by repeat (first | exact Sub.nil | (apply Sub.cons; (repeat (first | with_reducible exact Sel.here | exact Sel.here | apply Sel.there))))) ?_
      refine G.takeT hT3 (i := 6) (rem' := 130952) rfl rfl rfl (by kernel_rfl) (fun _ _ _ h => h) rfl (pv_fieldAddrK (sz := 0) (k := 1) Try.underlying87 rfl (by kernel_rfl) rfl rfl) (by repeat (first | exact Sub.nil | (apply Sub.cons; (repeat (first | with_reducible exact Sel.here | exact Sel.here | apply Sel.there))))) ?_
      refine G.takeT hT3 (i := 3) (rem' := 130944) rfl rfl rfl (by kernel_rfl) (fun _ _ _ h => h) rfl (pv_load Try.underlying24 rfl rfl (by first | exact blk_cell (by (repeat (first | with_reducible exact Sel.here | exact Sel.here | apply Sel.there)); done) (by rfl) | exact rng_cell (by (repeat (first | with_reducible exact Sel.here | exact Sel.here | apply Sel.there)); done) (by rfl) | exact ro_blk (by assumption) (by rfl) | exact ro_rngC (by assumption) (by rfl) | exact ro_int (by assumption) | exact ro_byte (by assumption) | exact ro_str (by assumption) | assumption)) (by repeat (first | exact Sub.nil | (apply Sub.cons; (repeat (first | with_reducible exact Sel.here | exact Sel.here | apply Sel.there))))) ?_
      refine G.takeT hT3 (i := 7) (rem' := 130816) rfl rfl rfl (by kernel_rfl) (fun _ _ _ h => h) rfl (pv_load Try.underlying3 rfl rfl (by first | exact blk_cell (by (repeat (first | with_reducible exact Sel.here | exact Sel.here | apply Sel.there)); done) (by rfl) | exact rng_cell (by (repeat (first | with_reducible exact Sel.here | exact Sel.here | apply Sel.there)); done) (by rfl) | exact ro_blk (by assumption) (by rfl) | exact ro_rngC (by assumption) (by rfl) | exact ro_int (by assumption) | exact ro_byte (by assumption) | exact ro_str (by assumption) | assumption)) (by repeat (first | exact Sub.nil | (apply Sub.cons; (repeat (first | with_reducible exact Sel.here | exact Sel.here | apply Sel.there))))) ?_
      refine G.twoT hT3 (i := 8) (j := 13) (rem' := 130560) (rem'' := 122624) (by kernel_rfl) (by kernel_rfl) (by kernel_rfl) ?_ ?_
      · refine G.turnOp rfl rfl (G.cR rfl rfl rfl rfl Try.func81 rfl rfl (may1 (by first | exact .old (by assumption) | exact Sel.may (by (repeat (first | with_reducible exact Sel.here | exact Sel.here | apply Sel.there)); done) | exact may_own (by (repeat (first | with_reducible exact Sel.here | exact Sel.here | apply Sel.there)); done) rfl (fun _ _ => trivial) | exact may_ownB (by (repeat (first | with_reducible exact Sel.here | exact Sel.here | apply Sel.there)); done) | exact may_ownI (by (repeat (first | with_reducible exact Sel.here | exact Sel.here | apply Sel.there)); done) (by assumption) | exact may_ownN (by (repeat (first | with_reducible exact Sel.here | exact Sel.here | apply Sel.there)); done) (by assumption))) (getR _ _ s.a hs.1 hb) ?_)
        rw [hg]
        refine G.back (by repeat (first | exact Sub.nil | (apply Sub.cons; (repeat (first | with_reducible exact Sel.here | exact Sel.here | apply Sel.there))))) ?_
        refine G.takeT hT3 (i := 9) (rem' := 130048) rfl rfl rfl (by kernel_rfl) (fun _ _ _ h => h) rfl (pv_move rfl) (by repeat (first | exact Sub.nil | (apply Sub.cons; (repeat (first | with_reducible exact Sel.here | exact Sel.here | apply Sel.there))))) ?_
        refine G.takeT hT3 (i := 10) (rem' := 129024) rfl rfl rfl (by kernel_rfl) (fun _ _ _ h => h) rfl (pv_extract rfl rfl) (by repeat (first | exact Sub.nil | (apply Sub.cons; (repeat (first | with_reducible exact Sel.here | exact Sel.here | apply Sel.there))))) ?_
        refine G.takeT hT3 (i := 11) (rem' := 126976) rfl rfl rfl (by kernel_rfl) (fun _ _ _ h => h) rfl (pv_extract rfl rfl) (by repeat (first | exact Sub.nil | (apply Sub.cons; (repeat (first | with_reducible exact Sel.here | exact Sel.here | apply Sel.there))))) ?_
        refine G.takeT hT3 (i := 12) (rem' := 122880) rfl rfl rfl (by kernel_rfl) (fun _ _ _ h => h) rfl (pv_extract rfl rfl) (by repeat (first | exact Sub.nil | (apply Sub.cons; (repeat (first | with_reducible exact Sel.here | exact Sel.here | apply Sel.there))))) ?_
        refine G.oneT hT3 (i := 13) (rem' := 114688) (by kernel_rfl) (by kernel_rfl) ?_
        refine G.turnOp rfl rfl (G.alloc (z := .agg #[.int .i64 0, .int .i64 0]) (cs := [.int .i64 0, .int .i64 0]) rfl (by kernel_rfl) rfl ?_)
        intro b11
        refine G.back (by repeat (first | exact Sub.nil | (apply Sub.cons; (repeat (first | with_reducible exact Sel.here | exact Sel.here | apply Sel.there))))) ?_
        refine G.takeT hT3 (i := 14) (rem' := 98304) rfl rfl rfl (by kernel_rfl) (fun _ _ _ h => h) rfl (pv_assign rfl) (by repeat (first | exact Sub.nil | (apply Sub.cons; (repeat (first | with_reducible exact Sel.here | exact Sel.here | apply Sel.there))))) ?_
        refine G.takeT hT3 (i := 15) (rem' := 65536) rfl rfl rfl (by kernel_rfl) (fun _ _ _ h => h) rfl (pv_assign rfl) (by repeat (first | exact Sub.nil | (apply Sub.cons; (repeat (first | with_reducible exact Sel.here | exact Sel.here | apply Sel.there))))) ?_
        refine G.oneT hT3 (i := 16) (rem' := 0) (by kernel_rfl) (by kernel_rfl) ?_
        refine G.turnOp rfl rfl (G.storeN (by kernel_rfl) rfl rfl (by first | rfl | exact List.all_eq_true.2 (vByte_one _) | (repeat (first | exact all1_nil | (apply all1_cons; first | rfl | assumption)))) (by repeat (first | with_reducible exact Sel.here | exact Sel.here | apply Sel.there)) (by first | (simp; done) | exact Nat.le_of_ble_eq_true rfl) ?_)
        refine G.back (by repeat (first | exact Sub.nil | (apply Sub.cons; (repeat (first | with_reducible exact Sel.here | exact Sel.here | apply Sel.there))))) ?_
        refine G.overT hT3 (by kernel_rfl) ?_
        try rw [hg]
        exact G.meet (b11) (by first | exact trivial | ((try dsimp only); exact trivial)) (.consE rfl (by first | rfl | exact int_eq (by omega) | exact congrArg _ (by omega)) (.consE rfl (by first | rfl | exact int_eq (by omega) | exact congrArg _ (by omega)) (.consE rfl (by first | rfl | exact int_eq (by omega) | exact congrArg _ (by omega)) (.cons rfl (.cons rfl (.cons rfl (.cons rfl (.cons rfl .nil)))))))) (by repeat (first | exact Sub.nil | (apply Sub.cons; (repeat (first | with_reducible exact Sel.here | exact Sel.here | apply Sel.there)))))
      · refine G.turnOp rfl rfl (G.alloc (z := .agg #[.int .i64 0, .int .i64 0]) (cs := [.int .i64 0, .int .i64 0]) rfl (by kernel_rfl) rfl ?_)
        intro b11
        refine G.back (by repeat (first | exact Sub.nil | (apply Sub.cons; (repeat (first | with_reducible exact Sel.here | exact Sel.here | apply Sel.there))))) ?_
        refine G.oneT hT3 (i := 8) (rem' := 122368) (by kernel_rfl) (by kernel_rfl) ?_
        refine G.turnOp rfl rfl (G.cR rfl rfl rfl rfl Try.func81 rfl rfl (may1 (by first | exact .old (by assumption) | exact Sel.may (by (repeat (first | with_reducible exact Sel.here | exact Sel.here | apply Sel.there)); done) | exact may_own (by (repeat (first | with_reducible exact Sel.here | exact Sel.here | apply Sel.there)); done) rfl (fun _ _ => trivial) | exact may_ownB (by (repeat (first | with_reducible exact Sel.here | exact Sel.here | apply Sel.there)); done) | exact may_ownI (by (repeat (first | with_reducible exact Sel.here | exact Sel.here | apply Sel.there)); done) (by assumption) | exact may_ownN (by (repeat (first | with_reducible exact Sel.here | exact Sel.here | apply Sel.there)); done) (by assumption))) (getR _ _ s.a hs.1 hb) ?_)
        rw [hg]
        refine G.back (by repeat (first | exact Sub.nil | (apply Sub.cons; (repeat (first | with_reducible exact Sel.here | exact Sel.here | apply Sel.there))))) ?_
        refine G.takeT hT3 (i := 9) (rem' := 121856) rfl rfl rfl (by kernel_rfl) (fun _ _ _ h => h) rfl (pv_move rfl) (by repeat (first | exact Sub.nil | (apply Sub.cons; (repeat (first | with_reducible exact Sel.here | exact Sel.here | apply Sel.there))))) ?_
        refine G.takeT hT3 (i := 10) (rem' := 120832) rfl rfl rfl (by kernel_rfl) (fun _ _ _ h => h) rfl (pv_extract rfl rfl) (by repeat (first | exact Sub.nil | (apply Sub.cons; (repeat (first | with_reducible exact Sel.here | exact Sel.here | apply Sel.there))))) ?_
        refine G.takeT hT3 (i := 11) (rem' := 118784) rfl rfl rfl (by kernel_rfl) (fun _ _ _ h => h) rfl (pv_extract rfl rfl) (by repeat (first | exact Sub.nil | (apply Sub.cons; (repeat (first | with_reducible exact Sel.here | exact Sel.here | apply Sel.there))))) ?_
        refine G.takeT hT3 (i := 12) (rem' := 114688) rfl rfl rfl (by kernel_rfl) (fun _ _ _ h => h) rfl (pv_extract rfl rfl) (by repeat (first | exact Sub.nil | (apply Sub.cons; (repeat (first | with_reducible exact Sel.here | exact Sel.here | apply Sel.there))))) ?_
        refine G.takeT hT3 (i := 14) (rem' := 98304) rfl rfl rfl (by kernel_rfl) (fun _ _ _ h => h) rfl (pv_assign rfl) (by repeat (first | exact Sub.nil | (apply Sub.cons; (repeat (first | with_reducible exact Sel.here | exact Sel.here | apply Sel.there))))) ?_
        refine G.takeT hT3 (i := 15) (rem' := 65536) rfl rfl rfl (by kernel_rfl) (fun _ _ _ h => h) rfl (pv_assign rfl) (by repeat (first | exact Sub.nil | (apply Sub.cons; (repeat (first | with_reducible exact Sel.here | exact Sel.here | apply Sel.there))))) ?_
        refine G.oneT hT3 (i := 16) (rem' := 0) (by kernel_rfl) (by kernel_rfl) ?_
        refine G.turnOp rfl rfl (G.storeN (by kernel_rfl) rfl rfl (by first | rfl | exact List.all_eq_true.2 (vByte_one _) | (repeat (first | exact all1_nil | (apply all1_cons; first | rfl | assumption)))) (by repeat (first | with_reducible exact Sel.here | exact Sel.here | apply Sel.there)) (by first | (simp; done) | exact Nat.le_of_ble_eq_true rfl) ?_)
        refine G.back (by repeat (first | exact Sub.nil | (apply Sub.cons; (repeat (first | with_reducible exact Sel.here | exact Sel.here | apply Sel.there))))) ?_
        refine G.overT hT3 (by kernel_rfl) ?_
        try rw [hg]
        exact G.meet (b11) (by first | exact trivial | ((try dsimp only); exact trivial)) (.consE rfl (by first | rfl | exact int_eq (by omega) | exact congrArg _ (by omega)) (.consE rfl (by first | rfl | exact int_eq (by omega) | exact congrArg _ (by omega)) (.consE rfl (by first | rfl | exact int_eq (by omega) | exact congrArg _ (by omega)) (.cons rfl (.cons rfl (.cons rfl (.cons rfl (.cons rfl .nil)))))))) (by repeat (first | exact Sub.nil | (apply Sub.cons; (repeat (first | with_reducible exact Sel.here | exact Sel.here | apply Sel.there)))))
    · intro q hJ
      try dsimp only at hJ
      try dsimp only
      refine G.seq ?_
      refine G.cutK (X := (Int × Int)) (ts := [0, 1, 8, 9, 10, 11]) (p := [blk q _ _]) (fun f => f = numF1 g s.a high above) (fun f => []) (fun f => [blk q 39 [.int .i64 f.1, .int .i64 f.2]]) (.cons rfl (.cons rfl (.cons rfl (.cons rfl (.cons rfl (.cons rfl .nil)))))) (by repeat (first | exact Sub.nil | (apply Sub.cons; (repeat (first | with_reducible exact Sel.here | exact Sel.here | apply Sel.there))))) Ap.nil (.cons .nil) ?_ ?_
      · refine G.seq ?_
        refine G.region ?_
        refine G.op rfl (G.val rfl rfl (pv_fieldAddrK (sz := 0) (k := 0) Try.underlying39 rfl (by kernel_rfl) rfl rfl) ?_)
        refine G.op rfl (G.val rfl rfl (pv_load Try.underlying29 rfl rfl (by first | exact blk_cell (by (repeat (first | with_reducible exact Sel.here | exact Sel.here | apply Sel.there)); done) (by rfl) | exact rng_cell (by (repeat (first | with_reducible exact Sel.here | exact Sel.here | apply Sel.there)); done) (by rfl) | exact ro_blk (by assumption) (by rfl) | exact ro_rngC (by assumption) (by rfl) | exact ro_int (by assumption) | exact ro_byte (by assumption) | exact ro_str (by assumption) | assumption)) ?_)
        refine G.op rfl (G.val rfl rfl (pv_eql rfl rfl) ?_)
        refine G.op rfl (G.val rfl rfl (pv_move rfl) ?_)
        refine G.partP (t := 34) rfl (fun h34 => ?_) (fun h34 => ?_)
        · refine G.want rfl rfl rfl (G.val rfl rfl (pv_move rfl) ?_)
          refine G.want rfl rfl rfl (G.val rfl rfl (pv_move rfl) ?_)
          refine G.want rfl rfl rfl (G.val rfl rfl (pv_gtr rfl rfl) ?_)
          refine G.op rfl (G.val rfl rfl (pv_pick rfl rfl) ?_)
          refine G.nil ?_
          refine G.nThen ?_
          refine G.condP rfl (fun h38 => ?_) (fun h38 => ?_)
          · refine G.region ?_
            refine G.op rfl (G.val rfl rfl (pv_move rfl) ?_)
            refine G.op rfl (G.val rfl rfl (pv_move rfl) ?_)
            refine G.op rfl (G.val rfl rfl (pv_nilCheck rfl) ?_)
            refine G.op rfl (G.val rfl rfl (pv_fieldAddrK (sz := 0) (k := 1) Try.underlying87 rfl (by kernel_rfl) rfl rfl) ?_)
            refine G.op rfl (G.val rfl rfl (pv_load Try.underlying3 rfl rfl (by first | exact blk_cell (by (repeat (first | with_reducible exact Sel.here | exact Sel.here | apply Sel.there)); done) (by rfl) | exact rng_cell (by (repeat (first | with_reducible exact Sel.here | exact Sel.here | apply Sel.there)); done) (by rfl) | exact ro_blk (by assumption) (by rfl) | exact ro_rngC (by assumption) (by rfl) | exact ro_int (by assumption) | exact ro_byte (by assumption) | exact ro_str (by assumption) | assumption)) ?_)
            refine G.op rfl (G.val rfl rfl (pv_buildSt (z := [.int .i64 0, .int .i64 0]) (pl := [(0, 1), (1, 1)]) Try.underlying39 (by kernel_rfl) (by kernel_rfl) rfl (by repeat (first | exact Fl.nil | (apply Fl.cons; exact rfl; (first | exact cells_of (by first | rfl | assumption) | exact rfl); exact rfl; exact rfl; repeat (first | exact Sn.nil | (apply Sn.cons; repeat (first | exact St.zero | apply St.succ))))))) ?_)
            refine G.op rfl (G.storeN (by kernel_rfl) rfl rfl (by first | rfl | exact List.all_eq_true.2 (vByte_one _) | (repeat (first | exact all1_nil | (apply all1_cons; first | rfl | assumption)))) (by repeat (first | with_reducible exact Sel.here | exact Sel.here | apply Sel.there)) (by first | (simp; done) | exact Nat.le_of_ble_eq_true rfl) ?_)
            refine G.nil ?_
            exact G.meet ((above, (s.a : Int))) (by first | exact trivial | ((try dsimp only); exact (if_pos (by omega)).symm)) (.cons rfl (.cons rfl (.cons rfl (.cons rfl (.cons rfl (.cons rfl .nil)))))) (by repeat (first | exact Sub.nil | (apply Sub.cons; (repeat (first | with_reducible exact Sel.here | exact Sel.here | apply Sel.there)))))
          · refine G.skip ?_
            exact G.meet (((errN g : Int), posN 0 g)) (by first | exact trivial | ((try dsimp only); exact (if_neg (by omega)).symm)) (.cons rfl (.cons rfl (.cons rfl (.cons rfl (.cons rfl (.cons rfl .nil)))))) (by repeat (first | exact Sub.nil | (apply Sub.cons; (repeat (first | with_reducible exact Sel.here | exact Sel.here | apply Sel.there)))))
        · refine G.pass rfl rfl rfl rfl rfl rfl ?_
          refine G.pass rfl rfl rfl rfl rfl rfl ?_
          refine G.pass rfl rfl rfl rfl rfl rfl ?_
          refine G.op rfl (G.val rfl rfl (pv_pick rfl rfl) ?_)
          refine G.nil ?_
          refine G.nThen ?_
          refine G.condF rfl (rfl) ?_
          refine G.skip ?_
          exact G.meet (((errN g : Int), posN 0 g)) (by first | exact trivial | ((try dsimp only); exact (if_neg (by omega)).symm)) (.cons rfl (.cons rfl (.cons rfl (.cons rfl (.cons rfl (.cons rfl .nil)))))) (by repeat (first | exact Sub.nil | (apply Sub.cons; (repeat (first | with_reducible exact Sel.here | exact Sel.here | apply Sel.there)))))
      · intro f hJ
        try dsimp only at hJ
        try dsimp only
        have hf := hJ
        clear hJ
        refine G.seq ?_
        refine G.cutK (X := (Int × Int)) (ts := [0, 8, 9, 10, 11]) (p := [blk q _ _]) (fun f2 => f2 = numF2 f g s.a low) (fun f2 => []) (fun f2 => [blk q 39 [.int .i64 f2.1, .int .i64 f2.2]]) (.cons rfl (.cons rfl (.cons rfl (.cons rfl (.cons rfl .nil))))) (by repeat (first | exact Sub.nil | (apply Sub.cons; (repeat (first | with_reducible exact Sel.here | exact Sel.here | apply Sel.there))))) Ap.nil (.cons .nil) ?_ ?_
        · refine G.seq ?_
          refine G.region ?_
          refine G.op rfl (G.val rfl rfl (pv_fieldAddrK (sz := 0) (k := 0) Try.underlying39 rfl (by kernel_rfl) rfl rfl) ?_)
          refine G.op rfl (G.val rfl rfl (pv_load Try.underlying29 rfl rfl (by first | exact blk_cell (by (repeat (first | with_reducible exact Sel.here | exact Sel.here | apply Sel.there)); done) (by rfl) | exact rng_cell (by (repeat (first | with_reducible exact Sel.here | exact Sel.here | apply Sel.there)); done) (by rfl) | exact ro_blk (by assumption) (by rfl) | exact ro_rngC (by assumption) (by rfl) | exact ro_int (by assumption) | exact ro_byte (by assumption) | exact ro_str (by assumption) | assumption)) ?_)
          refine G.op rfl (G.val rfl rfl (pv_eql rfl rfl) ?_)
          refine G.op rfl (G.val rfl rfl (pv_move rfl) ?_)
          refine G.partP (t := 48) rfl (fun h48 => ?_) (fun h48 => ?_)
          · refine G.want rfl rfl rfl (G.val rfl rfl (pv_move rfl) ?_)
            refine G.want rfl rfl rfl (G.val rfl rfl (pv_move rfl) ?_)
            refine G.want rfl rfl rfl (G.val rfl rfl (pv_lss rfl rfl) ?_)
            refine G.op rfl (G.val rfl rfl (pv_pick rfl rfl) ?_)
            refine G.nil ?_
            refine G.nThen ?_
            refine G.condP rfl (fun h52 => ?_) (fun h52 => ?_)
            · refine G.region ?_
              refine G.op rfl (G.val rfl rfl (pv_move rfl) ?_)
              refine G.op rfl (G.val rfl rfl (pv_nilCheck rfl) ?_)
              refine G.op rfl (G.val rfl rfl (pv_fieldAddrK (sz := 0) (k := 1) Try.underlying87 rfl (by kernel_rfl) rfl rfl) ?_)
              refine G.op rfl (G.val rfl rfl (pv_load Try.underlying3 rfl rfl (by first | exact blk_cell (by (repeat (first | with_reducible exact Sel.here | exact Sel.here | apply Sel.there)); done) (by rfl) | exact rng_cell (by (repeat (first | with_reducible exact Sel.here | exact Sel.here | apply Sel.there)); done) (by rfl) | exact ro_blk (by assumption) (by rfl) | exact ro_rngC (by assumption) (by rfl) | exact ro_int (by assumption) | exact ro_byte (by assumption) | exact ro_str (by assumption) | assumption)) ?_)
              refine G.op rfl (G.val rfl rfl (pv_buildSt (z := [.int .i64 0, .int .i64 0]) (pl := [(0, 1), (1, 1)]) Try.underlying39 (by kernel_rfl) (by kernel_rfl) rfl (by repeat (first | exact Fl.nil | (apply Fl.cons; exact rfl; (first | exact cells_of (by first | rfl | assumption) | exact rfl); exact rfl; exact rfl; repeat (first | exact Sn.nil | (apply Sn.cons; repeat (first | exact St.zero | apply St.succ))))))) ?_)
              refine G.op rfl (G.storeN (by kernel_rfl) rfl rfl (by first | rfl | exact List.all_eq_true.2 (vByte_one _) | (repeat (first | exact all1_nil | (apply all1_cons; first | rfl | assumption)))) (by repeat (first | with_reducible exact Sel.here | exact Sel.here | apply Sel.there)) (by first | (simp; done) | exact Nat.le_of_ble_eq_true rfl) ?_)
              refine G.nil ?_
              exact G.meet ((5, (s.a : Int))) (by first | exact trivial | ((try dsimp only); exact (if_pos (by omega)).symm)) (.cons rfl (.cons rfl (.cons rfl (.cons rfl (.cons rfl .nil))))) (by repeat (first | exact Sub.nil | (apply Sub.cons; (repeat (first | with_reducible exact Sel.here | exact Sel.here | apply Sel.there)))))
            · refine G.skip ?_
              exact G.meet (f) (by first | exact trivial | ((try dsimp only); exact (if_neg (by omega)).symm)) (.cons rfl (.cons rfl (.cons rfl (.cons rfl (.cons rfl .nil))))) (by repeat (first | exact Sub.nil | (apply Sub.cons; (repeat (first | with_reducible exact Sel.here | exact Sel.here | apply Sel.there)))))
          · refine G.pass rfl rfl rfl rfl rfl rfl ?_
            refine G.pass rfl rfl rfl rfl rfl rfl ?_
            refine G.pass rfl rfl rfl rfl rfl rfl ?_
            refine G.op rfl (G.val rfl rfl (pv_pick rfl rfl) ?_)
            refine G.nil ?_
            refine G.nThen ?_
            refine G.condF rfl (rfl) ?_
            refine G.skip ?_
            exact G.meet (f) (by first | exact trivial | ((try dsimp only); exact (if_neg (by omega)).symm)) (.cons rfl (.cons rfl (.cons rfl (.cons rfl (.cons rfl .nil))))) (by repeat (first | exact Sub.nil | (apply Sub.cons; (repeat (first | with_reducible exact Sel.here | exact Sel.here | apply Sel.there)))))
        · intro f2 hJ
          try dsimp only at hJ
          try dsimp only
          rw [hf] at hJ
          refine G.seq ?_
          refine G.seq ?_
          refine G.region ?_
          refine G.op rfl (G.val rfl rfl (pv_fieldAddrK (sz := 0) (k := 0) Try.underlying39 rfl (by kernel_rfl) rfl rfl) ?_)
          refine G.op rfl (G.val rfl rfl (pv_load Try.underlying29 rfl rfl (by first | exact blk_cell (by (repeat (first | with_reducible exact Sel.here | exact Sel.here | apply Sel.there)); done) (by rfl) | exact rng_cell (by (repeat (first | with_reducible exact Sel.here | exact Sel.here | apply Sel.there)); done) (by rfl) | exact ro_blk (by assumption) (by rfl) | exact ro_rngC (by assumption) (by rfl) | exact ro_int (by assumption) | exact ro_byte (by assumption) | exact ro_str (by assumption) | assumption)) ?_)
          refine G.op rfl (G.val rfl rfl (pv_neq rfl rfl) ?_)
          refine G.nil ?_
          refine G.nThen ?_
          refine G.condP rfl (fun h60 => ?_) (fun h60 => ?_)
          · have hN := numS_bad (low := low) (high := high) (above := above) hg hs0 ha (by rw [← hJ]; exact h60)
            rw [← hJ] at hN
            rw [hN.1]
            refine G.seq ?_
            refine G.region ?_
            refine G.op rfl (G.val rfl rfl (pv_move rfl) ?_)
            refine G.op rfl (G.val rfl rfl (pv_loadN (cs := [_, _]) Try.underlying39 rfl (by kernel_rfl) rfl (by first | exact blk_range (k := 2) (by (repeat (first | with_reducible exact Sel.here | exact Sel.here | apply Sel.there)); done) (by rfl) | exact rng_range (k := 2) (by (repeat (first | with_reducible exact Sel.here | exact Sel.here | apply Sel.there)); done) (by rfl) | exact ro_range (k := 2) (by assumption) (by rfl) | exact ro_rngR (k := 2) (by assumption) (by rfl))) ?_)
            refine G.op rfl (G.val rfl rfl (pv_nilCheck rfl) ?_)
            refine G.op rfl (G.val rfl rfl (pv_fieldAddrK (sz := 1) (k := 2) Try.underlying87 rfl (by kernel_rfl) rfl rfl) ?_)
            refine G.op rfl (G.storeN (by kernel_rfl) rfl rfl (by first | rfl | exact List.all_eq_true.2 (vByte_one _) | (repeat (first | exact all1_nil | (apply all1_cons; first | rfl | assumption)))) (by repeat (first | with_reducible exact Sel.here | exact Sel.here | apply Sel.there)) (by first | (simp; done) | exact Nat.le_of_ble_eq_true rfl) ?_)
            refine G.nil ?_
            refine G.nThen ?_
            refine G.seq ?_
            refine G.region ?_
            refine G.op rfl (G.val rfl rfl (pv_assign rfl) ?_)
            refine G.nil ?_
            refine G.nThen ?_
            refine G.ret ?_
            refine G.rThen ?_
            obtain ⟨ee, he⟩ : ∃ ee : Nat, f2.1 = (ee : Int) := ⟨f2.1.toNat, by omega⟩
            rw [he]
            simp only [Int.toNat_natCast]
            exact G.doneX1 (()) (by first | exact trivial | ((try dsimp only); exact trivial)) rfl rfl rfl (by repeat (first | exact Sub.nil | (apply Sub.cons; (repeat (first | with_reducible exact Sel.here | exact Sel.here | apply Sel.there)))))
          · have hN := numS_good (low := low) (high := high) (above := above) hg hs0 (hs.2 hs0) ha (by rw [← hJ]; omega)
            rw [hN]
            refine G.skip ?_
            refine G.nThen ?_
            refine G.seq ?_
            refine G.region ?_
            refine G.op rfl (G.val rfl rfl (pv_move rfl) ?_)
            refine G.op rfl (G.val rfl rfl (pv_move rfl) ?_)
            refine G.op rfl (G.val rfl rfl (pv_nilCheck rfl) ?_)
            refine G.op rfl (G.val rfl rfl (pv_fieldAddrK (sz := 0) (k := 1) Try.underlying87 rfl (by kernel_rfl) rfl rfl) ?_)
            refine G.op rfl (G.store (by kernel_rfl) rfl rfl (by first | rfl | assumption) (by repeat (first | with_reducible exact Sel.here | exact Sel.here | apply Sel.there)) (by first | (simp; done) | exact Nat.le_of_ble_eq_true rfl) ?_)
            refine G.nil ?_
            refine G.nThen ?_
            refine G.seq ?_
            refine G.region ?_
            refine G.op rfl (G.val rfl rfl (pv_move rfl) ?_)
            refine G.op rfl (G.val rfl rfl (pv_assign rfl) ?_)
            refine G.nil ?_
            refine G.nThen ?_
            refine G.ret ?_
            exact G.doneX1 (()) (by first | exact trivial | ((try dsimp only); exact trivial)) rfl rfl (by first | rfl | exact int_eq (by omega) | (simp; done)) (by repeat (first | exact Sub.nil | (apply Sub.cons; (repeat (first | with_reducible exact Sel.here | exact Sel.here | apply Sel.there)))))
set_option maxRecDepth 20000 in

theorem someR (D : Nat) (v : Value) (b : List UInt8) (s : Rs) (n a0 : Nat) (hn : n ≤ 9000000000) (hs : okS b s) (hb : b.length ≤ 1000000000) {Pu : Nat → Prop} : Tr Try.prog 74 #[.pointer (some ⟨D, 0, none⟩), .int .i64 (n : Int), .int .i64 (a0 : Int)] [slc rByte Pu v b] [blk D 87 [v, .int .i64 (s.a : Int), .int .i64 (s.e : Int), .int .i64 s.p]]
    (TX (fun _ : Value => True) (fun x => x) (fun x => [blk D 87 [v, .int .i64 ((someS b n a0 s).2.a : Int), .int .i64 ((someS b n a0 s).2.e : Int), .int .i64 (someS b n a0 s).2.p], own 5 1 x (someS b n a0 s).1.length ((someS b n a0 s).1.map vByte)])) := by
  refine Tr.of (l := [(0, .pointer (some ⟨D, 0, none⟩)), (1, .int .i64 (n : Int)), (2, .int .i64 (a0 : Int))]) Try.func74 rfl (n := 66) rfl (.cons rfl (.cons rfl (.cons rfl .nil))) (fun w0 hro => ?_)
  have hv := ro1 hro
  have hv' := hv
  obtain ⟨ad, cap, bb, off, rfl, hcap, hmax, -⟩ := Ro.open hv'
  have hsl := hs.1
  refine G.seq ?_
  refine G.region ?_
  refine G.op rfl (G.val rfl rfl (pv_assign rfl) ?_)
  refine G.nil ?_
  refine G.nThen ?_
  refine G.seq ?_
  refine G.seq ?_
  refine G.region ?_
  refine G.op rfl (G.val rfl rfl (pv_move rfl) ?_)
  refine G.op rfl (G.val rfl rfl (pv_nilCheck rfl) ?_)
  refine G.op rfl (G.val rfl rfl (pv_fieldAddrK (sz := 1) (k := 2) Try.underlying87 rfl (by kernel_rfl) rfl rfl) ?_)
  refine G.op rfl (G.val rfl rfl (pv_fieldAddrK (sz := 0) (k := 0) Try.underlying39 rfl (by kernel_rfl) rfl rfl) ?_)
  refine G.op rfl (G.val rfl rfl (pv_load Try.underlying29 rfl rfl (by first | exact blk_cell (by (repeat (first | with_reducible exact Sel.here | exact Sel.here | apply Sel.there)); done) (by rfl) | exact rng_cell (by (repeat (first | with_reducible exact Sel.here | exact Sel.here | apply Sel.there)); done) (by rfl) | exact ro_blk (by assumption) (by rfl) | exact ro_rngC (by assumption) (by rfl) | exact ro_int (by assumption) | exact ro_byte (by assumption) | exact ro_str (by assumption) | assumption)) ?_)
  refine G.op rfl (G.val rfl rfl (pv_neq rfl rfl) ?_)
  refine G.nil ?_
  refine G.nThen ?_
  refine G.condP rfl (fun h13 => ?_) (fun h13 => ?_)
  · have e1 : someS b n a0 s = ([], s) := if_neg (by omega)
    rw [e1]
    refine G.seq ?_
    refine G.region ?_
    refine G.op rfl (G.val rfl rfl (pv_assign rfl) ?_)
    refine G.nil ?_
    refine G.nThen ?_
    refine G.ret ?_
    refine G.rThen ?_
    refine G.ownNil 5 1 ?_
    exact G.doneX1 (.slice none 0 0) (by first | exact trivial | ((try dsimp only); exact trivial)) rfl rfl (by first | rfl | exact int_eq (by omega) | (simp; done)) (by repeat (first | exact Sub.nil | (apply Sub.cons; (repeat (first | with_reducible exact Sel.here | exact Sel.here | apply Sel.there)))))
  · have hs0 : s.e = 0 := by omega
    refine G.skip ?_
    refine G.nThen ?_
    refine G.seq ?_
    refine G.seq ?_
    refine G.drawT (nn := 12) (p := []) (rem := 4095) [0, 1, 2, 4, 8, 0, 32, 64, 128, 272, 0, 1536] [0, 1, 2, 4, 8, 0, 32, 64, 128, 272, 0, 1536] (by kernel_rfl) ⟨rfl, by kernel_rfl, by kernel_rfl⟩ (by repeat (first | exact Sub.nil | (apply Sub.cons; (repeat (first | with_reducible exact Sel.here | exact Sel.here | apply Sel.there))))) (by kernel_rfl) (fun hT3 => ?_)
    refine G.takeT hT3 (i := 0) (rem' := 4094) rfl rfl rfl (by kernel_rfl) (fun _ _ _ h => h) rfl (pv_move rfl) (by repeat (first | exact Sub.nil | (apply Sub.cons; (repeat (first | with_reducible exact Sel.here | exact Sel.here | apply Sel.there))))) ?_
    refine G.takeT hT3 (i := 1) (rem' := 4092) rfl rfl rfl (by kernel_rfl) (fun _ _ _ h => h) rfl (pv_nilCheck rfl) (by repeat (first | exact Sub.nil | (apply Sub.cons; (repeat (first | with_reducible exact Sel.here | exact Sel.here | apply Sel.there))))) ?_
    refine G.takeT hT3 (i := 2) (rem' := 4088) rfl rfl rfl (by kernel_rfl) (fun _ _ _ h => h) rfl (pv_fieldAddrK (sz := 0) (k := 0) Try.underlying87 rfl (by kernel_rfl) rfl rfl) (by repeat (first | exact Sub.nil | (apply Sub.cons; (repeat (first | with_reducible exact Sel.here | exact Sel.here | apply Sel.there))))) ?_
    refine G.takeT hT3 (i := 5) (rem' := 4056) rfl rfl rfl (by kernel_rfl) (fun _ _ _ h => h) rfl (pv_move rfl) (by repeat (first | exact Sub.nil | (apply Sub.cons; (repeat (first | with_reducible exact Sel.here | exact Sel.here | apply Sel.there))))) ?_
    refine G.takeT hT3 (i := 6) (rem' := 3992) rfl rfl rfl (by kernel_rfl) (fun _ _ _ h => h) rfl (pv_nilCheck rfl) (by repeat (first | exact Sub.nil | (apply Sub.cons; (repeat (first | with_reducible exact Sel.here | exact Sel.here | apply Sel.there))))) ?_
    refine G.takeT hT3 (i := 7) (rem' := 3864) rfl rfl rfl (by kernel_rfl) (fun _ _ _ h => h) rfl (pv_fieldAddrK (sz := 0) (k := 1) Try.underlying87 rfl (by kernel_rfl) rfl rfl) (by repeat (first | exact Sub.nil | (apply Sub.cons; (repeat (first | with_reducible exact Sel.here | exact Sel.here | apply Sel.there))))) ?_
    refine G.takeT hT3 (i := 10) (rem' := 2840) rfl rfl rfl (by kernel_rfl) (fun _ _ _ h => h) rfl (pv_move rfl) (by repeat (first | exact Sub.nil | (apply Sub.cons; (repeat (first | with_reducible exact Sel.here | exact Sel.here | apply Sel.there))))) ?_
    refine G.takeT hT3 (i := 3) (rem' := 2832) rfl rfl rfl (by kernel_rfl) (fun _ _ _ h => h) rfl (pv_load Try.underlying24 rfl rfl (by first | exact blk_cell (by (repeat (first | with_reducible exact Sel.here | exact Sel.here | apply Sel.there)); done) (by rfl) | exact rng_cell (by (repeat (first | with_reducible exact Sel.here | exact Sel.here | apply Sel.there)); done) (by rfl) | exact ro_blk (by assumption) (by rfl) | exact ro_rngC (by assumption) (by rfl) | exact ro_int (by assumption) | exact ro_byte (by assumption) | exact ro_str (by assumption) | assumption)) (by repeat (first | exact Sub.nil | (apply Sub.cons; (repeat (first | with_reducible exact Sel.here | exact Sel.here | apply Sel.there))))) ?_
    refine G.takeT hT3 (i := 4) (rem' := 2816) rfl rfl rfl (by kernel_rfl) (fun _ _ _ h => h) rfl (pv_lenSl Try.underlying24 rfl) (by repeat (first | exact Sub.nil | (apply Sub.cons; (repeat (first | with_reducible exact Sel.here | exact Sel.here | apply Sel.there))))) ?_
    refine G.oneT hT3 (i := 8) (rem' := 2560) (by kernel_rfl) (by kernel_rfl) ?_
    refine G.turnOp rfl rfl (G.val rfl rfl (pv_load Try.underlying3 rfl rfl (by first | exact blk_cell (by (repeat (first | with_reducible exact Sel.here | exact Sel.here | apply Sel.there)); done) (by rfl) | exact rng_cell (by (repeat (first | with_reducible exact Sel.here | exact Sel.here | apply Sel.there)); done) (by rfl) | exact ro_blk (by assumption) (by rfl) | exact ro_rngC (by assumption) (by rfl) | exact ro_int (by assumption) | exact ro_byte (by assumption) | exact ro_str (by assumption) | assumption)) ?_)
    refine G.back (by repeat (first | exact Sub.nil | (apply Sub.cons; (repeat (first | with_reducible exact Sel.here | exact Sel.here | apply Sel.there))))) ?_
    refine G.takeT hT3 (i := 9) (rem' := 2048) rfl rfl rfl (by kernel_rfl) (fun _ _ _ h => h) rfl (pv_sub64 rfl rfl (by omega)) (by repeat (first | exact Sub.nil | (apply Sub.cons; (repeat (first | with_reducible exact Sel.here | exact Sel.here | apply Sel.there))))) ?_
    refine G.takeT hT3 (i := 11) (rem' := 0) rfl rfl rfl (by kernel_rfl) (fun _ _ _ h => h) rfl (pv_lss rfl rfl) (by repeat (first | exact Sub.nil | (apply Sub.cons; (repeat (first | with_reducible exact Sel.here | exact Sel.here | apply Sel.there))))) ?_
    refine G.overT hT3 (by kernel_rfl) ?_
    refine G.nThen ?_
    refine G.condP rfl (fun h25 => ?_) (fun h25 => ?_)
    · have e1 : someS b n a0 s = ([], ⟨a0, 4, b.length⟩) := (if_pos hs0).trans (if_pos (by omega))
      rw [e1]
      refine G.seq ?_
      refine G.region ?_
      refine G.op rfl (G.val rfl rfl (pv_move rfl) ?_)
      refine G.op rfl (G.val rfl rfl (pv_move rfl) ?_)
      refine G.op rfl (G.val rfl rfl (pv_nilCheck rfl) ?_)
      refine G.op rfl (G.val rfl rfl (pv_fieldAddrK (sz := 0) (k := 0) Try.underlying87 rfl (by kernel_rfl) rfl rfl) ?_)
      refine G.op rfl (G.val rfl rfl (pv_load Try.underlying24 rfl rfl (by first | exact blk_cell (by (repeat (first | with_reducible exact Sel.here | exact Sel.here | apply Sel.there)); done) (by rfl) | exact rng_cell (by (repeat (first | with_reducible exact Sel.here | exact Sel.here | apply Sel.there)); done) (by rfl) | exact ro_blk (by assumption) (by rfl) | exact ro_rngC (by assumption) (by rfl) | exact ro_int (by assumption) | exact ro_byte (by assumption) | exact ro_str (by assumption) | assumption)) ?_)
      refine G.op rfl (G.val rfl rfl (pv_lenSl Try.underlying24 rfl) ?_)
      refine G.op rfl (G.val rfl rfl (pv_buildSt (z := [.int .i64 0, .int .i64 0]) (pl := [(0, 1), (1, 1)]) Try.underlying39 (by kernel_rfl) (by kernel_rfl) rfl (by repeat (first | exact Fl.nil | (apply Fl.cons; exact rfl; (first | exact cells_of (by first | rfl | assumption) | exact rfl); exact rfl; exact rfl; repeat (first | exact Sn.nil | (apply Sn.cons; repeat (first | exact St.zero | apply St.succ))))))) ?_)
      refine G.op rfl (G.val rfl rfl (pv_nilCheck rfl) ?_)
      refine G.op rfl (G.val rfl rfl (pv_fieldAddrK (sz := 1) (k := 2) Try.underlying87 rfl (by kernel_rfl) rfl rfl) ?_)
      refine G.op rfl (G.storeN (by kernel_rfl) rfl rfl (by first | rfl | exact List.all_eq_true.2 (vByte_one _) | (repeat (first | exact all1_nil | (apply all1_cons; first | rfl | assumption)))) (by repeat (first | with_reducible exact Sel.here | exact Sel.here | apply Sel.there)) (by first | (simp; done) | exact Nat.le_of_ble_eq_true rfl) ?_)
      refine G.nil ?_
      refine G.nThen ?_
      refine G.seq ?_
      refine G.region ?_
      refine G.op rfl (G.val rfl rfl (pv_move rfl) ?_)
      refine G.op rfl (G.val rfl rfl (pv_move rfl) ?_)
      refine G.op rfl (G.val rfl rfl (pv_nilCheck rfl) ?_)
      refine G.op rfl (G.val rfl rfl (pv_fieldAddrK (sz := 0) (k := 1) Try.underlying87 rfl (by kernel_rfl) rfl rfl) ?_)
      refine G.op rfl (G.store (by kernel_rfl) rfl rfl (by first | rfl | assumption) (by repeat (first | with_reducible exact Sel.here | exact Sel.here | apply Sel.there)) (by first | (simp; done) | exact Nat.le_of_ble_eq_true rfl) ?_)
      refine G.nil ?_
      refine G.nThen ?_
      refine G.seq ?_
      refine G.region ?_
      refine G.op rfl (G.val rfl rfl (pv_assign rfl) ?_)
      refine G.nil ?_
      refine G.nThen ?_
      refine G.ret ?_
      refine G.rThen ?_
      refine G.ownNil 5 1 ?_
      exact G.doneX1 (.slice none 0 0) (by first | exact trivial | ((try dsimp only); exact trivial)) rfl rfl (by first | rfl | exact int_eq (by omega) | (simp; done)) (by repeat (first | exact Sub.nil | (apply Sub.cons; (repeat (first | with_reducible exact Sel.here | exact Sel.here | apply Sel.there)))))
    · have hle : s.a + n ≤ b.length := by omega
      have e1 : someS b n a0 s = (subB b s.a n, ⟨s.a + n, s.e, s.p⟩) := (if_pos hs0).trans (if_neg (by omega))
      rw [e1]
      refine G.skip ?_
      refine G.nThen ?_
      refine G.seq ?_
      refine G.drawT (nn := 18) (p := []) (rem := 262143) [0, 0, 2, 4, 8, 0, 32, 64, 128, 0, 512, 1024, 2048, 0, 12288, 16656, 32769, 131071] [0, 0, 2, 4, 8, 0, 32, 64, 128, 0, 512, 1024, 2048, 0, 12288, 16656, 32769, 65536] (by kernel_rfl) ⟨rfl, by kernel_rfl, by kernel_rfl⟩ (by repeat (first | exact Sub.nil | (apply Sub.cons; (repeat (first | with_reducible exact Sel.here | exact Sel.here | apply Sel.there))))) (by kernel_rfl) (fun hT7 => ?_)
      refine G.takeT hT7 (i := 1) (rem' := 262141) rfl rfl rfl (by kernel_rfl) (fun _ _ _ h => h) rfl (pv_move rfl) (by repeat (first | exact Sub.nil | (apply Sub.cons; (repeat (first | with_reducible exact Sel.here | exact Sel.here | apply Sel.there))))) ?_
      refine G.takeT hT7 (i := 2) (rem' := 262137) rfl rfl rfl (by kernel_rfl) (fun _ _ _ h => h) rfl (pv_nilCheck rfl) (by repeat (first | exact Sub.nil | (apply Sub.cons; (repeat (first | with_reducible exact Sel.here | exact Sel.here | apply Sel.there))))) ?_
      refine G.takeT hT7 (i := 3) (rem' := 262129) rfl rfl rfl (by kernel_rfl) (fun _ _ _ h => h) rfl (pv_fieldAddrK (sz := 0) (k := 0) Try.underlying87 rfl (by kernel_rfl) rfl rfl) (by repeat (first | exact Sub.nil | (apply Sub.cons; (repeat (first | with_reducible exact Sel.here | exact Sel.here | apply Sel.there))))) ?_
      refine G.takeT hT7 (i := 5) (rem' := 262097) rfl rfl rfl (by kernel_rfl) (fun _ _ _ h => h) rfl (pv_move rfl) (by repeat (first | exact Sub.nil | (apply Sub.cons; (repeat (first | with_reducible exact Sel.here | exact Sel.here | apply Sel.there))))) ?_
      refine G.takeT hT7 (i := 6) (rem' := 262033) rfl rfl rfl (by kernel_rfl) (fun _ _ _ h => h) rfl (pv_nilCheck rfl) (by repeat (first | exact Sub.nil | (apply Sub.cons; (repeat (first | with_reducible exact Sel.here | exact Sel.here | apply Sel.there))))) ?_
      refine G.takeT hT7 (i := 7) (rem' := 261905) rfl rfl rfl (by kernel_rfl) (fun _ _ _ h => h) rfl (pv_fieldAddrK (sz := 0) (k := 1) Try.underlying87 rfl (by kernel_rfl) rfl rfl) (by repeat (first | exact Sub.nil | (apply Sub.cons; (repeat (first | with_reducible exact Sel.here | exact Sel.here | apply Sel.there))))) ?_
      refine G.takeT hT7 (i := 9) (rem' := 261393) rfl rfl rfl (by kernel_rfl) (fun _ _ _ h => h) rfl (pv_move rfl) (by repeat (first | exact Sub.nil | (apply Sub.cons; (repeat (first | with_reducible exact Sel.here | exact Sel.here | apply Sel.there))))) ?_
      refine G.takeT hT7 (i := 10) (rem' := 260369) rfl rfl rfl (by kernel_rfl) (fun _ _ _ h => h) rfl (pv_nilCheck rfl) (by repeat (first | exact Sub.nil | (apply Sub.cons; (repeat (first | with_reducible exact Sel.here | exact Sel.here | apply Sel.there))))) ?_
      refine G.takeT hT7 (i := 11) (rem' := 258321) rfl rfl rfl (by kernel_rfl) (fun _ _ _ h => h) rfl (pv_fieldAddrK (sz := 0) (k := 1) Try.underlying87 rfl (by kernel_rfl) rfl rfl) (by repeat (first | exact Sub.nil | (apply Sub.cons; (repeat (first | with_reducible exact Sel.here | exact Sel.here | apply Sel.there))))) ?_
      refine G.takeT hT7 (i := 13) (rem' := 250129) rfl rfl rfl (by kernel_rfl) (fun _ _ _ h => h) rfl (pv_move rfl) (by repeat (first | exact Sub.nil | (apply Sub.cons; (repeat (first | with_reducible exact Sel.here | exact Sel.here | apply Sel.there))))) ?_
      refine G.takeT hT7 (i := 4) (rem' := 250113) rfl rfl rfl (by kernel_rfl) (fun _ _ _ h => h) rfl (pv_load Try.underlying24 rfl rfl (by first | exact blk_cell (by (repeat (first | with_reducible exact Sel.here | exact Sel.here | apply Sel.there)); done) (by rfl) | exact rng_cell (by (repeat (first | with_reducible exact Sel.here | exact Sel.here | apply Sel.there)); done) (by rfl) | exact ro_blk (by assumption) (by rfl) | exact ro_rngC (by assumption) (by rfl) | exact ro_int (by assumption) | exact ro_byte (by assumption) | exact ro_str (by assumption) | assumption)) (by repeat (first | exact Sub.nil | (apply Sub.cons; (repeat (first | with_reducible exact Sel.here | exact Sel.here | apply Sel.there))))) ?_
      refine G.takeT hT7 (i := 8) (rem' := 249857) rfl rfl rfl (by kernel_rfl) (fun _ _ _ h => h) rfl (pv_load Try.underlying3 rfl rfl (by first | exact blk_cell (by (repeat (first | with_reducible exact Sel.here | exact Sel.here | apply Sel.there)); done) (by rfl) | exact rng_cell (by (repeat (first | with_reducible exact Sel.here | exact Sel.here | apply Sel.there)); done) (by rfl) | exact ro_blk (by assumption) (by rfl) | exact ro_rngC (by assumption) (by rfl) | exact ro_int (by assumption) | exact ro_byte (by assumption) | exact ro_str (by assumption) | assumption)) (by repeat (first | exact Sub.nil | (apply Sub.cons; (repeat (first | with_reducible exact Sel.here | exact Sel.here | apply Sel.there))))) ?_
      refine G.takeT hT7 (i := 12) (rem' := 245761) rfl rfl rfl (by kernel_rfl) (fun _ _ _ h => h) rfl (pv_load Try.underlying3 rfl rfl (by first | exact blk_cell (by (repeat (first | with_reducible exact Sel.here | exact Sel.here | apply Sel.there)); done) (by rfl) | exact rng_cell (by (repeat (first | with_reducible exact Sel.here | exact Sel.here | apply Sel.there)); done) (by rfl) | exact ro_blk (by assumption) (by rfl) | exact ro_rngC (by assumption) (by rfl) | exact ro_int (by assumption) | exact ro_byte (by assumption) | exact ro_str (by assumption) | assumption)) (by repeat (first | exact Sub.nil | (apply Sub.cons; (repeat (first | with_reducible exact Sel.here | exact Sel.here | apply Sel.there))))) ?_
      refine G.takeT hT7 (i := 14) (rem' := 229377) rfl rfl rfl (by kernel_rfl) (fun _ _ _ h => h) rfl ((pv_add64 rfl rfl (by omega)).int (show _ = ((s.a + n : Nat) : Int) by omega)) (by repeat (first | exact Sub.nil | (apply Sub.cons; (repeat (first | with_reducible exact Sel.here | exact Sel.here | apply Sel.there))))) ?_
      refine G.takeT hT7 (i := 15) (rem' := 196609) rfl rfl rfl (by kernel_rfl) (fun _ _ _ h => h) rfl (pv_subLH (sz := 1) Try.underlying24 Try.sizeByte rfl rfl rfl rfl rfl (Nat.le_add_right s.a n) (by omega)) (by repeat (first | exact Sub.nil | (apply Sub.cons; (repeat (first | with_reducible exact Sel.here | exact Sel.here | apply Sel.there))))) ?_
      refine G.oneT hT7 (i := 0) (rem' := 196608) (by kernel_rfl) (by kernel_rfl) ?_
      refine G.turnOp rfl rfl (G.lit0 rfl Try.underlying24 (by kernel_rfl) rfl ?_)
      intro b39
      refine G.ownBlk (b := b39) (k := 0) (sz := 1) (by repeat (first | with_reducible exact Sel.here | exact Sel.here | apply Sel.there)) rfl (by omega) ?_
      refine G.back (by repeat (first | exact Sub.nil | (apply Sub.cons; (repeat (first | with_reducible exact Sel.here | exact Sel.here | apply Sel.there))))) ?_
      refine G.oneT hT7 (i := 16) (rem' := 131072) (by kernel_rfl) (by kernel_rfl) ?_
      refine G.turnOp rfl rfl (G.appendS (k := 0) (cs := []) (xs := subB b s.a n) (f := vByte) (p := fun _ => True) (Ps := Pu) rfl Try.underlying24 Try.infoByte' rfl rfl (by repeat (first | with_reducible exact Sel.here | exact Sel.here | apply Sel.there)) (fun w hw => (ro_sl hv w hw).sub (E := rByte) (Nat.le_add_right s.a n) hle) (vByte_one _) (by rw [subB_length hle]; omega) (by rw [subB_length hle]; omega) ?_)
      intro v'
      rw [Nat.zero_add (subB b s.a n).length, List.nil_append]
      refine G.ownFact (v := v') (by repeat (first | with_reducible exact Sel.here | exact Sel.here | apply Sel.there)) (fun hv1 _ => ?_)
      refine G.back (by repeat (first | exact Sub.nil | (apply Sub.cons; (repeat (first | with_reducible exact Sel.here | exact Sel.here | apply Sel.there))))) ?_
      refine G.takeT hT7 (i := 17) (rem' := 0) rfl rfl rfl (by kernel_rfl) (fun _ _ _ h => h) rfl (pv_assign rfl) (by repeat (first | exact Sub.nil | (apply Sub.cons; (repeat (first | with_reducible exact Sel.here | exact Sel.here | apply Sel.there))))) ?_
      refine G.overT hT7 (by kernel_rfl) ?_
      refine G.nThen ?_
      refine G.seq ?_
      refine G.region ?_
      refine G.op rfl (G.val rfl rfl (pv_move rfl) ?_)
      refine G.op rfl (G.val rfl rfl (pv_move rfl) ?_)
      refine G.op rfl (G.val rfl rfl (pv_nilCheck rfl) ?_)
      refine G.op rfl (G.val rfl rfl (pv_fieldAddrK (sz := 0) (k := 1) Try.underlying87 rfl (by kernel_rfl) rfl rfl) ?_)
      refine G.op rfl (G.val rfl rfl (pv_load Try.underlying3 rfl rfl (by first | exact blk_cell (by (repeat (first | with_reducible exact Sel.here | exact Sel.here | apply Sel.there)); done) (by rfl) | exact rng_cell (by (repeat (first | with_reducible exact Sel.here | exact Sel.here | apply Sel.there)); done) (by rfl) | exact ro_blk (by assumption) (by rfl) | exact ro_rngC (by assumption) (by rfl) | exact ro_int (by assumption) | exact ro_byte (by assumption) | exact ro_str (by assumption) | assumption)) ?_)
      refine G.op rfl (G.val rfl rfl (pv_move rfl) ?_)
      refine G.op rfl (G.val rfl rfl ((pv_add64 rfl rfl (by omega)).int (show _ = ((s.a + n : Nat) : Int) by omega)) ?_)
      refine G.op rfl (G.val rfl rfl (pv_nilCheck rfl) ?_)
      refine G.op rfl (G.val rfl rfl (pv_fieldAddrK (sz := 0) (k := 1) Try.underlying87 rfl (by kernel_rfl) rfl rfl) ?_)
      refine G.op rfl (G.store (by kernel_rfl) rfl rfl (by first | rfl | assumption) (by repeat (first | with_reducible exact Sel.here | exact Sel.here | apply Sel.there)) (by first | (simp; done) | exact Nat.le_of_ble_eq_true rfl) ?_)
      refine G.nil ?_
      refine G.nThen ?_
      refine G.seq ?_
      refine G.region ?_
      refine G.op rfl (G.val rfl rfl (pv_move rfl) ?_)
      refine G.op rfl (G.val rfl rfl (pv_assign rfl) ?_)
      refine G.nil ?_
      refine G.nThen ?_
      refine G.ret ?_
      exact G.doneX1 (v') (by first | exact trivial | ((try dsimp only); exact trivial)) rfl rfl (by first | rfl | exact int_eq (by omega) | (simp; done)) (by repeat (first | exact Sub.nil | (apply Sub.cons; (repeat (first | with_reducible exact Sel.here | exact Sel.here | apply Sel.there)))))
set_option maxRecDepth 20000 in

theorem intR (D : Nat) (v : Value) (b : List UInt8) (s : Rs) (low high : Int) (hs : okS b s) (hb : b.length ≤ 1000000000) {Pu : Nat → Prop} : Tr Try.prog 56 #[.pointer (some ⟨D, 0, none⟩), .int .i64 low, .int .i64 high] [slc rByte Pu v b] [blk D 87 [v, .int .i64 (s.a : Int), .int .i64 (s.e : Int), .int .i64 s.p]]
    (TX (fun _ : Unit => True) (fun _ => .int .i64 ((numS b low high 5 s).1 : Int)) (fun _ => [blk D 87 [v, .int .i64 ((numS b low high 5 s).2.a : Int), .int .i64 ((numS b low high 5 s).2.e : Int), .int .i64 (numS b low high 5 s).2.p]])) := by
  refine Tr.of (l := [(0, .pointer (some ⟨D, 0, none⟩)), (1, .int .i64 low), (2, .int .i64 high)]) Try.func56 rfl (n := 11) rfl (.cons rfl (.cons rfl (.cons rfl .nil))) (fun w0 hro => ?_)
  have hv := ro1 hro
  refine G.seq ?_
  refine G.region ?_
  refine G.op rfl (G.val rfl rfl (pv_assign rfl) ?_)
  refine G.nil ?_
  refine G.nThen ?_
  refine G.seq ?_
  refine G.region ?_
  refine G.op rfl (G.val rfl rfl (pv_move rfl) ?_)
  refine G.op rfl (G.val rfl rfl (pv_move rfl) ?_)
  refine G.op rfl (G.val rfl rfl (pv_move rfl) ?_)
  refine G.op rfl (G.cS rfl rfl rfl rfl Try.func72 rfl rfl (by repeat (first | exact Sub.nil | (apply Sub.cons; (repeat (first | with_reducible exact Sel.here | exact Sel.here | apply Sel.there))))) (may1 (by first | exact .old (by assumption) | exact Sel.may (by (repeat (first | with_reducible exact Sel.here | exact Sel.here | apply Sel.there)); done) | exact may_own (by (repeat (first | with_reducible exact Sel.here | exact Sel.here | apply Sel.there)); done) rfl (fun _ _ => trivial) | exact may_ownB (by (repeat (first | with_reducible exact Sel.here | exact Sel.here | apply Sel.there)); done) | exact may_ownI (by (repeat (first | with_reducible exact Sel.here | exact Sel.here | apply Sel.there)); done) (by assumption) | exact may_ownN (by (repeat (first | with_reducible exact Sel.here | exact Sel.here | apply Sel.there)); done) (by assumption))) (numberR _ _ _ _ _ _ _ (by decide) hs hb) (by repeat (first | exact Ap.nil | apply Ap.cons)) ?_)
  intro x10 hJ
  try dsimp only at hJ
  try dsimp only
  refine G.op rfl (G.val rfl rfl (pv_assign rfl) ?_)
  refine G.nil ?_
  refine G.nThen ?_
  refine G.ret ?_
  exact G.doneX1 (()) (by first | exact trivial | ((try dsimp only); exact trivial)) rfl rfl (by first | rfl | exact int_eq (by omega) | (simp; done)) (by repeat (first | exact Sub.nil | (apply Sub.cons; (repeat (first | with_reducible exact Sel.here | exact Sel.here | apply Sel.there)))))
set_option maxRecDepth 20000 in

theorem countR (D : Nat) (v : Value) (b : List UInt8) (s : Rs) (high : Int) (hs : okS b s) (hb : b.length ≤ 1000000000) {Pu : Nat → Prop} : Tr Try.prog 73 #[.pointer (some ⟨D, 0, none⟩), .int .i64 high] [slc rByte Pu v b] [blk D 87 [v, .int .i64 (s.a : Int), .int .i64 (s.e : Int), .int .i64 s.p]]
    (TX (fun _ : Unit => True) (fun _ => .int .i64 ((numS b 0 high 3 s).1 : Int)) (fun _ => [blk D 87 [v, .int .i64 ((numS b 0 high 3 s).2.a : Int), .int .i64 ((numS b 0 high 3 s).2.e : Int), .int .i64 (numS b 0 high 3 s).2.p]])) := by
  refine Tr.of (l := [(0, .pointer (some ⟨D, 0, none⟩)), (1, .int .i64 high)]) Try.func73 rfl (n := 8) rfl (.cons rfl (.cons rfl .nil)) (fun w0 hro => ?_)
  have hv := ro1 hro
  refine G.seq ?_
  refine G.region ?_
  refine G.op rfl (G.val rfl rfl (pv_assign rfl) ?_)
  refine G.nil ?_
  refine G.nThen ?_
  refine G.seq ?_
  refine G.region ?_
  refine G.op rfl (G.val rfl rfl (pv_move rfl) ?_)
  refine G.op rfl (G.val rfl rfl (pv_move rfl) ?_)
  refine G.op rfl (G.cS rfl rfl rfl rfl Try.func72 rfl rfl (by repeat (first | exact Sub.nil | (apply Sub.cons; (repeat (first | with_reducible exact Sel.here | exact Sel.here | apply Sel.there))))) (may1 (by first | exact .old (by assumption) | exact Sel.may (by (repeat (first | with_reducible exact Sel.here | exact Sel.here | apply Sel.there)); done) | exact may_own (by (repeat (first | with_reducible exact Sel.here | exact Sel.here | apply Sel.there)); done) rfl (fun _ _ => trivial) | exact may_ownB (by (repeat (first | with_reducible exact Sel.here | exact Sel.here | apply Sel.there)); done) | exact may_ownI (by (repeat (first | with_reducible exact Sel.here | exact Sel.here | apply Sel.there)); done) (by assumption) | exact may_ownN (by (repeat (first | with_reducible exact Sel.here | exact Sel.here | apply Sel.there)); done) (by assumption))) (numberR _ _ _ _ _ _ _ (by decide) hs hb) (by repeat (first | exact Ap.nil | apply Ap.cons)) ?_)
  intro x7 hJ
  try dsimp only at hJ
  try dsimp only
  refine G.op rfl (G.val rfl rfl (pv_assign rfl) ?_)
  refine G.nil ?_
  refine G.nThen ?_
  refine G.ret ?_
  exact G.doneX1 (()) (by first | exact trivial | ((try dsimp only); exact trivial)) rfl rfl (by first | rfl | exact int_eq (by omega) | (simp; done)) (by repeat (first | exact Sub.nil | (apply Sub.cons; (repeat (first | with_reducible exact Sel.here | exact Sel.here | apply Sel.there)))))
theorem someS_byt {b : List UInt8} {high : Int} {s : Rs} (hs : okS b s) : someS b (numS b 0 high 3 s).1 s.a (numS b 0 high 3 s).2 = bytS b high s := by
  unfold bytS numS
  by_cases h : s.e = 0
  · rw [if_pos h, if_pos h]
    unfold bytR
    cases hb : bndM b s.a 0 high 3 with
    | bad e q =>
      have he : e ≠ 0 := fun h0 => by subst h0; exact bnd_bad0 (by decide) hb
      show someS b 0 s.a ⟨s.a, e, q⟩ = ([], ⟨s.a, e, q⟩)
      exact if_neg he
    | ok n nx =>
      have hp := hs.2 h
      show someS b n s.a ⟨nx, 0, s.p⟩ = _
      unfold someS
      rw [if_pos rfl]
      by_cases hl : b.length < nx + n
      · rw [if_pos hl]
        simp only [if_pos hl]
        rfl
      · rw [if_neg hl]
        simp only [if_neg hl]
        rfl
  · rw [if_neg h, if_neg h]
    exact if_neg h
theorem numS_small {b : List UInt8} {low high above : Int} {s : Rs} : (numS b low high above s).1 ≤ 2147483647 := by
  unfold numS
  split
  · cases h : bndM b s.a low high above with
    | ok n nx => exact getM_small (bnd_get h).1
    | bad e q => show 0 ≤ _; omega
  · show 0 ≤ _; omega
theorem someS_id {b : List UInt8} {s : Rs} (hl : (someS b 16 s.a s).1.length = 16 ∨ (someS b 16 s.a s).1 = []) : someS b 16 s.a s = (if (idS b s).2.e = s.e ∧ s.e = 0 then (idS b s).1 else [], (idS b s).2) := by
  unfold someS idS
  by_cases h : s.e = 0
  · rw [if_pos h, if_pos h]
    unfold idR outI
    by_cases hl : b.length < s.a + 16
    · rw [if_pos hl, if_pos hl, if_pos hl]
      simp [endB, errN, posN, h]
    · rw [if_neg hl, if_neg hl, if_neg hl]
      simp [endB, errN, posN, h]
  · rw [if_neg h, if_neg h]
    simp [h]
/-- what an ID's cells are while so many bytes have come -/
def idTo (o : List UInt8) (k : Nat) : List Value := (o.take k).map vByte ++ List.replicate (16 - k) (.int .u8 0)
theorem idTo_len {o : List UInt8} {k : Nat} (hk : k ≤ o.length) (ho : o.length ≤ 16) : (idTo o k).length = 16 := by unfold idTo; simp; omega
theorem idTo_set {o : List UInt8} {k : Nat} (hk : k < o.length) (ho : o.length ≤ 16) : (idTo o k).set k (.int .u8 (o[k].toNat : Int)) = idTo o (k + 1) := by
  unfold idTo
  have e1 : ((o.take k).map vByte).length = k := by simp; omega
  rw [show 16 - k = (16 - (k + 1)) + 1 by omega, List.replicate_succ, List.set_append_right _ _ (by omega), e1, Nat.sub_self, List.set_cons_zero, List.take_succ_eq_append_getElem hk, List.map_append, List.append_assoc]
  rfl
theorem someS_len {b : List UInt8} {s : Rs} : (someS b 16 s.a s).1.length ≤ 16 := by
  unfold someS
  split
  · split
    · exact Nat.zero_le _
    · have := subB_length (b := b) (a := s.a) (n := 16) (by omega); show (subB b s.a 16).length ≤ 16; omega
  · exact Nat.zero_le _
theorem idTo_end {b : List UInt8} {s : Rs} : idTo (someS b 16 s.a s).1 (someS b 16 s.a s).1.length = (idS b s).1.map vByte ∧ (someS b 16 s.a s).2 = (idS b s).2 := by
  unfold someS idS
  by_cases h : s.e = 0
  · rw [if_pos h, if_pos h]
    unfold idR outI
    by_cases hl : b.length < s.a + 16
    · rw [if_pos hl, if_pos hl, if_pos hl]
      exact ⟨rfl, rfl⟩
    · rw [if_neg hl, if_neg hl, if_neg hl]
      have := subB_length (b := b) (a := s.a) (n := 16) (by omega)
      refine ⟨?_, by simp [endB, errN, posN, h]⟩
      show idTo (subB b s.a 16) (subB b s.a 16).length = (subB b s.a 16).map vByte
      unfold idTo
      rw [this, List.take_of_length_le (by omega)]
      simp
  · rw [if_neg h, if_neg h]
    exact ⟨rfl, rfl⟩
set_option maxRecDepth 20000 in

theorem bytesR (D : Nat) (v : Value) (b : List UInt8) (s : Rs) (high : Int) (hs : okS b s) (hb : b.length ≤ 1000000000) {Pu : Nat → Prop} : Tr Try.prog 59 #[.pointer (some ⟨D, 0, none⟩), .int .i64 high] [slc rByte Pu v b] [blk D 87 [v, .int .i64 (s.a : Int), .int .i64 (s.e : Int), .int .i64 s.p]]
    (TX (fun _ : Value => True) (fun x => x) (fun x => [blk D 87 [v, .int .i64 ((bytS b high s).2.a : Int), .int .i64 ((bytS b high s).2.e : Int), .int .i64 (bytS b high s).2.p], own 5 1 x (bytS b high s).1.length ((bytS b high s).1.map vByte)])) := by
  refine Tr.of (l := [(0, .pointer (some ⟨D, 0, none⟩)), (1, .int .i64 high)]) Try.func59 rfl (n := 18) rfl (.cons rfl (.cons rfl .nil)) (fun w0 hro => ?_)
  have hv := ro1 hro
  have hsm := numS_small (b := b) (low := 0) (high := high) (above := 3) (s := s)
  refine G.seq ?_
  refine G.region ?_
  refine G.op rfl (G.val rfl rfl (pv_assign rfl) ?_)
  refine G.nil ?_
  refine G.nThen ?_
  refine G.seq ?_
  refine G.region ?_
  refine G.op rfl (G.val rfl rfl (pv_move rfl) ?_)
  refine G.op rfl (G.val rfl rfl (pv_nilCheck rfl) ?_)
  refine G.op rfl (G.val rfl rfl (pv_fieldAddrK (sz := 0) (k := 1) Try.underlying87 rfl (by kernel_rfl) rfl rfl) ?_)
  refine G.op rfl (G.val rfl rfl (pv_load Try.underlying3 rfl rfl (by first | exact blk_cell (by (repeat (first | with_reducible exact Sel.here | exact Sel.here | apply Sel.there)); done) (by rfl) | exact rng_cell (by (repeat (first | with_reducible exact Sel.here | exact Sel.here | apply Sel.there)); done) (by rfl) | exact ro_blk (by assumption) (by rfl) | exact ro_rngC (by assumption) (by rfl) | exact ro_int (by assumption) | exact ro_byte (by assumption) | exact ro_str (by assumption) | assumption)) ?_)
  refine G.op rfl (G.val rfl rfl (pv_assign rfl) ?_)
  refine G.nil ?_
  refine G.nThen ?_
  refine G.seq ?_
  refine G.region ?_
  refine G.op rfl (G.val rfl rfl (pv_move rfl) ?_)
  refine G.op rfl (G.val rfl rfl (pv_move rfl) ?_)
  refine G.op rfl (G.cS rfl rfl rfl rfl Try.func73 rfl rfl (by repeat (first | exact Sub.nil | (apply Sub.cons; (repeat (first | with_reducible exact Sel.here | exact Sel.here | apply Sel.there))))) (may1 (by first | exact .old (by assumption) | exact Sel.may (by (repeat (first | with_reducible exact Sel.here | exact Sel.here | apply Sel.there)); done) | exact may_own (by (repeat (first | with_reducible exact Sel.here | exact Sel.here | apply Sel.there)); done) rfl (fun _ _ => trivial) | exact may_ownB (by (repeat (first | with_reducible exact Sel.here | exact Sel.here | apply Sel.there)); done) | exact may_ownI (by (repeat (first | with_reducible exact Sel.here | exact Sel.here | apply Sel.there)); done) (by assumption) | exact may_ownN (by (repeat (first | with_reducible exact Sel.here | exact Sel.here | apply Sel.there)); done) (by assumption))) (countR _ _ _ _ _ hs hb) (by repeat (first | exact Ap.nil | apply Ap.cons)) ?_)
  intro x13 hJ
  try dsimp only at hJ
  try dsimp only
  refine G.op rfl (G.val rfl rfl (pv_assign rfl) ?_)
  refine G.nil ?_
  refine G.nThen ?_
  refine G.seq ?_
  refine G.region ?_
  refine G.op rfl (G.val rfl rfl (pv_move rfl) ?_)
  refine G.op rfl (G.val rfl rfl (pv_move rfl) ?_)
  refine G.op rfl (G.val rfl rfl (pv_move rfl) ?_)
  refine G.op rfl (G.cS rfl rfl rfl rfl Try.func74 rfl rfl (by repeat (first | exact Sub.nil | (apply Sub.cons; (repeat (first | with_reducible exact Sel.here | exact Sel.here | apply Sel.there))))) (may1 (by first | exact .old (by assumption) | exact Sel.may (by (repeat (first | with_reducible exact Sel.here | exact Sel.here | apply Sel.there)); done) | exact may_own (by (repeat (first | with_reducible exact Sel.here | exact Sel.here | apply Sel.there)); done) rfl (fun _ _ => trivial) | exact may_ownB (by (repeat (first | with_reducible exact Sel.here | exact Sel.here | apply Sel.there)); done) | exact may_ownI (by (repeat (first | with_reducible exact Sel.here | exact Sel.here | apply Sel.there)); done) (by assumption) | exact may_ownN (by (repeat (first | with_reducible exact Sel.here | exact Sel.here | apply Sel.there)); done) (by assumption))) (someR _ _ _ _ _ _ (by omega) (numS_ok hs (by decide)) hb) (by repeat (first | exact Ap.nil | apply Ap.cons)) ?_)
  intro x17 hJ
  try dsimp only at hJ
  try dsimp only
  rw [someS_byt hs]
  refine G.op rfl (G.val rfl rfl (pv_assign rfl) ?_)
  refine G.nil ?_
  refine G.nThen ?_
  refine G.ret ?_
  exact G.doneX1 (x17) (by first | exact trivial | ((try dsimp only); exact trivial)) rfl rfl (by first | rfl | exact int_eq (by omega) | (simp; done)) (by repeat (first | exact Sub.nil | (apply Sub.cons; (repeat (first | with_reducible exact Sel.here | exact Sel.here | apply Sel.there)))))
set_option maxRecDepth 20000 in

theorem idRR (D : Nat) (v : Value) (b : List UInt8) (s : Rs) (hs : okS b s) (hb : b.length ≤ 1000000000) {Pu : Nat → Prop} : Tr Try.prog 58 #[.pointer (some ⟨D, 0, none⟩)] [slc rByte Pu v b] [blk D 87 [v, .int .i64 (s.a : Int), .int .i64 (s.e : Int), .int .i64 s.p]]
    (TX (fun _ : Unit => True) (fun _ => .agg ((idS b s).1.map vByte).toArray) (fun _ => [blk D 87 [v, .int .i64 ((idS b s).2.a : Int), .int .i64 ((idS b s).2.e : Int), .int .i64 (idS b s).2.p]])) := by
  refine Tr.of (l := [(0, .pointer (some ⟨D, 0, none⟩))]) Try.func58 rfl (n := 25) rfl (.cons rfl .nil) (fun w0 hro => ?_)
  have hv := ro1 hro
  have hsl := someS_len (b := b) (s := s)
  have hid := idS_len b s
  refine G.seq ?_
  refine G.region ?_
  refine G.op rfl (G.alloc (z := .agg #[.int .u8 0, .int .u8 0, .int .u8 0, .int .u8 0, .int .u8 0, .int .u8 0, .int .u8 0, .int .u8 0, .int .u8 0, .int .u8 0, .int .u8 0, .int .u8 0, .int .u8 0, .int .u8 0, .int .u8 0, .int .u8 0]) (cs := [.int .u8 0, .int .u8 0, .int .u8 0, .int .u8 0, .int .u8 0, .int .u8 0, .int .u8 0, .int .u8 0, .int .u8 0, .int .u8 0, .int .u8 0, .int .u8 0, .int .u8 0, .int .u8 0, .int .u8 0, .int .u8 0]) rfl (by kernel_rfl) rfl ?_)
  intro b2
  refine G.nil ?_
  refine G.nThen ?_
  refine G.seq ?_
  refine G.region ?_
  refine G.op rfl (G.alloc (z := .agg #[.int .u8 0, .int .u8 0, .int .u8 0, .int .u8 0, .int .u8 0, .int .u8 0, .int .u8 0, .int .u8 0, .int .u8 0, .int .u8 0, .int .u8 0, .int .u8 0, .int .u8 0, .int .u8 0, .int .u8 0, .int .u8 0]) (cs := [.int .u8 0, .int .u8 0, .int .u8 0, .int .u8 0, .int .u8 0, .int .u8 0, .int .u8 0, .int .u8 0, .int .u8 0, .int .u8 0, .int .u8 0, .int .u8 0, .int .u8 0, .int .u8 0, .int .u8 0, .int .u8 0]) rfl (by kernel_rfl) rfl ?_)
  intro b3
  refine G.nil ?_
  refine G.nThen ?_
  refine G.seq ?_
  refine G.region ?_
  refine G.op rfl (G.val rfl rfl (pv_move rfl) ?_)
  refine G.op rfl (G.val rfl rfl (pv_move rfl) ?_)
  refine G.op rfl (G.val rfl rfl (pv_nilCheck rfl) ?_)
  refine G.op rfl (G.val rfl rfl (pv_fieldAddrK (sz := 0) (k := 1) Try.underlying87 rfl (by kernel_rfl) rfl rfl) ?_)
  refine G.op rfl (G.val rfl rfl (pv_load Try.underlying3 rfl rfl (by first | exact blk_cell (by (repeat (first | with_reducible exact Sel.here | exact Sel.here | apply Sel.there)); done) (by rfl) | exact rng_cell (by (repeat (first | with_reducible exact Sel.here | exact Sel.here | apply Sel.there)); done) (by rfl) | exact ro_blk (by assumption) (by rfl) | exact ro_rngC (by assumption) (by rfl) | exact ro_int (by assumption) | exact ro_byte (by assumption) | exact ro_str (by assumption) | assumption)) ?_)
  refine G.op rfl (G.cS rfl rfl rfl rfl Try.func74 rfl rfl (by repeat (first | exact Sub.nil | (apply Sub.cons; (repeat (first | with_reducible exact Sel.here | exact Sel.here | apply Sel.there))))) (may1 (by first | exact .old (by assumption) | exact Sel.may (by (repeat (first | with_reducible exact Sel.here | exact Sel.here | apply Sel.there)); done) | exact may_own (by (repeat (first | with_reducible exact Sel.here | exact Sel.here | apply Sel.there)); done) rfl (fun _ _ => trivial) | exact may_ownB (by (repeat (first | with_reducible exact Sel.here | exact Sel.here | apply Sel.there)); done) | exact may_ownI (by (repeat (first | with_reducible exact Sel.here | exact Sel.here | apply Sel.there)); done) (by assumption) | exact may_ownN (by (repeat (first | with_reducible exact Sel.here | exact Sel.here | apply Sel.there)); done) (by assumption))) (someR _ _ _ _ 16 s.a (by decide) hs hb) (by repeat (first | exact Ap.nil | apply Ap.cons)) ?_)
  intro x11 hJ
  try dsimp only at hJ
  try dsimp only
  generalize ho : (someS b 16 s.a s).1 = o at *
  refine G.ownNews (v := x11) (by repeat (first | with_reducible exact Sel.here | exact Sel.here | apply Sel.there)) (fun ad cap bb hv2 hcap hmax had hnil hnews => ?_)
  subst hv2
  refine G.op rfl (G.val rfl rfl (pv_assign rfl) ?_)
  refine G.nil ?_
  refine G.nThen ?_
  refine G.seq ?_
  refine G.seq ?_
  refine G.region ?_
  refine G.op rfl (G.val rfl rfl (pv_assign rfl) ?_)
  refine G.nil ?_
  refine G.nThen ?_
  refine G.block ?_
  refine G.loopK (X := Nat) (ts := [2, 3, 4]) (fun k => k ≤ o.length) (fun k => [(5, .int .i64 (k : Int))]) (fun k => [blk b3 49 (idTo o k)]) (fun k => o.length - k) (x0 := 0) (.cons rfl (.cons rfl (.cons rfl .nil))) (by repeat (first | exact Sub.nil | (apply Sub.cons; (repeat (first | with_reducible exact Sel.here | exact Sel.here | apply Sel.there))))) (.cons .nil) (.cons .nil) (by first | exact trivial | ((try dsimp only); exact Nat.zero_le _)) (.consE rfl (by first | rfl | exact int_eq (by omega) | exact congrArg _ (by omega)) .nil) (fun k hJ => ?_)
  try dsimp only at hJ
  try dsimp only
  have hkk := hJ
  refine G.seq ?_
  refine G.seq ?_
  refine G.region ?_
  refine G.op rfl (G.val rfl rfl (pv_move rfl) ?_)
  refine G.op rfl (G.val rfl rfl (pv_move rfl) ?_)
  refine G.op rfl (G.val rfl rfl (pv_lenSl Try.underlying24 rfl) ?_)
  refine G.op rfl (G.val rfl rfl (pv_lss rfl rfl) ?_)
  refine G.nil ?_
  refine G.nThen ?_
  refine G.condP rfl (fun h15 => ?_) (fun h15 => ?_)
  · have hlt : k < o.length := by omega
    refine G.skip ?_
    refine G.nThen ?_
    refine G.seq ?_
    refine G.block ?_
    refine G.region ?_
    refine G.op rfl (G.val rfl rfl (pv_move rfl) ?_)
    refine G.op rfl (G.val rfl rfl (pv_move rfl) ?_)
    refine G.op rfl (G.val rfl rfl (pv_move rfl) ?_)
    refine G.op rfl (G.val rfl rfl (pv_ixSl (sz := 1) (k := k) Try.underlying24 Try.sizeByte rfl rfl had rfl (by omega)) ?_)
    refine G.op rfl (G.val rfl rfl (pv_load Try.underlying5 rfl rfl (fun w hw => (hnews (by repeat (first | with_reducible exact Sel.here | exact Sel.here | apply Sel.there)) w hw).byte k hlt)) ?_)
    refine G.op rfl (G.val rfl rfl (pv_ixA (sz := 1) (k := k) Try.underlying49 Try.sizeByte rfl rfl rfl (by omega)) ?_)
    refine G.op rfl (G.store (o := k) (T := 49) (b := b3) (cs := idTo o k) Try.sizeByte (by simp [ev, Fr.get]) rfl rfl (by repeat (first | with_reducible exact Sel.here | exact Sel.here | apply Sel.there)) (by rw [idTo_len (by omega) (by omega)]; omega) ?_)
    rw [idTo_set hlt (by omega)]
    refine G.nil ?_
    refine G.nBlock ?_
    refine G.nThen ?_
    refine G.region ?_
    refine G.op rfl (G.val rfl rfl (pv_move rfl) ?_)
    refine G.op rfl (G.val rfl rfl (pv_add64 rfl rfl (by omega)) ?_)
    refine G.op rfl (G.val rfl rfl (pv_assign rfl) ?_)
    refine G.nil ?_
    exact G.next (k + 1) (by first | exact trivial | ((try dsimp only); exact by omega)) (by (try dsimp only); omega) (.consE rfl (by first | rfl | exact int_eq (by omega) | exact congrArg _ (by omega)) (.cons rfl (.cons rfl (.cons rfl .nil)))) (by repeat (first | exact Sub.nil | (apply Sub.cons; (repeat (first | with_reducible exact Sel.here | exact Sel.here | apply Sel.there)))))
  · obtain rfl : k = o.length := by omega
    have hfin := idTo_end (b := b) (s := s)
    rw [ho] at hfin
    refine G.exit ?_
    refine G.eThen ?_
    refine G.eThen ?_
    refine G.eBlock ?_
    refine G.nThen ?_
    refine G.seq ?_
    refine G.region ?_
    rw [hfin.1, hfin.2]
    refine G.op rfl (G.val rfl rfl (pv_loadN (cs := (idS b s).1.map vByte) Try.underlying49 rfl (by rw [List.length_map, hid]; kernel_rfl) rfl (blk_range (k := 16) (b := b3) (by repeat (first | with_reducible exact Sel.here | exact Sel.here | apply Sel.there)) (List.take_of_length_le (by rw [List.drop_zero, List.length_map, hid]; exact Nat.le_refl _)))) ?_)
    refine G.op rfl (G.storeN (by rw [List.length_map, hid]; kernel_rfl) rfl rfl (List.all_eq_true.2 (vByte_one _)) (by repeat (first | with_reducible exact Sel.here | exact Sel.here | apply Sel.there)) (by simp [hid]) ?_)
    refine G.nil ?_
    refine G.nThen ?_
    refine G.ret ?_
    exact G.doneG (()) (by first | exact trivial | ((try dsimp only); exact trivial)) rfl (Rv.cellN (cs := (idS b s).1.map vByte) rfl Try.underlying49 rfl (by rw [List.length_map, hid]; kernel_rfl) (blk_range (k := 16) (b := b2) (by repeat (first | with_reducible exact Sel.here | exact Sel.here | apply Sel.there)) (by rw [putN_whole _ _ (by rw [List.length_map, hid]; rfl)]; exact List.take_of_length_le (by rw [List.drop_zero, List.length_map, hid]; exact Nat.le_refl _))) Rv.nil) (by first | rfl | exact int_eq (by omega) | (simp; done)) (by repeat (first | exact Sub.nil | (apply Sub.cons; (repeat (first | with_reducible exact Sel.here | exact Sel.here | apply Sel.there)))))
set_option maxRecDepth 20000 in

theorem endR (D : Nat) (v : Value) (b : List UInt8) (s : Rs) {Pu : Nat → Prop} : Tr Try.prog 60 #[.pointer (some ⟨D, 0, none⟩)] [blk D 87 [v, .int .i64 (s.a : Int), .int .i64 (s.e : Int), .int .i64 s.p], slc rByte Pu v b] [] (T0 (.agg #[.int .i64 ((endS b s).1 : Int), .int .i64 (endS b s).2])) := by
  refine Tr.of (l := [(0, .pointer (some ⟨D, 0, none⟩))]) Try.func60 rfl (n := 30) rfl (.cons rfl .nil) (fun w0 hro => ?_)
  obtain ⟨hr, ho⟩ := ro2 hro
  obtain ⟨ad, cap, bb, off, rfl, -⟩ := Ro.open ho
  refine G.seq ?_
  refine G.region ?_
  refine G.op rfl (G.alloc (z := .agg #[.int .i64 0, .int .i64 0]) (cs := [.int .i64 0, .int .i64 0]) rfl (by kernel_rfl) rfl ?_)
  intro b2
  refine G.nil ?_
  refine G.nThen ?_
  refine G.seq ?_
  refine G.seq ?_
  refine G.drawT (nn := 18) (p := []) (rem := 262143) [0, 1, 2, 4, 8, 16, 32, 64, 192, 320, 576, 64, 2112, 4160, 8256, 16448, 33856, 65600] [0, 1, 2, 4, 8, 16, 32, 64, 192, 320, 576, 64, 2112, 4160, 8256, 16448, 33856, 65600] (by kernel_rfl) ⟨rfl, by kernel_rfl, by kernel_rfl⟩ (by repeat (first | exact Sub.nil | (apply Sub.cons; (repeat (first | with_reducible exact Sel.here | exact Sel.here | apply Sel.there))))) (by kernel_rfl) (fun hT1 => ?_)
  refine G.takeT hT1 (i := 0) (rem' := 262142) rfl rfl rfl (by kernel_rfl) (fun _ _ _ h => h) rfl (pv_move rfl) (by repeat (first | exact Sub.nil | (apply Sub.cons; (repeat (first | with_reducible exact Sel.here | exact Sel.here | apply Sel.there))))) ?_
  refine G.takeT hT1 (i := 1) (rem' := 262140) rfl rfl rfl (by kernel_rfl) (fun _ _ _ h => h) rfl (pv_nilCheck rfl) (by repeat (first | exact Sub.nil | (apply Sub.cons; (repeat (first | with_reducible exact Sel.here | exact Sel.here | apply Sel.there))))) ?_
  refine G.takeT hT1 (i := 2) (rem' := 262136) rfl rfl rfl (by kernel_rfl) (fun _ _ _ h => h) rfl (pv_fieldAddrK (sz := 1) (k := 2) Try.underlying87 rfl (by kernel_rfl) rfl rfl) (by repeat (first | exact Sub.nil | (apply Sub.cons; (repeat (first | with_reducible exact Sel.here | exact Sel.here | apply Sel.there))))) ?_
  refine G.takeT hT1 (i := 3) (rem' := 262128) rfl rfl rfl (by kernel_rfl) (fun _ _ _ h => h) rfl (pv_fieldAddrK (sz := 0) (k := 0) Try.underlying39 rfl (by kernel_rfl) rfl rfl) (by repeat (first | exact Sub.nil | (apply Sub.cons; (repeat (first | with_reducible exact Sel.here | exact Sel.here | apply Sel.there))))) ?_
  refine G.oneT hT1 (i := 4) (rem' := 262112) (by kernel_rfl) (by kernel_rfl) ?_
  refine G.turnOp rfl rfl (G.val rfl rfl (pv_load Try.underlying29 rfl rfl (by first | exact blk_cell (by (repeat (first | with_reducible exact Sel.here | exact Sel.here | apply Sel.there)); done) (by rfl) | exact rng_cell (by (repeat (first | with_reducible exact Sel.here | exact Sel.here | apply Sel.there)); done) (by rfl) | exact ro_blk (by assumption) (by rfl) | exact ro_rngC (by assumption) (by rfl) | exact ro_int (by assumption) | exact ro_byte (by assumption) | exact ro_str (by assumption) | assumption)) ?_)
  refine G.back (by repeat (first | exact Sub.nil | (apply Sub.cons; (repeat (first | with_reducible exact Sel.here | exact Sel.here | apply Sel.there))))) ?_
  refine G.takeT hT1 (i := 5) (rem' := 262080) rfl rfl rfl (by kernel_rfl) (fun _ _ _ h => h) rfl (pv_eql rfl rfl) (by repeat (first | exact Sub.nil | (apply Sub.cons; (repeat (first | with_reducible exact Sel.here | exact Sel.here | apply Sel.there))))) ?_
  refine G.takeT hT1 (i := 6) (rem' := 262016) rfl rfl rfl (by kernel_rfl) (fun _ _ _ h => h) rfl (pv_move rfl) (by repeat (first | exact Sub.nil | (apply Sub.cons; (repeat (first | with_reducible exact Sel.here | exact Sel.here | apply Sel.there))))) ?_
  refine G.partP (t := 9) rfl (fun h9 => ?_) (fun h9 => ?_)
  · refine G.takeT hT1 (i := 7) (rem' := 261888) rfl rfl rfl (by kernel_rfl) (fun _ _ _ h => h) rfl (pv_move rfl) (by repeat (first | exact Sub.nil | (apply Sub.cons; (repeat (first | with_reducible exact Sel.here | exact Sel.here | apply Sel.there))))) ?_
    refine G.takeT hT1 (i := 8) (rem' := 261632) rfl rfl rfl (by kernel_rfl) (fun _ _ _ h => h) rfl (pv_nilCheck rfl) (by repeat (first | exact Sub.nil | (apply Sub.cons; (repeat (first | with_reducible exact Sel.here | exact Sel.here | apply Sel.there))))) ?_
    refine G.takeT hT1 (i := 9) (rem' := 261120) rfl rfl rfl (by kernel_rfl) (fun _ _ _ h => h) rfl (pv_fieldAddrK (sz := 0) (k := 1) Try.underlying87 rfl (by kernel_rfl) rfl rfl) (by repeat (first | exact Sub.nil | (apply Sub.cons; (repeat (first | with_reducible exact Sel.here | exact Sel.here | apply Sel.there))))) ?_
    refine G.takeT hT1 (i := 10) (rem' := 260096) rfl rfl rfl (by kernel_rfl) (fun _ _ _ h => h) rfl (pv_load Try.underlying3 rfl rfl (by first | exact blk_cell (by (repeat (first | with_reducible exact Sel.here | exact Sel.here | apply Sel.there)); done) (by rfl) | exact rng_cell (by (repeat (first | with_reducible exact Sel.here | exact Sel.here | apply Sel.there)); done) (by rfl) | exact ro_blk (by assumption) (by rfl) | exact ro_rngC (by assumption) (by rfl) | exact ro_int (by assumption) | exact ro_byte (by assumption) | exact ro_str (by assumption) | assumption)) (by repeat (first | exact Sub.nil | (apply Sub.cons; (repeat (first | with_reducible exact Sel.here | exact Sel.here | apply Sel.there))))) ?_
    refine G.takeT hT1 (i := 11) (rem' := 258048) rfl rfl rfl (by kernel_rfl) (fun _ _ _ h => h) rfl (pv_move rfl) (by repeat (first | exact Sub.nil | (apply Sub.cons; (repeat (first | with_reducible exact Sel.here | exact Sel.here | apply Sel.there))))) ?_
    refine G.takeT hT1 (i := 12) (rem' := 253952) rfl rfl rfl (by kernel_rfl) (fun _ _ _ h => h) rfl (pv_nilCheck rfl) (by repeat (first | exact Sub.nil | (apply Sub.cons; (repeat (first | with_reducible exact Sel.here | exact Sel.here | apply Sel.there))))) ?_
    refine G.takeT hT1 (i := 13) (rem' := 245760) rfl rfl rfl (by kernel_rfl) (fun _ _ _ h => h) rfl (pv_fieldAddrK (sz := 0) (k := 0) Try.underlying87 rfl (by kernel_rfl) rfl rfl) (by repeat (first | exact Sub.nil | (apply Sub.cons; (repeat (first | with_reducible exact Sel.here | exact Sel.here | apply Sel.there))))) ?_
    refine G.oneT hT1 (i := 14) (rem' := 229376) (by kernel_rfl) (by kernel_rfl) ?_
    refine G.turnOp rfl rfl (G.val rfl rfl (pv_load Try.underlying24 rfl rfl (by first | exact blk_cell (by (repeat (first | with_reducible exact Sel.here | exact Sel.here | apply Sel.there)); done) (by rfl) | exact rng_cell (by (repeat (first | with_reducible exact Sel.here | exact Sel.here | apply Sel.there)); done) (by rfl) | exact ro_blk (by assumption) (by rfl) | exact ro_rngC (by assumption) (by rfl) | exact ro_int (by assumption) | exact ro_byte (by assumption) | exact ro_str (by assumption) | assumption)) ?_)
    refine G.back (by repeat (first | exact Sub.nil | (apply Sub.cons; (repeat (first | with_reducible exact Sel.here | exact Sel.here | apply Sel.there))))) ?_
    refine G.takeT hT1 (i := 15) (rem' := 196608) rfl rfl rfl (by kernel_rfl) (fun _ _ _ h => h) rfl (pv_lenSl Try.underlying24 rfl) (by repeat (first | exact Sub.nil | (apply Sub.cons; (repeat (first | with_reducible exact Sel.here | exact Sel.here | apply Sel.there))))) ?_
    refine G.takeT hT1 (i := 16) (rem' := 131072) rfl rfl rfl (by kernel_rfl) (fun _ _ _ h => h) rfl (pv_lss rfl rfl) (by repeat (first | exact Sub.nil | (apply Sub.cons; (repeat (first | with_reducible exact Sel.here | exact Sel.here | apply Sel.there))))) ?_
    refine G.takeT hT1 (i := 17) (rem' := 0) rfl rfl rfl (by kernel_rfl) (fun _ _ _ h => h) rfl (pv_pick rfl rfl) (by repeat (first | exact Sub.nil | (apply Sub.cons; (repeat (first | with_reducible exact Sel.here | exact Sel.here | apply Sel.there))))) ?_
    refine G.overT hT1 (by kernel_rfl) ?_
    refine G.nThen ?_
    refine G.condP rfl (fun h20 => ?_) (fun h20 => ?_)
    · refine G.seq ?_
      refine G.region ?_
      refine G.op rfl (G.val rfl rfl (pv_move rfl) ?_)
      refine G.op rfl (G.val rfl rfl (pv_nilCheck rfl) ?_)
      refine G.op rfl (G.val rfl rfl (pv_fieldAddrK (sz := 0) (k := 1) Try.underlying87 rfl (by kernel_rfl) rfl rfl) ?_)
      refine G.op rfl (G.val rfl rfl (pv_load Try.underlying3 rfl rfl (by first | exact blk_cell (by (repeat (first | with_reducible exact Sel.here | exact Sel.here | apply Sel.there)); done) (by rfl) | exact rng_cell (by (repeat (first | with_reducible exact Sel.here | exact Sel.here | apply Sel.there)); done) (by rfl) | exact ro_blk (by assumption) (by rfl) | exact ro_rngC (by assumption) (by rfl) | exact ro_int (by assumption) | exact ro_byte (by assumption) | exact ro_str (by assumption) | assumption)) ?_)
      refine G.op rfl (G.val rfl rfl (pv_buildSt (z := [.int .i64 0, .int .i64 0]) (pl := [(0, 1), (1, 1)]) Try.underlying39 (by kernel_rfl) (by kernel_rfl) rfl (by repeat (first | exact Fl.nil | (apply Fl.cons; exact rfl; (first | exact cells_of (by first | rfl | assumption) | exact rfl); exact rfl; exact rfl; repeat (first | exact Sn.nil | (apply Sn.cons; repeat (first | exact St.zero | apply St.succ))))))) ?_)
      refine G.op rfl (G.storeN (by kernel_rfl) rfl rfl (by first | rfl | exact List.all_eq_true.2 (vByte_one _) | (repeat (first | exact all1_nil | (apply all1_cons; first | rfl | assumption)))) (by repeat (first | with_reducible exact Sel.here | exact Sel.here | apply Sel.there)) (by first | (simp; done) | exact Nat.le_of_ble_eq_true rfl) ?_)
      refine G.nil ?_
      refine G.nThen ?_
      refine G.ret ?_
      refine G.rThen ?_
      exact G.done0G rfl (Rv.cellN (cs := [_, _]) rfl Try.underlying39 rfl (by kernel_rfl) (by first | exact blk_range (k := 2) (by (repeat (first | with_reducible exact Sel.here | exact Sel.here | apply Sel.there)); done) (by rfl)) Rv.nil) (by unfold endS; first | (rw [if_pos (by omega)]; rfl) | (rw [if_neg (by omega)]; rfl))
    · refine G.skip ?_
      refine G.nThen ?_
      refine G.seq ?_
      refine G.region ?_
      refine G.op rfl (G.val rfl rfl (pv_move rfl) ?_)
      refine G.op rfl (G.val rfl rfl (pv_nilCheck rfl) ?_)
      refine G.op rfl (G.val rfl rfl (pv_fieldAddrK (sz := 1) (k := 2) Try.underlying87 rfl (by kernel_rfl) rfl rfl) ?_)
      refine G.op rfl (G.val rfl rfl (pv_loadN (cs := [_, _]) Try.underlying39 rfl (by kernel_rfl) rfl (by first | exact blk_range (k := 2) (by (repeat (first | with_reducible exact Sel.here | exact Sel.here | apply Sel.there)); done) (by rfl) | exact rng_range (k := 2) (by (repeat (first | with_reducible exact Sel.here | exact Sel.here | apply Sel.there)); done) (by rfl) | exact ro_range (k := 2) (by assumption) (by rfl) | exact ro_rngR (k := 2) (by assumption) (by rfl))) ?_)
      refine G.op rfl (G.storeN (by kernel_rfl) rfl rfl (by first | rfl | exact List.all_eq_true.2 (vByte_one _) | (repeat (first | exact all1_nil | (apply all1_cons; first | rfl | assumption)))) (by repeat (first | with_reducible exact Sel.here | exact Sel.here | apply Sel.there)) (by first | (simp; done) | exact Nat.le_of_ble_eq_true rfl) ?_)
      refine G.nil ?_
      refine G.nThen ?_
      refine G.ret ?_
      exact G.done0G rfl (Rv.cellN (cs := [_, _]) rfl Try.underlying39 rfl (by kernel_rfl) (by first | exact blk_range (k := 2) (by (repeat (first | with_reducible exact Sel.here | exact Sel.here | apply Sel.there)); done) (by rfl)) Rv.nil) (by unfold endS; first | (rw [if_pos (by omega)]; rfl) | (rw [if_neg (by omega)]; rfl))
  · refine G.takeFT hT1 (i := 7) (rem' := 261888) rfl rfl rfl (by kernel_rfl) (fun _ _ _ h => h) rfl (by repeat (first | exact Sub.nil | (apply Sub.cons; (repeat (first | with_reducible exact Sel.here | exact Sel.here | apply Sel.there))))) ?_
    refine G.takeFT hT1 (i := 8) (rem' := 261632) rfl rfl rfl (by kernel_rfl) (fun _ _ _ h => h) rfl (by repeat (first | exact Sub.nil | (apply Sub.cons; (repeat (first | with_reducible exact Sel.here | exact Sel.here | apply Sel.there))))) ?_
    refine G.takeFT hT1 (i := 9) (rem' := 261120) rfl rfl rfl (by kernel_rfl) (fun _ _ _ h => h) rfl (by repeat (first | exact Sub.nil | (apply Sub.cons; (repeat (first | with_reducible exact Sel.here | exact Sel.here | apply Sel.there))))) ?_
    refine G.takeFT hT1 (i := 10) (rem' := 260096) rfl rfl rfl (by kernel_rfl) (fun _ _ _ h => h) rfl (by repeat (first | exact Sub.nil | (apply Sub.cons; (repeat (first | with_reducible exact Sel.here | exact Sel.here | apply Sel.there))))) ?_
    refine G.takeFT hT1 (i := 11) (rem' := 258048) rfl rfl rfl (by kernel_rfl) (fun _ _ _ h => h) rfl (by repeat (first | exact Sub.nil | (apply Sub.cons; (repeat (first | with_reducible exact Sel.here | exact Sel.here | apply Sel.there))))) ?_
    refine G.takeFT hT1 (i := 12) (rem' := 253952) rfl rfl rfl (by kernel_rfl) (fun _ _ _ h => h) rfl (by repeat (first | exact Sub.nil | (apply Sub.cons; (repeat (first | with_reducible exact Sel.here | exact Sel.here | apply Sel.there))))) ?_
    refine G.takeFT hT1 (i := 13) (rem' := 245760) rfl rfl rfl (by kernel_rfl) (fun _ _ _ h => h) rfl (by repeat (first | exact Sub.nil | (apply Sub.cons; (repeat (first | with_reducible exact Sel.here | exact Sel.here | apply Sel.there))))) ?_
    refine G.takeFT hT1 (i := 14) (rem' := 229376) rfl rfl rfl (by kernel_rfl) (fun _ _ _ h => h) rfl (by repeat (first | exact Sub.nil | (apply Sub.cons; (repeat (first | with_reducible exact Sel.here | exact Sel.here | apply Sel.there))))) ?_
    refine G.takeFT hT1 (i := 15) (rem' := 196608) rfl rfl rfl (by kernel_rfl) (fun _ _ _ h => h) rfl (by repeat (first | exact Sub.nil | (apply Sub.cons; (repeat (first | with_reducible exact Sel.here | exact Sel.here | apply Sel.there))))) ?_
    refine G.takeFT hT1 (i := 16) (rem' := 131072) rfl rfl rfl (by kernel_rfl) (fun _ _ _ h => h) rfl (by repeat (first | exact Sub.nil | (apply Sub.cons; (repeat (first | with_reducible exact Sel.here | exact Sel.here | apply Sel.there))))) ?_
    refine G.takeT hT1 (i := 17) (rem' := 0) rfl rfl rfl (by kernel_rfl) (fun _ _ _ h => h) rfl (pv_pick rfl rfl) (by repeat (first | exact Sub.nil | (apply Sub.cons; (repeat (first | with_reducible exact Sel.here | exact Sel.here | apply Sel.there))))) ?_
    refine G.overT hT1 (by kernel_rfl) ?_
    refine G.nThen ?_
    refine G.condF rfl (rfl) ?_
    refine G.skip ?_
    refine G.nThen ?_
    refine G.seq ?_
    refine G.region ?_
    refine G.op rfl (G.val rfl rfl (pv_move rfl) ?_)
    refine G.op rfl (G.val rfl rfl (pv_nilCheck rfl) ?_)
    refine G.op rfl (G.val rfl rfl (pv_fieldAddrK (sz := 1) (k := 2) Try.underlying87 rfl (by kernel_rfl) rfl rfl) ?_)
    refine G.op rfl (G.val rfl rfl (pv_loadN (cs := [_, _]) Try.underlying39 rfl (by kernel_rfl) rfl (by first | exact blk_range (k := 2) (by (repeat (first | with_reducible exact Sel.here | exact Sel.here | apply Sel.there)); done) (by rfl) | exact rng_range (k := 2) (by (repeat (first | with_reducible exact Sel.here | exact Sel.here | apply Sel.there)); done) (by rfl) | exact ro_range (k := 2) (by assumption) (by rfl) | exact ro_rngR (k := 2) (by assumption) (by rfl))) ?_)
    refine G.op rfl (G.storeN (by kernel_rfl) rfl rfl (by first | rfl | exact List.all_eq_true.2 (vByte_one _) | (repeat (first | exact all1_nil | (apply all1_cons; first | rfl | assumption)))) (by repeat (first | with_reducible exact Sel.here | exact Sel.here | apply Sel.there)) (by first | (simp; done) | exact Nat.le_of_ble_eq_true rfl) ?_)
    refine G.nil ?_
    refine G.nThen ?_
    refine G.ret ?_
    exact G.done0G rfl (Rv.cellN (cs := [_, _]) rfl Try.underlying39 rfl (by kernel_rfl) (by first | exact blk_range (k := 2) (by (repeat (first | with_reducible exact Sel.here | exact Sel.here | apply Sel.there)); done) (by rfl)) Rv.nil) (by unfold endS; first | (rw [if_pos (by omega)]; rfl) | (rw [if_neg (by omega)]; rfl))
end Go.Proofs.Ytakcffhknnailaa
