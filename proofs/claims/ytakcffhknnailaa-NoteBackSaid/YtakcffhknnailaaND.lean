/- Contracts of layer 1's readers by their state, the program's and the reference's. Conditions: what is read is not more than a thousand million bytes. -/
import Derived.Test.YtakcffhknnailaaNC
set_option linter.unusedVariables false
set_option linter.unusedSimpArgs false
namespace Go.Proofs.Ytakcffhknnailaa
open Go.RowKit

/-- a reader's state: where it stands, its fault -/
structure Rs where
  a : Nat
  e : Nat
  p : Int
def numS (b : List UInt8) (low high above : Int) (s : Rs) : Nat × Rs := if s.e = 0 then (numN (bndM b s.a low high above), ⟨nextN s.a (bndM b s.a low high above), errN (bndM b s.a low high above), posN s.p (bndM b s.a low high above)⟩) else (0, s)
def bytS (b : List UInt8) (high : Int) (s : Rs) : List UInt8 × Rs := if s.e = 0 then (outB b (bytR b s.a high), ⟨endB s.a (bytR b s.a high), errN (bytR b s.a high), posN s.p (bytR b s.a high)⟩) else ([], s)
def idS (b : List UInt8) (s : Rs) : List UInt8 × Rs := if s.e = 0 then (outI b s.a, ⟨endB s.a (idR b s.a), errN (idR b s.a), posN s.p (idR b s.a)⟩) else (List.replicate 16 0, s)
def endS (b : List UInt8) (s : Rs) : Nat × Int := if s.e = 0 ∧ s.a < b.length then (4, s.a) else (s.e, s.p)
def rs0 : Rs := ⟨0, 0, 0⟩
/-- what a state is -/
def okS (b : List UInt8) (s : Rs) : Prop := s.a ≤ b.length ∧ (s.e = 0 → s.p = 0)
theorem bnd_next {b : List UInt8} {a : Nat} {low high above : Int} (ha : a ≤ b.length) : nextN a (bndM b a low high above) ≤ b.length := by
  cases h : bndM b a low high above with
  | ok n nx => exact getM_next (bnd_get h).1
  | bad e p => exact ha
theorem bytR_end {b : List UInt8} {a : Nat} {high : Int} (ha : a ≤ b.length) : endB a (bytR b a high) ≤ b.length := by
  unfold bytR
  cases h : bndM b a 0 high 3 with
  | bad e p => exact ha
  | ok n nx =>
    simp only
    split
    · exact ha
    · show nx + n ≤ _; omega
theorem idR_end {b : List UInt8} {a : Nat} (ha : a ≤ b.length) : endB a (idR b a) ≤ b.length := by
  unfold idR
  split
  · exact ha
  · show a + 16 ≤ _; omega
theorem Rn.errPos {r : Rn} {p : Int} (h : errN r = 0) (hb : ∀ q, r ≠ .bad 0 q) : posN p r = p := by
  cases r with
  | ok n nx => rfl
  | bad e q => exact absurd (show Rn.bad e q = .bad 0 q by have : e = 0 := h; rw [this]) (hb q)
theorem getGo_bad {b : List UInt8} {a : Nat} : ∀ (f k n q : Nat), getGo b a f k n ≠ .bad 0 q := by
  intro f
  induction f with
  | zero => intro k n q h; cases h
  | succ f ih =>
    intro k n q h
    unfold getGo at h
    split at h
    · cases h
    · split at h
      · exact ih _ _ _ h
      · split at h <;> cases h
theorem getM_bad0 {b : List UInt8} {a q : Nat} : getM b a ≠ .bad 0 q := by
  unfold getM
  split
  · intro h; cases h
  · exact getGo_bad _ _ _ _
theorem bnd_bad0 {b : List UInt8} {a q : Nat} {low high above : Int} (h0 : 1 ≤ above) : bndM b a low high above ≠ .bad 0 q := by
  unfold bndM
  split
  · rename_i e p h
    intro h2
    injection h2 with h3 h4
    subst h3
    exact getM_bad0 h
  · split
    · intro h; injection h with h; omega
    · split
      · intro h; cases h
      · intro h; cases h
theorem bytR_bad0 {b : List UInt8} {a q : Nat} {high : Int} : bytR b a high ≠ .bad 0 q := by
  unfold bytR
  split
  · rename_i e p h
    intro h2
    injection h2 with h3 h4
    subst h3
    exact bnd_bad0 (by decide) h
  · split
    · intro h; cases h
    · intro h; cases h
theorem idR_bad0 {b : List UInt8} {a q : Nat} : idR b a ≠ .bad 0 q := by
  unfold idR
  split <;> intro h <;> cases h
theorem numS_ok {b : List UInt8} {low high above : Int} {s : Rs} (h : okS b s) (h0 : 1 ≤ above) : okS b (numS b low high above s).2 := by
  unfold numS
  split
  · exact ⟨bnd_next h.1, fun h2 => (Rn.errPos h2 fun q => bnd_bad0 h0).trans (h.2 (by assumption))⟩
  · exact h
theorem bytS_ok {b : List UInt8} {high : Int} {s : Rs} (h : okS b s) : okS b (bytS b high s).2 := by
  unfold bytS
  split
  · exact ⟨bytR_end h.1, fun h2 => (Rn.errPos h2 fun q => bytR_bad0).trans (h.2 (by assumption))⟩
  · exact h
theorem idS_ok {b : List UInt8} {s : Rs} (h : okS b s) : okS b (idS b s).2 := by
  unfold idS
  split
  · exact ⟨idR_end h.1, fun h2 => (Rn.errPos h2 fun q => idR_bad0).trans (h.2 (by assumption))⟩
  · exact h
theorem rs0_ok (b : List UInt8) : okS b rs0 := ⟨Nat.zero_le _, fun _ => rfl⟩
theorem outI_len (b : List UInt8) (a : Nat) : (outI b a).length = 16 := by
  unfold outI
  split
  · rfl
  · exact subB_length (by omega)
theorem idS_len (b : List UInt8) (s : Rs) : (idS b s).1.length = 16 := by
  unfold idS
  split
  · exact outI_len b s.a
  · rfl
/-! the program's -/
theorem intF (D : Nat) (v : Value) (b : List UInt8) (s : Rs) (low high : Int) (hs : okS b s) (hb : b.length ≤ 1000000000) : Tr Try.prog 48 #[.pointer (some ⟨D, 0, none⟩), .int .i64 low, .int .i64 high] [] [blk D 96 [.bool true, v, .int .i64 (s.a : Int), .int .i64 (s.e : Int), .int .i64 s.p], own 5 1 v b.length (b.map vByte)]
    (TX (fun _ : Unit => True) (fun _ => .int .i64 ((numS b low high 5 s).1 : Int)) (fun _ => [blk D 96 [.bool true, v, .int .i64 ((numS b low high 5 s).2.a : Int), .int .i64 ((numS b low high 5 s).2.e : Int), .int .i64 (numS b low high 5 s).2.p], own 5 1 v b.length (b.map vByte)])) := by
  obtain ⟨a, e, p⟩ := s
  by_cases h : e = 0
  · subst h
    exact int_tr D a v b p low high hs.1 hb
  · have := (int_off (off_rd D v true a e p (.inr (by omega))) rfl low high).keep (q := [blk D 96 [.bool true, v, .int .i64 ((⟨a, e, p⟩ : Rs).a : Int), .int .i64 ((⟨a, e, p⟩ : Rs).e : Int), .int .i64 (⟨a, e, p⟩ : Rs).p], own 5 1 v b.length (b.map vByte)]) (fun c hc => by obtain rfl : c = _ := (by simpa using hc); exact List.mem_cons_self ..)
    have e1 : numS b low high 5 ⟨a, e, p⟩ = (0, ⟨a, e, p⟩) := if_neg h
    rw [e1]
    exact this
theorem countF (D : Nat) (v : Value) (b : List UInt8) (s : Rs) (high : Int) (hs : okS b s) (hb : b.length ≤ 1000000000) : Tr Try.prog 68 #[.pointer (some ⟨D, 0, none⟩), .int .i64 high] [] [blk D 96 [.bool true, v, .int .i64 (s.a : Int), .int .i64 (s.e : Int), .int .i64 s.p], own 5 1 v b.length (b.map vByte)]
    (TX (fun _ : Unit => True) (fun _ => .int .i64 ((numS b 0 high 3 s).1 : Int)) (fun _ => [blk D 96 [.bool true, v, .int .i64 ((numS b 0 high 3 s).2.a : Int), .int .i64 ((numS b 0 high 3 s).2.e : Int), .int .i64 (numS b 0 high 3 s).2.p], own 5 1 v b.length (b.map vByte)])) := by
  obtain ⟨a, e, p⟩ := s
  by_cases h : e = 0
  · subst h
    exact count_tr D a v b p high hs.1 hb
  · have := (count_off (off_rd D v true a e p (.inr (by omega))) rfl high).keep (q := [blk D 96 [.bool true, v, .int .i64 ((⟨a, e, p⟩ : Rs).a : Int), .int .i64 ((⟨a, e, p⟩ : Rs).e : Int), .int .i64 (⟨a, e, p⟩ : Rs).p], own 5 1 v b.length (b.map vByte)]) (fun c hc => by obtain rfl : c = _ := (by simpa using hc); exact List.mem_cons_self ..)
    have e1 : numS b 0 high 3 ⟨a, e, p⟩ = (0, ⟨a, e, p⟩) := if_neg h
    rw [e1]
    exact this
theorem idF (D : Nat) (v : Value) (b : List UInt8) (s : Rs) (hs : okS b s) (hb : b.length ≤ 1000000000) : Tr Try.prog 51 #[.pointer (some ⟨D, 0, none⟩)] [] [blk D 96 [.bool true, v, .int .i64 (s.a : Int), .int .i64 (s.e : Int), .int .i64 s.p], own 5 1 v b.length (b.map vByte)]
    (TX (fun _ : Unit => True) (fun _ => .agg ((idS b s).1.map vByte).toArray) (fun _ => [blk D 96 [.bool true, v, .int .i64 ((idS b s).2.a : Int), .int .i64 ((idS b s).2.e : Int), .int .i64 (idS b s).2.p], own 5 1 v b.length (b.map vByte)])) := by
  obtain ⟨a, e, p⟩ := s
  by_cases h : e = 0
  · subst h
    exact id_tr D a v b p hs.1 hb
  · have := (id_off (off_rd D v true a e p (.inr (by omega))) rfl).keep (q := [blk D 96 [.bool true, v, .int .i64 ((⟨a, e, p⟩ : Rs).a : Int), .int .i64 ((⟨a, e, p⟩ : Rs).e : Int), .int .i64 (⟨a, e, p⟩ : Rs).p], own 5 1 v b.length (b.map vByte)]) (fun c hc => by obtain rfl : c = _ := (by simpa using hc); exact List.mem_cons_self ..)
    have e1 : idS b ⟨a, e, p⟩ = (List.replicate 16 0, ⟨a, e, p⟩) := if_neg h
    rw [e1]
    exact this
theorem bytesF (D : Nat) (v : Value) (b : List UInt8) (s : Rs) (high : Int) (hs : okS b s) (hb : b.length ≤ 1000000000) : Tr Try.prog 53 #[.pointer (some ⟨D, 0, none⟩), .int .i64 high] [] [blk D 96 [.bool true, v, .int .i64 (s.a : Int), .int .i64 (s.e : Int), .int .i64 s.p], own 5 1 v b.length (b.map vByte)]
    (TX (fun _ : Value => True) (fun x => x) (fun x => [blk D 96 [.bool true, v, .int .i64 ((bytS b high s).2.a : Int), .int .i64 ((bytS b high s).2.e : Int), .int .i64 (bytS b high s).2.p], own 5 1 v b.length (b.map vByte), own 5 1 x (bytS b high s).1.length ((bytS b high s).1.map vByte)])) := by
  obtain ⟨a, e, p⟩ := s
  by_cases h : e = 0
  · subst h
    exact bytes_tr D a v b p high hs.1 hb
  · have := (bytes_off (off_rd D v true a e p (.inr (by omega))) rfl high).keep (q := [blk D 96 [.bool true, v, .int .i64 ((⟨a, e, p⟩ : Rs).a : Int), .int .i64 ((⟨a, e, p⟩ : Rs).e : Int), .int .i64 (⟨a, e, p⟩ : Rs).p], own 5 1 v b.length (b.map vByte)]) (fun c hc => by obtain rfl : c = _ := (by simpa using hc); exact List.mem_cons_self ..)
    have e1 : bytS b high ⟨a, e, p⟩ = ([], ⟨a, e, p⟩) := if_neg h
    rw [e1]
    refine this.impH fun u m ⟨x, _, hu, hm⟩ => ⟨_, ⟨.slice none 0 0, trivial, hu, rfl⟩, fun w0 S w hw => ?_⟩
    subst hm
    exact (hp_ownNil 5 1 hw).perm (List.perm_append_comm (l₁ := [own 5 1 (.slice none 0 0) 0 []]))
theorem faultF (D : Nat) (v : Value) (s : Rs) : Tr Try.prog 49 #[.pointer (some ⟨D, 0, none⟩)] [blk D 96 [.bool true, v, .int .i64 (s.a : Int), .int .i64 (s.e : Int), .int .i64 s.p]] [] (T0 (.agg #[.int .i64 (s.e : Int), .int .i64 s.p])) := fault_tr D v true s.a s.e s.p
theorem atF (D : Nat) (v : Value) (s : Rs) : Tr Try.prog 52 #[.pointer (some ⟨D, 0, none⟩)] [blk D 96 [.bool true, v, .int .i64 (s.a : Int), .int .i64 (s.e : Int), .int .i64 s.p]] [] (T0 (.int .i64 (s.a : Int))) := at_tr D v true s.a s.e s.p
theorem ro_ownOpen {w0 : World} {S : Nat → Prop} {e sz k : Nat} {v : Value} {cs : List Value} (h : Ro w0 S (own e sz v k cs)) : ∃ ad cap, v = .slice ad k cap := by
  rcases (h.1 : w0.ownsRow 0 e sz v k cs).2 with ⟨rfl, rfl⟩ | ⟨g', cap, cur, rfl, _⟩
  · exact ⟨none, 0, rfl⟩
  · exact ⟨_, cap, rfl⟩
set_option maxRecDepth 20000 in

theorem endF (D : Nat) (v : Value) (b : List UInt8) (s : Rs) : Tr Try.prog 54 #[.pointer (some ⟨D, 0, none⟩)] [blk D 96 [.bool true, v, .int .i64 (s.a : Int), .int .i64 (s.e : Int), .int .i64 s.p], own 5 1 v b.length (b.map vByte)] [] (T0 (.agg #[.int .i64 ((endS b s).1 : Int), .int .i64 (endS b s).2])) := by
  refine Tr.of (l := [(0, .pointer (some ⟨D, 0, none⟩))]) Try.func54 rfl (n := 27) rfl (.cons rfl .nil) (fun w0 hro => ?_)
  obtain ⟨hr, ho⟩ := ro2 hro
  obtain ⟨ad, cap, rfl⟩ := ro_ownOpen ho
  refine G.seq ?_
  refine G.region ?_
  refine G.op rfl (G.alloc (z := .agg #[.int .i64 0, .int .i64 0]) (cs := [.int .i64 0, .int .i64 0]) rfl (by kernel_rfl) rfl ?_)
  intro b2
  refine G.nil ?_
  refine G.nThen ?_
  refine G.seq ?_
  refine G.region ?_
  refine G.op rfl (G.val rfl rfl (pv_move rfl) ?_)
  refine G.op rfl (G.cR rfl rfl rfl rfl Try.func49 rfl rfl (may1 (by first | exact .old (by assumption) | exact Sel.may (by (repeat (first | with_reducible exact Sel.here | exact Sel.here | apply Sel.there)); done) | exact may_own (by (repeat (first | with_reducible exact Sel.here | exact Sel.here | apply Sel.there)); done) rfl (fun _ _ => trivial) | exact may_ownB (by (repeat (first | with_reducible exact Sel.here | exact Sel.here | apply Sel.there)); done) | exact may_ownI (by (repeat (first | with_reducible exact Sel.here | exact Sel.here | apply Sel.there)); done) (by assumption) | exact may_ownN (by (repeat (first | with_reducible exact Sel.here | exact Sel.here | apply Sel.there)); done) (by assumption))) (faultF _ _ _) ?_)
  refine G.op rfl (G.alloc (z := .agg #[.int .i64 0, .int .i64 0]) (cs := [.int .i64 0, .int .i64 0]) rfl (by kernel_rfl) rfl ?_)
  intro b3
  refine G.op rfl (G.storeN (by kernel_rfl) rfl rfl (by first | rfl | exact List.all_eq_true.2 (vByte_one _) | (repeat (first | exact all1_nil | (apply all1_cons; first | rfl | assumption)))) (by repeat (first | with_reducible exact Sel.here | exact Sel.here | apply Sel.there)) (by first | (simp; done) | exact Nat.le_of_ble_eq_true rfl) ?_)
  refine G.nil ?_
  refine G.nThen ?_
  refine G.seq ?_
  refine G.seq ?_
  refine G.drawT (nn := 15) (p := []) (rem := 32767) [0, 1, 2, 4, 8, 24, 40, 72, 8, 264, 520, 1032, 2056, 4232, 8200] [0, 1, 2, 4, 8, 24, 40, 72, 8, 264, 520, 1032, 2056, 4232, 8200] (by kernel_rfl) ⟨rfl, by kernel_rfl, by kernel_rfl⟩ (by repeat (first | exact Sub.nil | (apply Sub.cons; (repeat (first | with_reducible exact Sel.here | exact Sel.here | apply Sel.there))))) (by kernel_rfl) (fun hT2 => ?_)
  refine G.takeT hT2 (i := 0) (rem' := 32766) rfl rfl rfl (by kernel_rfl) (fun _ _ _ h => h) rfl (pv_fieldAddrK (sz := 0) (k := 0) Try.underlying39 rfl (by kernel_rfl) rfl rfl) (by repeat (first | exact Sub.nil | (apply Sub.cons; (repeat (first | with_reducible exact Sel.here | exact Sel.here | apply Sel.there))))) ?_
  refine G.oneT hT2 (i := 1) (rem' := 32764) (by kernel_rfl) (by kernel_rfl) ?_
  refine G.turnOp rfl rfl (G.val rfl rfl (pv_load Try.underlying29 rfl rfl (by first | exact blk_cell (by (repeat (first | with_reducible exact Sel.here | exact Sel.here | apply Sel.there)); done) (by rfl) | exact rng_cell (by (repeat (first | with_reducible exact Sel.here | exact Sel.here | apply Sel.there)); done) (by rfl) | exact ro_blk (by assumption) (by rfl) | exact ro_rngC (by assumption) (by rfl) | exact ro_int (by assumption) | exact ro_byte (by assumption) | exact ro_str (by assumption) | assumption)) ?_)
  refine G.back (by repeat (first | exact Sub.nil | (apply Sub.cons; (repeat (first | with_reducible exact Sel.here | exact Sel.here | apply Sel.there))))) ?_
  refine G.takeT hT2 (i := 2) (rem' := 32760) rfl rfl rfl (by kernel_rfl) (fun _ _ _ h => h) rfl (pv_eql rfl rfl) (by repeat (first | exact Sub.nil | (apply Sub.cons; (repeat (first | with_reducible exact Sel.here | exact Sel.here | apply Sel.there))))) ?_
  refine G.takeT hT2 (i := 3) (rem' := 32752) rfl rfl rfl (by kernel_rfl) (fun _ _ _ h => h) rfl (pv_move rfl) (by repeat (first | exact Sub.nil | (apply Sub.cons; (repeat (first | with_reducible exact Sel.here | exact Sel.here | apply Sel.there))))) ?_
  refine G.partP (t := 9) rfl (fun h9 => ?_) (fun h9 => ?_)
  · refine G.takeT hT2 (i := 4) (rem' := 32736) rfl rfl rfl (by kernel_rfl) (fun _ _ _ h => h) rfl (pv_move rfl) (by repeat (first | exact Sub.nil | (apply Sub.cons; (repeat (first | with_reducible exact Sel.here | exact Sel.here | apply Sel.there))))) ?_
    refine G.takeT hT2 (i := 5) (rem' := 32704) rfl rfl rfl (by kernel_rfl) (fun _ _ _ h => h) rfl (pv_nilCheck rfl) (by repeat (first | exact Sub.nil | (apply Sub.cons; (repeat (first | with_reducible exact Sel.here | exact Sel.here | apply Sel.there))))) ?_
    refine G.takeT hT2 (i := 6) (rem' := 32640) rfl rfl rfl (by kernel_rfl) (fun _ _ _ h => h) rfl (pv_fieldAddrK (sz := 0) (k := 2) Try.underlying96 rfl (by kernel_rfl) rfl rfl) (by repeat (first | exact Sub.nil | (apply Sub.cons; (repeat (first | with_reducible exact Sel.here | exact Sel.here | apply Sel.there))))) ?_
    refine G.takeT hT2 (i := 7) (rem' := 32512) rfl rfl rfl (by kernel_rfl) (fun _ _ _ h => h) rfl (pv_load Try.underlying3 rfl rfl (by first | exact blk_cell (by (repeat (first | with_reducible exact Sel.here | exact Sel.here | apply Sel.there)); done) (by rfl) | exact rng_cell (by (repeat (first | with_reducible exact Sel.here | exact Sel.here | apply Sel.there)); done) (by rfl) | exact ro_blk (by assumption) (by rfl) | exact ro_rngC (by assumption) (by rfl) | exact ro_int (by assumption) | exact ro_byte (by assumption) | exact ro_str (by assumption) | assumption)) (by repeat (first | exact Sub.nil | (apply Sub.cons; (repeat (first | with_reducible exact Sel.here | exact Sel.here | apply Sel.there))))) ?_
    refine G.takeT hT2 (i := 8) (rem' := 32256) rfl rfl rfl (by kernel_rfl) (fun _ _ _ h => h) rfl (pv_move rfl) (by repeat (first | exact Sub.nil | (apply Sub.cons; (repeat (first | with_reducible exact Sel.here | exact Sel.here | apply Sel.there))))) ?_
    refine G.takeT hT2 (i := 9) (rem' := 31744) rfl rfl rfl (by kernel_rfl) (fun _ _ _ h => h) rfl (pv_nilCheck rfl) (by repeat (first | exact Sub.nil | (apply Sub.cons; (repeat (first | with_reducible exact Sel.here | exact Sel.here | apply Sel.there))))) ?_
    refine G.takeT hT2 (i := 10) (rem' := 30720) rfl rfl rfl (by kernel_rfl) (fun _ _ _ h => h) rfl (pv_fieldAddrK (sz := 0) (k := 1) Try.underlying96 rfl (by kernel_rfl) rfl rfl) (by repeat (first | exact Sub.nil | (apply Sub.cons; (repeat (first | with_reducible exact Sel.here | exact Sel.here | apply Sel.there))))) ?_
    refine G.oneT hT2 (i := 11) (rem' := 28672) (by kernel_rfl) (by kernel_rfl) ?_
    refine G.turnOp rfl rfl (G.val rfl rfl (pv_load Try.underlying24 rfl rfl (by first | exact blk_cell (by (repeat (first | with_reducible exact Sel.here | exact Sel.here | apply Sel.there)); done) (by rfl) | exact rng_cell (by (repeat (first | with_reducible exact Sel.here | exact Sel.here | apply Sel.there)); done) (by rfl) | exact ro_blk (by assumption) (by rfl) | exact ro_rngC (by assumption) (by rfl) | exact ro_int (by assumption) | exact ro_byte (by assumption) | exact ro_str (by assumption) | assumption)) ?_)
    refine G.back (by repeat (first | exact Sub.nil | (apply Sub.cons; (repeat (first | with_reducible exact Sel.here | exact Sel.here | apply Sel.there))))) ?_
    refine G.takeT hT2 (i := 12) (rem' := 24576) rfl rfl rfl (by kernel_rfl) (fun _ _ _ h => h) rfl (pv_lenSl Try.underlying24 rfl) (by repeat (first | exact Sub.nil | (apply Sub.cons; (repeat (first | with_reducible exact Sel.here | exact Sel.here | apply Sel.there))))) ?_
    refine G.takeT hT2 (i := 13) (rem' := 16384) rfl rfl rfl (by kernel_rfl) (fun _ _ _ h => h) rfl (pv_lss rfl rfl) (by repeat (first | exact Sub.nil | (apply Sub.cons; (repeat (first | with_reducible exact Sel.here | exact Sel.here | apply Sel.there))))) ?_
    refine G.takeT hT2 (i := 14) (rem' := 0) rfl rfl rfl (by kernel_rfl) (fun _ _ _ h => h) rfl (pv_pick rfl rfl) (by repeat (first | exact Sub.nil | (apply Sub.cons; (repeat (first | with_reducible exact Sel.here | exact Sel.here | apply Sel.there))))) ?_
    refine G.overT hT2 (by kernel_rfl) ?_
    refine G.nThen ?_
    refine G.condP rfl (fun h20 => ?_) (fun h20 => ?_)
    · refine G.region ?_
      refine G.op rfl (G.val rfl rfl (pv_move rfl) ?_)
      refine G.op rfl (G.val rfl rfl (pv_nilCheck rfl) ?_)
      refine G.op rfl (G.val rfl rfl (pv_fieldAddrK (sz := 0) (k := 2) Try.underlying96 rfl (by kernel_rfl) rfl rfl) ?_)
      refine G.op rfl (G.val rfl rfl (pv_load Try.underlying3 rfl rfl (by first | exact blk_cell (by (repeat (first | with_reducible exact Sel.here | exact Sel.here | apply Sel.there)); done) (by rfl) | exact rng_cell (by (repeat (first | with_reducible exact Sel.here | exact Sel.here | apply Sel.there)); done) (by rfl) | exact ro_blk (by assumption) (by rfl) | exact ro_rngC (by assumption) (by rfl) | exact ro_int (by assumption) | exact ro_byte (by assumption) | exact ro_str (by assumption) | assumption)) ?_)
      refine G.op rfl (G.val rfl rfl (pv_buildSt (z := [.int .i64 0, .int .i64 0]) (pl := [(0, 1), (1, 1)]) Try.underlying39 (by kernel_rfl) (by kernel_rfl) rfl (by repeat (first | exact Fl.nil | (apply Fl.cons; exact rfl; (first | exact cells_of (by first | rfl | assumption) | exact rfl); exact rfl; exact rfl; repeat (first | exact Sn.nil | (apply Sn.cons; repeat (first | exact St.zero | apply St.succ))))))) ?_)
      refine G.op rfl (G.storeN (by kernel_rfl) rfl rfl (by first | rfl | exact List.all_eq_true.2 (vByte_one _) | (repeat (first | exact all1_nil | (apply all1_cons; first | rfl | assumption)))) (by repeat (first | with_reducible exact Sel.here | exact Sel.here | apply Sel.there)) (by first | (simp; done) | exact Nat.le_of_ble_eq_true rfl) ?_)
      refine G.nil ?_
      refine G.nThen ?_
      refine G.seq ?_
      refine G.region ?_
      refine G.op rfl (G.val rfl rfl (pv_loadN (cs := [_, _]) Try.underlying39 rfl (by kernel_rfl) rfl (by first | exact blk_range (k := 2) (by (repeat (first | with_reducible exact Sel.here | exact Sel.here | apply Sel.there)); done) (by rfl) | exact rng_range (k := 2) (by (repeat (first | with_reducible exact Sel.here | exact Sel.here | apply Sel.there)); done) (by rfl) | exact ro_range (k := 2) (by assumption) (by rfl) | exact ro_rngR (k := 2) (by assumption) (by rfl))) ?_)
      refine G.op rfl (G.storeN (by kernel_rfl) rfl rfl (by first | rfl | exact List.all_eq_true.2 (vByte_one _) | (repeat (first | exact all1_nil | (apply all1_cons; first | rfl | assumption)))) (by repeat (first | with_reducible exact Sel.here | exact Sel.here | apply Sel.there)) (by first | (simp; done) | exact Nat.le_of_ble_eq_true rfl) ?_)
      refine G.nil ?_
      refine G.nThen ?_
      refine G.ret ?_
      exact G.done0G rfl (Rv.cellN (cs := [_, _]) rfl Try.underlying39 rfl (by kernel_rfl) (by first | exact blk_range (k := 2) (by (repeat (first | with_reducible exact Sel.here | exact Sel.here | apply Sel.there)); done) (by rfl)) Rv.nil) (by unfold endS; first | (rw [if_pos (by omega)]; rfl) | (rw [if_neg (by omega)]; rfl))
    · refine G.skip ?_
      refine G.nThen ?_
      refine G.seq ?_
      refine G.region ?_
      refine G.op rfl (G.val rfl rfl (pv_loadN (cs := [_, _]) Try.underlying39 rfl (by kernel_rfl) rfl (by first | exact blk_range (k := 2) (by (repeat (first | with_reducible exact Sel.here | exact Sel.here | apply Sel.there)); done) (by rfl) | exact rng_range (k := 2) (by (repeat (first | with_reducible exact Sel.here | exact Sel.here | apply Sel.there)); done) (by rfl) | exact ro_range (k := 2) (by assumption) (by rfl) | exact ro_rngR (k := 2) (by assumption) (by rfl))) ?_)
      refine G.op rfl (G.storeN (by kernel_rfl) rfl rfl (by first | rfl | exact List.all_eq_true.2 (vByte_one _) | (repeat (first | exact all1_nil | (apply all1_cons; first | rfl | assumption)))) (by repeat (first | with_reducible exact Sel.here | exact Sel.here | apply Sel.there)) (by first | (simp; done) | exact Nat.le_of_ble_eq_true rfl) ?_)
      refine G.nil ?_
      refine G.nThen ?_
      refine G.ret ?_
      exact G.done0G rfl (Rv.cellN (cs := [_, _]) rfl Try.underlying39 rfl (by kernel_rfl) (by first | exact blk_range (k := 2) (by (repeat (first | with_reducible exact Sel.here | exact Sel.here | apply Sel.there)); done) (by rfl)) Rv.nil) (by unfold endS; first | (rw [if_pos (by omega)]; rfl) | (rw [if_neg (by omega)]; rfl))
  · refine G.takeFT hT2 (i := 4) (rem' := 32736) rfl rfl rfl (by kernel_rfl) (fun _ _ _ h => h) rfl (by repeat (first | exact Sub.nil | (apply Sub.cons; (repeat (first | with_reducible exact Sel.here | exact Sel.here | apply Sel.there))))) ?_
    refine G.takeFT hT2 (i := 5) (rem' := 32704) rfl rfl rfl (by kernel_rfl) (fun _ _ _ h => h) rfl (by repeat (first | exact Sub.nil | (apply Sub.cons; (repeat (first | with_reducible exact Sel.here | exact Sel.here | apply Sel.there))))) ?_
    refine G.takeFT hT2 (i := 6) (rem' := 32640) rfl rfl rfl (by kernel_rfl) (fun _ _ _ h => h) rfl (by repeat (first | exact Sub.nil | (apply Sub.cons; (repeat (first | with_reducible exact Sel.here | exact Sel.here | apply Sel.there))))) ?_
    refine G.takeFT hT2 (i := 7) (rem' := 32512) rfl rfl rfl (by kernel_rfl) (fun _ _ _ h => h) rfl (by repeat (first | exact Sub.nil | (apply Sub.cons; (repeat (first | with_reducible exact Sel.here | exact Sel.here | apply Sel.there))))) ?_
    refine G.takeFT hT2 (i := 8) (rem' := 32256) rfl rfl rfl (by kernel_rfl) (fun _ _ _ h => h) rfl (by repeat (first | exact Sub.nil | (apply Sub.cons; (repeat (first | with_reducible exact Sel.here | exact Sel.here | apply Sel.there))))) ?_
    refine G.takeFT hT2 (i := 9) (rem' := 31744) rfl rfl rfl (by kernel_rfl) (fun _ _ _ h => h) rfl (by repeat (first | exact Sub.nil | (apply Sub.cons; (repeat (first | with_reducible exact Sel.here | exact Sel.here | apply Sel.there))))) ?_
    refine G.takeFT hT2 (i := 10) (rem' := 30720) rfl rfl rfl (by kernel_rfl) (fun _ _ _ h => h) rfl (by repeat (first | exact Sub.nil | (apply Sub.cons; (repeat (first | with_reducible exact Sel.here | exact Sel.here | apply Sel.there))))) ?_
    refine G.takeFT hT2 (i := 11) (rem' := 28672) rfl rfl rfl (by kernel_rfl) (fun _ _ _ h => h) rfl (by repeat (first | exact Sub.nil | (apply Sub.cons; (repeat (first | with_reducible exact Sel.here | exact Sel.here | apply Sel.there))))) ?_
    refine G.takeFT hT2 (i := 12) (rem' := 24576) rfl rfl rfl (by kernel_rfl) (fun _ _ _ h => h) rfl (by repeat (first | exact Sub.nil | (apply Sub.cons; (repeat (first | with_reducible exact Sel.here | exact Sel.here | apply Sel.there))))) ?_
    refine G.takeFT hT2 (i := 13) (rem' := 16384) rfl rfl rfl (by kernel_rfl) (fun _ _ _ h => h) rfl (by repeat (first | exact Sub.nil | (apply Sub.cons; (repeat (first | with_reducible exact Sel.here | exact Sel.here | apply Sel.there))))) ?_
    refine G.takeT hT2 (i := 14) (rem' := 0) rfl rfl rfl (by kernel_rfl) (fun _ _ _ h => h) rfl (pv_pick rfl rfl) (by repeat (first | exact Sub.nil | (apply Sub.cons; (repeat (first | with_reducible exact Sel.here | exact Sel.here | apply Sel.there))))) ?_
    refine G.overT hT2 (by kernel_rfl) ?_
    refine G.nThen ?_
    refine G.condF rfl (rfl) ?_
    refine G.skip ?_
    refine G.nThen ?_
    refine G.seq ?_
    refine G.region ?_
    refine G.op rfl (G.val rfl rfl (pv_loadN (cs := [_, _]) Try.underlying39 rfl (by kernel_rfl) rfl (by first | exact blk_range (k := 2) (by (repeat (first | with_reducible exact Sel.here | exact Sel.here | apply Sel.there)); done) (by rfl) | exact rng_range (k := 2) (by (repeat (first | with_reducible exact Sel.here | exact Sel.here | apply Sel.there)); done) (by rfl) | exact ro_range (k := 2) (by assumption) (by rfl) | exact ro_rngR (k := 2) (by assumption) (by rfl))) ?_)
    refine G.op rfl (G.storeN (by kernel_rfl) rfl rfl (by first | rfl | exact List.all_eq_true.2 (vByte_one _) | (repeat (first | exact all1_nil | (apply all1_cons; first | rfl | assumption)))) (by repeat (first | with_reducible exact Sel.here | exact Sel.here | apply Sel.there)) (by first | (simp; done) | exact Nat.le_of_ble_eq_true rfl) ?_)
    refine G.nil ?_
    refine G.nThen ?_
    refine G.ret ?_
    exact G.done0G rfl (Rv.cellN (cs := [_, _]) rfl Try.underlying39 rfl (by kernel_rfl) (by first | exact blk_range (k := 2) (by (repeat (first | with_reducible exact Sel.here | exact Sel.here | apply Sel.there)); done) (by rfl)) Rv.nil) (by unfold endS; first | (rw [if_pos (by omega)]; rfl) | (rw [if_neg (by omega)]; rfl))
set_option maxRecDepth 20000 in

theorem openR (v : Value) (hv : v.oneCell' = true) : Tr Try.prog 55 #[v] [] [] (TX (fun _ : Nat => True) (fun D => .pointer (some ⟨D, 0, none⟩)) (fun D => [blk D 87 [v, .int .i64 (rs0.a : Int), .int .i64 (rs0.e : Int), .int .i64 rs0.p]])) := by
  refine Tr.of (l := [(0, v)]) Try.func55 rfl (n := 6) rfl (.cons rfl .nil) (fun w0 hro => ?_)
  refine G.seq ?_
  refine G.region ?_
  refine G.op rfl (G.val rfl rfl (pv_assign rfl) ?_)
  refine G.nil ?_
  refine G.nThen ?_
  refine G.seq ?_
  refine G.region ?_
  refine G.op rfl (G.val rfl rfl (pv_move rfl) ?_)
  refine G.op rfl (G.val rfl rfl (pv_buildSt (z := [.slice none 0 0, .int .i64 0, .int .i64 0, .int .i64 0]) (pl := [(0, 1), (1, 1), (2, 2)]) Try.underlying87 (by kernel_rfl) (by kernel_rfl) rfl (by repeat (first | exact Fl.nil | (apply Fl.cons; exact rfl; (first | exact cells_of (by first | rfl | assumption) | exact rfl); exact rfl; exact rfl; repeat (first | exact Sn.nil | (apply Sn.cons; repeat (first | exact St.zero | apply St.succ))))))) ?_)
  refine G.op rfl (G.box rfl rfl (cs := [_, _, _, _]) rfl ?_)
  intro b5
  refine G.op rfl (G.val rfl rfl (pv_assign rfl) ?_)
  refine G.nil ?_
  refine G.nThen ?_
  refine G.ret ?_
  exact G.doneX1 (b5) (by first | exact trivial | ((try dsimp only); exact trivial)) rfl rfl (by first | rfl | exact int_eq (by omega) | (simp; done)) (by repeat (first | exact Sub.nil | (apply Sub.cons; (repeat (first | with_reducible exact Sel.here | exact Sel.here | apply Sel.there)))))
set_option maxRecDepth 20000 in

theorem getR (v : Value) (b : List UInt8) (a : Nat) (ha : a ≤ b.length) (hb : b.length ≤ 1000000000) {Pu : Nat → Prop} : Tr Try.prog 81 #[v, .int .i64 (a : Int)] [slc rByte Pu v b] [] (T0 (.tuple #[.int .i64 (numN (getM b a) : Int), .int .i64 (nextN 0 (getM b a) : Int), .agg #[.int .i64 (errN (getM b a) : Int), .int .i64 (posN 0 (getM b a))]])) := by
  refine Tr.of (l := [(0, v), (1, .int .i64 (a : Int))]) Try.func81 rfl (n := 64) rfl (.cons rfl (.cons rfl .nil)) (fun w0 hro => ?_)
  obtain ⟨ad, cap, bb, off, rfl, -, -, -, had, hel⟩ := Ro.open (ro1 hro)
  refine G.seq ?_
  refine G.region ?_
  refine G.op rfl (G.val rfl rfl (pv_assign rfl) ?_)
  refine G.op rfl (G.val rfl rfl (pv_assign rfl) ?_)
  refine G.op rfl (G.alloc (z := .agg #[.int .i64 0, .int .i64 0]) (cs := [.int .i64 0, .int .i64 0]) rfl (by kernel_rfl) rfl ?_)
  intro b6
  refine G.nil ?_
  refine G.nThen ?_
  refine G.seq ?_
  refine G.seq ?_
  refine G.cutK (X := Bool) (ts := [0, 1, 4, 5, 6]) (p := []) (fun q => (q = true → ∃ h : a < b.length, (b[a].toNat : Int) = 128) ∧ (q = false → getM b a = getGo b a (5 - 0) 0 0)) (fun q => [(20, .bool q)]) (fun q => []) (.cons rfl (.cons rfl (.cons rfl (.cons rfl (.cons rfl .nil))))) (by repeat (first | exact Sub.nil | (apply Sub.cons; (repeat (first | with_reducible exact Sel.here | exact Sel.here | apply Sel.there))))) (.cons .nil) Ap.nil ?_ ?_
  · refine G.region ?_
    refine G.op rfl (G.val rfl rfl (pv_move rfl) ?_)
    refine G.op rfl (G.val rfl rfl (pv_move rfl) ?_)
    refine G.op rfl (G.val rfl rfl (pv_lenSl Try.underlying24 rfl) ?_)
    refine G.op rfl (G.val rfl rfl (pv_lss rfl rfl) ?_)
    refine G.op rfl (G.val rfl rfl (pv_move rfl) ?_)
    refine G.partP (t := 14) rfl (fun h14 => ?_) (fun h14 => ?_)
    · have hlt : a < b.length := by omega
      have hA := hel a hlt
      refine G.want rfl rfl rfl (G.val rfl rfl (pv_move rfl) ?_)
      refine G.want rfl rfl rfl (G.val rfl rfl (pv_move rfl) ?_)
      refine G.want rfl rfl rfl (G.val rfl rfl (pv_ixSl (sz := 1) Try.underlying24 (by kernel_rfl) rfl rfl (by first | assumption | exact fun _ => rfl) rfl (by omega)) ?_)
      refine G.want rfl rfl rfl (G.val rfl rfl (pv_load Try.underlying5 rfl rfl (by first | exact blk_cell (by (repeat (first | with_reducible exact Sel.here | exact Sel.here | apply Sel.there)); done) (by rfl) | exact rng_cell (by (repeat (first | with_reducible exact Sel.here | exact Sel.here | apply Sel.there)); done) (by rfl) | exact ro_blk (by assumption) (by rfl) | exact ro_rngC (by assumption) (by rfl) | exact ro_int (by assumption) | exact ro_byte (by assumption) | exact ro_str (by assumption) | assumption)) ?_)
      refine G.want rfl rfl rfl (G.val rfl rfl (pv_eql rfl rfl) ?_)
      refine G.op rfl (G.val rfl rfl (pv_pick rfl rfl) ?_)
      refine G.nil ?_
      exact G.meet (decide ((b[a].toNat : Int) = 128)) (by first | exact trivial | ((try dsimp only); exact ⟨fun h => ⟨hlt, of_decide_eq_true h⟩, fun h => getM_go fun _ => of_decide_eq_false h⟩)) (.consE rfl (by first | rfl | exact int_eq (by omega) | exact congrArg _ (by omega)) (.cons rfl (.cons rfl (.cons rfl (.cons rfl (.cons rfl .nil)))))) (by repeat (first | exact Sub.nil | (apply Sub.cons; (repeat (first | with_reducible exact Sel.here | exact Sel.here | apply Sel.there)))))
    · refine G.pass rfl rfl rfl rfl rfl rfl ?_
      refine G.pass rfl rfl rfl rfl rfl rfl ?_
      refine G.pass rfl rfl rfl rfl rfl rfl ?_
      refine G.pass rfl rfl rfl rfl rfl rfl ?_
      refine G.pass rfl rfl rfl rfl rfl rfl ?_
      refine G.op rfl (G.val rfl rfl (pv_pick rfl rfl) ?_)
      refine G.nil ?_
      exact G.meet (false) (by first | exact trivial | ((try dsimp only); exact ⟨(fun h => by cases h), fun _ => getM_go fun h => absurd h (by omega)⟩)) (.consE rfl (by first | rfl | exact int_eq (by omega) | exact congrArg _ (by omega)) (.cons rfl (.cons rfl (.cons rfl (.cons rfl (.cons rfl .nil)))))) (by repeat (first | exact Sub.nil | (apply Sub.cons; (repeat (first | with_reducible exact Sel.here | exact Sel.here | apply Sel.there)))))
  · intro q hJ
    try dsimp only at hJ
    try dsimp only
    obtain ⟨hq1, hq2⟩ := hJ
    refine G.cond rfl (fun h20 => ?_) (fun h20 => ?_)
    · obtain ⟨hlt, hc⟩ := hq1 h20
      refine G.seq ?_
      refine G.region ?_
      refine G.op rfl (G.val rfl rfl (pv_move rfl) ?_)
      refine G.op rfl (G.val rfl rfl (pv_buildSt (z := [.int .i64 0, .int .i64 0]) (pl := [(0, 1), (1, 1)]) Try.underlying39 (by kernel_rfl) (by kernel_rfl) rfl (by repeat (first | exact Fl.nil | (apply Fl.cons; exact rfl; (first | exact cells_of (by first | rfl | assumption) | exact rfl); exact rfl; exact rfl; repeat (first | exact Sn.nil | (apply Sn.cons; repeat (first | exact St.zero | apply St.succ))))))) ?_)
      refine G.op rfl (G.val rfl rfl (pv_assign rfl) ?_)
      refine G.op rfl (G.val rfl rfl (pv_assign rfl) ?_)
      refine G.op rfl (G.storeN (by kernel_rfl) rfl rfl (by first | rfl | exact List.all_eq_true.2 (vByte_one _) | (repeat (first | exact all1_nil | (apply all1_cons; first | rfl | assumption)))) (by repeat (first | with_reducible exact Sel.here | exact Sel.here | apply Sel.there)) (by first | (simp; done) | exact Nat.le_of_ble_eq_true rfl) ?_)
      refine G.nil ?_
      refine G.nThen ?_
      refine G.ret ?_
      refine G.rThen ?_
      exact G.done0G rfl (Rv.tmp rfl (Rv.tmp rfl (Rv.cellN (cs := [_, _]) rfl Try.underlying39 rfl (by kernel_rfl) (by first | exact blk_range (k := 2) (by (repeat (first | with_reducible exact Sel.here | exact Sel.here | apply Sel.there)); done) (by rfl)) Rv.nil))) (by rw [getM_128 hlt hc]; rfl)
    · have hgo := hq2 h20
      refine G.skip ?_
      refine G.nThen ?_
      refine G.seq ?_
      refine G.region ?_
      refine G.op rfl (G.val rfl rfl (pv_assign rfl) ?_)
      refine G.nil ?_
      refine G.nThen ?_
      refine G.seq ?_
      refine G.seq ?_
      refine G.region ?_
      refine G.op rfl (G.val rfl rfl (pv_assign rfl) ?_)
      refine G.nil ?_
      refine G.nThen ?_
      refine G.block ?_
      refine G.loopK (X := Nat × Nat) (ts := [0, 1, 6]) (fun st => st.1 ≤ 5 ∧ (st.2 < 128 ^ st.1 ∧ a + st.1 ≤ b.length ∧ getM b a = getGo b a (5 - st.1) st.1 st.2)) (fun st => [(8, .int .i64 (st.1 : Int)), (7, .int .i64 (st.2 : Int))]) (fun st => []) (fun st => 5 - st.1) (x0 := (0, 0)) (.cons rfl (.cons rfl (.cons rfl .nil))) (by repeat (first | exact Sub.nil | (apply Sub.cons; (repeat (first | with_reducible exact Sel.here | exact Sel.here | apply Sel.there))))) (.cons (.cons .nil)) Ap.nil (by first | exact trivial | ((try dsimp only); exact ⟨Nat.zero_le _, ⟨by decide, by omega, hgo⟩⟩)) (.consE rfl (by first | rfl | exact int_eq (by omega) | exact congrArg _ (by omega)) (.consE rfl (by first | rfl | exact int_eq (by omega) | exact congrArg _ (by omega)) .nil)) (fun st hJ => ?_)
      obtain ⟨k, nn⟩ := st
      try dsimp only at hJ
      try dsimp only
      obtain ⟨hkk, hJ⟩ := hJ
      obtain ⟨hnn, hak, hg⟩ := hJ
      have hnn' := pow_bound hkk hnn
      refine G.seq ?_
      refine G.seq ?_
      refine G.region ?_
      refine G.op rfl (G.val rfl rfl (pv_move rfl) ?_)
      refine G.op rfl (G.val rfl rfl (pv_lss rfl rfl) ?_)
      refine G.nil ?_
      refine G.nThen ?_
      refine G.condP rfl (fun h24 => ?_) (fun h24 => ?_)
      · refine G.skip ?_
        refine G.nThen ?_
        refine G.seq ?_
        refine G.block ?_
        refine G.seq ?_
        refine G.seq ?_
        refine G.region ?_
        refine G.op rfl (G.val rfl rfl (pv_move rfl) ?_)
        refine G.op rfl (G.val rfl rfl (pv_move rfl) ?_)
        refine G.op rfl (G.val rfl rfl ((pv_add64 rfl rfl (by omega)).int (show _ = ((a + k : Nat) : Int) by omega)) ?_)
        refine G.op rfl (G.val rfl rfl (pv_move rfl) ?_)
        refine G.op rfl (G.val rfl rfl (pv_lenSl Try.underlying24 rfl) ?_)
        refine G.op rfl (G.val rfl rfl (pv_geq rfl rfl) ?_)
        refine G.nil ?_
        refine G.nThen ?_
        refine G.condP rfl (fun h32 => ?_) (fun h32 => ?_)
        · refine G.seq ?_
          refine G.region ?_
          refine G.op rfl (G.val rfl rfl (pv_move rfl) ?_)
          refine G.op rfl (G.val rfl rfl (pv_lenSl Try.underlying24 rfl) ?_)
          refine G.op rfl (G.val rfl rfl (pv_buildSt (z := [.int .i64 0, .int .i64 0]) (pl := [(0, 1), (1, 1)]) Try.underlying39 (by kernel_rfl) (by kernel_rfl) rfl (by repeat (first | exact Fl.nil | (apply Fl.cons; exact rfl; (first | exact cells_of (by first | rfl | assumption) | exact rfl); exact rfl; exact rfl; repeat (first | exact Sn.nil | (apply Sn.cons; repeat (first | exact St.zero | apply St.succ))))))) ?_)
          refine G.op rfl (G.val rfl rfl (pv_assign rfl) ?_)
          refine G.op rfl (G.val rfl rfl (pv_assign rfl) ?_)
          refine G.op rfl (G.storeN (by kernel_rfl) rfl rfl (by first | rfl | exact List.all_eq_true.2 (vByte_one _) | (repeat (first | exact all1_nil | (apply all1_cons; first | rfl | assumption)))) (by repeat (first | with_reducible exact Sel.here | exact Sel.here | apply Sel.there)) (by first | (simp; done) | exact Nat.le_of_ble_eq_true rfl) ?_)
          refine G.nil ?_
          refine G.nThen ?_
          refine G.ret ?_
          refine G.rThen ?_
          refine G.rBlock ?_
          refine G.rThen ?_
          refine G.rThen ?_
          refine G.rBlock ?_
          refine G.rThen ?_
          exact G.done0G rfl (Rv.tmp rfl (Rv.tmp rfl (Rv.cellN (cs := [_, _]) rfl Try.underlying39 rfl (by kernel_rfl) (by first | exact blk_range (k := 2) (by (repeat (first | with_reducible exact Sel.here | exact Sel.here | apply Sel.there)); done) (by rfl)) Rv.nil))) (by rw [hg, getGo_none (by omega) (by omega)]; rfl)
        · have hlt : a + k < b.length := by omega
          have hA := hel (a + k) hlt
          have hc0 := b[a + k].toNat_lt
          refine G.skip ?_
          refine G.nThen ?_
          refine G.seq ?_
          refine G.region ?_
          refine G.op rfl (G.val rfl rfl (pv_move rfl) ?_)
          refine G.op rfl (G.val rfl rfl (pv_move rfl) ?_)
          refine G.op rfl (G.val rfl rfl (pv_move rfl) ?_)
          refine G.op rfl (G.val rfl rfl ((pv_add64 rfl rfl (by omega)).int (show _ = ((a + k : Nat) : Int) by omega)) ?_)
          refine G.op rfl (G.val rfl rfl (pv_ixSl (sz := 1) Try.underlying24 (by kernel_rfl) rfl rfl (by first | assumption | exact fun _ => rfl) rfl (by omega)) ?_)
          refine G.op rfl (G.val rfl rfl (pv_load Try.underlying5 rfl rfl (by first | exact blk_cell (by (repeat (first | with_reducible exact Sel.here | exact Sel.here | apply Sel.there)); done) (by rfl) | exact rng_cell (by (repeat (first | with_reducible exact Sel.here | exact Sel.here | apply Sel.there)); done) (by rfl) | exact ro_blk (by assumption) (by rfl) | exact ro_rngC (by assumption) (by rfl) | exact ro_int (by assumption) | exact ro_byte (by assumption) | exact ro_str (by assumption) | assumption)) ?_)
          refine G.op rfl (G.val rfl rfl ((pv_conv (by rw [Try.underlying5]; rfl) Try.underlying3 rfl).int (wrap_i64 (by unfold I64; omega))) ?_)
          refine G.op rfl (G.val rfl rfl (pv_assign rfl) ?_)
          refine G.nil ?_
          refine G.nThen ?_
          refine G.seq ?_
          refine G.region ?_
          refine G.op rfl (G.val rfl rfl (pv_move rfl) ?_)
          refine G.op rfl (G.val rfl rfl (pv_mul64 rfl rfl (by omega)) ?_)
          refine G.op rfl (G.val rfl rfl (pv_move rfl) ?_)
          refine G.op rfl (G.val rfl rfl (pv_rem64 rfl rfl (by omega) (by omega)) ?_)
          refine G.op rfl (G.val rfl rfl ((pv_add64 rfl rfl (by omega)).int (show _ = ((nn * 128 + b[a + k].toNat % 128 : Nat) : Int) by omega)) ?_)
          refine G.op rfl (G.val rfl rfl (pv_assign rfl) ?_)
          refine G.nil ?_
          refine G.nThen ?_
          refine G.seq ?_
          refine G.seq ?_
          refine G.region ?_
          refine G.op rfl (G.val rfl rfl (pv_move rfl) ?_)
          refine G.op rfl (G.val rfl rfl (pv_lss rfl rfl) ?_)
          refine G.op rfl (G.val rfl rfl (pv_move rfl) ?_)
          refine G.partP (t := 50) rfl (fun h50 => ?_) (fun h50 => ?_)
          · refine G.want rfl rfl rfl (G.val rfl rfl (pv_move rfl) ?_)
            refine G.want rfl rfl rfl (G.val rfl rfl (pv_leq rfl rfl) ?_)
            refine G.op rfl (G.val rfl rfl (pv_pick rfl rfl) ?_)
            refine G.nil ?_
            refine G.nThen ?_
            refine G.condP rfl (fun h53 => ?_) (fun h53 => ?_)
            · refine G.seq ?_
              refine G.region ?_
              refine G.op rfl (G.val rfl rfl (pv_move rfl) ?_)
              refine G.op rfl (G.val rfl rfl (pv_move rfl) ?_)
              refine G.op rfl (G.val rfl rfl (pv_move rfl) ?_)
              refine G.op rfl (G.val rfl rfl ((pv_add64 rfl rfl (by omega)).int (show _ = ((a + k : Nat) : Int) by omega)) ?_)
              refine G.op rfl (G.val rfl rfl ((pv_add64 rfl rfl (by omega)).int (show _ = ((a + k + 1 : Nat) : Int) by omega)) ?_)
              refine G.op rfl (G.val rfl rfl (pv_buildSt (z := [.int .i64 0, .int .i64 0]) (pl := [(0, 1), (1, 1)]) Try.underlying39 (by kernel_rfl) (by kernel_rfl) rfl (by repeat (first | exact Fl.nil | (apply Fl.cons; exact rfl; (first | exact cells_of (by first | rfl | assumption) | exact rfl); exact rfl; exact rfl; repeat (first | exact Sn.nil | (apply Sn.cons; repeat (first | exact St.zero | apply St.succ))))))) ?_)
              refine G.op rfl (G.val rfl rfl (pv_assign rfl) ?_)
              refine G.op rfl (G.val rfl rfl (pv_assign rfl) ?_)
              refine G.op rfl (G.storeN (by kernel_rfl) rfl rfl (by first | rfl | exact List.all_eq_true.2 (vByte_one _) | (repeat (first | exact all1_nil | (apply all1_cons; first | rfl | assumption)))) (by repeat (first | with_reducible exact Sel.here | exact Sel.here | apply Sel.there)) (by first | (simp; done) | exact Nat.le_of_ble_eq_true rfl) ?_)
              refine G.nil ?_
              refine G.nThen ?_
              refine G.ret ?_
              refine G.rThen ?_
              refine G.rBlock ?_
              refine G.rThen ?_
              refine G.rThen ?_
              refine G.rBlock ?_
              refine G.rThen ?_
              exact G.done0G rfl (Rv.tmp rfl (Rv.tmp rfl (Rv.cellN (cs := [_, _]) rfl Try.underlying39 rfl (by kernel_rfl) (by first | exact blk_range (k := 2) (by (repeat (first | with_reducible exact Sel.here | exact Sel.here | apply Sel.there)); done) (by rfl)) Rv.nil))) (by rw [hg, getGo_ok (by omega) hlt (by omega) (by omega)]; rfl)
            · refine G.skip ?_
              refine G.nThen ?_
              refine G.seq ?_
              refine G.region ?_
              refine G.op rfl (G.val rfl rfl (pv_move rfl) ?_)
              refine G.op rfl (G.val rfl rfl (pv_lss rfl rfl) ?_)
              refine G.nil ?_
              refine G.nThen ?_
              refine G.condP rfl (fun h61 => ?_) (fun h61 => ?_)
              · refine G.exit ?_
                refine G.ePass rfl ?_
                refine G.eThen ?_
                refine G.eThen ?_
                refine G.eBlock ?_
                refine G.nThen ?_
                refine G.seq ?_
                refine G.region ?_
                refine G.op rfl (G.val rfl rfl (pv_move rfl) ?_)
                refine G.op rfl (G.val rfl rfl (pv_buildSt (z := [.int .i64 0, .int .i64 0]) (pl := [(0, 1), (1, 1)]) Try.underlying39 (by kernel_rfl) (by kernel_rfl) rfl (by repeat (first | exact Fl.nil | (apply Fl.cons; exact rfl; (first | exact cells_of (by first | rfl | assumption) | exact rfl); exact rfl; exact rfl; repeat (first | exact Sn.nil | (apply Sn.cons; repeat (first | exact St.zero | apply St.succ))))))) ?_)
                refine G.op rfl (G.val rfl rfl (pv_assign rfl) ?_)
                refine G.op rfl (G.val rfl rfl (pv_assign rfl) ?_)
                refine G.op rfl (G.storeN (by kernel_rfl) rfl rfl (by first | rfl | exact List.all_eq_true.2 (vByte_one _) | (repeat (first | exact all1_nil | (apply all1_cons; first | rfl | assumption)))) (by repeat (first | with_reducible exact Sel.here | exact Sel.here | apply Sel.there)) (by first | (simp; done) | exact Nat.le_of_ble_eq_true rfl) ?_)
                refine G.nil ?_
                refine G.nThen ?_
                refine G.ret ?_
                exact G.done0G rfl (Rv.tmp rfl (Rv.tmp rfl (Rv.cellN (cs := [_, _]) rfl Try.underlying39 rfl (by kernel_rfl) (by first | exact blk_range (k := 2) (by (repeat (first | with_reducible exact Sel.here | exact Sel.here | apply Sel.there)); done) (by rfl)) Rv.nil))) (by rw [hg, getGo_big (by omega) hlt (by omega) (by omega)]; rfl)
              · refine G.skip ?_
                refine G.nBlock ?_
                refine G.nThen ?_
                refine G.region ?_
                refine G.op rfl (G.val rfl rfl (pv_move rfl) ?_)
                refine G.op rfl (G.val rfl rfl (pv_add64 rfl rfl (by omega)) ?_)
                refine G.op rfl (G.val rfl rfl (pv_assign rfl) ?_)
                refine G.nil ?_
                exact G.next ((k + 1, nn * 128 + b[a + k].toNat % 128)) (by first | exact trivial | ((try dsimp only); exact ⟨by omega, ⟨pow_step hnn (by omega), by omega, hg.trans (getGo_hi (by omega) hlt (by omega))⟩⟩)) (by (try dsimp only); omega) (.consE rfl (by first | rfl | exact int_eq (by omega) | exact congrArg _ (by omega)) (.consE rfl (by first | rfl | exact int_eq (by omega) | exact congrArg _ (by omega)) (.cons rfl (.cons rfl (.cons rfl .nil))))) (by repeat (first | exact Sub.nil | (apply Sub.cons; (repeat (first | with_reducible exact Sel.here | exact Sel.here | apply Sel.there)))))
          · refine G.pass rfl rfl rfl rfl rfl rfl ?_
            refine G.pass rfl rfl rfl rfl rfl rfl ?_
            refine G.op rfl (G.val rfl rfl (pv_pick rfl rfl) ?_)
            refine G.nil ?_
            refine G.nThen ?_
            refine G.condF rfl (rfl) ?_
            refine G.skip ?_
            refine G.nThen ?_
            refine G.seq ?_
            refine G.region ?_
            refine G.op rfl (G.val rfl rfl (pv_move rfl) ?_)
            refine G.op rfl (G.val rfl rfl (pv_lss rfl rfl) ?_)
            refine G.nil ?_
            refine G.nThen ?_
            refine G.condP rfl (fun h61 => ?_) (fun h61 => ?_)
            · refine G.exit ?_
              refine G.ePass rfl ?_
              refine G.eThen ?_
              refine G.eThen ?_
              refine G.eBlock ?_
              refine G.nThen ?_
              refine G.seq ?_
              refine G.region ?_
              refine G.op rfl (G.val rfl rfl (pv_move rfl) ?_)
              refine G.op rfl (G.val rfl rfl (pv_buildSt (z := [.int .i64 0, .int .i64 0]) (pl := [(0, 1), (1, 1)]) Try.underlying39 (by kernel_rfl) (by kernel_rfl) rfl (by repeat (first | exact Fl.nil | (apply Fl.cons; exact rfl; (first | exact cells_of (by first | rfl | assumption) | exact rfl); exact rfl; exact rfl; repeat (first | exact Sn.nil | (apply Sn.cons; repeat (first | exact St.zero | apply St.succ))))))) ?_)
              refine G.op rfl (G.val rfl rfl (pv_assign rfl) ?_)
              refine G.op rfl (G.val rfl rfl (pv_assign rfl) ?_)
              refine G.op rfl (G.storeN (by kernel_rfl) rfl rfl (by first | rfl | exact List.all_eq_true.2 (vByte_one _) | (repeat (first | exact all1_nil | (apply all1_cons; first | rfl | assumption)))) (by repeat (first | with_reducible exact Sel.here | exact Sel.here | apply Sel.there)) (by first | (simp; done) | exact Nat.le_of_ble_eq_true rfl) ?_)
              refine G.nil ?_
              refine G.nThen ?_
              refine G.ret ?_
              exact G.done0G rfl (Rv.tmp rfl (Rv.tmp rfl (Rv.cellN (cs := [_, _]) rfl Try.underlying39 rfl (by kernel_rfl) (by first | exact blk_range (k := 2) (by (repeat (first | with_reducible exact Sel.here | exact Sel.here | apply Sel.there)); done) (by rfl)) Rv.nil))) (by rw [hg, getGo_big (by omega) hlt (by omega) (by omega)]; rfl)
            · refine G.skip ?_
              refine G.nBlock ?_
              refine G.nThen ?_
              refine G.region ?_
              refine G.op rfl (G.val rfl rfl (pv_move rfl) ?_)
              refine G.op rfl (G.val rfl rfl (pv_add64 rfl rfl (by omega)) ?_)
              refine G.op rfl (G.val rfl rfl (pv_assign rfl) ?_)
              refine G.nil ?_
              exact G.next ((k + 1, nn * 128 + b[a + k].toNat % 128)) (by first | exact trivial | ((try dsimp only); exact ⟨by omega, ⟨pow_step hnn (by omega), by omega, hg.trans (getGo_hi (by omega) hlt (by omega))⟩⟩)) (by (try dsimp only); omega) (.consE rfl (by first | rfl | exact int_eq (by omega) | exact congrArg _ (by omega)) (.consE rfl (by first | rfl | exact int_eq (by omega) | exact congrArg _ (by omega)) (.cons rfl (.cons rfl (.cons rfl .nil))))) (by repeat (first | exact Sub.nil | (apply Sub.cons; (repeat (first | with_reducible exact Sel.here | exact Sel.here | apply Sel.there)))))
      · refine G.exit ?_
        refine G.eThen ?_
        refine G.eThen ?_
        refine G.eBlock ?_
        refine G.nThen ?_
        refine G.seq ?_
        refine G.region ?_
        refine G.op rfl (G.val rfl rfl (pv_move rfl) ?_)
        refine G.op rfl (G.val rfl rfl (pv_buildSt (z := [.int .i64 0, .int .i64 0]) (pl := [(0, 1), (1, 1)]) Try.underlying39 (by kernel_rfl) (by kernel_rfl) rfl (by repeat (first | exact Fl.nil | (apply Fl.cons; exact rfl; (first | exact cells_of (by first | rfl | assumption) | exact rfl); exact rfl; exact rfl; repeat (first | exact Sn.nil | (apply Sn.cons; repeat (first | exact St.zero | apply St.succ))))))) ?_)
        refine G.op rfl (G.val rfl rfl (pv_assign rfl) ?_)
        refine G.op rfl (G.val rfl rfl (pv_assign rfl) ?_)
        refine G.op rfl (G.storeN (by kernel_rfl) rfl rfl (by first | rfl | exact List.all_eq_true.2 (vByte_one _) | (repeat (first | exact all1_nil | (apply all1_cons; first | rfl | assumption)))) (by repeat (first | with_reducible exact Sel.here | exact Sel.here | apply Sel.there)) (by first | (simp; done) | exact Nat.le_of_ble_eq_true rfl) ?_)
        refine G.nil ?_
        refine G.nThen ?_
        refine G.ret ?_
        obtain rfl : k = 5 := by omega
        exact G.done0G rfl (Rv.tmp rfl (Rv.tmp rfl (Rv.cellN (cs := [_, _]) rfl Try.underlying39 rfl (by kernel_rfl) (by first | exact blk_range (k := 2) (by (repeat (first | with_reducible exact Sel.here | exact Sel.here | apply Sel.there)); done) (by rfl)) Rv.nil))) (by rw [hg]; rfl)
end Go.Proofs.Ytakcffhknnailaa
