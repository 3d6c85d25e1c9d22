/- Merged of TA, TB, TC, TD. Conditions: none. -/
import Derived.Test.YtchgaedidfefoaaGf
import Derived.Test.YtchgaedidfefoaaGe
import Derived.Test.YtchgaedidfefoaaGd
/- Contracts of layer 8's entries: bytes that are copied, what is wrong with an entry, whether two are the same. Conditions: what is copied is not long. -/
set_option linter.unusedVariables false
set_option linter.unusedSimpArgs false
namespace Go.Proofs.Ytchgaedidfefoaa
open Go.RowKit

theorem U_eq {c d : Ck} (h : ∀ b, c.S b ↔ d.S b) : U [c] = U [d] := by
  funext b
  simp [U, h]
/-- a block of bytes that was just laid is a slice with its room -/
theorem G.blkOwnB {n : Nat} {w0 : World} {S : Nat → Prop} {l : Fr} {m : List Ck} {K : Act → World → Prop} {b e : Nat} {xs : List UInt8} {r : List Ck} (hs : Sel m (blk b e (xs.map vByte)) r) (hm : xs.length ≤ 9223372036854775807) (h : G n w0 S l (ownB e (.slice (some ⟨b, 0, none⟩) xs.length xs.length) xs :: r) K) : G n w0 S l m K := fun a w ha hw =>
  h a w ha (hp_view (c := blk b e (xs.map vByte)) (d := ownB e (.slice (some ⟨b, 0, none⟩) xs.length xs.length) xs) (hw.sel hs) (fun hg => .inr ⟨b, [], by simp, by simpa using hm, by rw [List.append_nil]; exact hg⟩) fun k hk => by
    have : some b = some k := hk
    exact (Option.some.inj this).symm)
set_option maxRecDepth 20000 in
set_option maxHeartbeats 4000000 in

theorem over_nil : Tr Try.prog 24 #[.slice none 0 0] [] [] (TX (fun _ : Unit => True) (fun _ => .tuple #[]) (fun _ => [])) := by
  refine Tr.of (l := [(0, .slice none 0 0)]) Try.func24 rfl (n := 22) rfl (.cons rfl .nil) (fun w0 hro => ?_)
  refine G.seq ?_
  refine G.region ?_
  refine G.op rfl (G.val rfl rfl (pv_move rfl) ?_)
  refine G.op rfl (G.val rfl rfl (pv_move rfl) ?_)
  refine G.op rfl (G.val rfl rfl (pv_capSl Try.underlying29 rfl) ?_)
  refine G.op rfl (G.val rfl rfl (pv_subH (sz := 1) (k := 0) Try.underlying29 Try.sizeByte rfl rfl rfl (Nat.le_refl _)) ?_)
  refine G.op rfl (G.val rfl rfl (pv_assign rfl) ?_)
  refine G.nil ?_
  refine G.nThen ?_
  refine G.seq ?_
  refine G.region ?_
  refine G.op rfl (G.val rfl rfl (pv_assign rfl) ?_)
  refine G.nil ?_
  refine G.nThen ?_
  refine G.block ?_
  refine G.loopK (X := Unit) (ts := [2]) (fun _ => True) (fun _ => [(3, .int .i64 0)]) (fun _ => []) (fun _ => 0) (x0 := ()) (.cons rfl .nil) (by repeat (first | exact Sub.nil | (apply Sub.cons; (repeat (first | with_reducible exact Sel.here | exact Sel.here | apply Sel.there))))) (.cons .nil) (by repeat (first | exact Ap.nil | apply Ap.cons)) (by first | exact trivial | ((try dsimp only); exact trivial)) (.consE rfl (by first | rfl | exact int_eq (by first | omega | (dsimp only; omega)) | exact congrArg _ (by omega)) .nil) (fun _ hJ => ?_)
  try dsimp only at hJ
  try dsimp only
  refine G.seq ?_
  refine G.seq ?_
  refine G.region ?_
  refine G.op rfl (G.val rfl rfl (pv_move rfl) ?_)
  refine G.op rfl (G.val rfl rfl (pv_move rfl) ?_)
  refine G.op rfl (G.val rfl rfl (pv_lenSl Try.underlying29 rfl) ?_)
  refine G.op rfl (G.val rfl rfl (pv_lss rfl rfl) ?_)
  refine G.nil ?_
  refine G.nThen ?_
  refine G.condF rfl (decide_eq_false (by omega)) ?_
  refine G.exit ?_
  refine G.eThen ?_
  refine G.eThen ?_
  refine G.eBlock ?_
  exact G.doneXE (()) (by first | exact trivial | ((try dsimp only); exact trivial)) rfl (by first | rfl | exact int_eq (by omega) | (simp; done)) (by repeat (first | exact Sub.nil | (apply Sub.cons; (repeat (first | with_reducible exact Sel.here | exact Sel.here | apply Sel.there)))))
theorem overB_tr (v : Value) (xs : List UInt8) : Tr Try.prog 24 #[v] [] [ownB 5 v xs] (TX (fun _ : Unit => True) (fun _ => .tuple #[]) (fun _ => [])) := fun w hro hw => by
  rcases hw.holds _ (List.mem_cons_self ..) with ⟨rfl, rfl⟩ | ⟨b, sp, rfl, hm, hg⟩
  · refine (over_nil w (by simp) ⟨Chg.refl _ _, by simp, by simp, .nil⟩).mono ?_
    rintro e w' ⟨u, m', he, ⟨x, hJ, hu, hm⟩, hw'⟩
    subst hm
    exact ⟨u, [], he, ⟨(), trivial, hu, rfl⟩, ⟨hw'.chg.mono fun b hb => by rw [U_nil] at hb; exact hb.elim, by simp, by simp, .nil⟩⟩
  · have hU : U [ownB 5 (.slice (some ⟨b, 0, none⟩) xs.length (xs.length + sp.length)) xs] = U [blk b 5 ((xs ++ sp).map vByte)] := U_eq fun k => by
      show some b = some k ↔ k = b
      constructor <;> intro h
      · exact (Option.some.inj h).symm
      · rw [h]
    have hw2 : Hp w (U [blk b 5 ((xs ++ sp).map vByte)]) w [blk b 5 ((xs ++ sp).map vByte)] := by
      rw [hU] at hw
      exact hp_view hw (fun _ => hg) fun k hk => by obtain rfl : k = b := hk; rfl
    refine (over_tr b xs.length (xs.length + sp.length) (xs ++ sp) (by simp) hm (by omega) w (by simp) hw2).mono ?_
    rintro e w' ⟨u, m', he, ⟨x, hJ, hu, hm'⟩, hw'⟩
    refine ⟨u, [], he, ⟨(), trivial, hu, rfl⟩, ?_⟩
    rw [hU]
    exact hw'.sub (List.nil_sublist _)
set_option maxRecDepth 20000 in
set_option maxHeartbeats 4000000 in

theorem copyB_tr {Pv : Nat → Prop} (v : Value) (a : List UInt8) (ha : a.length ≤ 140737488355328) : Tr Try.prog 47 #[v] [slc rByte Pv v a] [] (TX (fun _ : Value => True) (fun x => x) (fun x => [ownB 5 x a])) := by
  refine Tr.of (l := [(0, v)]) Try.func47 rfl (n := 6) rfl (.cons rfl .nil) (fun w0 hro => ?_)
  have hv := ro1 hro
  obtain ⟨av, cv, qv, ov, rfl, hcv, hmv, hnil, hadv, -⟩ := Ro.open hv
  refine G.seq ?_
  refine G.region ?_
  refine G.op rfl (G.val rfl rfl (pv_assign rfl) ?_)
  refine G.nil ?_
  refine G.nThen ?_
  refine G.seq ?_
  refine G.region ?_
  refine G.op rfl (G.lit0 rfl Try.underlying29 (by kernel_rfl) rfl ?_)
  intro b3
  refine G.blkOwnB (b := b3) (xs := []) (by repeat (first | with_reducible exact Sel.here | exact Sel.here | apply Sel.there)) (by decide) ?_
  refine G.op rfl (G.val rfl rfl (pv_move rfl) ?_)
  refine G.op rfl (G.appendB (xs := []) (ys := a) (Ps := Pv) rfl Try.underlying29 Try.infoByte rfl rfl (by repeat (first | with_reducible exact Sel.here | exact Sel.here | apply Sel.there)) (ro_sl hv) (by simp; omega) (by simp; omega) ?_)
  intro v'
  rw [List.nil_append a]
  refine G.op rfl (G.val rfl rfl (pv_assign rfl) ?_)
  refine G.nil ?_
  refine G.nThen ?_
  refine G.ret ?_
  exact G.doneX1 (v') (by first | exact trivial | ((try dsimp only); exact trivial)) rfl rfl rfl (by repeat (first | exact Sub.nil | (apply Sub.cons; (repeat (first | with_reducible exact Sel.here | exact Sel.here | apply Sel.there)))))
set_option maxRecDepth 20000 in
set_option maxHeartbeats 4000000 in

theorem cloneB_tr {Pv : Nat → Prop} (v : Value) (a : List UInt8) (ha : a.length ≤ 140737488355328) : Tr Try.prog 64 #[v] [slc rByte Pv v a] [] (TX (fun _ : Value => True) (fun x => x) (fun x => [ownB 5 x a])) := by
  refine Tr.of (l := [(0, v)]) Try.func64 rfl (n := 8) rfl (.cons rfl .nil) (fun w0 hro => ?_)
  have hv := ro1 hro
  obtain ⟨av, cv, qv, ov, rfl, hcv, hmv, hnil, hadv, -⟩ := Ro.open hv
  refine G.seq ?_
  refine G.region ?_
  refine G.op rfl (G.val rfl rfl (pv_assign rfl) ?_)
  refine G.nil ?_
  refine G.nThen ?_
  refine G.seq ?_
  refine G.seq ?_
  refine G.region ?_
  refine G.op rfl (G.val rfl rfl (pv_move rfl) ?_)
  refine G.op rfl (G.val rfl rfl (pv_eqlSl0 Try.underlying29 rfl rfl) ?_)
  refine G.nil ?_
  refine G.nThen ?_
  refine G.cond rfl (fun h4 => ?_) (fun h4 => ?_)
  · have hn : av = none := by simpa using h4
    have hc0 := hnil hn
    obtain rfl : a = [] := List.eq_nil_of_length_eq_zero (by omega)
    refine G.seq ?_
    refine G.region ?_
    refine G.op rfl (G.val rfl rfl (pv_assign rfl) ?_)
    refine G.nil ?_
    refine G.nThen ?_
    refine G.ret ?_
    refine G.rThen ?_
    refine G.ownBNil 5 ?_
    exact G.doneX1 (.slice none 0 0) (by first | exact trivial | ((try dsimp only); exact trivial)) rfl rfl rfl (by repeat (first | exact Sub.nil | (apply Sub.cons; (repeat (first | with_reducible exact Sel.here | exact Sel.here | apply Sel.there)))))
  · refine G.skip ?_
    refine G.nThen ?_
    refine G.seq ?_
    refine G.region ?_
    refine G.op rfl (G.lit0 rfl Try.underlying29 (by kernel_rfl) rfl ?_)
    intro b5
    refine G.blkOwnB (b := b5) (xs := []) (by repeat (first | with_reducible exact Sel.here | exact Sel.here | apply Sel.there)) (by decide) ?_
    refine G.op rfl (G.val rfl rfl (pv_move rfl) ?_)
    refine G.op rfl (G.appendB (xs := []) (ys := a) (Ps := Pv) rfl Try.underlying29 Try.infoByte rfl rfl (by repeat (first | with_reducible exact Sel.here | exact Sel.here | apply Sel.there)) (ro_sl hv) (by simp; omega) (by simp; omega) ?_)
    intro v'
    rw [List.nil_append a]
    refine G.op rfl (G.val rfl rfl (pv_assign rfl) ?_)
    refine G.nil ?_
    refine G.nThen ?_
    refine G.ret ?_
    exact G.doneX1 (v') (by first | exact trivial | ((try dsimp only); exact trivial)) rfl rfl rfl (by repeat (first | exact Sub.nil | (apply Sub.cons; (repeat (first | with_reducible exact Sel.here | exact Sel.here | apply Sel.there)))))
set_option maxRecDepth 20000 in
set_option maxHeartbeats 4000000 in

theorem bequal_tr {Pv Pu : Nat → Prop} (v u : Value) (a b : List UInt8) : Tr Try.prog 72 #[v, u] [slc rByte Pv v a, slc rByte Pu u b] [] (T0 (.bool (decide (a = b)))) := by
  refine Tr.of (l := [(0, v), (1, u)]) Try.func72 rfl (n := 10) rfl (.cons rfl (.cons rfl .nil)) (fun w0 hro => ?_)
  obtain ⟨hv, hu⟩ := ro2 hro
  refine G.seq ?_
  refine G.region ?_
  refine G.op rfl (G.val rfl rfl (pv_assign rfl) ?_)
  refine G.nil ?_
  refine G.nThen ?_
  refine G.seq ?_
  refine G.region ?_
  refine G.op rfl (G.val rfl rfl (pv_move rfl) ?_)
  refine G.op rfl (G.val rfl rfl (pv_toStr Try.underlying29 Try.underlying5 Try.underlying9 rfl (by first | exact ro_sl (by assumption) | assumption)) ?_)
  refine G.op rfl (G.val rfl rfl (pv_move rfl) ?_)
  refine G.op rfl (G.val rfl rfl (pv_toStr Try.underlying29 Try.underlying5 Try.underlying9 rfl (by first | exact ro_sl (by assumption) | assumption)) ?_)
  refine G.op rfl (G.val rfl rfl (pv_eqlS rfl rfl) ?_)
  refine G.op rfl (G.val rfl rfl (pv_assign rfl) ?_)
  refine G.nil ?_
  refine G.nThen ?_
  refine G.ret ?_
  exact G.done0G rfl (Rv.tmp rfl Rv.nil) (by first | rfl | exact int_eq (by omega) | (simp; done))
end Go.Proofs.Ytchgaedidfefoaa

/- Contracts of layer 8's entries: what is wrong with an entry, whether two are the same. Conditions: none. -/
set_option linter.unusedVariables false
set_option linter.unusedSimpArgs false
namespace Go.Proofs.Ytchgaedidfefoaa
open Go.RowKit

def argP (e : En) : Prop := e.kind < 1 ∨ 3 < e.kind ∨ e.mode < 0 ∨ 511 < e.mode ∨ (0 < e.data.length ∧ e.kind ≠ 2) ∨ (e.kind = 3 ∧ e.to.length = 0) ∨ (e.kind ≠ 3 ∧ 0 < e.to.length) ∨ 200 < e.to.length
instance (e : En) : Decidable (argP e) := inferInstanceAs (Decidable (_ ∨ _))
/-- what is wrong with an entry by itself -/
def oneM (e : En) : Int := if ¬ okP e.path then 4 else if argP e then 2 else if 1048576 < e.data.length then 3 else 0
theorem one_bytes {e : En} (h : ¬ okP e.path) : oneM e = 4 := if_pos h
theorem one_arg {e : En} (h : okP e.path) (h2 : argP e) : oneM e = 2 := (if_neg (fun k => k h)).trans (if_pos h2)
theorem one_long {e : En} (h : okP e.path) (h2 : ¬ argP e) (h3 : 1048576 < e.data.length) : oneM e = 3 := (if_neg (fun k => k h)).trans ((if_neg h2).trans (if_pos h3))
theorem one_ok {e : En} (h : okP e.path) (h2 : ¬ argP e) (h3 : ¬ 1048576 < e.data.length) : oneM e = 0 := (if_neg (fun k => k h)).trans ((if_neg h2).trans (if_neg h3))
theorem nil_len {s : List UInt8} : s = [] ↔ s.length = 0 := List.length_eq_zero_iff.symm
theorem dec_t {p : Prop} [Decidable p] (h : p) : Value.bool true = .bool (decide p) := by rw [decide_eq_true h]
theorem dec_f {p : Prop} [Decidable p] (h : ¬ p) : Value.bool false = .bool (decide p) := by rw [decide_eq_false h]
theorem dec_e {p q : Prop} [Decidable p] [Decidable q] (h : p ↔ q) : Value.bool (decide p) = .bool (decide q) := by rw [decide_eq_decide.2 h]
theorem dec_n {p : Prop} [Decidable p] {a b : Bool} (h : (!(a == b)) = true ↔ p) : Value.bool (!(a == b)) = .bool (decide p) := by
  congr 1
  cases hh : (!(a == b)) with
  | true => exact (decide_eq_true (h.1 hh)).symm
  | false => exact (decide_eq_false fun k => by rw [h.2 k] at hh; cases hh).symm
theorem bne_dec {p q : Prop} [Decidable p] [Decidable q] : (!(decide p == decide q)) = true ↔ ¬ (p ↔ q) := by
  by_cases hp : p <;> by_cases hq : q <;> simp [hp, hq]
set_option maxRecDepth 20000 in
set_option maxHeartbeats 4000000 in

theorem one_tr {Pd : Nat → Prop} (e : En) (d : Value) (hl : e.path.length ≤ 9223372036854775807) : Tr Try.prog 39 #[.agg #[.string (sB e.path), .int .i64 e.kind, .int .i64 e.mode, d, .string (sB e.to)]] [slc rByte Pd d e.data] [] (T0 (.int .i64 (oneM e))) := by
  refine Tr.of (l := [(0, .agg #[.string (sB e.path), .int .i64 e.kind, .int .i64 e.mode, d, .string (sB e.to)])]) Try.func39 rfl (n := 58) rfl (.cons rfl .nil) (fun w0 hro => ?_)
  have hd := ro1 hro
  obtain ⟨ad, cap, rfl⟩ := Ro.slv hd
  have hto := nil_len (s := e.to)
  refine G.seq ?_
  refine G.region ?_
  refine G.op rfl (G.box rfl rfl (cs := [_, _, _, _, _]) rfl ?_)
  intro b1
  refine G.op rfl (G.val rfl rfl (pv_assign rfl) ?_)
  refine G.nil ?_
  refine G.nThen ?_
  refine G.seq ?_
  refine G.drawT (nn := 8) (p := []) (rem := 255) [0, 1, 2, 0, 8, 16, 7, 127] [0, 1, 2, 0, 8, 16, 4, 32] (by kernel_rfl) ⟨rfl, by kernel_rfl, by kernel_rfl⟩ (by repeat (first | exact Sub.nil | (apply Sub.cons; (repeat (first | with_reducible exact Sel.here | exact Sel.here | apply Sel.there))))) (by kernel_rfl) (fun hT1 => ?_)
  refine G.takeT hT1 (i := 0) (rem' := 254) rfl rfl rfl (by kernel_rfl) (fun _ _ _ h => h) rfl (pv_fieldAddrK (sz := 0) (k := 1) Try.underlying31 rfl (by kernel_rfl) rfl rfl) (by repeat (first | exact Sub.nil | (apply Sub.cons; (repeat (first | with_reducible exact Sel.here | exact Sel.here | apply Sel.there))))) ?_
  refine G.takeT hT1 (i := 3) (rem' := 246) rfl rfl rfl (by kernel_rfl) (fun _ _ _ h => h) rfl (pv_fieldAddrK (sz := 0) (k := 1) Try.underlying31 rfl (by kernel_rfl) rfl rfl) (by repeat (first | exact Sub.nil | (apply Sub.cons; (repeat (first | with_reducible exact Sel.here | exact Sel.here | apply Sel.there))))) ?_
  refine G.takeT hT1 (i := 1) (rem' := 244) rfl rfl rfl (by kernel_rfl) (fun _ _ _ h => h) rfl (pv_load Try.underlying3 rfl rfl (by first | exact blk_cell (by (repeat (first | with_reducible exact Sel.here | exact Sel.here | apply Sel.there)); done) (by rfl) | exact rng_cell (by (repeat (first | with_reducible exact Sel.here | exact Sel.here | apply Sel.there)); done) (by rfl) | exact ro_blk (by assumption) (by rfl) | exact ro_rngC (by assumption) (by rfl) | exact ro_int (by assumption) | exact ro_byte (by assumption) | exact ro_str (by assumption) | with_reducible assumption | assumption)) (by repeat (first | exact Sub.nil | (apply Sub.cons; (repeat (first | with_reducible exact Sel.here | exact Sel.here | apply Sel.there))))) ?_
  refine G.takeT hT1 (i := 2) (rem' := 240) rfl rfl rfl (by kernel_rfl) (fun _ _ _ h => h) rfl (pv_eql rfl rfl) (by repeat (first | exact Sub.nil | (apply Sub.cons; (repeat (first | with_reducible exact Sel.here | exact Sel.here | apply Sel.there))))) ?_
  refine G.takeT hT1 (i := 6) (rem' := 176) rfl rfl rfl (by kernel_rfl) (fun _ _ _ h => h) rfl (pv_assign rfl) (by repeat (first | exact Sub.nil | (apply Sub.cons; (repeat (first | with_reducible exact Sel.here | exact Sel.here | apply Sel.there))))) ?_
  refine G.oneT hT1 (i := 4) (rem' := 160) (by kernel_rfl) (by kernel_rfl) ?_
  refine G.turnOp rfl rfl (G.val rfl rfl (pv_load Try.underlying3 rfl rfl (by first | exact blk_cell (by (repeat (first | with_reducible exact Sel.here | exact Sel.here | apply Sel.there)); done) (by rfl) | exact rng_cell (by (repeat (first | with_reducible exact Sel.here | exact Sel.here | apply Sel.there)); done) (by rfl) | exact ro_blk (by assumption) (by rfl) | exact ro_rngC (by assumption) (by rfl) | exact ro_int (by assumption) | exact ro_byte (by assumption) | exact ro_str (by assumption) | with_reducible assumption | assumption)) ?_)
  refine G.back (by repeat (first | exact Sub.nil | (apply Sub.cons; (repeat (first | with_reducible exact Sel.here | exact Sel.here | apply Sel.there))))) ?_
  refine G.takeT hT1 (i := 5) (rem' := 128) rfl rfl rfl (by kernel_rfl) (fun _ _ _ h => h) rfl (pv_eql rfl rfl) (by repeat (first | exact Sub.nil | (apply Sub.cons; (repeat (first | with_reducible exact Sel.here | exact Sel.here | apply Sel.there))))) ?_
  refine G.takeT hT1 (i := 7) (rem' := 0) rfl rfl rfl (by kernel_rfl) (fun _ _ _ h => h) rfl (pv_assign rfl) (by repeat (first | exact Sub.nil | (apply Sub.cons; (repeat (first | with_reducible exact Sel.here | exact Sel.here | apply Sel.there))))) ?_
  refine G.overT hT1 (by kernel_rfl) ?_
  refine G.nThen ?_
  refine G.seq ?_
  refine G.block ?_
  refine G.seq ?_
  refine G.region ?_
  refine G.op rfl (G.val rfl rfl (pv_fieldAddrK (sz := 0) (k := 0) Try.underlying31 rfl (by kernel_rfl) rfl rfl) ?_)
  refine G.op rfl (G.val rfl rfl (pv_load Try.underlying9 rfl rfl (by first | exact blk_cell (by (repeat (first | with_reducible exact Sel.here | exact Sel.here | apply Sel.there)); done) (by rfl) | exact rng_cell (by (repeat (first | with_reducible exact Sel.here | exact Sel.here | apply Sel.there)); done) (by rfl) | exact ro_blk (by assumption) (by rfl) | exact ro_rngC (by assumption) (by rfl) | exact ro_int (by assumption) | exact ro_byte (by assumption) | exact ro_str (by assumption) | with_reducible assumption | assumption)) ?_)
  refine G.op rfl (G.cR rfl rfl rfl rfl Try.func61 rfl rfl may0 (check_tr _ (by omega)) ?_)
  refine G.op rfl (G.val rfl rfl (pv_field1 Try.underlying73 rfl Try.underlying24 rfl rfl rfl) ?_)
  refine G.op rfl (G.val rfl rfl (pv_neq rfl rfl) ?_)
  refine G.op rfl (G.val rfl rfl (pv_assign rfl) ?_)
  refine G.nil ?_
  refine G.nThen ?_
  refine G.condP rfl (fun h11 => ?_) (fun h11 => ?_)
  · refine G.seq ?_
    refine G.region ?_
    refine G.op rfl (G.val rfl rfl (pv_assign rfl) ?_)
    refine G.nil ?_
    refine G.nThen ?_
    refine G.ret ?_
    refine G.rBlock ?_
    refine G.rThen ?_
    exact G.done0G rfl (Rv.tmp rfl Rv.nil) (by rw [one_bytes (by assumption)]; rfl)
  · have hok : okP e.path := Decidable.of_not_not (by assumption)
    refine G.seq ?_
    refine G.cutK (X := Unit) (ts := [1, 2]) (p := []) (fun _ => True) (fun _ => [(17, .bool (decide (argP e)))]) (fun _ => []) (.cons rfl (.cons rfl .nil)) (by repeat (first | exact Sub.nil | (apply Sub.cons; (repeat (first | with_reducible exact Sel.here | exact Sel.here | apply Sel.there))))) (.cons .nil) (by repeat (first | exact Ap.nil | apply Ap.cons)) ?_ ?_
    · refine G.seq ?_
      refine G.region ?_
      refine G.op rfl (G.val rfl rfl (pv_fieldAddrK (sz := 0) (k := 1) Try.underlying31 rfl (by kernel_rfl) rfl rfl) ?_)
      refine G.op rfl (G.val rfl rfl (pv_load Try.underlying3 rfl rfl (by first | exact blk_cell (by (repeat (first | with_reducible exact Sel.here | exact Sel.here | apply Sel.there)); done) (by rfl) | exact rng_cell (by (repeat (first | with_reducible exact Sel.here | exact Sel.here | apply Sel.there)); done) (by rfl) | exact ro_blk (by assumption) (by rfl) | exact ro_rngC (by assumption) (by rfl) | exact ro_int (by assumption) | exact ro_byte (by assumption) | exact ro_str (by assumption) | with_reducible assumption | assumption)) ?_)
      refine G.op rfl (G.val rfl rfl (pv_lss rfl rfl) ?_)
      refine G.op rfl (G.val rfl rfl (pv_move rfl) ?_)
      refine G.partP (t := 21) rfl (fun h21 => ?_) (fun h21 => ?_)
      · refine G.pass rfl rfl rfl rfl rfl rfl ?_
        refine G.pass rfl rfl rfl rfl rfl rfl ?_
        refine G.pass rfl rfl rfl rfl rfl rfl ?_
        refine G.op rfl (G.val rfl rfl (pv_pick rfl rfl) ?_)
        refine G.op rfl (G.val rfl rfl (pv_assign rfl) ?_)
        refine G.nil ?_
        refine G.nThen ?_
        refine G.condT rfl (rfl) ?_
        refine G.skip ?_
        exact G.meet (()) (by first | exact trivial | ((try dsimp only); exact trivial)) (.consE rfl (by first | exact dec_t (by unfold argP; omega) | exact dec_f (by unfold argP; omega) | exact dec_e (by unfold argP; omega) | exact dec_n (bne_dec.trans (by unfold argP; rw [hto]; omega)) | (rw [show _ = true from by assumption]; exact dec_t (by have h := bne_dec.1 (by assumption); rw [hto] at h; unfold argP; omega))) (.cons rfl (.cons rfl .nil))) (by repeat (first | exact Sub.nil | (apply Sub.cons; (repeat (first | with_reducible exact Sel.here | exact Sel.here | apply Sel.there)))))
      · refine G.want rfl rfl rfl (G.val rfl rfl (pv_fieldAddrK (sz := 0) (k := 1) Try.underlying31 rfl (by kernel_rfl) rfl rfl) ?_)
        refine G.want rfl rfl rfl (G.val rfl rfl (pv_load Try.underlying3 rfl rfl (by first | exact blk_cell (by (repeat (first | with_reducible exact Sel.here | exact Sel.here | apply Sel.there)); done) (by rfl) | exact rng_cell (by (repeat (first | with_reducible exact Sel.here | exact Sel.here | apply Sel.there)); done) (by rfl) | exact ro_blk (by assumption) (by rfl) | exact ro_rngC (by assumption) (by rfl) | exact ro_int (by assumption) | exact ro_byte (by assumption) | exact ro_str (by assumption) | with_reducible assumption | assumption)) ?_)
        refine G.want rfl rfl rfl (G.val rfl rfl (pv_gtr rfl rfl) ?_)
        refine G.op rfl (G.val rfl rfl (pv_pick rfl rfl) ?_)
        refine G.op rfl (G.val rfl rfl (pv_assign rfl) ?_)
        refine G.nil ?_
        refine G.nThen ?_
        refine G.condP rfl (fun h17 => ?_) (fun h17 => ?_)
        · refine G.skip ?_
          exact G.meet (()) (by first | exact trivial | ((try dsimp only); exact trivial)) (.consE rfl (by first | exact dec_t (by unfold argP; omega) | exact dec_f (by unfold argP; omega) | exact dec_e (by unfold argP; omega) | exact dec_n (bne_dec.trans (by unfold argP; rw [hto]; omega)) | (rw [show _ = true from by assumption]; exact dec_t (by have h := bne_dec.1 (by assumption); rw [hto] at h; unfold argP; omega))) (.cons rfl (.cons rfl .nil))) (by repeat (first | exact Sub.nil | (apply Sub.cons; (repeat (first | with_reducible exact Sel.here | exact Sel.here | apply Sel.there)))))
        · refine G.seq ?_
          refine G.region ?_
          refine G.op rfl (G.val rfl rfl (pv_fieldAddrK (sz := 0) (k := 2) Try.underlying31 rfl (by kernel_rfl) rfl rfl) ?_)
          refine G.op rfl (G.val rfl rfl (pv_load Try.underlying3 rfl rfl (by first | exact blk_cell (by (repeat (first | with_reducible exact Sel.here | exact Sel.here | apply Sel.there)); done) (by rfl) | exact rng_cell (by (repeat (first | with_reducible exact Sel.here | exact Sel.here | apply Sel.there)); done) (by rfl) | exact ro_blk (by assumption) (by rfl) | exact ro_rngC (by assumption) (by rfl) | exact ro_int (by assumption) | exact ro_byte (by assumption) | exact ro_str (by assumption) | with_reducible assumption | assumption)) ?_)
          refine G.op rfl (G.val rfl rfl (pv_lss rfl rfl) ?_)
          refine G.op rfl (G.val rfl rfl (pv_move rfl) ?_)
          refine G.partP (t := 29) rfl (fun h29 => ?_) (fun h29 => ?_)
          · refine G.pass rfl rfl rfl rfl rfl rfl ?_
            refine G.pass rfl rfl rfl rfl rfl rfl ?_
            refine G.pass rfl rfl rfl rfl rfl rfl ?_
            refine G.op rfl (G.val rfl rfl (pv_pick rfl rfl) ?_)
            refine G.op rfl (G.val rfl rfl (pv_assign rfl) ?_)
            refine G.nil ?_
            refine G.nThen ?_
            refine G.condT rfl (rfl) ?_
            refine G.skip ?_
            exact G.meet (()) (by first | exact trivial | ((try dsimp only); exact trivial)) (.consE rfl (by first | exact dec_t (by unfold argP; omega) | exact dec_f (by unfold argP; omega) | exact dec_e (by unfold argP; omega) | exact dec_n (bne_dec.trans (by unfold argP; rw [hto]; omega)) | (rw [show _ = true from by assumption]; exact dec_t (by have h := bne_dec.1 (by assumption); rw [hto] at h; unfold argP; omega))) (.cons rfl (.cons rfl .nil))) (by repeat (first | exact Sub.nil | (apply Sub.cons; (repeat (first | with_reducible exact Sel.here | exact Sel.here | apply Sel.there)))))
          · refine G.want rfl rfl rfl (G.val rfl rfl (pv_fieldAddrK (sz := 0) (k := 2) Try.underlying31 rfl (by kernel_rfl) rfl rfl) ?_)
            refine G.want rfl rfl rfl (G.val rfl rfl (pv_load Try.underlying3 rfl rfl (by first | exact blk_cell (by (repeat (first | with_reducible exact Sel.here | exact Sel.here | apply Sel.there)); done) (by rfl) | exact rng_cell (by (repeat (first | with_reducible exact Sel.here | exact Sel.here | apply Sel.there)); done) (by rfl) | exact ro_blk (by assumption) (by rfl) | exact ro_rngC (by assumption) (by rfl) | exact ro_int (by assumption) | exact ro_byte (by assumption) | exact ro_str (by assumption) | with_reducible assumption | assumption)) ?_)
            refine G.want rfl rfl rfl (G.val rfl rfl (pv_gtr rfl rfl) ?_)
            refine G.op rfl (G.val rfl rfl (pv_pick rfl rfl) ?_)
            refine G.op rfl (G.val rfl rfl (pv_assign rfl) ?_)
            refine G.nil ?_
            refine G.nThen ?_
            refine G.condP rfl (fun h17 => ?_) (fun h17 => ?_)
            · refine G.skip ?_
              exact G.meet (()) (by first | exact trivial | ((try dsimp only); exact trivial)) (.consE rfl (by first | exact dec_t (by unfold argP; omega) | exact dec_f (by unfold argP; omega) | exact dec_e (by unfold argP; omega) | exact dec_n (bne_dec.trans (by unfold argP; rw [hto]; omega)) | (rw [show _ = true from by assumption]; exact dec_t (by have h := bne_dec.1 (by assumption); rw [hto] at h; unfold argP; omega))) (.cons rfl (.cons rfl .nil))) (by repeat (first | exact Sub.nil | (apply Sub.cons; (repeat (first | with_reducible exact Sel.here | exact Sel.here | apply Sel.there)))))
            · refine G.seq ?_
              refine G.region ?_
              refine G.op rfl (G.val rfl rfl (pv_fieldAddrK (sz := 0) (k := 3) Try.underlying31 rfl (by kernel_rfl) rfl rfl) ?_)
              refine G.op rfl (G.val rfl rfl (pv_load Try.underlying29 rfl rfl (by first | exact blk_cell (by (repeat (first | with_reducible exact Sel.here | exact Sel.here | apply Sel.there)); done) (by rfl) | exact rng_cell (by (repeat (first | with_reducible exact Sel.here | exact Sel.here | apply Sel.there)); done) (by rfl) | exact ro_blk (by assumption) (by rfl) | exact ro_rngC (by assumption) (by rfl) | exact ro_int (by assumption) | exact ro_byte (by assumption) | exact ro_str (by assumption) | with_reducible assumption | assumption)) ?_)
              refine G.op rfl (G.val rfl rfl (pv_lenSl Try.underlying29 rfl) ?_)
              refine G.op rfl (G.val rfl rfl (pv_gtr rfl rfl) ?_)
              refine G.op rfl (G.val rfl rfl (pv_move rfl) ?_)
              refine G.partP (t := 38) rfl (fun h38 => ?_) (fun h38 => ?_)
              · refine G.want rfl rfl rfl (G.val rfl rfl (pv_move rfl) ?_)
                refine G.want rfl rfl rfl (G.val rfl rfl (pv_notP rfl) ?_)
                refine G.op rfl (G.val rfl rfl (pv_pick rfl rfl) ?_)
                refine G.op rfl (G.val rfl rfl (pv_assign rfl) ?_)
                refine G.nil ?_
                refine G.nThen ?_
                refine G.condP rfl (fun h17 => ?_) (fun h17 => ?_)
                · refine G.skip ?_
                  exact G.meet (()) (by first | exact trivial | ((try dsimp only); exact trivial)) (.consE rfl (by first | exact dec_t (by unfold argP; omega) | exact dec_f (by unfold argP; omega) | exact dec_e (by unfold argP; omega) | exact dec_n (bne_dec.trans (by unfold argP; rw [hto]; omega)) | (rw [show _ = true from by assumption]; exact dec_t (by have h := bne_dec.1 (by assumption); rw [hto] at h; unfold argP; omega))) (.cons rfl (.cons rfl .nil))) (by repeat (first | exact Sub.nil | (apply Sub.cons; (repeat (first | with_reducible exact Sel.here | exact Sel.here | apply Sel.there)))))
                · refine G.region ?_
                  refine G.op rfl (G.val rfl rfl (pv_move rfl) ?_)
                  refine G.op rfl (G.val rfl rfl (pv_fieldAddrK (sz := 0) (k := 4) Try.underlying31 rfl (by kernel_rfl) rfl rfl) ?_)
                  refine G.op rfl (G.val rfl rfl (pv_load Try.underlying9 rfl rfl (by first | exact blk_cell (by (repeat (first | with_reducible exact Sel.here | exact Sel.here | apply Sel.there)); done) (by rfl) | exact rng_cell (by (repeat (first | with_reducible exact Sel.here | exact Sel.here | apply Sel.there)); done) (by rfl) | exact ro_blk (by assumption) (by rfl) | exact ro_rngC (by assumption) (by rfl) | exact ro_int (by assumption) | exact ro_byte (by assumption) | exact ro_str (by assumption) | with_reducible assumption | assumption)) ?_)
                  refine G.op rfl (G.val rfl rfl (pv_neqS rfl rfl) ?_)
                  refine G.op rfl (G.val rfl rfl (pv_neqB Try.underlying4 rfl rfl) ?_)
                  refine G.op rfl (G.val rfl rfl (pv_move rfl) ?_)
                  refine G.part (t := 47) rfl (fun h47 => ?_) (fun h47 => ?_)
                  · have hb := bne_dec.1 h47
                    rw [ne_eq, hto] at hb
                    refine G.pass rfl rfl rfl rfl rfl rfl ?_
                    refine G.pass rfl rfl rfl rfl rfl rfl ?_
                    refine G.pass rfl rfl rfl rfl rfl rfl ?_
                    refine G.pass rfl rfl rfl rfl rfl rfl ?_
                    refine G.op rfl (G.val rfl rfl (pv_pick rfl rfl) ?_)
                    refine G.op rfl (G.val rfl rfl (pv_assign rfl) ?_)
                    refine G.nil ?_
                    exact G.meet (()) (by first | exact trivial | ((try dsimp only); exact trivial)) (.consE rfl (by first | exact dec_t (by unfold argP; omega) | exact dec_f (by unfold argP; omega) | exact dec_e (by unfold argP; omega) | exact dec_n (bne_dec.trans (by unfold argP; rw [hto]; omega)) | (rw [show _ = true from by assumption]; exact dec_t (by have h := bne_dec.1 (by assumption); rw [hto] at h; unfold argP; omega))) (.cons rfl (.cons rfl .nil))) (by repeat (first | exact Sub.nil | (apply Sub.cons; (repeat (first | with_reducible exact Sel.here | exact Sel.here | apply Sel.there)))))
                  · have hb : ¬ ¬ (e.kind = 3 ↔ ¬ e.to.length = 0) := fun h => by have := bne_dec.2 (show ¬ (e.kind = 3 ↔ e.to ≠ []) by rw [ne_eq, hto]; exact h); rw [h47] at this; cases this
                    refine G.want rfl rfl rfl (G.val rfl rfl (pv_fieldAddrK (sz := 0) (k := 4) Try.underlying31 rfl (by kernel_rfl) rfl rfl) ?_)
                    refine G.want rfl rfl rfl (G.val rfl rfl (pv_load Try.underlying9 rfl rfl (by first | exact blk_cell (by (repeat (first | with_reducible exact Sel.here | exact Sel.here | apply Sel.there)); done) (by rfl) | exact rng_cell (by (repeat (first | with_reducible exact Sel.here | exact Sel.here | apply Sel.there)); done) (by rfl) | exact ro_blk (by assumption) (by rfl) | exact ro_rngC (by assumption) (by rfl) | exact ro_int (by assumption) | exact ro_byte (by assumption) | exact ro_str (by assumption) | with_reducible assumption | assumption)) ?_)
                    refine G.want rfl rfl rfl (G.val rfl rfl (pv_lenS Try.underlying9 rfl) ?_)
                    refine G.want rfl rfl rfl (G.val rfl rfl (pv_gtr rfl rfl) ?_)
                    refine G.op rfl (G.val rfl rfl (pv_pick rfl rfl) ?_)
                    refine G.op rfl (G.val rfl rfl (pv_assign rfl) ?_)
                    refine G.nil ?_
                    exact G.meet (()) (by first | exact trivial | ((try dsimp only); exact trivial)) (.consE rfl (by first | exact dec_t (by unfold argP; omega) | exact dec_f (by unfold argP; omega) | exact dec_e (by unfold argP; omega) | exact dec_n (bne_dec.trans (by unfold argP; rw [hto]; omega)) | (rw [show _ = true from by assumption]; exact dec_t (by have h := bne_dec.1 (by assumption); rw [hto] at h; unfold argP; omega))) (.cons rfl (.cons rfl .nil))) (by repeat (first | exact Sub.nil | (apply Sub.cons; (repeat (first | with_reducible exact Sel.here | exact Sel.here | apply Sel.there)))))
              · refine G.pass rfl rfl rfl rfl rfl rfl ?_
                refine G.pass rfl rfl rfl rfl rfl rfl ?_
                refine G.op rfl (G.val rfl rfl (pv_pick rfl rfl) ?_)
                refine G.op rfl (G.val rfl rfl (pv_assign rfl) ?_)
                refine G.nil ?_
                refine G.nThen ?_
                refine G.condF rfl (rfl) ?_
                refine G.region ?_
                refine G.op rfl (G.val rfl rfl (pv_move rfl) ?_)
                refine G.op rfl (G.val rfl rfl (pv_fieldAddrK (sz := 0) (k := 4) Try.underlying31 rfl (by kernel_rfl) rfl rfl) ?_)
                refine G.op rfl (G.val rfl rfl (pv_load Try.underlying9 rfl rfl (by first | exact blk_cell (by (repeat (first | with_reducible exact Sel.here | exact Sel.here | apply Sel.there)); done) (by rfl) | exact rng_cell (by (repeat (first | with_reducible exact Sel.here | exact Sel.here | apply Sel.there)); done) (by rfl) | exact ro_blk (by assumption) (by rfl) | exact ro_rngC (by assumption) (by rfl) | exact ro_int (by assumption) | exact ro_byte (by assumption) | exact ro_str (by assumption) | with_reducible assumption | assumption)) ?_)
                refine G.op rfl (G.val rfl rfl (pv_neqS rfl rfl) ?_)
                refine G.op rfl (G.val rfl rfl (pv_neqB Try.underlying4 rfl rfl) ?_)
                refine G.op rfl (G.val rfl rfl (pv_move rfl) ?_)
                refine G.part (t := 47) rfl (fun h47 => ?_) (fun h47 => ?_)
                · have hb := bne_dec.1 h47
                  rw [ne_eq, hto] at hb
                  refine G.pass rfl rfl rfl rfl rfl rfl ?_
                  refine G.pass rfl rfl rfl rfl rfl rfl ?_
                  refine G.pass rfl rfl rfl rfl rfl rfl ?_
                  refine G.pass rfl rfl rfl rfl rfl rfl ?_
                  refine G.op rfl (G.val rfl rfl (pv_pick rfl rfl) ?_)
                  refine G.op rfl (G.val rfl rfl (pv_assign rfl) ?_)
                  refine G.nil ?_
                  exact G.meet (()) (by first | exact trivial | ((try dsimp only); exact trivial)) (.consE rfl (by first | exact dec_t (by unfold argP; omega) | exact dec_f (by unfold argP; omega) | exact dec_e (by unfold argP; omega) | exact dec_n (bne_dec.trans (by unfold argP; rw [hto]; omega)) | (rw [show _ = true from by assumption]; exact dec_t (by have h := bne_dec.1 (by assumption); rw [hto] at h; unfold argP; omega))) (.cons rfl (.cons rfl .nil))) (by repeat (first | exact Sub.nil | (apply Sub.cons; (repeat (first | with_reducible exact Sel.here | exact Sel.here | apply Sel.there)))))
                · have hb : ¬ ¬ (e.kind = 3 ↔ ¬ e.to.length = 0) := fun h => by have := bne_dec.2 (show ¬ (e.kind = 3 ↔ e.to ≠ []) by rw [ne_eq, hto]; exact h); rw [h47] at this; cases this
                  refine G.want rfl rfl rfl (G.val rfl rfl (pv_fieldAddrK (sz := 0) (k := 4) Try.underlying31 rfl (by kernel_rfl) rfl rfl) ?_)
                  refine G.want rfl rfl rfl (G.val rfl rfl (pv_load Try.underlying9 rfl rfl (by first | exact blk_cell (by (repeat (first | with_reducible exact Sel.here | exact Sel.here | apply Sel.there)); done) (by rfl) | exact rng_cell (by (repeat (first | with_reducible exact Sel.here | exact Sel.here | apply Sel.there)); done) (by rfl) | exact ro_blk (by assumption) (by rfl) | exact ro_rngC (by assumption) (by rfl) | exact ro_int (by assumption) | exact ro_byte (by assumption) | exact ro_str (by assumption) | with_reducible assumption | assumption)) ?_)
                  refine G.want rfl rfl rfl (G.val rfl rfl (pv_lenS Try.underlying9 rfl) ?_)
                  refine G.want rfl rfl rfl (G.val rfl rfl (pv_gtr rfl rfl) ?_)
                  refine G.op rfl (G.val rfl rfl (pv_pick rfl rfl) ?_)
                  refine G.op rfl (G.val rfl rfl (pv_assign rfl) ?_)
                  refine G.nil ?_
                  exact G.meet (()) (by first | exact trivial | ((try dsimp only); exact trivial)) (.consE rfl (by first | exact dec_t (by unfold argP; omega) | exact dec_f (by unfold argP; omega) | exact dec_e (by unfold argP; omega) | exact dec_n (bne_dec.trans (by unfold argP; rw [hto]; omega)) | (rw [show _ = true from by assumption]; exact dec_t (by have h := bne_dec.1 (by assumption); rw [hto] at h; unfold argP; omega))) (.cons rfl (.cons rfl .nil))) (by repeat (first | exact Sub.nil | (apply Sub.cons; (repeat (first | with_reducible exact Sel.here | exact Sel.here | apply Sel.there)))))
    · intro _ hJ
      try dsimp only at hJ
      try dsimp only
      refine G.condP rfl (fun h17 => ?_) (fun h17 => ?_)
      · refine G.seq ?_
        refine G.region ?_
        refine G.op rfl (G.val rfl rfl (pv_assign rfl) ?_)
        refine G.nil ?_
        refine G.nThen ?_
        refine G.ret ?_
        refine G.rBlock ?_
        refine G.rThen ?_
        exact G.done0G rfl (Rv.tmp rfl Rv.nil) (by rw [one_arg hok (by assumption)]; rfl)
      · refine G.seq ?_
        refine G.region ?_
        refine G.op rfl (G.val rfl rfl (pv_fieldAddrK (sz := 0) (k := 3) Try.underlying31 rfl (by kernel_rfl) rfl rfl) ?_)
        refine G.op rfl (G.val rfl rfl (pv_load Try.underlying29 rfl rfl (by first | exact blk_cell (by (repeat (first | with_reducible exact Sel.here | exact Sel.here | apply Sel.there)); done) (by rfl) | exact rng_cell (by (repeat (first | with_reducible exact Sel.here | exact Sel.here | apply Sel.there)); done) (by rfl) | exact ro_blk (by assumption) (by rfl) | exact ro_rngC (by assumption) (by rfl) | exact ro_int (by assumption) | exact ro_byte (by assumption) | exact ro_str (by assumption) | with_reducible assumption | assumption)) ?_)
        refine G.op rfl (G.val rfl rfl (pv_lenSl Try.underlying29 rfl) ?_)
        refine G.op rfl (G.val rfl rfl (pv_gtr rfl rfl) ?_)
        refine G.op rfl (G.val rfl rfl (pv_assign rfl) ?_)
        refine G.nil ?_
        refine G.nThen ?_
        refine G.condP rfl (fun h53 => ?_) (fun h53 => ?_)
        · refine G.seq ?_
          refine G.region ?_
          refine G.op rfl (G.val rfl rfl (pv_assign rfl) ?_)
          refine G.nil ?_
          refine G.nThen ?_
          refine G.ret ?_
          refine G.rBlock ?_
          refine G.rThen ?_
          exact G.done0G rfl (Rv.tmp rfl Rv.nil) (by rw [one_long hok (by assumption) (by omega)]; rfl)
        · refine G.skip ?_
          refine G.nBlock ?_
          refine G.nThen ?_
          refine G.seq ?_
          refine G.region ?_
          refine G.op rfl (G.val rfl rfl (pv_assign rfl) ?_)
          refine G.nil ?_
          refine G.nThen ?_
          refine G.ret ?_
          exact G.done0G rfl (Rv.tmp rfl Rv.nil) (by rw [one_ok hok (by assumption) (by omega)]; rfl)
end Go.Proofs.Ytchgaedidfefoaa

/- Contracts of layer 8's entries: the reference's, whether two are the same, one in memory of its own. Conditions: none. -/
set_option linter.unusedVariables false
set_option linter.unusedSimpArgs false
namespace Go.Proofs.Ytchgaedidfefoaa
open Go.RowKit

def linkP (e : En) : Prop := e.kind = 3 ∧ 1 ≤ e.to.length ∧ e.to.length ≤ 200
instance (e : En) : Decidable (linkP e) := inferInstanceAs (Decidable (_ ∧ _))
def numP (e : En) : Prop := e.kind < 1 ∨ 3 < e.kind ∨ e.mode < 0 ∨ 511 < e.mode
instance (e : En) : Decidable (numP e) := inferInstanceAs (Decidable (_ ∨ _))
def badP2 (e : En) : Prop := (0 < e.data.length ∧ e.kind ≠ 2) ∨ (0 < e.to.length ∧ e.kind ≠ 3) ∨ (e.kind = 3 ∧ ¬ linkP e)
instance (e : En) : Decidable (badP2 e) := inferInstanceAs (Decidable (_ ∨ _))
theorem argP_iff (e : En) : argP e ↔ numP e ∨ badP2 e := by
  unfold argP numP badP2 linkP
  omega
instance : DecidableEq En := fun a b => decidable_of_iff (a.path = b.path ∧ a.kind = b.kind ∧ a.mode = b.mode ∧ a.data = b.data ∧ a.to = b.to) (by
  cases a
  cases b
  simp)
theorem en_eq {a b : En} : a = b ↔ a.path = b.path ∧ a.kind = b.kind ∧ a.mode = b.mode ∧ a.data = b.data ∧ a.to = b.to := by
  cases a
  cases b
  simp
theorem sB_beq (a b : List UInt8) : (sB a == sB b) = decide (a = b) := by
  show (a.toArray == b.toArray) = _
  rw [Bool.eq_iff_iff]
  simp
def pickM (n k : Int) : Int := if k < 1 then 0 else n % k
theorem tmod_low {n k : Int} (hk : ¬ k < 1) : - k < n.tmod k ∧ (n < 0 → n.tmod k ≤ 0) := by
  rcases Int.lt_or_le n 0 with hn | hn
  · have h1 := Int.neg_tmod (a := -n) (b := k)
    rw [Int.neg_neg] at h1
    have h2 := Int.tmod_nonneg k (show 0 ≤ -n by omega)
    have h3 := Int.tmod_lt_of_pos (-n) (show 0 < k by omega)
    omega
  · have h2 := Int.tmod_nonneg k hn
    omega
theorem tmod_pos {n k : Int} (hk : ¬ k < 1) (h : ¬ n.tmod k < 0) : n.tmod k = n % k := by
  rcases Int.lt_or_le n 0 with hn | hn
  · have h2 : n.tmod k = 0 := by
      have := (tmod_low hk).2 hn
      omega
    have h3 : k ∣ n := Int.dvd_of_tmod_eq_zero h2
    rw [h2, Int.emod_eq_zero_of_dvd h3]
  · exact Int.tmod_eq_emod_of_nonneg hn
theorem tmod_neg {n k : Int} (hk : ¬ k < 1) (h : n.tmod k < 0) : n.tmod k + k = n % k := by
  have hn : n < 0 := by
    rcases Int.lt_or_le n 0 with hn | hn
    · exact hn
    · have := Int.tmod_nonneg k hn
      omega
  have hd : ¬ k ∣ n := fun h2 => by
    have := Int.tmod_eq_zero_of_dvd h2
    omega
  have h1 := Int.tmod_eq_emod (a := n) (b := k)
  rw [h1]
  simp [hd, hn, show ¬ (0 ≤ n) by omega]
  omega
set_option maxRecDepth 20000 in
set_option maxHeartbeats 4000000 in

theorem oneR_tr {Pd : Nat → Prop} (e : En) (d : Value) (hl : e.path.length ≤ 9223372036854775807) : Tr Try.prog 48 #[.agg #[.string (sB e.path), .int .i64 e.kind, .int .i64 e.mode, d, .string (sB e.to)]] [slc rByte Pd d e.data] [] (T0 (.int .i64 (oneM e))) := by
  refine Tr.of (l := [(0, .agg #[.string (sB e.path), .int .i64 e.kind, .int .i64 e.mode, d, .string (sB e.to)])]) Try.func48 rfl (n := 74) rfl (.cons rfl .nil) (fun w0 hro => ?_)
  have hd := ro1 hro
  obtain ⟨ad, cap, rfl⟩ := Ro.slv hd
  have hto := nil_len (s := e.to)
  refine G.seq ?_
  refine G.region ?_
  refine G.op rfl (G.box rfl rfl (cs := [_, _, _, _, _]) rfl ?_)
  intro b1
  refine G.op rfl (G.val rfl rfl (pv_assign rfl) ?_)
  refine G.nil ?_
  refine G.nThen ?_
  refine G.seq ?_
  refine G.seq ?_
  refine G.region ?_
  refine G.op rfl (G.val rfl rfl (pv_fieldAddrK (sz := 0) (k := 0) Try.underlying31 rfl (by kernel_rfl) rfl rfl) ?_)
  refine G.op rfl (G.val rfl rfl (pv_load Try.underlying9 rfl rfl (by first | exact blk_cell (by (repeat (first | with_reducible exact Sel.here | exact Sel.here | apply Sel.there)); done) (by rfl) | exact rng_cell (by (repeat (first | with_reducible exact Sel.here | exact Sel.here | apply Sel.there)); done) (by rfl) | exact ro_blk (by assumption) (by rfl) | exact ro_rngC (by assumption) (by rfl) | exact ro_int (by assumption) | exact ro_byte (by assumption) | exact ro_str (by assumption) | with_reducible assumption | assumption)) ?_)
  refine G.op rfl (G.cR rfl rfl rfl rfl Try.func68 rfl rfl may0 (validR_tr _ (by omega)) ?_)
  refine G.op rfl (G.val rfl rfl (pv_notP rfl) ?_)
  refine G.nil ?_
  refine G.nThen ?_
  refine G.condP rfl (fun h7 => ?_) (fun h7 => ?_)
  · refine G.seq ?_
    refine G.region ?_
    refine G.op rfl (G.val rfl rfl (pv_assign rfl) ?_)
    refine G.nil ?_
    refine G.nThen ?_
    refine G.ret ?_
    refine G.rThen ?_
    exact G.done0G rfl (Rv.tmp rfl Rv.nil) (by rw [one_bytes (by assumption)]; rfl)
  · have hok : okP e.path := Decidable.of_not_not (by assumption)
    refine G.skip ?_
    refine G.nThen ?_
    refine G.seq ?_
    refine G.seq ?_
    refine G.cutK (X := Unit) (ts := [1, 2]) (p := []) (fun _ => True) (fun _ => [(25, .bool (decide (numP e)))]) (fun _ => []) (.cons rfl (.cons rfl .nil)) (by repeat (first | exact Sub.nil | (apply Sub.cons; (repeat (first | with_reducible exact Sel.here | exact Sel.here | apply Sel.there))))) (.cons .nil) (by repeat (first | exact Ap.nil | apply Ap.cons)) ?_ ?_
    · refine G.region ?_
      refine G.op rfl (G.val rfl rfl (pv_fieldAddrK (sz := 0) (k := 1) Try.underlying31 rfl (by kernel_rfl) rfl rfl) ?_)
      refine G.op rfl (G.val rfl rfl (pv_load Try.underlying3 rfl rfl (by first | exact blk_cell (by (repeat (first | with_reducible exact Sel.here | exact Sel.here | apply Sel.there)); done) (by rfl) | exact rng_cell (by (repeat (first | with_reducible exact Sel.here | exact Sel.here | apply Sel.there)); done) (by rfl) | exact ro_blk (by assumption) (by rfl) | exact ro_rngC (by assumption) (by rfl) | exact ro_int (by assumption) | exact ro_byte (by assumption) | exact ro_str (by assumption) | with_reducible assumption | assumption)) ?_)
      refine G.op rfl (G.val rfl rfl (pv_lss rfl rfl) ?_)
      refine G.op rfl (G.val rfl rfl (pv_move rfl) ?_)
      refine G.partP (t := 11) rfl (fun h11 => ?_) (fun h11 => ?_)
      · refine G.pass rfl rfl rfl rfl rfl rfl ?_
        refine G.pass rfl rfl rfl rfl rfl rfl ?_
        refine G.pass rfl rfl rfl rfl rfl rfl ?_
        refine G.op rfl (G.val rfl rfl (pv_pick rfl rfl) ?_)
        refine G.op rfl (G.val rfl rfl (pv_move rfl) ?_)
        refine G.pass rfl rfl rfl rfl rfl rfl ?_
        refine G.pass rfl rfl rfl rfl rfl rfl ?_
        refine G.pass rfl rfl rfl rfl rfl rfl ?_
        refine G.op rfl (G.val rfl rfl (pv_pick rfl rfl) ?_)
        refine G.op rfl (G.val rfl rfl (pv_move rfl) ?_)
        refine G.pass rfl rfl rfl rfl rfl rfl ?_
        refine G.pass rfl rfl rfl rfl rfl rfl ?_
        refine G.pass rfl rfl rfl rfl rfl rfl ?_
        refine G.op rfl (G.val rfl rfl (pv_pick rfl rfl) ?_)
        refine G.nil ?_
        exact G.meet (()) (by first | exact trivial | ((try dsimp only); exact trivial)) (.consE rfl (by first | exact dec_t (by unfold numP; omega) | exact dec_f (by unfold numP; omega) | exact dec_e (by unfold numP; omega)) (.cons rfl (.cons rfl .nil))) (by repeat (first | exact Sub.nil | (apply Sub.cons; (repeat (first | with_reducible exact Sel.here | exact Sel.here | apply Sel.there)))))
      · refine G.want rfl rfl rfl (G.val rfl rfl (pv_fieldAddrK (sz := 0) (k := 1) Try.underlying31 rfl (by kernel_rfl) rfl rfl) ?_)
        refine G.want rfl rfl rfl (G.val rfl rfl (pv_load Try.underlying3 rfl rfl (by first | exact blk_cell (by (repeat (first | with_reducible exact Sel.here | exact Sel.here | apply Sel.there)); done) (by rfl) | exact rng_cell (by (repeat (first | with_reducible exact Sel.here | exact Sel.here | apply Sel.there)); done) (by rfl) | exact ro_blk (by assumption) (by rfl) | exact ro_rngC (by assumption) (by rfl) | exact ro_int (by assumption) | exact ro_byte (by assumption) | exact ro_str (by assumption) | with_reducible assumption | assumption)) ?_)
        refine G.want rfl rfl rfl (G.val rfl rfl (pv_gtr rfl rfl) ?_)
        refine G.op rfl (G.val rfl rfl (pv_pick rfl rfl) ?_)
        refine G.op rfl (G.val rfl rfl (pv_move rfl) ?_)
        refine G.partP (t := 16) rfl (fun h16 => ?_) (fun h16 => ?_)
        · refine G.pass rfl rfl rfl rfl rfl rfl ?_
          refine G.pass rfl rfl rfl rfl rfl rfl ?_
          refine G.pass rfl rfl rfl rfl rfl rfl ?_
          refine G.op rfl (G.val rfl rfl (pv_pick rfl rfl) ?_)
          refine G.op rfl (G.val rfl rfl (pv_move rfl) ?_)
          refine G.pass rfl rfl rfl rfl rfl rfl ?_
          refine G.pass rfl rfl rfl rfl rfl rfl ?_
          refine G.pass rfl rfl rfl rfl rfl rfl ?_
          refine G.op rfl (G.val rfl rfl (pv_pick rfl rfl) ?_)
          refine G.nil ?_
          exact G.meet (()) (by first | exact trivial | ((try dsimp only); exact trivial)) (.consE rfl (by first | exact dec_t (by unfold numP; omega) | exact dec_f (by unfold numP; omega) | exact dec_e (by unfold numP; omega)) (.cons rfl (.cons rfl .nil))) (by repeat (first | exact Sub.nil | (apply Sub.cons; (repeat (first | with_reducible exact Sel.here | exact Sel.here | apply Sel.there)))))
        · refine G.want rfl rfl rfl (G.val rfl rfl (pv_fieldAddrK (sz := 0) (k := 2) Try.underlying31 rfl (by kernel_rfl) rfl rfl) ?_)
          refine G.want rfl rfl rfl (G.val rfl rfl (pv_load Try.underlying3 rfl rfl (by first | exact blk_cell (by (repeat (first | with_reducible exact Sel.here | exact Sel.here | apply Sel.there)); done) (by rfl) | exact rng_cell (by (repeat (first | with_reducible exact Sel.here | exact Sel.here | apply Sel.there)); done) (by rfl) | exact ro_blk (by assumption) (by rfl) | exact ro_rngC (by assumption) (by rfl) | exact ro_int (by assumption) | exact ro_byte (by assumption) | exact ro_str (by assumption) | with_reducible assumption | assumption)) ?_)
          refine G.want rfl rfl rfl (G.val rfl rfl (pv_lss rfl rfl) ?_)
          refine G.op rfl (G.val rfl rfl (pv_pick rfl rfl) ?_)
          refine G.op rfl (G.val rfl rfl (pv_move rfl) ?_)
          refine G.partP (t := 21) rfl (fun h21 => ?_) (fun h21 => ?_)
          · refine G.pass rfl rfl rfl rfl rfl rfl ?_
            refine G.pass rfl rfl rfl rfl rfl rfl ?_
            refine G.pass rfl rfl rfl rfl rfl rfl ?_
            refine G.op rfl (G.val rfl rfl (pv_pick rfl rfl) ?_)
            refine G.nil ?_
            exact G.meet (()) (by first | exact trivial | ((try dsimp only); exact trivial)) (.consE rfl (by first | exact dec_t (by unfold numP; omega) | exact dec_f (by unfold numP; omega) | exact dec_e (by unfold numP; omega)) (.cons rfl (.cons rfl .nil))) (by repeat (first | exact Sub.nil | (apply Sub.cons; (repeat (first | with_reducible exact Sel.here | exact Sel.here | apply Sel.there)))))
          · refine G.want rfl rfl rfl (G.val rfl rfl (pv_fieldAddrK (sz := 0) (k := 2) Try.underlying31 rfl (by kernel_rfl) rfl rfl) ?_)
            refine G.want rfl rfl rfl (G.val rfl rfl (pv_load Try.underlying3 rfl rfl (by first | exact blk_cell (by (repeat (first | with_reducible exact Sel.here | exact Sel.here | apply Sel.there)); done) (by rfl) | exact rng_cell (by (repeat (first | with_reducible exact Sel.here | exact Sel.here | apply Sel.there)); done) (by rfl) | exact ro_blk (by assumption) (by rfl) | exact ro_rngC (by assumption) (by rfl) | exact ro_int (by assumption) | exact ro_byte (by assumption) | exact ro_str (by assumption) | with_reducible assumption | assumption)) ?_)
            refine G.want rfl rfl rfl (G.val rfl rfl (pv_gtr rfl rfl) ?_)
            refine G.op rfl (G.val rfl rfl (pv_pick rfl rfl) ?_)
            refine G.nil ?_
            exact G.meet (()) (by first | exact trivial | ((try dsimp only); exact trivial)) (.consE rfl (by first | exact dec_t (by unfold numP; omega) | exact dec_f (by unfold numP; omega) | exact dec_e (by unfold numP; omega)) (.cons rfl (.cons rfl .nil))) (by repeat (first | exact Sub.nil | (apply Sub.cons; (repeat (first | with_reducible exact Sel.here | exact Sel.here | apply Sel.there)))))
    · intro _ hJ
      try dsimp only at hJ
      try dsimp only
      refine G.condP rfl (fun h25 => ?_) (fun h25 => ?_)
      · refine G.seq ?_
        refine G.region ?_
        refine G.op rfl (G.val rfl rfl (pv_assign rfl) ?_)
        refine G.nil ?_
        refine G.nThen ?_
        refine G.ret ?_
        refine G.rThen ?_
        exact G.done0G rfl (Rv.tmp rfl Rv.nil) (by rw [one_arg hok ((argP_iff e).2 (.inl (by assumption)))]; rfl)
      · refine G.skip ?_
        refine G.nThen ?_
        refine G.seq ?_
        refine G.cutK (X := Unit) (ts := [1, 2]) (p := []) (fun _ => True) (fun _ => [(3, .bool (decide (linkP e)))]) (fun _ => []) (.cons rfl (.cons rfl .nil)) (by repeat (first | exact Sub.nil | (apply Sub.cons; (repeat (first | with_reducible exact Sel.here | exact Sel.here | apply Sel.there))))) (.cons .nil) (by repeat (first | exact Ap.nil | apply Ap.cons)) ?_ ?_
        · refine G.region ?_
          refine G.op rfl (G.val rfl rfl (pv_fieldAddrK (sz := 0) (k := 1) Try.underlying31 rfl (by kernel_rfl) rfl rfl) ?_)
          refine G.op rfl (G.val rfl rfl (pv_load Try.underlying3 rfl rfl (by first | exact blk_cell (by (repeat (first | with_reducible exact Sel.here | exact Sel.here | apply Sel.there)); done) (by rfl) | exact rng_cell (by (repeat (first | with_reducible exact Sel.here | exact Sel.here | apply Sel.there)); done) (by rfl) | exact ro_blk (by assumption) (by rfl) | exact ro_rngC (by assumption) (by rfl) | exact ro_int (by assumption) | exact ro_byte (by assumption) | exact ro_str (by assumption) | with_reducible assumption | assumption)) ?_)
          refine G.op rfl (G.val rfl rfl (pv_eql rfl rfl) ?_)
          refine G.op rfl (G.val rfl rfl (pv_move rfl) ?_)
          refine G.partP (t := 29) rfl (fun h29 => ?_) (fun h29 => ?_)
          · refine G.want rfl rfl rfl (G.val rfl rfl (pv_fieldAddrK (sz := 0) (k := 4) Try.underlying31 rfl (by kernel_rfl) rfl rfl) ?_)
            refine G.want rfl rfl rfl (G.val rfl rfl (pv_load Try.underlying9 rfl rfl (by first | exact blk_cell (by (repeat (first | with_reducible exact Sel.here | exact Sel.here | apply Sel.there)); done) (by rfl) | exact rng_cell (by (repeat (first | with_reducible exact Sel.here | exact Sel.here | apply Sel.there)); done) (by rfl) | exact ro_blk (by assumption) (by rfl) | exact ro_rngC (by assumption) (by rfl) | exact ro_int (by assumption) | exact ro_byte (by assumption) | exact ro_str (by assumption) | with_reducible assumption | assumption)) ?_)
            refine G.want rfl rfl rfl (G.val rfl rfl (pv_lenS Try.underlying9 rfl) ?_)
            refine G.want rfl rfl rfl (G.val rfl rfl (pv_geq rfl rfl) ?_)
            refine G.op rfl (G.val rfl rfl (pv_pick rfl rfl) ?_)
            refine G.op rfl (G.val rfl rfl (pv_move rfl) ?_)
            refine G.partP (t := 35) rfl (fun h35 => ?_) (fun h35 => ?_)
            · refine G.want rfl rfl rfl (G.val rfl rfl (pv_fieldAddrK (sz := 0) (k := 4) Try.underlying31 rfl (by kernel_rfl) rfl rfl) ?_)
              refine G.want rfl rfl rfl (G.val rfl rfl (pv_load Try.underlying9 rfl rfl (by first | exact blk_cell (by (repeat (first | with_reducible exact Sel.here | exact Sel.here | apply Sel.there)); done) (by rfl) | exact rng_cell (by (repeat (first | with_reducible exact Sel.here | exact Sel.here | apply Sel.there)); done) (by rfl) | exact ro_blk (by assumption) (by rfl) | exact ro_rngC (by assumption) (by rfl) | exact ro_int (by assumption) | exact ro_byte (by assumption) | exact ro_str (by assumption) | with_reducible assumption | assumption)) ?_)
              refine G.want rfl rfl rfl (G.val rfl rfl (pv_lenS Try.underlying9 rfl) ?_)
              refine G.want rfl rfl rfl (G.val rfl rfl (pv_leq rfl rfl) ?_)
              refine G.op rfl (G.val rfl rfl (pv_pick rfl rfl) ?_)
              refine G.op rfl (G.val rfl rfl (pv_assign rfl) ?_)
              refine G.nil ?_
              exact G.meet (()) (by first | exact trivial | ((try dsimp only); exact trivial)) (.consE rfl (by first | exact dec_t (by unfold linkP; omega) | exact dec_f (by unfold linkP; omega) | exact dec_e (by unfold linkP; omega)) (.cons rfl (.cons rfl .nil))) (by repeat (first | exact Sub.nil | (apply Sub.cons; (repeat (first | with_reducible exact Sel.here | exact Sel.here | apply Sel.there)))))
            · refine G.pass rfl rfl rfl rfl rfl rfl ?_
              refine G.pass rfl rfl rfl rfl rfl rfl ?_
              refine G.pass rfl rfl rfl rfl rfl rfl ?_
              refine G.pass rfl rfl rfl rfl rfl rfl ?_
              refine G.op rfl (G.val rfl rfl (pv_pick rfl rfl) ?_)
              refine G.op rfl (G.val rfl rfl (pv_assign rfl) ?_)
              refine G.nil ?_
              exact G.meet (()) (by first | exact trivial | ((try dsimp only); exact trivial)) (.consE rfl (by first | exact dec_t (by unfold linkP; omega) | exact dec_f (by unfold linkP; omega) | exact dec_e (by unfold linkP; omega)) (.cons rfl (.cons rfl .nil))) (by repeat (first | exact Sub.nil | (apply Sub.cons; (repeat (first | with_reducible exact Sel.here | exact Sel.here | apply Sel.there)))))
          · refine G.pass rfl rfl rfl rfl rfl rfl ?_
            refine G.pass rfl rfl rfl rfl rfl rfl ?_
            refine G.pass rfl rfl rfl rfl rfl rfl ?_
            refine G.pass rfl rfl rfl rfl rfl rfl ?_
            refine G.op rfl (G.val rfl rfl (pv_pick rfl rfl) ?_)
            refine G.op rfl (G.val rfl rfl (pv_move rfl) ?_)
            refine G.pass rfl rfl rfl rfl rfl rfl ?_
            refine G.pass rfl rfl rfl rfl rfl rfl ?_
            refine G.pass rfl rfl rfl rfl rfl rfl ?_
            refine G.pass rfl rfl rfl rfl rfl rfl ?_
            refine G.op rfl (G.val rfl rfl (pv_pick rfl rfl) ?_)
            refine G.op rfl (G.val rfl rfl (pv_assign rfl) ?_)
            refine G.nil ?_
            exact G.meet (()) (by first | exact trivial | ((try dsimp only); exact trivial)) (.consE rfl (by first | exact dec_t (by unfold linkP; omega) | exact dec_f (by unfold linkP; omega) | exact dec_e (by unfold linkP; omega)) (.cons rfl (.cons rfl .nil))) (by repeat (first | exact Sub.nil | (apply Sub.cons; (repeat (first | with_reducible exact Sel.here | exact Sel.here | apply Sel.there)))))
        · intro _ hJ
          try dsimp only at hJ
          try dsimp only
          refine G.seq ?_
          refine G.seq ?_
          refine G.cutK (X := Unit) (ts := [1, 2]) (p := []) (fun _ => True) (fun _ => [(69, .bool (decide (badP2 e)))]) (fun _ => []) (.cons rfl (.cons rfl .nil)) (by repeat (first | exact Sub.nil | (apply Sub.cons; (repeat (first | with_reducible exact Sel.here | exact Sel.here | apply Sel.there))))) (.cons .nil) (by repeat (first | exact Ap.nil | apply Ap.cons)) ?_ ?_
          · refine G.region ?_
            refine G.op rfl (G.val rfl rfl (pv_fieldAddrK (sz := 0) (k := 3) Try.underlying31 rfl (by kernel_rfl) rfl rfl) ?_)
            refine G.op rfl (G.val rfl rfl (pv_load Try.underlying29 rfl rfl (by first | exact blk_cell (by (repeat (first | with_reducible exact Sel.here | exact Sel.here | apply Sel.there)); done) (by rfl) | exact rng_cell (by (repeat (first | with_reducible exact Sel.here | exact Sel.here | apply Sel.there)); done) (by rfl) | exact ro_blk (by assumption) (by rfl) | exact ro_rngC (by assumption) (by rfl) | exact ro_int (by assumption) | exact ro_byte (by assumption) | exact ro_str (by assumption) | with_reducible assumption | assumption)) ?_)
            refine G.op rfl (G.val rfl rfl (pv_lenSl Try.underlying29 rfl) ?_)
            refine G.op rfl (G.val rfl rfl (pv_gtr rfl rfl) ?_)
            refine G.op rfl (G.val rfl rfl (pv_move rfl) ?_)
            refine G.partP (t := 45) rfl (fun h45 => ?_) (fun h45 => ?_)
            · refine G.want rfl rfl rfl (G.val rfl rfl (pv_fieldAddrK (sz := 0) (k := 1) Try.underlying31 rfl (by kernel_rfl) rfl rfl) ?_)
              refine G.want rfl rfl rfl (G.val rfl rfl (pv_load Try.underlying3 rfl rfl (by first | exact blk_cell (by (repeat (first | with_reducible exact Sel.here | exact Sel.here | apply Sel.there)); done) (by rfl) | exact rng_cell (by (repeat (first | with_reducible exact Sel.here | exact Sel.here | apply Sel.there)); done) (by rfl) | exact ro_blk (by assumption) (by rfl) | exact ro_rngC (by assumption) (by rfl) | exact ro_int (by assumption) | exact ro_byte (by assumption) | exact ro_str (by assumption) | with_reducible assumption | assumption)) ?_)
              refine G.want rfl rfl rfl (G.val rfl rfl (pv_neq rfl rfl) ?_)
              refine G.op rfl (G.val rfl rfl (pv_pick rfl rfl) ?_)
              refine G.op rfl (G.val rfl rfl (pv_move rfl) ?_)
              refine G.partP (t := 50) rfl (fun h50 => ?_) (fun h50 => ?_)
              · refine G.pass rfl rfl rfl rfl rfl rfl ?_
                refine G.pass rfl rfl rfl rfl rfl rfl ?_
                refine G.pass rfl rfl rfl rfl rfl rfl ?_
                refine G.pass rfl rfl rfl rfl rfl rfl ?_
                refine G.pass rfl rfl rfl rfl rfl rfl ?_
                refine G.passU rfl rfl rfl rfl rfl ?_
                refine G.passU rfl rfl rfl rfl rfl ?_
                refine G.passU rfl rfl rfl rfl rfl ?_
                refine G.pass rfl rfl rfl rfl rfl rfl ?_
                refine G.op rfl (G.val rfl rfl (pv_pick rfl rfl) ?_)
                refine G.op rfl (G.val rfl rfl (pv_move rfl) ?_)
                refine G.pass rfl rfl rfl rfl rfl rfl ?_
                refine G.pass rfl rfl rfl rfl rfl rfl ?_
                refine G.pass rfl rfl rfl rfl rfl rfl ?_
                refine G.pass rfl rfl rfl rfl rfl rfl ?_
                refine G.passU rfl rfl rfl rfl rfl ?_
                refine G.passU rfl rfl rfl rfl rfl ?_
                refine G.pass rfl rfl rfl rfl rfl rfl ?_
                refine G.op rfl (G.val rfl rfl (pv_pick rfl rfl) ?_)
                refine G.nil ?_
                exact G.meet (()) (by first | exact trivial | ((try dsimp only); exact trivial)) (.consE rfl (by first | exact dec_t (by unfold badP2 linkP; omega) | exact dec_f (by unfold badP2 linkP; omega) | exact dec_e (by unfold badP2 linkP; omega)) (.cons rfl (.cons rfl .nil))) (by repeat (first | exact Sub.nil | (apply Sub.cons; (repeat (first | with_reducible exact Sel.here | exact Sel.here | apply Sel.there)))))
              · refine G.want rfl rfl rfl (G.val rfl rfl (pv_fieldAddrK (sz := 0) (k := 4) Try.underlying31 rfl (by kernel_rfl) rfl rfl) ?_)
                refine G.want rfl rfl rfl (G.val rfl rfl (pv_load Try.underlying9 rfl rfl (by first | exact blk_cell (by (repeat (first | with_reducible exact Sel.here | exact Sel.here | apply Sel.there)); done) (by rfl) | exact rng_cell (by (repeat (first | with_reducible exact Sel.here | exact Sel.here | apply Sel.there)); done) (by rfl) | exact ro_blk (by assumption) (by rfl) | exact ro_rngC (by assumption) (by rfl) | exact ro_int (by assumption) | exact ro_byte (by assumption) | exact ro_str (by assumption) | with_reducible assumption | assumption)) ?_)
                refine G.want rfl rfl rfl (G.val rfl rfl (pv_lenS Try.underlying9 rfl) ?_)
                refine G.want rfl rfl rfl (G.val rfl rfl (pv_gtr rfl rfl) ?_)
                refine G.want rfl rfl rfl (G.val rfl rfl (pv_move rfl) ?_)
                refine G.partP (t := 55) rfl (fun h55 => ?_) (fun h55 => ?_)
                · refine G.want rfl rfl rfl (G.val rfl rfl (pv_fieldAddrK (sz := 0) (k := 1) Try.underlying31 rfl (by kernel_rfl) rfl rfl) ?_)
                  refine G.want rfl rfl rfl (G.val rfl rfl (pv_load Try.underlying3 rfl rfl (by first | exact blk_cell (by (repeat (first | with_reducible exact Sel.here | exact Sel.here | apply Sel.there)); done) (by rfl) | exact rng_cell (by (repeat (first | with_reducible exact Sel.here | exact Sel.here | apply Sel.there)); done) (by rfl) | exact ro_blk (by assumption) (by rfl) | exact ro_rngC (by assumption) (by rfl) | exact ro_int (by assumption) | exact ro_byte (by assumption) | exact ro_str (by assumption) | with_reducible assumption | assumption)) ?_)
                  refine G.want rfl rfl rfl (G.val rfl rfl (pv_neq rfl rfl) ?_)
                  refine G.want rfl rfl rfl (G.val rfl rfl (pv_pick rfl rfl) ?_)
                  refine G.op rfl (G.val rfl rfl (pv_pick rfl rfl) ?_)
                  refine G.op rfl (G.val rfl rfl (pv_move rfl) ?_)
                  refine G.partP (t := 61) rfl (fun h61 => ?_) (fun h61 => ?_)
                  · refine G.pass rfl rfl rfl rfl rfl rfl ?_
                    refine G.pass rfl rfl rfl rfl rfl rfl ?_
                    refine G.pass rfl rfl rfl rfl rfl rfl ?_
                    refine G.pass rfl rfl rfl rfl rfl rfl ?_
                    refine G.passU rfl rfl rfl rfl rfl ?_
                    refine G.passU rfl rfl rfl rfl rfl ?_
                    refine G.pass rfl rfl rfl rfl rfl rfl ?_
                    refine G.op rfl (G.val rfl rfl (pv_pick rfl rfl) ?_)
                    refine G.nil ?_
                    exact G.meet (()) (by first | exact trivial | ((try dsimp only); exact trivial)) (.consE rfl (by first | exact dec_t (by unfold badP2 linkP; omega) | exact dec_f (by unfold badP2 linkP; omega) | exact dec_e (by unfold badP2 linkP; omega)) (.cons rfl (.cons rfl .nil))) (by repeat (first | exact Sub.nil | (apply Sub.cons; (repeat (first | with_reducible exact Sel.here | exact Sel.here | apply Sel.there)))))
                  · refine G.want rfl rfl rfl (G.val rfl rfl (pv_fieldAddrK (sz := 0) (k := 1) Try.underlying31 rfl (by kernel_rfl) rfl rfl) ?_)
                    refine G.want rfl rfl rfl (G.val rfl rfl (pv_load Try.underlying3 rfl rfl (by first | exact blk_cell (by (repeat (first | with_reducible exact Sel.here | exact Sel.here | apply Sel.there)); done) (by rfl) | exact rng_cell (by (repeat (first | with_reducible exact Sel.here | exact Sel.here | apply Sel.there)); done) (by rfl) | exact ro_blk (by assumption) (by rfl) | exact ro_rngC (by assumption) (by rfl) | exact ro_int (by assumption) | exact ro_byte (by assumption) | exact ro_str (by assumption) | with_reducible assumption | assumption)) ?_)
                    refine G.want rfl rfl rfl (G.val rfl rfl (pv_eql rfl rfl) ?_)
                    refine G.want rfl rfl rfl (G.val rfl rfl (pv_move rfl) ?_)
                    refine G.partP (t := 65) rfl (fun h65 => ?_) (fun h65 => ?_)
                    · refine G.want rfl rfl rfl (G.val rfl rfl (pv_move rfl) ?_)
                      refine G.want rfl rfl rfl (G.val rfl rfl (pv_notP rfl) ?_)
                      refine G.want rfl rfl rfl (G.val rfl rfl (pv_pick rfl rfl) ?_)
                      refine G.op rfl (G.val rfl rfl (pv_pick rfl rfl) ?_)
                      refine G.nil ?_
                      exact G.meet (()) (by first | exact trivial | ((try dsimp only); exact trivial)) (.consE rfl (by first | exact dec_t (by unfold badP2 linkP; omega) | exact dec_f (by unfold badP2 linkP; omega) | exact dec_e (by unfold badP2 linkP; omega)) (.cons rfl (.cons rfl .nil))) (by repeat (first | exact Sub.nil | (apply Sub.cons; (repeat (first | with_reducible exact Sel.here | exact Sel.here | apply Sel.there)))))
                    · refine G.pass rfl rfl rfl rfl rfl rfl ?_
                      refine G.pass rfl rfl rfl rfl rfl rfl ?_
                      refine G.want rfl rfl rfl (G.val rfl rfl (pv_pick rfl rfl) ?_)
                      refine G.op rfl (G.val rfl rfl (pv_pick rfl rfl) ?_)
                      refine G.nil ?_
                      exact G.meet (()) (by first | exact trivial | ((try dsimp only); exact trivial)) (.consE rfl (by first | exact dec_t (by unfold badP2 linkP; omega) | exact dec_f (by unfold badP2 linkP; omega) | exact dec_e (by unfold badP2 linkP; omega)) (.cons rfl (.cons rfl .nil))) (by repeat (first | exact Sub.nil | (apply Sub.cons; (repeat (first | with_reducible exact Sel.here | exact Sel.here | apply Sel.there)))))
                · refine G.pass rfl rfl rfl rfl rfl rfl ?_
                  refine G.pass rfl rfl rfl rfl rfl rfl ?_
                  refine G.pass rfl rfl rfl rfl rfl rfl ?_
                  refine G.want rfl rfl rfl (G.val rfl rfl (pv_pick rfl rfl) ?_)
                  refine G.op rfl (G.val rfl rfl (pv_pick rfl rfl) ?_)
                  refine G.op rfl (G.val rfl rfl (pv_move rfl) ?_)
                  refine G.want rfl rfl rfl (G.val rfl rfl (pv_fieldAddrK (sz := 0) (k := 1) Try.underlying31 rfl (by kernel_rfl) rfl rfl) ?_)
                  refine G.want rfl rfl rfl (G.val rfl rfl (pv_load Try.underlying3 rfl rfl (by first | exact blk_cell (by (repeat (first | with_reducible exact Sel.here | exact Sel.here | apply Sel.there)); done) (by rfl) | exact rng_cell (by (repeat (first | with_reducible exact Sel.here | exact Sel.here | apply Sel.there)); done) (by rfl) | exact ro_blk (by assumption) (by rfl) | exact ro_rngC (by assumption) (by rfl) | exact ro_int (by assumption) | exact ro_byte (by assumption) | exact ro_str (by assumption) | with_reducible assumption | assumption)) ?_)
                  refine G.want rfl rfl rfl (G.val rfl rfl (pv_eql rfl rfl) ?_)
                  refine G.want rfl rfl rfl (G.val rfl rfl (pv_move rfl) ?_)
                  refine G.partP (t := 65) rfl (fun h65 => ?_) (fun h65 => ?_)
                  · refine G.want rfl rfl rfl (G.val rfl rfl (pv_move rfl) ?_)
                    refine G.want rfl rfl rfl (G.val rfl rfl (pv_notP rfl) ?_)
                    refine G.want rfl rfl rfl (G.val rfl rfl (pv_pick rfl rfl) ?_)
                    refine G.op rfl (G.val rfl rfl (pv_pick rfl rfl) ?_)
                    refine G.nil ?_
                    exact G.meet (()) (by first | exact trivial | ((try dsimp only); exact trivial)) (.consE rfl (by first | exact dec_t (by unfold badP2 linkP; omega) | exact dec_f (by unfold badP2 linkP; omega) | exact dec_e (by unfold badP2 linkP; omega)) (.cons rfl (.cons rfl .nil))) (by repeat (first | exact Sub.nil | (apply Sub.cons; (repeat (first | with_reducible exact Sel.here | exact Sel.here | apply Sel.there)))))
                  · refine G.pass rfl rfl rfl rfl rfl rfl ?_
                    refine G.pass rfl rfl rfl rfl rfl rfl ?_
                    refine G.want rfl rfl rfl (G.val rfl rfl (pv_pick rfl rfl) ?_)
                    refine G.op rfl (G.val rfl rfl (pv_pick rfl rfl) ?_)
                    refine G.nil ?_
                    exact G.meet (()) (by first | exact trivial | ((try dsimp only); exact trivial)) (.consE rfl (by first | exact dec_t (by unfold badP2 linkP; omega) | exact dec_f (by unfold badP2 linkP; omega) | exact dec_e (by unfold badP2 linkP; omega)) (.cons rfl (.cons rfl .nil))) (by repeat (first | exact Sub.nil | (apply Sub.cons; (repeat (first | with_reducible exact Sel.here | exact Sel.here | apply Sel.there)))))
            · refine G.pass rfl rfl rfl rfl rfl rfl ?_
              refine G.pass rfl rfl rfl rfl rfl rfl ?_
              refine G.pass rfl rfl rfl rfl rfl rfl ?_
              refine G.op rfl (G.val rfl rfl (pv_pick rfl rfl) ?_)
              refine G.op rfl (G.val rfl rfl (pv_move rfl) ?_)
              refine G.want rfl rfl rfl (G.val rfl rfl (pv_fieldAddrK (sz := 0) (k := 4) Try.underlying31 rfl (by kernel_rfl) rfl rfl) ?_)
              refine G.want rfl rfl rfl (G.val rfl rfl (pv_load Try.underlying9 rfl rfl (by first | exact blk_cell (by (repeat (first | with_reducible exact Sel.here | exact Sel.here | apply Sel.there)); done) (by rfl) | exact rng_cell (by (repeat (first | with_reducible exact Sel.here | exact Sel.here | apply Sel.there)); done) (by rfl) | exact ro_blk (by assumption) (by rfl) | exact ro_rngC (by assumption) (by rfl) | exact ro_int (by assumption) | exact ro_byte (by assumption) | exact ro_str (by assumption) | with_reducible assumption | assumption)) ?_)
              refine G.want rfl rfl rfl (G.val rfl rfl (pv_lenS Try.underlying9 rfl) ?_)
              refine G.want rfl rfl rfl (G.val rfl rfl (pv_gtr rfl rfl) ?_)
              refine G.want rfl rfl rfl (G.val rfl rfl (pv_move rfl) ?_)
              refine G.partP (t := 55) rfl (fun h55 => ?_) (fun h55 => ?_)
              · refine G.want rfl rfl rfl (G.val rfl rfl (pv_fieldAddrK (sz := 0) (k := 1) Try.underlying31 rfl (by kernel_rfl) rfl rfl) ?_)
                refine G.want rfl rfl rfl (G.val rfl rfl (pv_load Try.underlying3 rfl rfl (by first | exact blk_cell (by (repeat (first | with_reducible exact Sel.here | exact Sel.here | apply Sel.there)); done) (by rfl) | exact rng_cell (by (repeat (first | with_reducible exact Sel.here | exact Sel.here | apply Sel.there)); done) (by rfl) | exact ro_blk (by assumption) (by rfl) | exact ro_rngC (by assumption) (by rfl) | exact ro_int (by assumption) | exact ro_byte (by assumption) | exact ro_str (by assumption) | with_reducible assumption | assumption)) ?_)
                refine G.want rfl rfl rfl (G.val rfl rfl (pv_neq rfl rfl) ?_)
                refine G.want rfl rfl rfl (G.val rfl rfl (pv_pick rfl rfl) ?_)
                refine G.op rfl (G.val rfl rfl (pv_pick rfl rfl) ?_)
                refine G.op rfl (G.val rfl rfl (pv_move rfl) ?_)
                refine G.partP (t := 61) rfl (fun h61 => ?_) (fun h61 => ?_)
                · refine G.pass rfl rfl rfl rfl rfl rfl ?_
                  refine G.pass rfl rfl rfl rfl rfl rfl ?_
                  refine G.pass rfl rfl rfl rfl rfl rfl ?_
                  refine G.pass rfl rfl rfl rfl rfl rfl ?_
                  refine G.passU rfl rfl rfl rfl rfl ?_
                  refine G.passU rfl rfl rfl rfl rfl ?_
                  refine G.pass rfl rfl rfl rfl rfl rfl ?_
                  refine G.op rfl (G.val rfl rfl (pv_pick rfl rfl) ?_)
                  refine G.nil ?_
                  exact G.meet (()) (by first | exact trivial | ((try dsimp only); exact trivial)) (.consE rfl (by first | exact dec_t (by unfold badP2 linkP; omega) | exact dec_f (by unfold badP2 linkP; omega) | exact dec_e (by unfold badP2 linkP; omega)) (.cons rfl (.cons rfl .nil))) (by repeat (first | exact Sub.nil | (apply Sub.cons; (repeat (first | with_reducible exact Sel.here | exact Sel.here | apply Sel.there)))))
                · refine G.want rfl rfl rfl (G.val rfl rfl (pv_fieldAddrK (sz := 0) (k := 1) Try.underlying31 rfl (by kernel_rfl) rfl rfl) ?_)
                  refine G.want rfl rfl rfl (G.val rfl rfl (pv_load Try.underlying3 rfl rfl (by first | exact blk_cell (by (repeat (first | with_reducible exact Sel.here | exact Sel.here | apply Sel.there)); done) (by rfl) | exact rng_cell (by (repeat (first | with_reducible exact Sel.here | exact Sel.here | apply Sel.there)); done) (by rfl) | exact ro_blk (by assumption) (by rfl) | exact ro_rngC (by assumption) (by rfl) | exact ro_int (by assumption) | exact ro_byte (by assumption) | exact ro_str (by assumption) | with_reducible assumption | assumption)) ?_)
                  refine G.want rfl rfl rfl (G.val rfl rfl (pv_eql rfl rfl) ?_)
                  refine G.want rfl rfl rfl (G.val rfl rfl (pv_move rfl) ?_)
                  refine G.partP (t := 65) rfl (fun h65 => ?_) (fun h65 => ?_)
                  · refine G.want rfl rfl rfl (G.val rfl rfl (pv_move rfl) ?_)
                    refine G.want rfl rfl rfl (G.val rfl rfl (pv_notP rfl) ?_)
                    refine G.want rfl rfl rfl (G.val rfl rfl (pv_pick rfl rfl) ?_)
                    refine G.op rfl (G.val rfl rfl (pv_pick rfl rfl) ?_)
                    refine G.nil ?_
                    exact G.meet (()) (by first | exact trivial | ((try dsimp only); exact trivial)) (.consE rfl (by first | exact dec_t (by unfold badP2 linkP; omega) | exact dec_f (by unfold badP2 linkP; omega) | exact dec_e (by unfold badP2 linkP; omega)) (.cons rfl (.cons rfl .nil))) (by repeat (first | exact Sub.nil | (apply Sub.cons; (repeat (first | with_reducible exact Sel.here | exact Sel.here | apply Sel.there)))))
                  · refine G.pass rfl rfl rfl rfl rfl rfl ?_
                    refine G.pass rfl rfl rfl rfl rfl rfl ?_
                    refine G.want rfl rfl rfl (G.val rfl rfl (pv_pick rfl rfl) ?_)
                    refine G.op rfl (G.val rfl rfl (pv_pick rfl rfl) ?_)
                    refine G.nil ?_
                    exact G.meet (()) (by first | exact trivial | ((try dsimp only); exact trivial)) (.consE rfl (by first | exact dec_t (by unfold badP2 linkP; omega) | exact dec_f (by unfold badP2 linkP; omega) | exact dec_e (by unfold badP2 linkP; omega)) (.cons rfl (.cons rfl .nil))) (by repeat (first | exact Sub.nil | (apply Sub.cons; (repeat (first | with_reducible exact Sel.here | exact Sel.here | apply Sel.there)))))
              · refine G.pass rfl rfl rfl rfl rfl rfl ?_
                refine G.pass rfl rfl rfl rfl rfl rfl ?_
                refine G.pass rfl rfl rfl rfl rfl rfl ?_
                refine G.want rfl rfl rfl (G.val rfl rfl (pv_pick rfl rfl) ?_)
                refine G.op rfl (G.val rfl rfl (pv_pick rfl rfl) ?_)
                refine G.op rfl (G.val rfl rfl (pv_move rfl) ?_)
                refine G.want rfl rfl rfl (G.val rfl rfl (pv_fieldAddrK (sz := 0) (k := 1) Try.underlying31 rfl (by kernel_rfl) rfl rfl) ?_)
                refine G.want rfl rfl rfl (G.val rfl rfl (pv_load Try.underlying3 rfl rfl (by first | exact blk_cell (by (repeat (first | with_reducible exact Sel.here | exact Sel.here | apply Sel.there)); done) (by rfl) | exact rng_cell (by (repeat (first | with_reducible exact Sel.here | exact Sel.here | apply Sel.there)); done) (by rfl) | exact ro_blk (by assumption) (by rfl) | exact ro_rngC (by assumption) (by rfl) | exact ro_int (by assumption) | exact ro_byte (by assumption) | exact ro_str (by assumption) | with_reducible assumption | assumption)) ?_)
                refine G.want rfl rfl rfl (G.val rfl rfl (pv_eql rfl rfl) ?_)
                refine G.want rfl rfl rfl (G.val rfl rfl (pv_move rfl) ?_)
                refine G.partP (t := 65) rfl (fun h65 => ?_) (fun h65 => ?_)
                · refine G.want rfl rfl rfl (G.val rfl rfl (pv_move rfl) ?_)
                  refine G.want rfl rfl rfl (G.val rfl rfl (pv_notP rfl) ?_)
                  refine G.want rfl rfl rfl (G.val rfl rfl (pv_pick rfl rfl) ?_)
                  refine G.op rfl (G.val rfl rfl (pv_pick rfl rfl) ?_)
                  refine G.nil ?_
                  exact G.meet (()) (by first | exact trivial | ((try dsimp only); exact trivial)) (.consE rfl (by first | exact dec_t (by unfold badP2 linkP; omega) | exact dec_f (by unfold badP2 linkP; omega) | exact dec_e (by unfold badP2 linkP; omega)) (.cons rfl (.cons rfl .nil))) (by repeat (first | exact Sub.nil | (apply Sub.cons; (repeat (first | with_reducible exact Sel.here | exact Sel.here | apply Sel.there)))))
                · refine G.pass rfl rfl rfl rfl rfl rfl ?_
                  refine G.pass rfl rfl rfl rfl rfl rfl ?_
                  refine G.want rfl rfl rfl (G.val rfl rfl (pv_pick rfl rfl) ?_)
                  refine G.op rfl (G.val rfl rfl (pv_pick rfl rfl) ?_)
                  refine G.nil ?_
                  exact G.meet (()) (by first | exact trivial | ((try dsimp only); exact trivial)) (.consE rfl (by first | exact dec_t (by unfold badP2 linkP; omega) | exact dec_f (by unfold badP2 linkP; omega) | exact dec_e (by unfold badP2 linkP; omega)) (.cons rfl (.cons rfl .nil))) (by repeat (first | exact Sub.nil | (apply Sub.cons; (repeat (first | with_reducible exact Sel.here | exact Sel.here | apply Sel.there)))))
          · intro _ hJ
            try dsimp only at hJ
            try dsimp only
            refine G.condP rfl (fun h69 => ?_) (fun h69 => ?_)
            · refine G.seq ?_
              refine G.region ?_
              refine G.op rfl (G.val rfl rfl (pv_assign rfl) ?_)
              refine G.nil ?_
              refine G.nThen ?_
              refine G.ret ?_
              refine G.rThen ?_
              exact G.done0G rfl (Rv.tmp rfl Rv.nil) (by rw [one_arg hok ((argP_iff e).2 (.inr (by assumption)))]; rfl)
            · have hna : ¬ argP e := fun h => ((argP_iff e).1 h).elim (by assumption) (by assumption)
              refine G.skip ?_
              refine G.nThen ?_
              refine G.seq ?_
              refine G.seq ?_
              refine G.region ?_
              refine G.op rfl (G.val rfl rfl (pv_fieldAddrK (sz := 0) (k := 3) Try.underlying31 rfl (by kernel_rfl) rfl rfl) ?_)
              refine G.op rfl (G.val rfl rfl (pv_load Try.underlying29 rfl rfl (by first | exact blk_cell (by (repeat (first | with_reducible exact Sel.here | exact Sel.here | apply Sel.there)); done) (by rfl) | exact rng_cell (by (repeat (first | with_reducible exact Sel.here | exact Sel.here | apply Sel.there)); done) (by rfl) | exact ro_blk (by assumption) (by rfl) | exact ro_rngC (by assumption) (by rfl) | exact ro_int (by assumption) | exact ro_byte (by assumption) | exact ro_str (by assumption) | with_reducible assumption | assumption)) ?_)
              refine G.op rfl (G.val rfl rfl (pv_lenSl Try.underlying29 rfl) ?_)
              refine G.op rfl (G.val rfl rfl (pv_gtr rfl rfl) ?_)
              refine G.nil ?_
              refine G.nThen ?_
              refine G.condP rfl (fun h73 => ?_) (fun h73 => ?_)
              · refine G.seq ?_
                refine G.region ?_
                refine G.op rfl (G.val rfl rfl (pv_assign rfl) ?_)
                refine G.nil ?_
                refine G.nThen ?_
                refine G.ret ?_
                refine G.rThen ?_
                exact G.done0G rfl (Rv.tmp rfl Rv.nil) (by rw [one_long hok hna (by omega)]; rfl)
              · refine G.skip ?_
                refine G.nThen ?_
                refine G.seq ?_
                refine G.region ?_
                refine G.op rfl (G.val rfl rfl (pv_assign rfl) ?_)
                refine G.nil ?_
                refine G.nThen ?_
                refine G.ret ?_
                exact G.done0G rfl (Rv.tmp rfl Rv.nil) (by rw [one_ok hok hna (by omega)]; rfl)
set_option maxRecDepth 20000 in
set_option maxHeartbeats 4000000 in

theorem alike_tr {Pa Pb : Nat → Prop} (a b : En) (da db : Value) : Tr Try.prog 53 #[.agg #[.string (sB a.path), .int .i64 a.kind, .int .i64 a.mode, da, .string (sB a.to)], .agg #[.string (sB b.path), .int .i64 b.kind, .int .i64 b.mode, db, .string (sB b.to)]] [slc rByte Pa da a.data, slc rByte Pb db b.data] [] (T0 (.bool (decide (a = b)))) := by
  refine Tr.of (l := [(0, .agg #[.string (sB a.path), .int .i64 a.kind, .int .i64 a.mode, da, .string (sB a.to)]), (1, .agg #[.string (sB b.path), .int .i64 b.kind, .int .i64 b.mode, db, .string (sB b.to)])]) Try.func53 rfl (n := 31) rfl (.cons rfl (.cons rfl .nil)) (fun w0 hro => ?_)
  obtain ⟨hda, hdb⟩ := ro2 hro
  refine G.seq ?_
  refine G.region ?_
  refine G.op rfl (G.box rfl rfl (cs := [_, _, _, _, _]) rfl ?_)
  intro b2
  refine G.op rfl (G.box rfl rfl (cs := [_, _, _, _, _]) rfl ?_)
  intro b3
  refine G.op rfl (G.val rfl rfl (pv_assign rfl) ?_)
  refine G.nil ?_
  refine G.nThen ?_
  refine G.seq ?_
  refine G.region ?_
  refine G.op rfl (G.val rfl rfl (pv_fieldAddrK (sz := 0) (k := 0) Try.underlying31 rfl (by kernel_rfl) rfl rfl) ?_)
  refine G.op rfl (G.val rfl rfl (pv_load Try.underlying9 rfl rfl (by first | exact blk_cell (by (repeat (first | with_reducible exact Sel.here | exact Sel.here | apply Sel.there)); done) (by rfl) | exact rng_cell (by (repeat (first | with_reducible exact Sel.here | exact Sel.here | apply Sel.there)); done) (by rfl) | exact ro_blk (by assumption) (by rfl) | exact ro_rngC (by assumption) (by rfl) | exact ro_int (by assumption) | exact ro_byte (by assumption) | exact ro_str (by assumption) | with_reducible assumption | assumption)) ?_)
  refine G.op rfl (G.val rfl rfl (pv_fieldAddrK (sz := 0) (k := 1) Try.underlying31 rfl (by kernel_rfl) rfl rfl) ?_)
  refine G.op rfl (G.val rfl rfl (pv_load Try.underlying3 rfl rfl (by first | exact blk_cell (by (repeat (first | with_reducible exact Sel.here | exact Sel.here | apply Sel.there)); done) (by rfl) | exact rng_cell (by (repeat (first | with_reducible exact Sel.here | exact Sel.here | apply Sel.there)); done) (by rfl) | exact ro_blk (by assumption) (by rfl) | exact ro_rngC (by assumption) (by rfl) | exact ro_int (by assumption) | exact ro_byte (by assumption) | exact ro_str (by assumption) | with_reducible assumption | assumption)) ?_)
  refine G.op rfl (G.val rfl rfl (pv_fieldAddrK (sz := 0) (k := 2) Try.underlying31 rfl (by kernel_rfl) rfl rfl) ?_)
  refine G.op rfl (G.val rfl rfl (pv_load Try.underlying3 rfl rfl (by first | exact blk_cell (by (repeat (first | with_reducible exact Sel.here | exact Sel.here | apply Sel.there)); done) (by rfl) | exact rng_cell (by (repeat (first | with_reducible exact Sel.here | exact Sel.here | apply Sel.there)); done) (by rfl) | exact ro_blk (by assumption) (by rfl) | exact ro_rngC (by assumption) (by rfl) | exact ro_int (by assumption) | exact ro_byte (by assumption) | exact ro_str (by assumption) | with_reducible assumption | assumption)) ?_)
  refine G.op rfl (G.val rfl rfl (pv_fieldAddrK (sz := 0) (k := 4) Try.underlying31 rfl (by kernel_rfl) rfl rfl) ?_)
  refine G.op rfl (G.val rfl rfl (pv_load Try.underlying9 rfl rfl (by first | exact blk_cell (by (repeat (first | with_reducible exact Sel.here | exact Sel.here | apply Sel.there)); done) (by rfl) | exact rng_cell (by (repeat (first | with_reducible exact Sel.here | exact Sel.here | apply Sel.there)); done) (by rfl) | exact ro_blk (by assumption) (by rfl) | exact ro_rngC (by assumption) (by rfl) | exact ro_int (by assumption) | exact ro_byte (by assumption) | exact ro_str (by assumption) | with_reducible assumption | assumption)) ?_)
  refine G.op rfl (G.val rfl rfl (pv_buildSt (z := [.string ⟨#[]⟩, .int .i64 0, .int .i64 0, .string ⟨#[]⟩]) (pl := [(0, 1), (1, 1), (2, 1), (3, 1)]) Try.underlying81 (by kernel_rfl) (by kernel_rfl) rfl (by repeat (first | exact Fl.nil | (apply Fl.cons; exact rfl; (first | exact cells_of (by first | rfl | with_reducible assumption) | exact rfl); exact rfl; exact rfl; repeat (first | exact Sn.nil | (apply Sn.cons; repeat (first | exact St.zero | apply St.succ))))))) ?_)
  refine G.op rfl (G.val rfl rfl (pv_fieldAddrK (sz := 0) (k := 0) Try.underlying31 rfl (by kernel_rfl) rfl rfl) ?_)
  refine G.op rfl (G.val rfl rfl (pv_load Try.underlying9 rfl rfl (by first | exact blk_cell (by (repeat (first | with_reducible exact Sel.here | exact Sel.here | apply Sel.there)); done) (by rfl) | exact rng_cell (by (repeat (first | with_reducible exact Sel.here | exact Sel.here | apply Sel.there)); done) (by rfl) | exact ro_blk (by assumption) (by rfl) | exact ro_rngC (by assumption) (by rfl) | exact ro_int (by assumption) | exact ro_byte (by assumption) | exact ro_str (by assumption) | with_reducible assumption | assumption)) ?_)
  refine G.op rfl (G.val rfl rfl (pv_fieldAddrK (sz := 0) (k := 1) Try.underlying31 rfl (by kernel_rfl) rfl rfl) ?_)
  refine G.op rfl (G.val rfl rfl (pv_load Try.underlying3 rfl rfl (by first | exact blk_cell (by (repeat (first | with_reducible exact Sel.here | exact Sel.here | apply Sel.there)); done) (by rfl) | exact rng_cell (by (repeat (first | with_reducible exact Sel.here | exact Sel.here | apply Sel.there)); done) (by rfl) | exact ro_blk (by assumption) (by rfl) | exact ro_rngC (by assumption) (by rfl) | exact ro_int (by assumption) | exact ro_byte (by assumption) | exact ro_str (by assumption) | with_reducible assumption | assumption)) ?_)
  refine G.op rfl (G.val rfl rfl (pv_fieldAddrK (sz := 0) (k := 2) Try.underlying31 rfl (by kernel_rfl) rfl rfl) ?_)
  refine G.op rfl (G.val rfl rfl (pv_load Try.underlying3 rfl rfl (by first | exact blk_cell (by (repeat (first | with_reducible exact Sel.here | exact Sel.here | apply Sel.there)); done) (by rfl) | exact rng_cell (by (repeat (first | with_reducible exact Sel.here | exact Sel.here | apply Sel.there)); done) (by rfl) | exact ro_blk (by assumption) (by rfl) | exact ro_rngC (by assumption) (by rfl) | exact ro_int (by assumption) | exact ro_byte (by assumption) | exact ro_str (by assumption) | with_reducible assumption | assumption)) ?_)
  refine G.op rfl (G.val rfl rfl (pv_fieldAddrK (sz := 0) (k := 4) Try.underlying31 rfl (by kernel_rfl) rfl rfl) ?_)
  refine G.op rfl (G.val rfl rfl (pv_load Try.underlying9 rfl rfl (by first | exact blk_cell (by (repeat (first | with_reducible exact Sel.here | exact Sel.here | apply Sel.there)); done) (by rfl) | exact rng_cell (by (repeat (first | with_reducible exact Sel.here | exact Sel.here | apply Sel.there)); done) (by rfl) | exact ro_blk (by assumption) (by rfl) | exact ro_rngC (by assumption) (by rfl) | exact ro_int (by assumption) | exact ro_byte (by assumption) | exact ro_str (by assumption) | with_reducible assumption | assumption)) ?_)
  refine G.op rfl (G.val rfl rfl (pv_buildSt (z := [.string ⟨#[]⟩, .int .i64 0, .int .i64 0, .string ⟨#[]⟩]) (pl := [(0, 1), (1, 1), (2, 1), (3, 1)]) Try.underlying81 (by kernel_rfl) (by kernel_rfl) rfl (by repeat (first | exact Fl.nil | (apply Fl.cons; exact rfl; (first | exact cells_of (by first | rfl | with_reducible assumption) | exact rfl); exact rfl; exact rfl; repeat (first | exact Sn.nil | (apply Sn.cons; repeat (first | exact St.zero | apply St.succ))))))) ?_)
  refine G.op rfl (G.val rfl rfl ((pv_eqlSt (xs := [.string (sB a.path), .int .i64 a.kind, .int .i64 a.mode, .string (sB a.to)]) (ys := [.string (sB b.path), .int .i64 b.kind, .int .i64 b.mode, .string (sB b.to)]) (r := ((sB a.path == sB b.path) && (decide (a.kind = b.kind) && (decide (a.mode = b.mode) && ((sB a.to == sB b.to) && true))))) Try.underlying81 (by kernel_rfl) (by kernel_rfl) rfl rfl (by kernel_rfl)).cast (v' := .bool (decide (a.path = b.path ∧ a.kind = b.kind ∧ a.mode = b.mode ∧ a.to = b.to))) (by rw [sB_beq, sB_beq]; simp)) ?_)
  refine G.op rfl (G.val rfl rfl (pv_move rfl) ?_)
  refine G.partP (t := 24) rfl (fun h24 => ?_) (fun h24 => ?_)
  · refine G.want rfl rfl rfl (G.val rfl rfl (pv_fieldAddrK (sz := 0) (k := 3) Try.underlying31 rfl (by kernel_rfl) rfl rfl) ?_)
    refine G.want rfl rfl rfl (G.val rfl rfl (pv_load Try.underlying29 rfl rfl (by first | exact blk_cell (by (repeat (first | with_reducible exact Sel.here | exact Sel.here | apply Sel.there)); done) (by rfl) | exact rng_cell (by (repeat (first | with_reducible exact Sel.here | exact Sel.here | apply Sel.there)); done) (by rfl) | exact ro_blk (by assumption) (by rfl) | exact ro_rngC (by assumption) (by rfl) | exact ro_int (by assumption) | exact ro_byte (by assumption) | exact ro_str (by assumption) | with_reducible assumption | assumption)) ?_)
    refine G.want rfl rfl rfl (G.val rfl rfl (pv_fieldAddrK (sz := 0) (k := 3) Try.underlying31 rfl (by kernel_rfl) rfl rfl) ?_)
    refine G.want rfl rfl rfl (G.val rfl rfl (pv_load Try.underlying29 rfl rfl (by first | exact blk_cell (by (repeat (first | with_reducible exact Sel.here | exact Sel.here | apply Sel.there)); done) (by rfl) | exact rng_cell (by (repeat (first | with_reducible exact Sel.here | exact Sel.here | apply Sel.there)); done) (by rfl) | exact ro_blk (by assumption) (by rfl) | exact ro_rngC (by assumption) (by rfl) | exact ro_int (by assumption) | exact ro_byte (by assumption) | exact ro_str (by assumption) | with_reducible assumption | assumption)) ?_)
    refine G.want rfl rfl rfl (G.cR rfl rfl rfl rfl Try.func72 rfl rfl (may2 (by first | (apply May.old; first | with_reducible assumption | assumption) | (apply Sel.may; (repeat (first | with_reducible exact Sel.here | exact Sel.here | apply Sel.there)); done) | (apply may_own; (repeat (first | with_reducible exact Sel.here | exact Sel.here | apply Sel.there)); exact rfl; exact (fun _ _ => trivial); done) | (apply may_ownB; (repeat (first | with_reducible exact Sel.here | exact Sel.here | apply Sel.there)); done)) (by first | (apply May.old; first | with_reducible assumption | assumption) | (apply Sel.may; (repeat (first | with_reducible exact Sel.here | exact Sel.here | apply Sel.there)); done) | (apply may_own; (repeat (first | with_reducible exact Sel.here | exact Sel.here | apply Sel.there)); exact rfl; exact (fun _ _ => trivial); done) | (apply may_ownB; (repeat (first | with_reducible exact Sel.here | exact Sel.here | apply Sel.there)); done))) (bequal_tr _ _ _ _) ?_)
    refine G.op rfl (G.val rfl rfl (pv_pick rfl rfl) ?_)
    refine G.op rfl (G.val rfl rfl (pv_assign rfl) ?_)
    refine G.nil ?_
    refine G.nThen ?_
    refine G.ret ?_
    exact G.done0G rfl (Rv.tmp rfl Rv.nil) (by have h := en_eq (a := a) (b := b); simp_all [retV1])
  · refine G.pass rfl rfl rfl rfl rfl rfl ?_
    refine G.pass rfl rfl rfl rfl rfl rfl ?_
    refine G.pass rfl rfl rfl rfl rfl rfl ?_
    refine G.pass rfl rfl rfl rfl rfl rfl ?_
    refine G.pass rfl rfl rfl rfl rfl rfl ?_
    refine G.op rfl (G.val rfl rfl (pv_pick rfl rfl) ?_)
    refine G.op rfl (G.val rfl rfl (pv_assign rfl) ?_)
    refine G.nil ?_
    refine G.nThen ?_
    refine G.ret ?_
    exact G.done0G rfl (Rv.tmp rfl Rv.nil) (by have h := en_eq (a := a) (b := b); simp_all [retV1])
set_option maxRecDepth 20000 in
set_option maxHeartbeats 4000000 in

theorem like_tr {Pa Pb : Nat → Prop} (a b : En) (da db : Value) : Tr Try.prog 21 #[.agg #[.string (sB a.path), .int .i64 a.kind, .int .i64 a.mode, da, .string (sB a.to)], .agg #[.string (sB b.path), .int .i64 b.kind, .int .i64 b.mode, db, .string (sB b.to)]] [slc rByte Pa da a.data, slc rByte Pb db b.data] [] (T0 (.bool (decide (a = b)))) := by
  refine Tr.of (l := [(0, .agg #[.string (sB a.path), .int .i64 a.kind, .int .i64 a.mode, da, .string (sB a.to)]), (1, .agg #[.string (sB b.path), .int .i64 b.kind, .int .i64 b.mode, db, .string (sB b.to)])]) Try.func21 rfl (n := 40) rfl (.cons rfl (.cons rfl .nil)) (fun w0 hro => ?_)
  obtain ⟨hda, hdb⟩ := ro2 hro
  refine G.seq ?_
  refine G.region ?_
  refine G.op rfl (G.box rfl rfl (cs := [_, _, _, _, _]) rfl ?_)
  intro b2
  refine G.op rfl (G.box rfl rfl (cs := [_, _, _, _, _]) rfl ?_)
  intro b3
  refine G.op rfl (G.val rfl rfl (pv_assign rfl) ?_)
  refine G.nil ?_
  refine G.nThen ?_
  refine G.seq ?_
  refine G.region ?_
  refine G.op rfl (G.val rfl rfl (pv_fieldAddrK (sz := 0) (k := 0) Try.underlying31 rfl (by kernel_rfl) rfl rfl) ?_)
  refine G.op rfl (G.val rfl rfl (pv_load Try.underlying9 rfl rfl (by first | exact blk_cell (by (repeat (first | with_reducible exact Sel.here | exact Sel.here | apply Sel.there)); done) (by rfl) | exact rng_cell (by (repeat (first | with_reducible exact Sel.here | exact Sel.here | apply Sel.there)); done) (by rfl) | exact ro_blk (by assumption) (by rfl) | exact ro_rngC (by assumption) (by rfl) | exact ro_int (by assumption) | exact ro_byte (by assumption) | exact ro_str (by assumption) | with_reducible assumption | assumption)) ?_)
  refine G.op rfl (G.val rfl rfl (pv_fieldAddrK (sz := 0) (k := 0) Try.underlying31 rfl (by kernel_rfl) rfl rfl) ?_)
  refine G.op rfl (G.val rfl rfl (pv_load Try.underlying9 rfl rfl (by first | exact blk_cell (by (repeat (first | with_reducible exact Sel.here | exact Sel.here | apply Sel.there)); done) (by rfl) | exact rng_cell (by (repeat (first | with_reducible exact Sel.here | exact Sel.here | apply Sel.there)); done) (by rfl) | exact ro_blk (by assumption) (by rfl) | exact ro_rngC (by assumption) (by rfl) | exact ro_int (by assumption) | exact ro_byte (by assumption) | exact ro_str (by assumption) | with_reducible assumption | assumption)) ?_)
  refine G.op rfl (G.val rfl rfl (pv_eqlS rfl rfl) ?_)
  refine G.op rfl (G.val rfl rfl (pv_move rfl) ?_)
  refine G.partP (t := 10) rfl (fun h10 => ?_) (fun h10 => ?_)
  · refine G.want rfl rfl rfl (G.val rfl rfl (pv_fieldAddrK (sz := 0) (k := 1) Try.underlying31 rfl (by kernel_rfl) rfl rfl) ?_)
    refine G.want rfl rfl rfl (G.val rfl rfl (pv_load Try.underlying3 rfl rfl (by first | exact blk_cell (by (repeat (first | with_reducible exact Sel.here | exact Sel.here | apply Sel.there)); done) (by rfl) | exact rng_cell (by (repeat (first | with_reducible exact Sel.here | exact Sel.here | apply Sel.there)); done) (by rfl) | exact ro_blk (by assumption) (by rfl) | exact ro_rngC (by assumption) (by rfl) | exact ro_int (by assumption) | exact ro_byte (by assumption) | exact ro_str (by assumption) | with_reducible assumption | assumption)) ?_)
    refine G.want rfl rfl rfl (G.val rfl rfl (pv_fieldAddrK (sz := 0) (k := 1) Try.underlying31 rfl (by kernel_rfl) rfl rfl) ?_)
    refine G.want rfl rfl rfl (G.val rfl rfl (pv_load Try.underlying3 rfl rfl (by first | exact blk_cell (by (repeat (first | with_reducible exact Sel.here | exact Sel.here | apply Sel.there)); done) (by rfl) | exact rng_cell (by (repeat (first | with_reducible exact Sel.here | exact Sel.here | apply Sel.there)); done) (by rfl) | exact ro_blk (by assumption) (by rfl) | exact ro_rngC (by assumption) (by rfl) | exact ro_int (by assumption) | exact ro_byte (by assumption) | exact ro_str (by assumption) | with_reducible assumption | assumption)) ?_)
    refine G.want rfl rfl rfl (G.val rfl rfl (pv_eql rfl rfl) ?_)
    refine G.op rfl (G.val rfl rfl (pv_pick rfl rfl) ?_)
    refine G.op rfl (G.val rfl rfl (pv_move rfl) ?_)
    refine G.partP (t := 17) rfl (fun h17 => ?_) (fun h17 => ?_)
    · refine G.want rfl rfl rfl (G.val rfl rfl (pv_fieldAddrK (sz := 0) (k := 2) Try.underlying31 rfl (by kernel_rfl) rfl rfl) ?_)
      refine G.want rfl rfl rfl (G.val rfl rfl (pv_load Try.underlying3 rfl rfl (by first | exact blk_cell (by (repeat (first | with_reducible exact Sel.here | exact Sel.here | apply Sel.there)); done) (by rfl) | exact rng_cell (by (repeat (first | with_reducible exact Sel.here | exact Sel.here | apply Sel.there)); done) (by rfl) | exact ro_blk (by assumption) (by rfl) | exact ro_rngC (by assumption) (by rfl) | exact ro_int (by assumption) | exact ro_byte (by assumption) | exact ro_str (by assumption) | with_reducible assumption | assumption)) ?_)
      refine G.want rfl rfl rfl (G.val rfl rfl (pv_fieldAddrK (sz := 0) (k := 2) Try.underlying31 rfl (by kernel_rfl) rfl rfl) ?_)
      refine G.want rfl rfl rfl (G.val rfl rfl (pv_load Try.underlying3 rfl rfl (by first | exact blk_cell (by (repeat (first | with_reducible exact Sel.here | exact Sel.here | apply Sel.there)); done) (by rfl) | exact rng_cell (by (repeat (first | with_reducible exact Sel.here | exact Sel.here | apply Sel.there)); done) (by rfl) | exact ro_blk (by assumption) (by rfl) | exact ro_rngC (by assumption) (by rfl) | exact ro_int (by assumption) | exact ro_byte (by assumption) | exact ro_str (by assumption) | with_reducible assumption | assumption)) ?_)
      refine G.want rfl rfl rfl (G.val rfl rfl (pv_eql rfl rfl) ?_)
      refine G.op rfl (G.val rfl rfl (pv_pick rfl rfl) ?_)
      refine G.op rfl (G.val rfl rfl (pv_move rfl) ?_)
      refine G.partP (t := 24) rfl (fun h24 => ?_) (fun h24 => ?_)
      · refine G.want rfl rfl rfl (G.val rfl rfl (pv_fieldAddrK (sz := 0) (k := 3) Try.underlying31 rfl (by kernel_rfl) rfl rfl) ?_)
        refine G.want rfl rfl rfl (G.val rfl rfl (pv_load Try.underlying29 rfl rfl (by first | exact blk_cell (by (repeat (first | with_reducible exact Sel.here | exact Sel.here | apply Sel.there)); done) (by rfl) | exact rng_cell (by (repeat (first | with_reducible exact Sel.here | exact Sel.here | apply Sel.there)); done) (by rfl) | exact ro_blk (by assumption) (by rfl) | exact ro_rngC (by assumption) (by rfl) | exact ro_int (by assumption) | exact ro_byte (by assumption) | exact ro_str (by assumption) | with_reducible assumption | assumption)) ?_)
        refine G.want rfl rfl rfl (G.val rfl rfl (pv_toStr Try.underlying29 Try.underlying5 Try.underlying9 rfl (by first | exact ro_sl (by assumption) | assumption)) ?_)
        refine G.want rfl rfl rfl (G.val rfl rfl (pv_fieldAddrK (sz := 0) (k := 3) Try.underlying31 rfl (by kernel_rfl) rfl rfl) ?_)
        refine G.want rfl rfl rfl (G.val rfl rfl (pv_load Try.underlying29 rfl rfl (by first | exact blk_cell (by (repeat (first | with_reducible exact Sel.here | exact Sel.here | apply Sel.there)); done) (by rfl) | exact rng_cell (by (repeat (first | with_reducible exact Sel.here | exact Sel.here | apply Sel.there)); done) (by rfl) | exact ro_blk (by assumption) (by rfl) | exact ro_rngC (by assumption) (by rfl) | exact ro_int (by assumption) | exact ro_byte (by assumption) | exact ro_str (by assumption) | with_reducible assumption | assumption)) ?_)
        refine G.want rfl rfl rfl (G.val rfl rfl (pv_toStr Try.underlying29 Try.underlying5 Try.underlying9 rfl (by first | exact ro_sl (by assumption) | assumption)) ?_)
        refine G.want rfl rfl rfl (G.val rfl rfl (pv_eqlS rfl rfl) ?_)
        refine G.op rfl (G.val rfl rfl (pv_pick rfl rfl) ?_)
        refine G.op rfl (G.val rfl rfl (pv_move rfl) ?_)
        refine G.partP (t := 33) rfl (fun h33 => ?_) (fun h33 => ?_)
        · refine G.want rfl rfl rfl (G.val rfl rfl (pv_fieldAddrK (sz := 0) (k := 4) Try.underlying31 rfl (by kernel_rfl) rfl rfl) ?_)
          refine G.want rfl rfl rfl (G.val rfl rfl (pv_load Try.underlying9 rfl rfl (by first | exact blk_cell (by (repeat (first | with_reducible exact Sel.here | exact Sel.here | apply Sel.there)); done) (by rfl) | exact rng_cell (by (repeat (first | with_reducible exact Sel.here | exact Sel.here | apply Sel.there)); done) (by rfl) | exact ro_blk (by assumption) (by rfl) | exact ro_rngC (by assumption) (by rfl) | exact ro_int (by assumption) | exact ro_byte (by assumption) | exact ro_str (by assumption) | with_reducible assumption | assumption)) ?_)
          refine G.want rfl rfl rfl (G.val rfl rfl (pv_fieldAddrK (sz := 0) (k := 4) Try.underlying31 rfl (by kernel_rfl) rfl rfl) ?_)
          refine G.want rfl rfl rfl (G.val rfl rfl (pv_load Try.underlying9 rfl rfl (by first | exact blk_cell (by (repeat (first | with_reducible exact Sel.here | exact Sel.here | apply Sel.there)); done) (by rfl) | exact rng_cell (by (repeat (first | with_reducible exact Sel.here | exact Sel.here | apply Sel.there)); done) (by rfl) | exact ro_blk (by assumption) (by rfl) | exact ro_rngC (by assumption) (by rfl) | exact ro_int (by assumption) | exact ro_byte (by assumption) | exact ro_str (by assumption) | with_reducible assumption | assumption)) ?_)
          refine G.want rfl rfl rfl (G.val rfl rfl (pv_eqlS rfl rfl) ?_)
          refine G.op rfl (G.val rfl rfl (pv_pick rfl rfl) ?_)
          refine G.op rfl (G.val rfl rfl (pv_assign rfl) ?_)
          refine G.nil ?_
          refine G.nThen ?_
          refine G.ret ?_
          exact G.done0G rfl (Rv.tmp rfl Rv.nil) (by have h := en_eq (a := a) (b := b); simp_all [retV1])
        · refine G.pass rfl rfl rfl rfl rfl rfl ?_
          refine G.pass rfl rfl rfl rfl rfl rfl ?_
          refine G.pass rfl rfl rfl rfl rfl rfl ?_
          refine G.pass rfl rfl rfl rfl rfl rfl ?_
          refine G.pass rfl rfl rfl rfl rfl rfl ?_
          refine G.op rfl (G.val rfl rfl (pv_pick rfl rfl) ?_)
          refine G.op rfl (G.val rfl rfl (pv_assign rfl) ?_)
          refine G.nil ?_
          refine G.nThen ?_
          refine G.ret ?_
          exact G.done0G rfl (Rv.tmp rfl Rv.nil) (by have h := en_eq (a := a) (b := b); simp_all [retV1])
      · refine G.pass rfl rfl rfl rfl rfl rfl ?_
        refine G.pass rfl rfl rfl rfl rfl rfl ?_
        refine G.pass rfl rfl rfl rfl rfl rfl ?_
        refine G.pass rfl rfl rfl rfl rfl rfl ?_
        refine G.pass rfl rfl rfl rfl rfl rfl ?_
        refine G.pass rfl rfl rfl rfl rfl rfl ?_
        refine G.pass rfl rfl rfl rfl rfl rfl ?_
        refine G.op rfl (G.val rfl rfl (pv_pick rfl rfl) ?_)
        refine G.op rfl (G.val rfl rfl (pv_move rfl) ?_)
        refine G.pass rfl rfl rfl rfl rfl rfl ?_
        refine G.pass rfl rfl rfl rfl rfl rfl ?_
        refine G.pass rfl rfl rfl rfl rfl rfl ?_
        refine G.pass rfl rfl rfl rfl rfl rfl ?_
        refine G.pass rfl rfl rfl rfl rfl rfl ?_
        refine G.op rfl (G.val rfl rfl (pv_pick rfl rfl) ?_)
        refine G.op rfl (G.val rfl rfl (pv_assign rfl) ?_)
        refine G.nil ?_
        refine G.nThen ?_
        refine G.ret ?_
        exact G.done0G rfl (Rv.tmp rfl Rv.nil) (by have h := en_eq (a := a) (b := b); simp_all [retV1])
    · refine G.pass rfl rfl rfl rfl rfl rfl ?_
      refine G.pass rfl rfl rfl rfl rfl rfl ?_
      refine G.pass rfl rfl rfl rfl rfl rfl ?_
      refine G.pass rfl rfl rfl rfl rfl rfl ?_
      refine G.pass rfl rfl rfl rfl rfl rfl ?_
      refine G.op rfl (G.val rfl rfl (pv_pick rfl rfl) ?_)
      refine G.op rfl (G.val rfl rfl (pv_move rfl) ?_)
      refine G.pass rfl rfl rfl rfl rfl rfl ?_
      refine G.pass rfl rfl rfl rfl rfl rfl ?_
      refine G.pass rfl rfl rfl rfl rfl rfl ?_
      refine G.pass rfl rfl rfl rfl rfl rfl ?_
      refine G.pass rfl rfl rfl rfl rfl rfl ?_
      refine G.pass rfl rfl rfl rfl rfl rfl ?_
      refine G.pass rfl rfl rfl rfl rfl rfl ?_
      refine G.op rfl (G.val rfl rfl (pv_pick rfl rfl) ?_)
      refine G.op rfl (G.val rfl rfl (pv_move rfl) ?_)
      refine G.pass rfl rfl rfl rfl rfl rfl ?_
      refine G.pass rfl rfl rfl rfl rfl rfl ?_
      refine G.pass rfl rfl rfl rfl rfl rfl ?_
      refine G.pass rfl rfl rfl rfl rfl rfl ?_
      refine G.pass rfl rfl rfl rfl rfl rfl ?_
      refine G.op rfl (G.val rfl rfl (pv_pick rfl rfl) ?_)
      refine G.op rfl (G.val rfl rfl (pv_assign rfl) ?_)
      refine G.nil ?_
      refine G.nThen ?_
      refine G.ret ?_
      exact G.done0G rfl (Rv.tmp rfl Rv.nil) (by have h := en_eq (a := a) (b := b); simp_all [retV1])
  · refine G.pass rfl rfl rfl rfl rfl rfl ?_
    refine G.pass rfl rfl rfl rfl rfl rfl ?_
    refine G.pass rfl rfl rfl rfl rfl rfl ?_
    refine G.pass rfl rfl rfl rfl rfl rfl ?_
    refine G.pass rfl rfl rfl rfl rfl rfl ?_
    refine G.op rfl (G.val rfl rfl (pv_pick rfl rfl) ?_)
    refine G.op rfl (G.val rfl rfl (pv_move rfl) ?_)
    refine G.pass rfl rfl rfl rfl rfl rfl ?_
    refine G.pass rfl rfl rfl rfl rfl rfl ?_
    refine G.pass rfl rfl rfl rfl rfl rfl ?_
    refine G.pass rfl rfl rfl rfl rfl rfl ?_
    refine G.pass rfl rfl rfl rfl rfl rfl ?_
    refine G.op rfl (G.val rfl rfl (pv_pick rfl rfl) ?_)
    refine G.op rfl (G.val rfl rfl (pv_move rfl) ?_)
    refine G.pass rfl rfl rfl rfl rfl rfl ?_
    refine G.pass rfl rfl rfl rfl rfl rfl ?_
    refine G.pass rfl rfl rfl rfl rfl rfl ?_
    refine G.pass rfl rfl rfl rfl rfl rfl ?_
    refine G.pass rfl rfl rfl rfl rfl rfl ?_
    refine G.pass rfl rfl rfl rfl rfl rfl ?_
    refine G.pass rfl rfl rfl rfl rfl rfl ?_
    refine G.op rfl (G.val rfl rfl (pv_pick rfl rfl) ?_)
    refine G.op rfl (G.val rfl rfl (pv_move rfl) ?_)
    refine G.pass rfl rfl rfl rfl rfl rfl ?_
    refine G.pass rfl rfl rfl rfl rfl rfl ?_
    refine G.pass rfl rfl rfl rfl rfl rfl ?_
    refine G.pass rfl rfl rfl rfl rfl rfl ?_
    refine G.pass rfl rfl rfl rfl rfl rfl ?_
    refine G.op rfl (G.val rfl rfl (pv_pick rfl rfl) ?_)
    refine G.op rfl (G.val rfl rfl (pv_assign rfl) ?_)
    refine G.nil ?_
    refine G.nThen ?_
    refine G.ret ?_
    exact G.done0G rfl (Rv.tmp rfl Rv.nil) (by have h := en_eq (a := a) (b := b); simp_all [retV1])
set_option maxRecDepth 20000 in
set_option maxHeartbeats 4000000 in

theorem own_tr {Pd : Nat → Prop} (e : En) (d : Value) (hl : e.data.length ≤ 140737488355328) : Tr Try.prog 52 #[.agg #[.string (sB e.path), .int .i64 e.kind, .int .i64 e.mode, d, .string (sB e.to)]] [slc rByte Pd d e.data] [] (TX (fun _ : Value => True) (fun x => .agg #[.string (sB e.path), .int .i64 e.kind, .int .i64 e.mode, x, .string (sB e.to)]) (fun x => [ownB 5 x e.data])) := by
  refine Tr.of (l := [(0, .agg #[.string (sB e.path), .int .i64 e.kind, .int .i64 e.mode, d, .string (sB e.to)])]) Try.func52 rfl (n := 9) rfl (.cons rfl .nil) (fun w0 hro => ?_)
  have hv := ro1 hro
  refine G.seq ?_
  refine G.region ?_
  refine G.op rfl (G.box rfl rfl (cs := [_, _, _, _, _]) rfl ?_)
  intro b1
  refine G.op rfl (G.alloc (z := .agg #[.string ⟨#[]⟩, .int .i64 0, .int .i64 0, .slice none 0 0, .string ⟨#[]⟩]) (cs := [.string ⟨#[]⟩, .int .i64 0, .int .i64 0, .slice none 0 0, .string ⟨#[]⟩]) rfl (by kernel_rfl) rfl ?_)
  intro b2
  refine G.nil ?_
  refine G.nThen ?_
  refine G.seq ?_
  refine G.region ?_
  refine G.op rfl (G.lit0 rfl Try.underlying29 (by kernel_rfl) rfl ?_)
  intro b3
  refine G.blkOwnB (b := b3) (xs := []) (by repeat (first | with_reducible exact Sel.here | exact Sel.here | apply Sel.there)) (by decide) ?_
  refine G.op rfl (G.val rfl rfl (pv_fieldAddrK (sz := 0) (k := 3) Try.underlying31 rfl (by kernel_rfl) rfl rfl) ?_)
  refine G.op rfl (G.val rfl rfl (pv_load Try.underlying29 rfl rfl (by first | exact blk_cell (by (repeat (first | with_reducible exact Sel.here | exact Sel.here | apply Sel.there)); done) (by rfl) | exact rng_cell (by (repeat (first | with_reducible exact Sel.here | exact Sel.here | apply Sel.there)); done) (by rfl) | exact ro_blk (by assumption) (by rfl) | exact ro_rngC (by assumption) (by rfl) | exact ro_int (by assumption) | exact ro_byte (by assumption) | exact ro_str (by assumption) | with_reducible assumption | assumption)) ?_)
  refine G.op rfl (G.appendB (xs := []) (ys := e.data) (Ps := Pd) rfl Try.underlying29 Try.infoByte rfl rfl (by repeat (first | with_reducible exact Sel.here | exact Sel.here | apply Sel.there)) (ro_sl hv) (by simp; omega) (by simp; omega) ?_)
  intro v'
  rw [List.nil_append e.data]
  refine G.op rfl (G.val rfl rfl (pv_fieldAddrK (sz := 0) (k := 3) Try.underlying31 rfl (by kernel_rfl) rfl rfl) ?_)
  refine G.ownBFact (by repeat (first | with_reducible exact Sel.here | exact Sel.here | apply Sel.there)) (v := v') (fun hv1 => ?_)
  refine G.op rfl (G.store (by kernel_rfl) rfl rfl (by first | rfl | with_reducible assumption) (by repeat (first | with_reducible exact Sel.here | exact Sel.here | apply Sel.there)) (by first | (simp; done) | exact Nat.le_of_ble_eq_true rfl) ?_)
  refine G.nil ?_
  refine G.nThen ?_
  refine G.seq ?_
  refine G.region ?_
  refine G.op rfl (G.val rfl rfl (pv_loadN (cs := [_, _, _, _, _]) Try.underlying31 rfl (by kernel_rfl) rfl (by first | exact blk_range (k := 5) (by (repeat (first | with_reducible exact Sel.here | exact Sel.here | apply Sel.there)); done) (by rfl) | exact ro_rng0 (by assumption) | exact rng_range (k := 5) (by (repeat (first | with_reducible exact Sel.here | exact Sel.here | apply Sel.there)); done) (by rfl) | exact ro_range (k := 5) (by assumption) (by rfl) | exact ro_rngR (k := 5) (by assumption) (by rfl))) ?_)
  refine G.op rfl (G.storeN (by kernel_rfl) rfl rfl (by first | exact (all1_cons (by first | rfl | with_reducible assumption) (all1_cons (by first | rfl | with_reducible assumption) (all1_cons (by first | rfl | with_reducible assumption) (all1_cons (by first | rfl | with_reducible assumption) (all1_cons (by first | rfl | with_reducible assumption) all1_nil))))) | exact List.all_eq_true.2 (vByte_one _) | rfl) (by repeat (first | with_reducible exact Sel.here | exact Sel.here | apply Sel.there)) (by first | (simp; done) | exact Nat.le_of_ble_eq_true rfl) ?_)
  refine G.nil ?_
  refine G.nThen ?_
  refine G.ret ?_
  exact G.doneG (v') (by first | exact trivial | ((try dsimp only); exact trivial)) rfl (Rv.cellN (cs := [_, _, _, _, _]) rfl Try.underlying31 rfl (by kernel_rfl) (by first | exact blk_range (k := 5) (by (repeat (first | with_reducible exact Sel.here | exact Sel.here | apply Sel.there)); done) (by rfl)) Rv.nil) rfl (by repeat (first | exact Sub.nil | (apply Sub.cons; (repeat (first | with_reducible exact Sel.here | exact Sel.here | apply Sel.there)))))
set_option maxRecDepth 20000 in
set_option maxHeartbeats 4000000 in

theorem pick_tr (n k : Int) (hn : I64 n) (hk : I64 k) : Tr Try.prog 13 #[.int .i64 n, .int .i64 k] [] [] (T0 (.int .i64 (pickM n k))) := by
  refine Tr.of (l := [(0, .int .i64 n), (1, .int .i64 k)]) Try.func13 rfl (n := 16) rfl (.cons rfl (.cons rfl .nil)) (fun w0 hro => ?_)
  obtain ⟨hn1, hn2⟩ := hn
  obtain ⟨hk1, hk2⟩ := hk
  refine G.seq ?_
  refine G.region ?_
  refine G.op rfl (G.val rfl rfl (pv_assign rfl) ?_)
  refine G.nil ?_
  refine G.nThen ?_
  refine G.seq ?_
  refine G.seq ?_
  refine G.region ?_
  refine G.op rfl (G.val rfl rfl (pv_move rfl) ?_)
  refine G.op rfl (G.val rfl rfl (pv_lss rfl rfl) ?_)
  refine G.nil ?_
  refine G.nThen ?_
  refine G.condP rfl (fun h6 => ?_) (fun h6 => ?_)
  · refine G.seq ?_
    refine G.region ?_
    refine G.op rfl (G.val rfl rfl (pv_assign rfl) ?_)
    refine G.nil ?_
    refine G.nThen ?_
    refine G.ret ?_
    refine G.rThen ?_
    exact G.done0G rfl (Rv.tmp rfl Rv.nil) (by unfold pickM; rw [if_pos (by assumption)]; rfl)
  · refine G.skip ?_
    refine G.nThen ?_
    refine G.seq ?_
    refine G.region ?_
    refine G.op rfl (G.val rfl rfl (pv_move rfl) ?_)
    refine G.op rfl (G.val rfl rfl (pv_move rfl) ?_)
    refine G.op rfl (G.val rfl rfl (pv_remk rfl rfl (by omega)) ?_)
    have ht := Int.tmod_lt_of_pos n (show 0 < k by omega)
    have ht2 := (tmod_low (n := n) (k := k) (by omega)).1
    refine G.op rfl (G.val rfl rfl (pv_assign rfl) ?_)
    refine G.nil ?_
    refine G.nThen ?_
    refine G.seq ?_
    refine G.seq ?_
    refine G.region ?_
    refine G.op rfl (G.val rfl rfl (pv_move rfl) ?_)
    refine G.op rfl (G.val rfl rfl (pv_lss rfl rfl) ?_)
    refine G.nil ?_
    refine G.nThen ?_
    refine G.condP rfl (fun h11 => ?_) (fun h11 => ?_)
    · refine G.region ?_
      refine G.op rfl (G.val rfl rfl (pv_move rfl) ?_)
      refine G.op rfl (G.val rfl rfl (pv_move rfl) ?_)
      refine G.op rfl (G.val rfl rfl (pv_add64 rfl rfl (by omega)) ?_)
      refine G.op rfl (G.val rfl rfl (pv_assign rfl) ?_)
      refine G.nil ?_
      refine G.nThen ?_
      refine G.seq ?_
      refine G.region ?_
      refine G.op rfl (G.val rfl rfl (pv_move rfl) ?_)
      refine G.op rfl (G.val rfl rfl (pv_assign rfl) ?_)
      refine G.nil ?_
      refine G.nThen ?_
      refine G.ret ?_
      exact G.done0G rfl (Rv.tmp rfl Rv.nil) (by unfold pickM; rw [if_neg (by assumption), ← tmod_neg (by assumption) (by assumption)]; rfl)
    · refine G.skip ?_
      refine G.nThen ?_
      refine G.seq ?_
      refine G.region ?_
      refine G.op rfl (G.val rfl rfl (pv_move rfl) ?_)
      refine G.op rfl (G.val rfl rfl (pv_assign rfl) ?_)
      refine G.nil ?_
      refine G.nThen ?_
      refine G.ret ?_
      exact G.done0G rfl (Rv.tmp rfl Rv.nil) (by unfold pickM; rw [if_neg (by assumption), ← tmod_pos (by assumption) (by assumption)]; rfl)
end Go.Proofs.Ytchgaedidfefoaa

/- Contracts of layer 8: where a path is among entries that are in order. Conditions: none. -/
set_option linter.unusedVariables false
set_option linter.unusedSimpArgs false
namespace Go.Proofs.Ytchgaedidfefoaa
open Go.RowKit

theorem Ro.one1 {w0 : World} {S Ps : Nat → Prop} {v : Value} {a : List UInt8} (h : Ro w0 S (slc rByte Ps v a)) : v.oneCell' = true := by
  obtain ⟨ad, cap, rfl⟩ := Ro.slv h
  rfl
/-- entries in the order of their paths -/
def SortT (es : List En) : Prop := es.Pairwise fun a b => compareM a.path b.path = -1
/-- how many are ahead of a path -/
def placeK (es : List En) (s : List UInt8) : Nat := es.findIdx fun e => ! decide (compareM e.path s < 0)
def isAt (es : List En) (s : List UInt8) : Prop := ∃ e ∈ es, e.path = s
instance (es : List En) (s : List UInt8) : Decidable (isAt es s) := inferInstanceAs (Decidable (∃ e ∈ es, e.path = s))
theorem cmp_lt_iff (a b : List UInt8) : compareM a b < 0 ↔ compareM a b = -1 := by
  have := compareM_ord.rng a b
  omega
theorem sort_mono {es : List En} (h : SortT es) {s : List UInt8} {q r : Nat} (hr : r < es.length) (hq : q ≤ r) (hc : compareM es[r].path s < 0) : compareM (es[q]'(by omega)).path s < 0 := by
  rcases Nat.lt_or_ge q r with h1 | h1
  · have h2 := (List.pairwise_iff_getElem.1 h) q r (by omega) hr h1
    rw [cmp_lt_iff] at hc ⊢
    exact compareM_ord.trans _ _ _ h2 hc
  · obtain rfl : q = r := by omega
    exact hc
theorem placeK_at {es : List En} {s : List UInt8} {k : Nat} (hk : k ≤ es.length) (h1 : ∀ q (hq : q < es.length), q < k → compareM es[q].path s < 0) (h2 : ∀ q (hq : q < es.length), k ≤ q → ¬ compareM es[q].path s < 0) : placeK es s = k := by
  unfold placeK
  rcases Nat.lt_or_ge k es.length with h | h
  · refine (List.findIdx_eq h).2 ⟨by simpa using h2 k h (Nat.le_refl _), fun j hj => ?_⟩
    simpa using h1 j (by omega) hj
  · obtain rfl : k = es.length := by omega
    exact List.findIdx_eq_length_of_false fun x hx => by
      obtain ⟨j, hj, rfl⟩ := List.getElem_of_mem hx
      simpa using h1 j hj hj
theorem isAt_iff {es : List En} (hs : SortT es) {s : List UInt8} {k : Nat} (h1 : ∀ q (hq : q < es.length), q < k → compareM es[q].path s < 0) (hk : k < es.length) (h2 : ¬ compareM es[k].path s < 0) : isAt es s ↔ compareM es[k].path s = 0 := by
  constructor
  · rintro ⟨e, he, rfl⟩
    obtain ⟨j, hj, rfl⟩ := List.getElem_of_mem he
    have hjj : compareM es[j].path es[j].path = 0 := (compareM_ord.zero _ _).2 rfl
    rcases Nat.lt_or_ge j k with h | h
    · have := h1 j hj h
      omega
    · rcases Nat.lt_or_ge k j with h3 | h3
      · have := (List.pairwise_iff_getElem.1 hs) k j hk hj h3
        omega
      · obtain rfl : j = k := by omega
        exact hjj
  · intro h
    exact ⟨es[k], List.getElem_mem hk, (compareM_ord.zero _ _).1 h⟩
theorem isAt_none {es : List En} {s : List UInt8} (h1 : ∀ q (hq : q < es.length), compareM es[q].path s < 0) : ¬ isAt es s := by
  rintro ⟨e, he, rfl⟩
  obtain ⟨j, hj, rfl⟩ := List.getElem_of_mem he
  have := h1 j hj
  have : compareM es[j].path es[j].path = 0 := (compareM_ord.zero _ _).2 rfl
  omega
theorem search_end {xs : List ET} {s : List UInt8} {i : Nat} (hso : SortT (ens xs)) (hlt : i < xs.length) (hlo : ∀ q (hq : q < xs.length), q < i → compareM xs[q].1.path s < 0) (hhi : ∀ q (hq : q < xs.length), i ≤ q → ¬ compareM xs[q].1.path s < 0) : placeK (ens xs) s = i ∧ (isAt (ens xs) s ↔ compareM xs[i].1.path s = 0) := by
  have hl := ens_length xs
  have g1 : ∀ q (hq : q < (ens xs).length), q < i → compareM (ens xs)[q].path s < 0 := fun q hq hqi => by
    rw [ens_get (by omega)]
    exact hlo q (by omega) hqi
  have g2 : ∀ q (hq : q < (ens xs).length), i ≤ q → ¬ compareM (ens xs)[q].path s < 0 := fun q hq hqi => by
    rw [ens_get (by omega)]
    exact hhi q (by omega) hqi
  have h := isAt_iff hso g1 (show i < (ens xs).length by omega) (g2 i (by omega) (Nat.le_refl _))
  rw [ens_get hlt] at h
  exact ⟨placeK_at (by omega) g1 g2, h⟩
theorem search_none {xs : List ET} {s : List UInt8} (hlo : ∀ q (hq : q < xs.length), q < xs.length → compareM xs[q].1.path s < 0) : placeK (ens xs) s = xs.length ∧ ¬ isAt (ens xs) s := by
  have hl := ens_length xs
  have g1 : ∀ q (hq : q < (ens xs).length), compareM (ens xs)[q].path s < 0 := fun q hq => by
    rw [ens_get (by omega)]
    exact hlo q (by omega) (by omega)
  exact ⟨placeK_at (by omega) (fun q hq _ => g1 q hq) (fun q hq h => by omega), isAt_none g1⟩
/-- paths that lie in memory -/
def PathOk (es : List En) : Prop := ∀ e ∈ es, e.path.length ≤ 9223372036854775807
set_option maxRecDepth 20000 in
set_option maxHeartbeats 4000000 in

theorem place1_tr (e : En) (d : Value) (s : List UInt8) (hl : e.path.length ≤ 9223372036854775807) (hs : s.length ≤ 9223372036854775807) : Tr Try.prog 63 #[.agg #[.string (sB e.path), .int .i64 e.kind, .int .i64 e.mode, d, .string (sB e.to)], .string (sB s)] [] [] (T0 (.int .i64 (compareM e.path s))) := by
  refine Tr.of (l := [(0, .agg #[.string (sB e.path), .int .i64 e.kind, .int .i64 e.mode, d, .string (sB e.to)]), (1, .string (sB s))]) Try.func63 rfl (n := 9) rfl (.cons rfl (.cons rfl .nil)) (fun w0 hro => ?_)
  refine G.seq ?_
  refine G.region ?_
  refine G.op rfl (G.box rfl rfl (cs := [_, _, _, _, _]) rfl ?_)
  intro b2
  refine G.op rfl (G.val rfl rfl (pv_assign rfl) ?_)
  refine G.nil ?_
  refine G.nThen ?_
  refine G.seq ?_
  refine G.region ?_
  refine G.op rfl (G.val rfl rfl (pv_fieldAddrK (sz := 0) (k := 0) Try.underlying31 rfl (by kernel_rfl) rfl rfl) ?_)
  refine G.op rfl (G.val rfl rfl (pv_load Try.underlying9 rfl rfl (by first | exact blk_cell (by (repeat (first | with_reducible exact Sel.here | exact Sel.here | apply Sel.there)); done) (by rfl) | exact rng_cell (by (repeat (first | with_reducible exact Sel.here | exact Sel.here | apply Sel.there)); done) (by rfl) | exact ro_blk (by assumption) (by rfl) | exact ro_rngC (by assumption) (by rfl) | exact ro_int (by assumption) | exact ro_byte (by assumption) | exact ro_str (by assumption) | with_reducible assumption | assumption)) ?_)
  refine G.op rfl (G.val rfl rfl (pv_move rfl) ?_)
  refine G.op rfl (G.cR rfl rfl rfl rfl Try.func17 rfl rfl may0 (compare_tr _ _ (by omega) (by omega)) ?_)
  refine G.op rfl (G.val rfl rfl (pv_assign rfl) ?_)
  refine G.nil ?_
  refine G.nThen ?_
  refine G.ret ?_
  exact G.done0G rfl (Rv.tmp rfl Rv.nil) (by first | rfl | exact int_eq (by omega) | (simp; done))
set_option maxRecDepth 20000 in
set_option maxHeartbeats 4000000 in

theorem search_tr {Ps : Nat → Prop} (v : Value) (xs : List ET) (s : List UInt8) (hs : s.length ≤ 9223372036854775807) (hn : xs.length ≤ 1000000) (hso : SortT (ens xs)) : Tr Try.prog 62 #[v, .string (sB s), .func (.func 63) #[] #[]] [slc rEV Ps v xs] [] (T0 (.tuple #[.int .i64 (placeK (ens xs) s : Int), .bool (decide (isAt (ens xs) s))])) := by
  refine Tr.of (l := [(0, v), (1, .string (sB s)), (2, .func (.func 63) #[] #[])]) Try.func62 rfl (n := 49) rfl (.cons rfl (.cons rfl (.cons rfl .nil))) (fun w0 hro => ?_)
  have hv := ro1 hro
  have hv' := hv
  obtain ⟨av, cv, bv, fv, rfl, hcapv, hmaxv, hnilv, hadv, helv⟩ := Ro.openT hv
  have hel' := ens_length xs
  refine G.seq ?_
  refine G.region ?_
  refine G.op rfl (G.val rfl rfl (pv_assign rfl) ?_)
  refine G.op rfl (G.val rfl rfl (pv_assign rfl) ?_)
  refine G.nil ?_
  refine G.nThen ?_
  refine G.seq ?_
  refine G.region ?_
  refine G.op rfl (G.val rfl rfl (pv_move rfl) ?_)
  refine G.op rfl (G.val rfl rfl (pv_lenSl Try.underlying22 rfl) ?_)
  refine G.op rfl (G.val rfl rfl (pv_assign rfl) ?_)
  refine G.nil ?_
  refine G.nThen ?_
  refine G.seq ?_
  refine G.region ?_
  refine G.op rfl (G.val rfl rfl (pv_move rfl) ?_)
  refine G.op rfl (G.val rfl rfl (pv_assign rfl) ?_)
  refine G.op rfl (G.val rfl rfl (pv_assign rfl) ?_)
  refine G.nil ?_
  refine G.nThen ?_
  refine G.seq ?_
  refine G.block ?_
  refine G.loopK (X := Nat × Nat) (ts := [0, 1, 2, 6, 7, 8]) (fun st => st.1 ≤ st.2 ∧ st.2 ≤ xs.length ∧ (∀ q (hq : q < xs.length), q < st.1 → compareM xs[q].1.path s < 0) ∧ (∀ q (hq : q < xs.length), st.2 ≤ q → ¬ compareM xs[q].1.path s < 0)) (fun st => [(9, .int .i64 (st.1 : Int)), (10, .int .i64 (st.2 : Int))]) (fun st => []) (fun st => st.2 - st.1) (x0 := (0, xs.length)) (.cons rfl (.cons rfl (.cons rfl (.cons rfl (.cons rfl (.cons rfl .nil)))))) (by repeat (first | exact Sub.nil | (apply Sub.cons; (repeat (first | with_reducible exact Sel.here | exact Sel.here | apply Sel.there))))) (.cons (.cons .nil)) (by repeat (first | exact Ap.nil | apply Ap.cons)) (by first | exact trivial | ((try dsimp only); exact ⟨Nat.zero_le _, Nat.le_refl _, fun q _ h => absurd h (by omega), fun q h1 h2 => absurd h1 (by omega)⟩)) (.consE rfl (by first | rfl | exact int_eq (by first | omega | (dsimp only; omega)) | exact congrArg _ (by omega)) (.consE rfl (by first | rfl | exact int_eq (by first | omega | (dsimp only; omega)) | exact congrArg _ (by omega)) .nil)) (fun st hJ => ?_)
  obtain ⟨i, j⟩ := st
  try dsimp only at hJ
  try dsimp only
  obtain ⟨hij, hj, hlo, hhi⟩ := hJ
  refine G.seq ?_
  refine G.seq ?_
  refine G.region ?_
  refine G.op rfl (G.val rfl rfl (pv_move rfl) ?_)
  refine G.op rfl (G.val rfl rfl (pv_move rfl) ?_)
  refine G.op rfl (G.val rfl rfl (pv_lss rfl rfl) ?_)
  refine G.nil ?_
  refine G.nThen ?_
  refine G.condP rfl (fun h17 => ?_) (fun h17 => ?_)
  · have hlt : (i + j) / 2 < xs.length := by omega
    have hEv := helv ((i + j) / 2) hlt
    have hRv := Ro.evRng hEv
    have hDv := Ro.evDat hEv
    obtain ⟨hk1v, hk2v, hlpv, hldv, hltv⟩ := Ro.evOk hEv
    have hCv := Ro.one1 hDv
    refine G.skip ?_
    refine G.nThen ?_
    refine G.block ?_
    refine G.seq ?_
    refine G.region ?_
    refine G.op rfl (G.val rfl rfl (pv_move rfl) ?_)
    refine G.op rfl (G.val rfl rfl (pv_move rfl) ?_)
    refine G.op rfl (G.val rfl rfl (pv_add64 rfl rfl (by omega)) ?_)
    refine G.op rfl (G.val rfl rfl ((pv_conv (by rw [Try.underlying3]; rfl) Try.underlying88 rfl).int (b := ((i + j : Nat) : Int)) (by rw [IntWalk.u64_in _ (by omega)]; omega)) ?_)
    refine G.op rfl (G.val rfl rfl ((pv_shr (s := 1) rfl rfl (by decide)).int (b := (((i + j) / 2 : Nat) : Int)) (by omega)) ?_)
    refine G.op rfl (G.val rfl rfl ((pv_conv (by rw [Try.underlying88]; rfl) Try.underlying3 rfl).int (b := (((i + j) / 2 : Nat) : Int)) (by rw [IntWalk.i64_in _ (by omega)])) ?_)
    refine G.op rfl (G.val rfl rfl (pv_assign rfl) ?_)
    refine G.nil ?_
    refine G.nThen ?_
    refine G.seq ?_
    refine G.region ?_
    refine G.op rfl (G.val rfl rfl (pv_move rfl) ?_)
    refine G.op rfl (G.val rfl rfl (pv_move rfl) ?_)
    refine G.op rfl (G.val rfl rfl (pv_move rfl) ?_)
    refine G.op rfl (G.val rfl rfl (pv_ixSl (sz := 5) Try.underlying22 (by kernel_rfl) rfl rfl (by first | with_reducible assumption | assumption | exact fun _ => rfl) rfl (by omega)) ?_)
    refine G.op rfl (G.val rfl rfl (pv_loadN (cs := [_, _, _, _, _]) Try.underlying31 rfl (by kernel_rfl) rfl (by first | exact blk_range (k := 5) (by (repeat (first | with_reducible exact Sel.here | exact Sel.here | apply Sel.there)); done) (by rfl) | exact ro_rng0 (by assumption) | exact rng_range (k := 5) (by (repeat (first | with_reducible exact Sel.here | exact Sel.here | apply Sel.there)); done) (by rfl) | exact ro_range (k := 5) (by assumption) (by rfl) | exact ro_rngR (k := 5) (by assumption) (by rfl))) ?_)
    refine G.op rfl (G.val rfl rfl (pv_move rfl) ?_)
    refine G.op rfl (G.cRv rfl rfl rfl rfl rfl Try.func63 rfl rfl (by rfl) may0 (place1_tr xs[(i + j) / 2].1 _ s (by omega) hs) ?_)
    refine G.op rfl (G.val rfl rfl (pv_lss rfl rfl) ?_)
    refine G.nil ?_
    refine G.nThen ?_
    refine G.condP rfl (fun h31 => ?_) (fun h31 => ?_)
    · have hneg := h31
      refine G.region ?_
      refine G.op rfl (G.val rfl rfl (pv_move rfl) ?_)
      refine G.op rfl (G.val rfl rfl (pv_add64 rfl rfl (by omega)) ?_)
      refine G.op rfl (G.val rfl rfl (pv_assign rfl) ?_)
      refine G.nil ?_
      refine G.nBlock ?_
      exact G.next (((i + j) / 2 + 1, j)) (by first | exact trivial | ((try dsimp only); exact ⟨by omega, hj, fun q hq hqi => by have := sort_mono hso (r := (i + j) / 2) (q := q) (s := s) (by omega) (by omega) (by rw [ens_get hlt]; exact hneg); rwa [ens_get hq] at this, hhi⟩)) (by (try dsimp only); omega) (.consE rfl (by first | rfl | exact int_eq (by first | omega | (dsimp only; omega)) | exact congrArg _ (by omega)) (.consE rfl (by first | rfl | exact int_eq (by first | omega | (dsimp only; omega)) | exact congrArg _ (by omega)) (.cons rfl (.cons rfl (.cons rfl (.cons rfl (.cons rfl (.cons rfl .nil)))))))) (by repeat (first | exact Sub.nil | (apply Sub.cons; (repeat (first | with_reducible exact Sel.here | exact Sel.here | apply Sel.there)))))
    · have hneg := h31
      refine G.region ?_
      refine G.op rfl (G.val rfl rfl (pv_move rfl) ?_)
      refine G.op rfl (G.val rfl rfl (pv_assign rfl) ?_)
      refine G.nil ?_
      refine G.nBlock ?_
      exact G.next ((i, (i + j) / 2)) (by first | exact trivial | ((try dsimp only); exact ⟨by omega, by omega, hlo, fun q hq hqi h => hneg (by have := sort_mono hso (r := q) (q := (i + j) / 2) (s := s) (by omega) hqi (by rw [ens_get hq]; exact h); rwa [ens_get hlt] at this)⟩)) (by (try dsimp only); omega) (.consE rfl (by first | rfl | exact int_eq (by first | omega | (dsimp only; omega)) | exact congrArg _ (by omega)) (.consE rfl (by first | rfl | exact int_eq (by first | omega | (dsimp only; omega)) | exact congrArg _ (by omega)) (.cons rfl (.cons rfl (.cons rfl (.cons rfl (.cons rfl (.cons rfl .nil)))))))) (by repeat (first | exact Sub.nil | (apply Sub.cons; (repeat (first | with_reducible exact Sel.here | exact Sel.here | apply Sel.there)))))
  · refine G.exit ?_
    refine G.eThen ?_
    refine G.eThen ?_
    refine G.eBlock ?_
    refine G.nThen ?_
    refine G.seq ?_
    refine G.region ?_
    refine G.op rfl (G.val rfl rfl (pv_move rfl) ?_)
    refine G.op rfl (G.val rfl rfl (pv_move rfl) ?_)
    refine G.op rfl (G.val rfl rfl (pv_move rfl) ?_)
    refine G.op rfl (G.val rfl rfl (pv_lss rfl rfl) ?_)
    refine G.op rfl (G.val rfl rfl (pv_move rfl) ?_)
    refine G.partP (t := 39) rfl (fun h39 => ?_) (fun h39 => ?_)
    · obtain rfl : i = j := by omega
      have hlt : i < xs.length := by omega
      have hEv := helv i hlt
      have hRv := Ro.evRng hEv
      have hDv := Ro.evDat hEv
      obtain ⟨hk1v, hk2v, hlpv, hldv, hltv⟩ := Ro.evOk hEv
      have hCv := Ro.one1 hDv
      refine G.want rfl rfl rfl (G.val rfl rfl (pv_move rfl) ?_)
      refine G.want rfl rfl rfl (G.val rfl rfl (pv_move rfl) ?_)
      refine G.want rfl rfl rfl (G.val rfl rfl (pv_move rfl) ?_)
      refine G.want rfl rfl rfl (G.val rfl rfl (pv_ixSl (sz := 5) Try.underlying22 (by kernel_rfl) rfl rfl (by first | with_reducible assumption | assumption | exact fun _ => rfl) rfl (by omega)) ?_)
      refine G.want rfl rfl rfl (G.val rfl rfl (pv_loadN (cs := [_, _, _, _, _]) Try.underlying31 rfl (by kernel_rfl) rfl (by first | exact blk_range (k := 5) (by (repeat (first | with_reducible exact Sel.here | exact Sel.here | apply Sel.there)); done) (by rfl) | exact ro_rng0 (by assumption) | exact rng_range (k := 5) (by (repeat (first | with_reducible exact Sel.here | exact Sel.here | apply Sel.there)); done) (by rfl) | exact ro_range (k := 5) (by assumption) (by rfl) | exact ro_rngR (k := 5) (by assumption) (by rfl))) ?_)
      refine G.want rfl rfl rfl (G.val rfl rfl (pv_move rfl) ?_)
      refine G.want rfl rfl rfl (G.cRv rfl rfl rfl rfl rfl Try.func63 rfl rfl (by rfl) may0 (place1_tr xs[i].1 _ s (by omega) hs) ?_)
      refine G.want rfl rfl rfl (G.val rfl rfl (pv_eql rfl rfl) ?_)
      refine G.op rfl (G.val rfl rfl (pv_pick rfl rfl) ?_)
      refine G.op rfl (G.val rfl rfl (pv_assign rfl) ?_)
      refine G.op rfl (G.val rfl rfl (pv_assign rfl) ?_)
      refine G.nil ?_
      refine G.nThen ?_
      refine G.ret ?_
      obtain ⟨hp, hi⟩ := search_end hso hlt hlo hhi
      exact G.done0G rfl (Rv.tmp rfl (Rv.tmp rfl Rv.nil)) (by rw [hp]; simp [retV2, hi])
    · refine G.pass rfl rfl rfl rfl rfl rfl ?_
      refine G.pass rfl rfl rfl rfl rfl rfl ?_
      refine G.pass rfl rfl rfl rfl rfl rfl ?_
      refine G.pass rfl rfl rfl rfl rfl rfl ?_
      refine G.pass rfl rfl rfl rfl rfl rfl ?_
      refine G.pass rfl rfl rfl rfl rfl rfl ?_
      refine G.pass rfl rfl rfl rfl rfl rfl ?_
      refine G.pass rfl rfl rfl rfl rfl rfl ?_
      refine G.op rfl (G.val rfl rfl (pv_pick rfl rfl) ?_)
      refine G.op rfl (G.val rfl rfl (pv_assign rfl) ?_)
      refine G.op rfl (G.val rfl rfl (pv_assign rfl) ?_)
      refine G.nil ?_
      refine G.nThen ?_
      refine G.ret ?_
      obtain rfl : i = xs.length := by omega
      obtain ⟨hp, hi⟩ := search_none (s := s) hlo
      exact G.done0G rfl (Rv.tmp rfl (Rv.tmp rfl Rv.nil)) (by rw [hp, decide_eq_false hi]; rfl)
set_option maxRecDepth 20000 in
set_option maxHeartbeats 4000000 in

theorem place_tr {Ps : Nat → Prop} (v : Value) (xs : List ET) (s : List UInt8) (hn : xs.length ≤ 1000000) (hso : SortT (ens xs)) (hs : s.length ≤ 9223372036854775807) : Tr Try.prog 40 #[v, .string (sB s)] [slc rEV Ps v xs] [] (T0 (.tuple #[.int .i64 (placeK (ens xs) s : Int), .bool (decide (isAt (ens xs) s))])) := by
  refine Tr.of (l := [(0, v), (1, .string (sB s))]) Try.func40 rfl (n := 11) rfl (.cons rfl (.cons rfl .nil)) (fun w0 hro => ?_)
  have hv := ro1 hro
  refine G.seq ?_
  refine G.region ?_
  refine G.op rfl (G.val rfl rfl (pv_assign rfl) ?_)
  refine G.op rfl (G.val rfl rfl (pv_assign rfl) ?_)
  refine G.nil ?_
  refine G.nThen ?_
  refine G.seq ?_
  refine G.region ?_
  refine G.op rfl (G.val rfl rfl (pv_move rfl) ?_)
  refine G.op rfl (G.val rfl rfl (pv_move rfl) ?_)
  refine G.op rfl (G.cR rfl rfl rfl rfl Try.func62 rfl rfl (may1 (by first | (apply May.old; first | with_reducible assumption | assumption) | (apply Sel.may; (repeat (first | with_reducible exact Sel.here | exact Sel.here | apply Sel.there)); done) | (apply may_own; (repeat (first | with_reducible exact Sel.here | exact Sel.here | apply Sel.there)); exact rfl; exact (fun _ _ => trivial); done) | (apply may_ownB; (repeat (first | with_reducible exact Sel.here | exact Sel.here | apply Sel.there)); done) | (apply may_tree; (repeat (first | with_reducible exact Sel.here | exact Sel.here | apply Sel.there)); (repeat (first | with_reducible exact Sel.here | exact Sel.here | apply Sel.there)); assumption; done))) (search_tr _ xs s hs hn hso) ?_)
  refine G.op rfl (G.val rfl rfl (pv_extract rfl rfl) ?_)
  refine G.op rfl (G.val rfl rfl (pv_extract rfl rfl) ?_)
  refine G.op rfl (G.val rfl rfl (pv_assign rfl) ?_)
  refine G.op rfl (G.val rfl rfl (pv_assign rfl) ?_)
  refine G.nil ?_
  refine G.nThen ?_
  refine G.ret ?_
  exact G.done0G rfl (Rv.tmp rfl (Rv.tmp rfl Rv.nil)) (by first | rfl | exact int_eq (by omega) | (simp; done))
end Go.Proofs.Ytchgaedidfefoaa
