/- Layer 8's statements: their small functions. Conditions: none. -/
import Derived.Test.YtchgaedidfefoaaTL
set_option linter.unusedVariables false
set_option linter.unusedSimpArgs false
namespace Go.Proofs.Ytchgaedidfefoaa
open Go.RowKit

def eA : En := ⟨[97], 1, 493, [], []⟩
def eB : En := ⟨[97, 47, 98], 2, 420, [120], []⟩
def eC : En := ⟨[99], 3, 0, [], [97, 47, 98]⟩
def sampleE : List En := [eA, eB, eC]
def dX (b : Nat) : Value := .slice (some ⟨b, 0, none⟩) 1 1
def sampleT (b : Nat) : List ET := [(eA, .slice none 0 0), (eB, dX b), (eC, .slice none 0 0)]
theorem sampleT_ens (b : Nat) : ens (sampleT b) = sampleE := rfl
def samB (b : Nat) : Ck := slc rByte (· = b) (.slice (some ⟨b, 0, none⟩) 1 1) [120]
theorem nil_sl {α : Type} (E : Rdr α) (Ps : Nat → Prop) (w : World) : IsSl E Ps w (.slice none 0 0) [] := ⟨none, 0, 0, 0, rfl, Nat.le_refl _, by omega, fun _ => rfl, fun h => by simp at h, fun i hi => by simp at hi⟩
theorem sam_dat {b : Nat} {w : World} (h : (samB b).φ w) : ∀ x ∈ sampleT b, IsSl rByte (samB b).S w x.2 x.1.data := fun x hx => by
  have : x = (eA, .slice none 0 0) ∨ x = (eB, dX b) ∨ x = (eC, .slice none 0 0) := by simpa [sampleT] using hx
  rcases this with rfl | rfl | rfl
  · exact nil_sl _ _ _
  · exact h
  · exact nil_sl _ _ _
theorem sam_ok {b : Nat} : ∀ x ∈ sampleT b, EnOk x.1 := fun x hx => by
  have : x = (eA, .slice none 0 0) ∨ x = (eB, dX b) ∨ x = (eC, .slice none 0 0) := by simpa [sampleT] using hx
  rcases this with rfl | rfl | rfl
  · exact (show EnOk eA from ⟨⟨by decide, by decide⟩, ⟨by decide, by decide⟩, by decide, by decide, by decide⟩)
  · exact (show EnOk eB from ⟨⟨by decide, by decide⟩, ⟨by decide, by decide⟩, by decide, by decide, by decide⟩)
  · exact (show EnOk eC from ⟨⟨by decide, by decide⟩, ⟨by decide, by decide⟩, by decide, by decide, by decide⟩)
section
variable {P : Program} {n : Nat} {w0 : World} {S : Nat → Prop} {l : Fr} {m : List Ck} {Q : Exit → Act → World → Prop} {K : Act → World → Prop}
/-- a tree of the call's own whose bytes lie in one chunk -/
theorem may_treeC {e : TypeId} {c : Ck} {v : Value} {xs : List ET} {r r' : List Ck} (h : Sel m (ownT e v xs) r) (h' : Sel m c r') (hok : ∀ x ∈ xs, EnOk x.1) (hd : ∀ w, c.φ w → ∀ x ∈ xs, IsSl rByte c.S w x.2 x.1.data) : May w0 S m (slc rEV (fun b => v.ownBlock = some b ∨ c.S b) v xs) :=
  .mix (fun w hw => ownT_sl (hw.holds _ h.mem) (fun b hb => .inl hb) hok fun x hx => (hd w (hw.holds _ h'.mem) x hx).mono fun k hk => .inr hk) fun b hb => .inr (by
    rcases hb with hb | hb
    · exact ⟨_, h.mem, hb⟩
    · exact ⟨_, h'.mem, hb⟩)
theorem may_treeCS {e : TypeId} {c : Ck} {ad : Option Addr} {len cap i j : Nat} {xs : List ET} {r r' : List Ck} (h : Sel m (ownT e (.slice ad len cap) xs) r) (h' : Sel m c r') (hok : ∀ x ∈ xs, EnOk x.1) (hd : ∀ w, c.φ w → ∀ x ∈ xs, IsSl rByte c.S w x.2 x.1.data) (hij : i ≤ j) (hj : j ≤ xs.length) : May w0 S m (slc rEV (fun b => (Value.slice ad len cap).ownBlock = some b ∨ c.S b) (subV 5 ad i j cap) ((xs.take j).drop i)) :=
  .mix (fun w hw => IsSl.sub (ownT_sl (hw.holds _ h.mem) (fun b hb => .inl hb) hok fun x hx => (hd w (hw.holds _ h'.mem) x hx).mono fun k hk => .inr hk) hij hj) fun b hb => .inr (by
    rcases hb with hb | hb
    · exact ⟨_, h.mem, hb⟩
    · exact ⟨_, h'.mem, hb⟩)
end
set_option maxRecDepth 20000 in
set_option maxHeartbeats 4000000 in

theorem sample_tr : Tr Try.prog 35 #[] [] [] (TX (fun _ : Nat × Nat => True) (fun z => .slice (some ⟨z.1, 0, none⟩) 3 3) (fun z => [ownT 31 (.slice (some ⟨z.1, 0, none⟩) 3 3) (sampleT z.2), samB z.2])) := by
  refine Tr.of (l := []) Try.func35 rfl (n := 7) rfl Fa.nil (fun w0 hro => ?_)
  refine G.seq ?_
  refine G.region ?_
  refine G.op rfl (G.val rfl rfl (pv_assign rfl) ?_)
  refine G.nil ?_
  refine G.nThen ?_
  refine G.seq ?_
  refine G.region ?_
  refine G.op rfl (G.val rfl rfl (pv_buildSt (z := [.string ⟨#[]⟩, .int .i64 0, .int .i64 0, .slice none 0 0, .string ⟨#[]⟩]) (pl := [(0, 1), (1, 1), (2, 1), (3, 1), (4, 1)]) Try.underlying31 (by kernel_rfl) (by kernel_rfl) rfl (by repeat (first | exact Fl.nil | (apply Fl.cons; exact rfl; (first | exact cells_of (by first | rfl | with_reducible assumption) | exact rfl); exact rfl; exact rfl; repeat (first | exact Sn.nil | (apply Sn.cons; repeat (first | exact St.zero | apply St.succ))))))) ?_)
  refine G.op rfl (G.lit1 (vs := [.int .u8 120]) rfl Try.underlying29 (by kernel_rfl) rfl (by decide) (by decide) rfl rfl ?_)
  intro b2
  refine G.op rfl (G.constB (b := b2) (xs := [120]) rfl Try.underlying29 Try.underlying5 rfl (by decide) (by repeat (first | with_reducible exact Sel.here | exact Sel.here | apply Sel.there)) ?_)
  refine G.op rfl (G.val rfl rfl (pv_buildSt (z := [.string ⟨#[]⟩, .int .i64 0, .int .i64 0, .slice none 0 0, .string ⟨#[]⟩]) (pl := [(0, 1), (1, 1), (2, 1), (3, 1), (4, 1)]) Try.underlying31 (by kernel_rfl) (by kernel_rfl) rfl (by repeat (first | exact Fl.nil | (apply Fl.cons; exact rfl; (first | exact cells_of (by first | rfl | with_reducible assumption) | exact rfl); exact rfl; exact rfl; repeat (first | exact Sn.nil | (apply Sn.cons; repeat (first | exact St.zero | apply St.succ))))))) ?_)
  refine G.op rfl (G.val rfl rfl (pv_buildSt (z := [.string ⟨#[]⟩, .int .i64 0, .int .i64 0, .slice none 0 0, .string ⟨#[]⟩]) (pl := [(0, 1), (1, 1), (2, 1), (3, 1), (4, 1)]) Try.underlying31 (by kernel_rfl) (by kernel_rfl) rfl (by repeat (first | exact Fl.nil | (apply Fl.cons; exact rfl; (first | exact cells_of (by first | rfl | with_reducible assumption) | exact rfl); exact rfl; exact rfl; repeat (first | exact Sn.nil | (apply Sn.cons; repeat (first | exact St.zero | apply St.succ))))))) ?_)
  refine G.op rfl (G.buildSlice (z := .agg #[.string ⟨#[]⟩, .int .i64 0, .int .i64 0, .slice none 0 0, .string ⟨#[]⟩]) (sz := 5) (cs := flatT (sampleT b2)) rfl Try.underlying22 (by kernel_rfl) (by decide) (by decide) rfl (by kernel_rfl) ?_)
  intro b6
  refine G.ownBlk (b := b6) (k := 3) (sz := 5) (by repeat (first | with_reducible exact Sel.here | exact Sel.here | apply Sel.there)) rfl (by omega) ?_
  refine G.op rfl (G.val rfl rfl (pv_assign rfl) ?_)
  refine G.nil ?_
  refine G.nThen ?_
  refine G.ret ?_
  exact G.doneX1 ((b6, b2)) (by first | exact trivial | ((try dsimp only); exact trivial)) rfl rfl rfl (by repeat (first | exact Sub.nil | (apply Sub.cons; (repeat (first | with_reducible exact Sel.here | exact Sel.here | apply Sel.there)))))
set_option maxRecDepth 20000 in
set_option maxHeartbeats 4000000 in

theorem lfails_tr {Ps : Nat → Prop} (v : Value) (xs : List ET) (e k : Int) : Tr Try.prog 36 #[v, .int .i64 e, .int .i64 k] [slc rEV Ps v xs] [] (T0 (.bool (decide (checkT (ens xs) = (e, k))))) := by
  refine Tr.of (l := [(0, v), (1, .int .i64 e), (2, .int .i64 k)]) Try.func36 rfl (n := 22) rfl (.cons rfl (.cons rfl (.cons rfl .nil))) (fun w0 hro => ?_)
  have hv := ro1 hro
  refine G.seq ?_
  refine G.region ?_
  refine G.op rfl (G.val rfl rfl (pv_assign rfl) ?_)
  refine G.nil ?_
  refine G.nThen ?_
  refine G.seq ?_
  refine G.region ?_
  refine G.op rfl (G.val rfl rfl (pv_move rfl) ?_)
  refine G.op rfl (G.cR rfl rfl rfl rfl Try.func11 rfl rfl (may1 (by first | (apply May.old; first | with_reducible assumption | assumption) | (apply Sel.may; (repeat (first | with_reducible exact Sel.here | exact Sel.here | apply Sel.there)); done) | (apply may_own; (repeat (first | with_reducible exact Sel.here | exact Sel.here | apply Sel.there)); exact rfl; exact (fun _ _ => trivial); done) | (apply may_ownB; (repeat (first | with_reducible exact Sel.here | exact Sel.here | apply Sel.there)); done) | (apply may_tree; (repeat (first | with_reducible exact Sel.here | exact Sel.here | apply Sel.there)); (repeat (first | with_reducible exact Sel.here | exact Sel.here | apply Sel.there)); assumption; done))) (tcheck_tr _ _) ?_)
  refine G.op rfl (G.val rfl rfl (pv_move rfl) ?_)
  refine G.op rfl (G.val rfl rfl (pv_extract rfl rfl) ?_)
  refine G.op rfl (G.val rfl rfl (pv_extract rfl rfl) ?_)
  refine G.op rfl (G.val rfl rfl (pv_assign rfl) ?_)
  refine G.op rfl (G.val rfl rfl (pv_assign rfl) ?_)
  refine G.nil ?_
  refine G.nThen ?_
  refine G.seq ?_
  refine G.region ?_
  refine G.op rfl (G.val rfl rfl (pv_move rfl) ?_)
  refine G.op rfl (G.val rfl rfl (pv_move rfl) ?_)
  refine G.op rfl (G.val rfl rfl (pv_eql rfl rfl) ?_)
  refine G.op rfl (G.val rfl rfl (pv_move rfl) ?_)
  refine G.partP (t := 17) rfl (fun h17 => ?_) (fun h17 => ?_)
  · refine G.want rfl rfl rfl (G.val rfl rfl (pv_move rfl) ?_)
    refine G.want rfl rfl rfl (G.val rfl rfl (pv_move rfl) ?_)
    refine G.want rfl rfl rfl (G.val rfl rfl (pv_eql rfl rfl) ?_)
    refine G.op rfl (G.val rfl rfl (pv_pick rfl rfl) ?_)
    refine G.op rfl (G.val rfl rfl (pv_assign rfl) ?_)
    refine G.nil ?_
    refine G.nThen ?_
    refine G.ret ?_
    exact G.done0G rfl (Rv.tmp rfl Rv.nil) (by simp_all [retV1, Prod.ext_iff])
  · refine G.pass rfl rfl rfl rfl rfl rfl ?_
    refine G.pass rfl rfl rfl rfl rfl rfl ?_
    refine G.pass rfl rfl rfl rfl rfl rfl ?_
    refine G.op rfl (G.val rfl rfl (pv_pick rfl rfl) ?_)
    refine G.op rfl (G.val rfl rfl (pv_assign rfl) ?_)
    refine G.nil ?_
    refine G.nThen ?_
    refine G.ret ?_
    exact G.done0G rfl (Rv.tmp rfl Rv.nil) (by simp_all [retV1, Prod.ext_iff])
set_option maxRecDepth 20000 in
set_option maxHeartbeats 4000000 in

theorem among_tr {Ps : Nat → Prop} {p : List UInt8 → Prop} (v : Value) (xs : List (List UInt8)) (s : List UInt8) : Tr Try.prog 38 #[v, .string (sB s)] [slc (r1 vStr p) Ps v xs] [] (T0 (.bool (decide (s ∈ xs)))) := by
  refine Tr.of (l := [(0, v), (1, .string (sB s))]) Try.func38 rfl (n := 18) rfl (.cons rfl (.cons rfl .nil)) (fun w0 hro => ?_)
  have hv := ro1 hro
  have hv' := hv
  obtain ⟨av, cv, bv, fv, rfl, hcapv, hmaxv, hnilv, hadv, helv⟩ := Ro.open hv
  refine G.seq ?_
  refine G.region ?_
  refine G.op rfl (G.val rfl rfl (pv_assign rfl) ?_)
  refine G.nil ?_
  refine G.nThen ?_
  refine G.seq ?_
  refine G.seq ?_
  refine G.region ?_
  refine G.op rfl (G.val rfl rfl (pv_assign rfl) ?_)
  refine G.nil ?_
  refine G.nThen ?_
  refine G.block ?_
  refine G.loopK (X := Nat) (ts := [0, 1]) (fun i => i ≤ xs.length ∧ (∀ q (hq : q < xs.length), q < i → ¬ xs[q] = s)) (fun i => [(5, .int .i64 (i : Int))]) (fun i => []) (fun i => xs.length - i) (x0 := 0) (.cons rfl (.cons rfl .nil)) (by repeat (first | exact Sub.nil | (apply Sub.cons; (repeat (first | with_reducible exact Sel.here | exact Sel.here | apply Sel.there))))) (.cons .nil) (by repeat (first | exact Ap.nil | apply Ap.cons)) (by first | exact trivial | ((try dsimp only); exact ⟨Nat.zero_le _, fun q _ h => absurd h (by omega)⟩)) (.consE rfl (by first | rfl | exact int_eq (by first | omega | (dsimp only; omega)) | exact congrArg _ (by omega)) .nil) (fun i hJ => ?_)
  try dsimp only at hJ
  try dsimp only
  obtain ⟨hki, hJ⟩ := hJ
  refine G.seq ?_
  refine G.seq ?_
  refine G.region ?_
  refine G.op rfl (G.val rfl rfl (pv_move rfl) ?_)
  refine G.op rfl (G.val rfl rfl (pv_move rfl) ?_)
  refine G.op rfl (G.val rfl rfl (pv_lenSl Try.underlying44 rfl) ?_)
  refine G.op rfl (G.val rfl rfl (pv_lss rfl rfl) ?_)
  refine G.nil ?_
  refine G.nThen ?_
  refine G.condP rfl (fun h9 => ?_) (fun h9 => ?_)
  · have hlt : i < xs.length := by omega
    refine G.skip ?_
    refine G.nThen ?_
    refine G.seq ?_
    refine G.block ?_
    refine G.seq ?_
    refine G.region ?_
    refine G.op rfl (G.val rfl rfl (pv_move rfl) ?_)
    refine G.op rfl (G.val rfl rfl (pv_move rfl) ?_)
    refine G.op rfl (G.val rfl rfl (pv_ixSl (sz := 1) (k := i) Try.underlying44 (by kernel_rfl) rfl rfl (by first | with_reducible assumption | assumption) (by omega) (by omega)) ?_)
    refine G.op rfl (G.val rfl rfl (pv_load (v := .string (sB xs[i])) Try.underlying9 rfl rfl (ro_cell (f := vStr) (helv i (by omega)))) ?_)
    refine G.op rfl (G.val rfl rfl (pv_move rfl) ?_)
    refine G.op rfl (G.val rfl rfl (pv_eqlS rfl rfl) ?_)
    refine G.nil ?_
    refine G.nThen ?_
    refine G.condP rfl (fun h17 => ?_) (fun h17 => ?_)
    · refine G.seq ?_
      refine G.region ?_
      refine G.op rfl (G.val rfl rfl (pv_assign rfl) ?_)
      refine G.nil ?_
      refine G.nThen ?_
      refine G.ret ?_
      refine G.rBlock ?_
      refine G.rThen ?_
      refine G.rThen ?_
      refine G.rBlock ?_
      refine G.rThen ?_
      exact G.done0G rfl (Rv.tmp rfl Rv.nil) (by rw [decide_eq_true (show s ∈ xs from (by assumption : xs[i] = s) ▸ List.getElem_mem hlt)]; rfl)
    · refine G.skip ?_
      refine G.nBlock ?_
      refine G.nThen ?_
      refine G.region ?_
      refine G.op rfl (G.val rfl rfl (pv_move rfl) ?_)
      refine G.op rfl (G.val rfl rfl (pv_add64 rfl rfl (by omega)) ?_)
      refine G.op rfl (G.val rfl rfl (pv_assign rfl) ?_)
      refine G.nil ?_
      exact G.next (i + 1) (by first | exact trivial | ((try dsimp only); exact ⟨by omega, fun q hq hqi => by rcases Nat.lt_or_ge q i with h1 | h1; exact hJ q hq h1; obtain rfl : q = i := (by omega); assumption⟩)) (by (try dsimp only); omega) (.consE rfl (by first | rfl | exact int_eq (by first | omega | (dsimp only; omega)) | exact congrArg _ (by omega)) (.cons rfl (.cons rfl .nil))) (by repeat (first | exact Sub.nil | (apply Sub.cons; (repeat (first | with_reducible exact Sel.here | exact Sel.here | apply Sel.there)))))
  · refine G.exit ?_
    refine G.eThen ?_
    refine G.eThen ?_
    refine G.eBlock ?_
    refine G.nThen ?_
    refine G.seq ?_
    refine G.region ?_
    refine G.op rfl (G.val rfl rfl (pv_assign rfl) ?_)
    refine G.nil ?_
    refine G.nThen ?_
    refine G.ret ?_
    exact G.done0G rfl (Rv.tmp rfl Rv.nil) (by rw [decide_eq_false (fun h => by obtain ⟨q, hq, e⟩ := List.getElem_of_mem h; exact hJ q hq (by omega) e)]; rfl)
theorem chk_sample : checkT sampleE = (0, 0) := by kernel_rfl
theorem chk_tail : checkT [eB, eC] = (6, 0) := by kernel_rfl
theorem drop_sample : dropM sampleE [97] = ([eC], 0) := by kernel_rfl
theorem lfails_yes {Ps : Nat → Prop} (v : Value) (xs : List ET) (e k : Int) (h : checkT (ens xs) = (e, k)) : Tr Try.prog 36 #[v, .int .i64 e, .int .i64 k] [slc rEV Ps v xs] [] (T0 (.bool true)) := by
  have := lfails_tr (Ps := Ps) v xs e k
  rwa [decide_eq_true h] at this
theorem tree_yes {Ps Pu : Nat → Prop} (v u : Value) (xs ys : List ET) (h : ens xs = ens ys) : Tr Try.prog 16 #[v, u] [slc rEV Ps v xs, slc rEV Pu u ys] [] (T0 (.bool true)) := by
  have := sameTree_tr (Ps := Ps) (Pu := Pu) v u xs ys
  rwa [decide_eq_true h] at this
theorem ens_sub (b i j : Nat) : ens (((sampleT b).take j).drop i) = ((sampleE.take j).drop i) := by unfold ens; rw [List.map_drop, List.map_take]; rfl
end Go.Proofs.Ytchgaedidfefoaa
