/- The statements' helpers of layer 10, and what they say of the examples. Conditions: none. -/
import Derived.Test.YtakcffhknnailaaNI
set_option linter.unusedVariables false
set_option linter.unusedSimpArgs false
namespace Go.Proofs.Ytakcffhknnailaa
open Go.RowKit

theorem finM_i64 {b : List UInt8} {k : Int} {ns : List Int} {ids : List (List UInt8)} {bs : List UInt8} {s : Rs} (h : ∀ x ∈ ns, 0 ≤ x ∧ x ≤ 2147483647) (h2 : all16 ids) : (∀ x ∈ (finM b k ns ids bs s).1.ns, 0 ≤ x ∧ x ≤ 2147483647) ∧ all16 (finM b k ns ids bs s).1.ids := by
  unfold finM
  split
  · exact ⟨(fun x hx => absurd hx (by simp [nt0])), (fun x hx => absurd hx (by simp [nt0]))⟩
  · exact ⟨h, h2⟩
theorem numsS_range (b : List UInt8) (s : Rs) : ∀ j, ∀ x ∈ (numsS b s j).1, 0 ≤ x ∧ x ≤ 2147483647
  | 0, x, hx => by cases hx
  | j + 1, x, hx => by
    have hx : x ∈ (numsS b s j).1 ++ [((numS b 0 2147483647 5 (numsS b s j).2).1 : Int)] := hx
    rcases List.mem_append.1 hx with h | h
    · exact numsS_range b s j x h
    · obtain rfl : x = _ := by simpa using h
      have := numS_small (b := b) (low := 0) (high := 2147483647) (above := 5) (s := (numsS b s j).2)
      omega
theorem readM_range (b : List UInt8) : (∀ x ∈ (readM b).1.ns, 0 ≤ x ∧ x ≤ 2147483647) ∧ all16 (readM b).1.ids := by
  unfold readM tnM tiM tbM
  exact finM_i64 (numsS_range b _ _) (idsS_16 b _ _)
theorem readM_i64 (b : List UInt8) : ∀ x ∈ (readM b).1.ns, I64 x := fun x hx => by
  have := (readM_range b).1 x hx
  exact ⟨by omega, by omega⟩
theorem readM_16 (b : List UInt8) : all16 (readM b).1.ids := (readM_range b).2
theorem finM_len {b : List UInt8} {k : Int} {ns : List Int} {ids : List (List UInt8)} {bs : List UInt8} {s : Rs} {c d e : Nat} (h : ns.length ≤ c) (h2 : ids.length ≤ d) (h3 : bs.length ≤ e) : (finM b k ns ids bs s).1.ns.length ≤ c ∧ (finM b k ns ids bs s).1.ids.length ≤ d ∧ (finM b k ns ids bs s).1.bs.length ≤ e := by
  unfold finM
  split
  · exact ⟨Nat.zero_le _, Nat.zero_le _, Nat.zero_le _⟩
  · exact ⟨h, h2, h3⟩
theorem sameNote_self {Pv1 Pv2 Pv3 Pu1 Pu2 Pu3 : Nat → Prop} (k : Int) (v1 v2 v3 u1 u2 u3 : Value) (ns : List Int) (ids : List (List UInt8)) (bs : List UInt8) : Tr Try.prog 19 #[.agg #[.int .i64 k, v1, v2, v3], .agg #[.int .i64 k, u1, u2, u3]] [slc rInt Pv1 v1 ns, slc rID Pv2 v2 ids, slc rByte Pv3 v3 bs, slc rInt Pu1 u1 ns, slc rID Pu2 u2 ids, slc rByte Pu3 u3 bs] [] (T0 (.bool true)) := by
  have := sameNote_tr (Pv1 := Pv1) (Pv2 := Pv2) (Pv3 := Pv3) (Pu1 := Pu1) (Pu2 := Pu2) (Pu3 := Pu3) k k v1 v2 v3 u1 u2 u3 ns ns ids ids bs bs
  rwa [decide_eq_true ⟨rfl, rfl, rfl, rfl⟩] at this
def nameM (k : Int) : List UInt8 := (shD k).name
/-- nothing to be read -/
theorem may_nil {w0 : World} {S : Nat → Prop} {m : List Ck} {α : Type} {E : Rdr α} : May w0 S m (slc E (fun _ => False) (.slice none 0 0) []) := .old ⟨⟨none, 0, 0, 0, rfl, Nat.le_refl _, by omega, fun _ => rfl, fun h => absurd h (by simp), fun i hi => absurd hi (by simp)⟩, fun b hb => hb.elim⟩
set_option maxRecDepth 20000 in
set_option maxHeartbeats 4000000 in

theorem nameN (k : Int) (h : shM k = none) : Tr Try.prog 31 #[.int .i64 k] [] [] (T0 (.string (sB []))) := by
  refine Tr.of (l := [(0, .int .i64 k)]) Try.func31 rfl (n := 12) rfl (.cons rfl .nil) (fun w0 hro => ?_)
  refine G.seq ?_
  refine G.region ?_
  refine G.op rfl (G.val rfl rfl (pv_assign rfl) ?_)
  refine G.nil ?_
  refine G.nThen ?_
  refine G.seq ?_
  refine G.seq ?_
  refine G.region ?_
  refine G.op rfl (G.val rfl rfl (pv_move rfl) ?_)
  refine G.op rfl (G.cR rfl rfl rfl rfl Try.func42 rfl rfl may0 (shaped_none _ h) ?_)
  refine G.op rfl (G.val rfl rfl (pv_assign rfl) ?_)
  refine G.nil ?_
  refine G.nThen ?_
  refine G.seq ?_
  refine G.region ?_
  refine G.op rfl (G.val rfl rfl (pv_move rfl) ?_)
  refine G.op rfl (G.val rfl rfl (pv_neqP0 Try.underlying66 rfl rfl) ?_)
  refine G.nil ?_
  refine G.nThen ?_
  refine G.condF rfl (rfl) ?_
  refine G.skip ?_
  refine G.nThen ?_
  refine G.seq ?_
  refine G.region ?_
  refine G.op rfl (G.val rfl rfl (pv_assign rfl) ?_)
  refine G.nil ?_
  refine G.nThen ?_
  refine G.ret ?_
  exact G.done0G rfl (Rv.tmp rfl Rv.nil) (by first | rfl | exact int_eq (by omega) | (simp; done))
set_option maxRecDepth 20000 in
set_option maxHeartbeats 4000000 in

theorem nameS (k : Int) (s : Sh) (h : shM k = some s) : Tr Try.prog 31 #[.int .i64 k] [] [] (T0 (.string (sB s.name))) := by
  refine Tr.of (l := [(0, .int .i64 k)]) Try.func31 rfl (n := 12) rfl (.cons rfl .nil) (fun w0 hro => ?_)
  refine G.seq ?_
  refine G.region ?_
  refine G.op rfl (G.val rfl rfl (pv_assign rfl) ?_)
  refine G.nil ?_
  refine G.nThen ?_
  refine G.seq ?_
  refine G.seq ?_
  refine G.region ?_
  refine G.op rfl (G.val rfl rfl (pv_move rfl) ?_)
  refine G.op rfl (G.cS rfl rfl rfl rfl Try.func42 rfl rfl (by repeat (first | exact Sub.nil | (apply Sub.cons; (repeat (first | with_reducible exact Sel.here | exact Sel.here | apply Sel.there))))) may0 (shaped_some _ _ h) (by repeat (first | exact Ap.nil | apply Ap.cons)) ?_)
  intro x5 hJ
  obtain ⟨bS, oS⟩ := x5
  try dsimp only at hJ
  try dsimp only
  refine G.op rfl (G.val rfl rfl (pv_assign rfl) ?_)
  refine G.nil ?_
  refine G.nThen ?_
  refine G.seq ?_
  refine G.region ?_
  refine G.op rfl (G.val rfl rfl (pv_move rfl) ?_)
  refine G.op rfl (G.val rfl rfl (pv_neqP0 Try.underlying66 rfl rfl) ?_)
  refine G.nil ?_
  refine G.nThen ?_
  refine G.condT rfl (rfl) ?_
  refine G.seq ?_
  refine G.region ?_
  refine G.op rfl (G.val rfl rfl (pv_move rfl) ?_)
  refine G.op rfl (G.val rfl rfl (pv_nilCheck rfl) ?_)
  refine G.op rfl (G.val rfl rfl (pv_fieldAddrK (sz := 0) (k := 0) Try.underlying71 rfl (by kernel_rfl) rfl rfl) ?_)
  refine G.op rfl (G.val rfl rfl (pv_load Try.underlying9 rfl rfl (rng_cell (o := oS) (j := 0) (by repeat (first | with_reducible exact Sel.here | exact Sel.here | apply Sel.there)) (by rfl))) ?_)
  refine G.op rfl (G.val rfl rfl (pv_assign rfl) ?_)
  refine G.nil ?_
  refine G.nThen ?_
  refine G.ret ?_
  refine G.rThen ?_
  exact G.done0G rfl (Rv.tmp rfl Rv.nil) (by first | rfl | exact int_eq (by omega) | (simp; done))
theorem nameF (k : Int) : Tr Try.prog 31 #[.int .i64 k] [] [] (T0 (.string (sB (nameM k)))) := by
  unfold nameM shD
  cases h : shM k with
  | none => exact nameN k h
  | some s => exact nameS k s h
set_option maxRecDepth 20000 in
set_option maxHeartbeats 4000000 in

theorem agentsF (k : Int) : Tr Try.prog 30 #[.int .i64 k] [] [] (T0 (.bool (decide (1 ≤ k ∧ k ≤ 15)))) := by
  refine Tr.of (l := [(0, .int .i64 k)]) Try.func30 rfl (n := 9) rfl (.cons rfl .nil) (fun w0 hro => ?_)
  refine G.seq ?_
  refine G.region ?_
  refine G.op rfl (G.val rfl rfl (pv_assign rfl) ?_)
  refine G.nil ?_
  refine G.nThen ?_
  refine G.seq ?_
  refine G.region ?_
  refine G.op rfl (G.val rfl rfl (pv_move rfl) ?_)
  refine G.op rfl (G.val rfl rfl (pv_geq rfl rfl) ?_)
  refine G.op rfl (G.val rfl rfl (pv_move rfl) ?_)
  refine G.partP (t := 5) rfl (fun h5 => ?_) (fun h5 => ?_)
  · refine G.want rfl rfl rfl (G.val rfl rfl (pv_move rfl) ?_)
    refine G.want rfl rfl rfl (G.val rfl rfl (pv_leq rfl rfl) ?_)
    refine G.op rfl (G.val rfl rfl (pv_pick rfl rfl) ?_)
    refine G.op rfl (G.val rfl rfl (pv_assign rfl) ?_)
    refine G.nil ?_
    refine G.nThen ?_
    refine G.ret ?_
    exact G.done1 rfl rfl .nil ⟨congrArg Value.bool (by simp [*]), rfl⟩
  · refine G.pass rfl rfl rfl rfl rfl rfl ?_
    refine G.pass rfl rfl rfl rfl rfl rfl ?_
    refine G.op rfl (G.val rfl rfl (pv_pick rfl rfl) ?_)
    refine G.op rfl (G.val rfl rfl (pv_assign rfl) ?_)
    refine G.nil ?_
    refine G.nThen ?_
    refine G.ret ?_
    exact G.done1 rfl rfl .nil ⟨congrArg Value.bool (by simp [*]), rfl⟩
set_option maxRecDepth 20000 in
set_option maxHeartbeats 4000000 in

theorem lbytes {Pv1 Pv2 Pv3 : Nat → Prop} (k : Int) (v1 v2 v3 : Value) (ns : List Int) (ids : List (List UInt8)) (bs : List UInt8) : Tr Try.prog 25 #[.agg #[.int .i64 k, v1, v2, v3]] [slc rInt Pv1 v1 ns, slc rID Pv2 v2 ids, slc rByte Pv3 v3 bs] []
    (TX (fun _ : Value => True) (fun x => x) (fun x => [ownB 5 x (noteOut k ns ids bs)])) := by
  refine Tr.of (l := [(0, .agg #[.int .i64 k, v1, v2, v3])]) Try.func25 rfl (n := 11) rfl (.cons rfl .nil) (fun w0 hro => ?_)
  obtain ⟨hA, hB, hC⟩ := ro3 hro
  have oA := Ro.open hA
  obtain ⟨aA, cA, qA, oA, rfl, -⟩ := oA
  have oB := Ro.open hB
  obtain ⟨aB, cB, qB, oB, rfl, -⟩ := oB
  have oC := Ro.open hC
  obtain ⟨aC, cC, qC, oC, rfl, -⟩ := oC
  refine G.seq ?_
  refine G.region ?_
  refine G.op rfl (G.box rfl rfl (cs := [_, _, _, _]) rfl ?_)
  intro b1
  refine G.op rfl (G.val rfl rfl (pv_assign rfl) ?_)
  refine G.nil ?_
  refine G.nThen ?_
  refine G.seq ?_
  refine G.region ?_
  refine G.op rfl (G.val rfl rfl (pv_loadN (cs := [_, _, _, _]) Try.underlying26 rfl (by kernel_rfl) rfl (by first | exact blk_range (k := 4) (by (repeat (first | with_reducible exact Sel.here | exact Sel.here | apply Sel.there)); done) (by rfl) | exact rng_range (k := 4) (by (repeat (first | with_reducible exact Sel.here | exact Sel.here | apply Sel.there)); done) (by rfl) | exact ro_range (k := 4) (by assumption) (by rfl) | exact ro_rngR (k := 4) (by assumption) (by rfl))) ?_)
  refine G.op rfl (G.cS rfl rfl rfl rfl Try.func13 rfl rfl (by repeat (first | exact Sub.nil | (apply Sub.cons; (repeat (first | with_reducible exact Sel.here | exact Sel.here | apply Sel.there))))) (may3 (by first | exact .old (by first | with_reducible assumption | assumption) | exact Sel.may (by (repeat (first | with_reducible exact Sel.here | exact Sel.here | apply Sel.there)); done) | exact may_own (by (repeat (first | with_reducible exact Sel.here | exact Sel.here | apply Sel.there)); done) rfl (fun _ _ => trivial) | exact may_ownB (by (repeat (first | with_reducible exact Sel.here | exact Sel.here | apply Sel.there)); done) | exact may_nil | exact may_ownI (by (repeat (first | with_reducible exact Sel.here | exact Sel.here | apply Sel.there)); done) (by assumption) | exact may_ownN (by (repeat (first | with_reducible exact Sel.here | exact Sel.here | apply Sel.there)); done) (by assumption)) (by first | exact .old (by first | with_reducible assumption | assumption) | exact Sel.may (by (repeat (first | with_reducible exact Sel.here | exact Sel.here | apply Sel.there)); done) | exact may_own (by (repeat (first | with_reducible exact Sel.here | exact Sel.here | apply Sel.there)); done) rfl (fun _ _ => trivial) | exact may_ownB (by (repeat (first | with_reducible exact Sel.here | exact Sel.here | apply Sel.there)); done) | exact may_nil | exact may_ownI (by (repeat (first | with_reducible exact Sel.here | exact Sel.here | apply Sel.there)); done) (by assumption) | exact may_ownN (by (repeat (first | with_reducible exact Sel.here | exact Sel.here | apply Sel.there)); done) (by assumption)) (by first | exact .old (by first | with_reducible assumption | assumption) | exact Sel.may (by (repeat (first | with_reducible exact Sel.here | exact Sel.here | apply Sel.there)); done) | exact may_own (by (repeat (first | with_reducible exact Sel.here | exact Sel.here | apply Sel.there)); done) rfl (fun _ _ => trivial) | exact may_ownB (by (repeat (first | with_reducible exact Sel.here | exact Sel.here | apply Sel.there)); done) | exact may_nil | exact may_ownI (by (repeat (first | with_reducible exact Sel.here | exact Sel.here | apply Sel.there)); done) (by assumption) | exact may_ownN (by (repeat (first | with_reducible exact Sel.here | exact Sel.here | apply Sel.there)); done) (by assumption))) (bytesNF _ _ _ _ _ _ _) (by repeat (first | exact Ap.nil | apply Ap.cons)) ?_)
  intro x7 hJ
  try dsimp only at hJ
  try dsimp only
  refine G.op rfl (G.val rfl rfl (pv_move rfl) ?_)
  refine G.op rfl (G.val rfl rfl (pv_extract rfl rfl) ?_)
  refine G.op rfl (G.val rfl rfl (pv_extract rfl rfl) ?_)
  refine G.op rfl (G.val rfl rfl (pv_assign rfl) ?_)
  refine G.op rfl (G.val rfl rfl (pv_assign rfl) ?_)
  refine G.nil ?_
  refine G.nThen ?_
  refine G.seq ?_
  refine G.region ?_
  refine G.op rfl (G.val rfl rfl (pv_move rfl) ?_)
  refine G.op rfl (G.val rfl rfl (pv_assign rfl) ?_)
  refine G.nil ?_
  refine G.nThen ?_
  refine G.ret ?_
  exact G.doneX1 (x7) (by first | exact trivial | ((try dsimp only); exact trivial)) rfl rfl (by first | rfl | exact int_eq (by omega) | (simp; done)) (by repeat (first | exact Sub.nil | (apply Sub.cons; (repeat (first | with_reducible exact Sel.here | exact Sel.here | apply Sel.there)))))
set_option maxRecDepth 20000 in
set_option maxHeartbeats 4000000 in

theorem lpart : Tr Try.prog 32 #[] [] [] (TX (fun _ : Nat × Nat => True) (fun x => .agg #[.int .i64 2, .slice (some ⟨x.1, 0, none⟩) 1 1, .slice none 0 0, .slice (some ⟨x.2, 0, none⟩) 2 2]) (fun x => [blk x.1 3 (([300] : List Int).map vInt), blk x.2 5 (([1, 2] : List UInt8).map vByte)])) := by
  refine Tr.of (l := []) Try.func32 rfl (n := 4) rfl Fa.nil (fun w0 hro => ?_)
  refine G.seq ?_
  refine G.region ?_
  refine G.op rfl (G.alloc (z := .agg #[.int .i64 0, .slice none 0 0, .slice none 0 0, .slice none 0 0]) (cs := [.int .i64 0, .slice none 0 0, .slice none 0 0, .slice none 0 0]) rfl (by kernel_rfl) rfl ?_)
  intro b0
  refine G.nil ?_
  refine G.nThen ?_
  refine G.seq ?_
  refine G.region ?_
  refine G.op rfl (G.lit1 (vs := [_]) rfl Try.underlying22 (by kernel_rfl) rfl (by decide) (by decide) rfl rfl ?_)
  intro b1
  refine G.op rfl (G.lit1 (vs := [_, _]) rfl Try.underlying24 (by kernel_rfl) rfl (by decide) (by decide) rfl rfl ?_)
  intro b2
  refine G.op rfl (G.val rfl rfl (pv_buildSt (z := [.int .i64 0, .slice none 0 0, .slice none 0 0, .slice none 0 0]) (pl := [(0, 1), (1, 1), (2, 1), (3, 1)]) Try.underlying26 (by kernel_rfl) (by kernel_rfl) rfl (by repeat (first | exact Fl.nil | (apply Fl.cons; exact rfl; (first | exact cells_of (by first | rfl | with_reducible assumption) | exact rfl); exact rfl; exact rfl; repeat (first | exact Sn.nil | (apply Sn.cons; repeat (first | exact St.zero | apply St.succ))))))) ?_)
  refine G.op rfl (G.storeN (by kernel_rfl) rfl rfl (by first | exact (all1_cons (by first | rfl | with_reducible assumption) (all1_cons (by first | rfl | with_reducible assumption) (all1_cons (by first | rfl | with_reducible assumption) (all1_cons (by first | rfl | with_reducible assumption) all1_nil)))) | exact List.all_eq_true.2 (vByte_one _) | rfl) (by repeat (first | with_reducible exact Sel.here | exact Sel.here | apply Sel.there)) (by first | (simp; done) | exact Nat.le_of_ble_eq_true rfl) ?_)
  refine G.nil ?_
  refine G.nThen ?_
  refine G.ret ?_
  exact G.doneG ((b1, b2)) (by first | exact trivial | ((try dsimp only); exact trivial)) rfl (Rv.cellN (cs := [_, _, _, _]) rfl Try.underlying26 rfl (by kernel_rfl) (by first | exact blk_range (k := 4) (by (repeat (first | with_reducible exact Sel.here | exact Sel.here | apply Sel.there)); done) (by rfl)) Rv.nil) (by first | rfl | exact int_eq (by omega) | (simp; done)) (by repeat (first | exact Sub.nil | (apply Sub.cons; (repeat (first | with_reducible exact Sel.here | exact Sel.here | apply Sel.there)))))
set_option maxRecDepth 20000 in
set_option maxHeartbeats 4000000 in

theorem awake10 : Tr Try.prog 20 #[] [] [] (T0 (.bool true)) := by
  refine Tr.of (l := []) Try.func20 rfl (n := 26) rfl Fa.nil (fun w0 hro => ?_)
  refine G.seq ?_
  refine G.region ?_
  refine G.op rfl (G.val rfl rfl (pv_assign rfl) ?_)
  refine G.nil ?_
  refine G.nThen ?_
  refine G.seq ?_
  refine G.region ?_
  refine G.op rfl (G.lit1 (vs := [_, _, _, _, _, _, _, _]) rfl Try.underlying24 (by kernel_rfl) rfl (by decide) (by decide) rfl rfl ?_)
  intro b4
  refine G.op rfl (G.cS rfl rfl rfl rfl Try.func22 rfl rfl (by repeat (first | exact Sub.nil | (apply Sub.cons; (repeat (first | with_reducible exact Sel.here | exact Sel.here | apply Sel.there))))) (may1 (may_blk (f := vByte) (p := fun _ => True) (xs := ([2, 1, 130, 44, 0, 2, 1, 2] : List UInt8)) (off := 0) (by repeat (first | with_reducible exact Sel.here | exact Sel.here | apply Sel.there)) rfl (fun _ _ => trivial) (by decide) (by decide))) (readF _ ([2, 1, 130, 44, 0, 2, 1, 2] : List UInt8) (by decide)) (by repeat (first | exact Ap.nil | apply Ap.cons)) ?_)
  intro x5 hJ
  obtain ⟨vN, vI, vB⟩ := x5
  try dsimp only at hJ
  try dsimp only
  rw [show readM ([2, 1, 130, 44, 0, 2, 1, 2] : List UInt8) = (⟨2, [300], [], [1, 2]⟩, (0, 0)) by kernel_rfl]
  refine G.ownFact (v := vN) (by repeat (first | with_reducible exact Sel.here | exact Sel.here | apply Sel.there)) (fun hvN _ => ?_)
  refine G.ownFact (v := vI) (by repeat (first | with_reducible exact Sel.here | exact Sel.here | apply Sel.there)) (fun hvI _ => ?_)
  refine G.ownFact (v := vB) (by repeat (first | with_reducible exact Sel.here | exact Sel.here | apply Sel.there)) (fun hvB _ => ?_)
  have i300 : ∀ x ∈ ([300] : List Int), I64 x := by intro x hx; simp only [List.mem_cons, List.not_mem_nil, or_false] at hx; subst hx; unfold I64; decide
  have a0 : all16 [] := fun x hx => by cases hx
  refine G.op rfl (G.val rfl rfl (pv_move rfl) ?_)
  refine G.op rfl (G.val rfl rfl (pv_extract rfl rfl) ?_)
  refine G.op rfl (G.val rfl rfl (pv_extract rfl rfl) ?_)
  refine G.op rfl (G.alloc (z := .agg #[.int .i64 0, .slice none 0 0, .slice none 0 0, .slice none 0 0]) (cs := [.int .i64 0, .slice none 0 0, .slice none 0 0, .slice none 0 0]) rfl (by kernel_rfl) rfl ?_)
  intro b1
  refine G.op rfl (G.alloc (z := .agg #[.int .i64 0, .int .i64 0]) (cs := [.int .i64 0, .int .i64 0]) rfl (by kernel_rfl) rfl ?_)
  intro b2
  refine G.op rfl (G.storeN (by kernel_rfl) rfl rfl (by first | exact (all1_cons (by first | rfl | with_reducible assumption) (all1_cons (by first | rfl | with_reducible assumption) (all1_cons (by first | rfl | with_reducible assumption) (all1_cons (by first | rfl | with_reducible assumption) all1_nil)))) | exact List.all_eq_true.2 (vByte_one _) | rfl) (by repeat (first | with_reducible exact Sel.here | exact Sel.here | apply Sel.there)) (by first | (simp; done) | exact Nat.le_of_ble_eq_true rfl) ?_)
  refine G.op rfl (G.storeN (by kernel_rfl) rfl rfl (by first | exact (all1_cons (by first | rfl | with_reducible assumption) (all1_cons (by first | rfl | with_reducible assumption) all1_nil)) | exact List.all_eq_true.2 (vByte_one _) | rfl) (by repeat (first | with_reducible exact Sel.here | exact Sel.here | apply Sel.there)) (by first | (simp; done) | exact Nat.le_of_ble_eq_true rfl) ?_)
  refine G.nil ?_
  refine G.nThen ?_
  refine G.seq ?_
  refine G.drawT (nn := 19) (p := []) (rem := 524287) [0, 1, 0, 6, 8, 16, 48, 80, 144, 272, 512, 512, 3584, 4608, 12288, 16384, 49152, 81920, 262143] [0, 1, 0, 6, 8, 16, 48, 80, 144, 256, 512, 512, 3584, 4608, 8192, 16384, 49152, 81920, 131072] (by kernel_rfl) ⟨rfl, by kernel_rfl, by kernel_rfl⟩ (by repeat (first | exact Sub.nil | (apply Sub.cons; (repeat (first | with_reducible exact Sel.here | exact Sel.here | apply Sel.there))))) (by kernel_rfl) (fun hT2 => ?_)
  refine G.takeT hT2 (i := 0) (rem' := 524286) rfl rfl rfl (by kernel_rfl) (fun _ _ _ h => h) rfl (pv_buildSt (z := [.int .i64 0, .slice none 0 0, .slice none 0 0, .slice none 0 0]) (pl := [(0, 1), (1, 1), (2, 1), (3, 1)]) Try.underlying26 (by kernel_rfl) (by kernel_rfl) rfl (by repeat (first | exact Fl.nil | (apply Fl.cons; exact rfl; (first | exact cells_of (by first | rfl | with_reducible assumption) | exact rfl); exact rfl; exact rfl; repeat (first | exact Sn.nil | (apply Sn.cons; repeat (first | exact St.zero | apply St.succ))))))) (by repeat (first | exact Sub.nil | (apply Sub.cons; (repeat (first | with_reducible exact Sel.here | exact Sel.here | apply Sel.there))))) ?_
  refine G.twoT hT2 (i := 1) (j := 2) (rem' := 524284) (rem'' := 524282) (by kernel_rfl) (by kernel_rfl) (by kernel_rfl) ?_ ?_
  · refine G.turnOp rfl rfl (G.cS rfl rfl rfl rfl Try.func25 rfl rfl (by repeat (first | exact Sub.nil | (apply Sub.cons; (repeat (first | with_reducible exact Sel.here | exact Sel.here | apply Sel.there))))) (may3 may_nil may_nil may_nil) (lbytes 5 _ _ _ [] [] []) (by repeat (first | exact Ap.nil | apply Ap.cons)) ?_)
    intro x9 hJ
    try dsimp only at hJ
    try dsimp only
    rw [show noteOut 5 [] [] [] = ([5, 0, 0, 0] : List UInt8) by kernel_rfl]
    refine G.back (by repeat (first | exact Sub.nil | (apply Sub.cons; (repeat (first | with_reducible exact Sel.here | exact Sel.here | apply Sel.there))))) ?_
    refine G.oneT hT2 (i := 2) (rem' := 524280) (by kernel_rfl) (by kernel_rfl) ?_
    refine G.turnOp rfl rfl (G.lit1 (vs := [_, _, _, _]) rfl Try.underlying24 (by kernel_rfl) rfl (by decide) (by decide) rfl rfl ?_)
    intro b10
    refine G.back (by repeat (first | exact Sub.nil | (apply Sub.cons; (repeat (first | with_reducible exact Sel.here | exact Sel.here | apply Sel.there))))) ?_
    refine G.oneT hT2 (i := 3) (rem' := 524272) (by kernel_rfl) (by kernel_rfl) ?_
    refine G.turnOp rfl rfl (G.cR rfl rfl rfl rfl Try.func15 rfl rfl (may2 (may_ownB (by repeat (first | with_reducible exact Sel.here | exact Sel.here | apply Sel.there))) (may_blk (f := vByte) (p := fun _ => True) (xs := ([5, 0, 0, 0] : List UInt8)) (off := 0) (by repeat (first | with_reducible exact Sel.here | exact Sel.here | apply Sel.there)) rfl (fun _ _ => trivial) (by decide) (by decide))) (same_self _ _ ([5, 0, 0, 0] : List UInt8)) ?_)
    refine G.back (by repeat (first | exact Sub.nil | (apply Sub.cons; (repeat (first | with_reducible exact Sel.here | exact Sel.here | apply Sel.there))))) ?_
    refine G.takeT hT2 (i := 4) (rem' := 524256) rfl rfl rfl (by kernel_rfl) (fun _ _ _ h => h) rfl (pv_move rfl) (by repeat (first | exact Sub.nil | (apply Sub.cons; (repeat (first | with_reducible exact Sel.here | exact Sel.here | apply Sel.there))))) ?_
    refine G.takeT hT2 (i := 5) (rem' := 524224) rfl rfl rfl (by kernel_rfl) (fun _ _ _ h => h) rfl (pv_fieldAddrK (sz := 0) (k := 0) Try.underlying39 rfl (by kernel_rfl) rfl rfl) (by repeat (first | exact Sub.nil | (apply Sub.cons; (repeat (first | with_reducible exact Sel.here | exact Sel.here | apply Sel.there))))) ?_
    refine G.oneT hT2 (i := 6) (rem' := 524160) (by kernel_rfl) (by kernel_rfl) ?_
    refine G.turnOp rfl rfl (G.val rfl rfl (pv_load Try.underlying29 rfl rfl (by first | exact blk_cell (by (repeat (first | with_reducible exact Sel.here | exact Sel.here | apply Sel.there)); done) (by rfl) | exact rng_cell (by (repeat (first | with_reducible exact Sel.here | exact Sel.here | apply Sel.there)); done) (by rfl) | exact ro_blk (by assumption) (by rfl) | exact ro_rngC (by assumption) (by rfl) | exact ro_int (by assumption) | exact ro_byte (by assumption) | exact ro_str (by assumption) | with_reducible assumption | assumption)) ?_)
    refine G.back (by repeat (first | exact Sub.nil | (apply Sub.cons; (repeat (first | with_reducible exact Sel.here | exact Sel.here | apply Sel.there))))) ?_
    refine G.takeT hT2 (i := 7) (rem' := 524032) rfl rfl rfl (by kernel_rfl) (fun _ _ _ h => h) rfl ((pv_eql rfl rfl).cast (v' := .bool true) rfl) (by repeat (first | exact Sub.nil | (apply Sub.cons; (repeat (first | with_reducible exact Sel.here | exact Sel.here | apply Sel.there))))) ?_
    refine G.takeT hT2 (i := 8) (rem' := 523776) rfl rfl rfl (by kernel_rfl) (fun _ _ _ h => h) rfl (pv_pick rfl rfl) (by repeat (first | exact Sub.nil | (apply Sub.cons; (repeat (first | with_reducible exact Sel.here | exact Sel.here | apply Sel.there))))) ?_
    refine G.takeT hT2 (i := 9) (rem' := 523264) rfl rfl rfl (by kernel_rfl) (fun _ _ _ h => h) rfl (pv_move rfl) (by repeat (first | exact Sub.nil | (apply Sub.cons; (repeat (first | with_reducible exact Sel.here | exact Sel.here | apply Sel.there))))) ?_
    refine G.takeT hT2 (i := 10) (rem' := 522240) rfl rfl rfl (by kernel_rfl) (fun _ _ _ h => h) rfl (pv_loadN (cs := [_, _, _, _]) Try.underlying26 rfl (by kernel_rfl) rfl (by first | exact blk_range (k := 4) (by (repeat (first | with_reducible exact Sel.here | exact Sel.here | apply Sel.there)); done) (by rfl) | exact rng_range (k := 4) (by (repeat (first | with_reducible exact Sel.here | exact Sel.here | apply Sel.there)); done) (by rfl) | exact ro_range (k := 4) (by assumption) (by rfl) | exact ro_rngR (k := 4) (by assumption) (by rfl))) (by repeat (first | exact Sub.nil | (apply Sub.cons; (repeat (first | with_reducible exact Sel.here | exact Sel.here | apply Sel.there))))) ?_
    refine G.oneT hT2 (i := 11) (rem' := 520192) (by kernel_rfl) (by kernel_rfl) ?_
    refine G.turnOp rfl rfl (G.cS rfl rfl rfl rfl Try.func32 rfl rfl (by repeat (first | exact Sub.nil | (apply Sub.cons; (repeat (first | with_reducible exact Sel.here | exact Sel.here | apply Sel.there))))) may0 (lpart) (by repeat (first | exact Ap.nil | apply Ap.cons)) ?_)
    intro x19 hJ
    obtain ⟨p1, p2⟩ := x19
    try dsimp only at hJ
    try dsimp only
    refine G.back (by repeat (first | exact Sub.nil | (apply Sub.cons; (repeat (first | with_reducible exact Sel.here | exact Sel.here | apply Sel.there))))) ?_
    refine G.oneT hT2 (i := 12) (rem' := 516096) (by kernel_rfl) (by kernel_rfl) ?_
    refine G.turnOp rfl rfl (G.cR rfl rfl rfl rfl Try.func19 rfl rfl (may6 (may_ownN (by repeat (first | with_reducible exact Sel.here | exact Sel.here | apply Sel.there)) i300) (may_ownI (by repeat (first | with_reducible exact Sel.here | exact Sel.here | apply Sel.there)) a0) (may_own (by repeat (first | with_reducible exact Sel.here | exact Sel.here | apply Sel.there)) rfl (fun _ _ => trivial)) (may_blk (f := vInt) (p := I64) (xs := ([300] : List Int)) (off := 0) (by repeat (first | with_reducible exact Sel.here | exact Sel.here | apply Sel.there)) rfl (by intro x hx; simp only [List.mem_cons, List.not_mem_nil, or_false] at hx; subst hx; unfold I64; decide) (by decide) (by decide)) may_nil (may_blk (f := vByte) (p := fun _ => True) (xs := ([1, 2] : List UInt8)) (off := 0) (by repeat (first | with_reducible exact Sel.here | exact Sel.here | apply Sel.there)) rfl (fun _ _ => trivial) (by decide) (by decide))) (sameNote_self 2 _ _ _ _ _ _ [300] [] [1, 2]) ?_)
    refine G.back (by repeat (first | exact Sub.nil | (apply Sub.cons; (repeat (first | with_reducible exact Sel.here | exact Sel.here | apply Sel.there))))) ?_
    refine G.takeT hT2 (i := 13) (rem' := 507904) rfl rfl rfl (by kernel_rfl) (fun _ _ _ h => h) rfl (pv_pick rfl rfl) (by repeat (first | exact Sub.nil | (apply Sub.cons; (repeat (first | with_reducible exact Sel.here | exact Sel.here | apply Sel.there))))) ?_
    refine G.takeT hT2 (i := 14) (rem' := 491520) rfl rfl rfl (by kernel_rfl) (fun _ _ _ h => h) rfl (pv_move rfl) (by repeat (first | exact Sub.nil | (apply Sub.cons; (repeat (first | with_reducible exact Sel.here | exact Sel.here | apply Sel.there))))) ?_
    refine G.oneT hT2 (i := 15) (rem' := 458752) (by kernel_rfl) (by kernel_rfl) ?_
    refine G.turnOp rfl rfl (G.cR rfl rfl rfl rfl Try.func31 rfl rfl may0 (nameF 17) ?_)
    refine G.back (by repeat (first | exact Sub.nil | (apply Sub.cons; (repeat (first | with_reducible exact Sel.here | exact Sel.here | apply Sel.there))))) ?_
    refine G.takeT hT2 (i := 16) (rem' := 393216) rfl rfl rfl (by kernel_rfl) (fun _ _ _ h => h) rfl ((pv_eqlS (b := [104, 97, 118, 101]) rfl rfl).cast (v' := .bool true) (congrArg Value.bool (by kernel_rfl))) (by repeat (first | exact Sub.nil | (apply Sub.cons; (repeat (first | with_reducible exact Sel.here | exact Sel.here | apply Sel.there))))) ?_
    refine G.takeT hT2 (i := 17) (rem' := 262144) rfl rfl rfl (by kernel_rfl) (fun _ _ _ h => h) rfl (pv_pick rfl rfl) (by repeat (first | exact Sub.nil | (apply Sub.cons; (repeat (first | with_reducible exact Sel.here | exact Sel.here | apply Sel.there))))) ?_
    refine G.takeT hT2 (i := 18) (rem' := 0) rfl rfl rfl (by kernel_rfl) (fun _ _ _ h => h) rfl (pv_assign rfl) (by repeat (first | exact Sub.nil | (apply Sub.cons; (repeat (first | with_reducible exact Sel.here | exact Sel.here | apply Sel.there))))) ?_
    refine G.overT hT2 (by kernel_rfl) ?_
    refine G.nThen ?_
    refine G.ret ?_
    exact G.done0G rfl (Rv.tmp rfl Rv.nil) (by first | rfl | exact int_eq (by omega) | (simp; done))
  · refine G.turnOp rfl rfl (G.lit1 (vs := [_, _, _, _]) rfl Try.underlying24 (by kernel_rfl) rfl (by decide) (by decide) rfl rfl ?_)
    intro b10
    refine G.back (by repeat (first | exact Sub.nil | (apply Sub.cons; (repeat (first | with_reducible exact Sel.here | exact Sel.here | apply Sel.there))))) ?_
    refine G.oneT hT2 (i := 1) (rem' := 524280) (by kernel_rfl) (by kernel_rfl) ?_
    refine G.turnOp rfl rfl (G.cS rfl rfl rfl rfl Try.func25 rfl rfl (by repeat (first | exact Sub.nil | (apply Sub.cons; (repeat (first | with_reducible exact Sel.here | exact Sel.here | apply Sel.there))))) (may3 may_nil may_nil may_nil) (lbytes 5 _ _ _ [] [] []) (by repeat (first | exact Ap.nil | apply Ap.cons)) ?_)
    intro x9 hJ
    try dsimp only at hJ
    try dsimp only
    rw [show noteOut 5 [] [] [] = ([5, 0, 0, 0] : List UInt8) by kernel_rfl]
    refine G.back (by repeat (first | exact Sub.nil | (apply Sub.cons; (repeat (first | with_reducible exact Sel.here | exact Sel.here | apply Sel.there))))) ?_
    refine G.oneT hT2 (i := 3) (rem' := 524272) (by kernel_rfl) (by kernel_rfl) ?_
    refine G.turnOp rfl rfl (G.cR rfl rfl rfl rfl Try.func15 rfl rfl (may2 (may_ownB (by repeat (first | with_reducible exact Sel.here | exact Sel.here | apply Sel.there))) (may_blk (f := vByte) (p := fun _ => True) (xs := ([5, 0, 0, 0] : List UInt8)) (off := 0) (by repeat (first | with_reducible exact Sel.here | exact Sel.here | apply Sel.there)) rfl (fun _ _ => trivial) (by decide) (by decide))) (same_self _ _ ([5, 0, 0, 0] : List UInt8)) ?_)
    refine G.back (by repeat (first | exact Sub.nil | (apply Sub.cons; (repeat (first | with_reducible exact Sel.here | exact Sel.here | apply Sel.there))))) ?_
    refine G.takeT hT2 (i := 4) (rem' := 524256) rfl rfl rfl (by kernel_rfl) (fun _ _ _ h => h) rfl (pv_move rfl) (by repeat (first | exact Sub.nil | (apply Sub.cons; (repeat (first | with_reducible exact Sel.here | exact Sel.here | apply Sel.there))))) ?_
    refine G.takeT hT2 (i := 5) (rem' := 524224) rfl rfl rfl (by kernel_rfl) (fun _ _ _ h => h) rfl (pv_fieldAddrK (sz := 0) (k := 0) Try.underlying39 rfl (by kernel_rfl) rfl rfl) (by repeat (first | exact Sub.nil | (apply Sub.cons; (repeat (first | with_reducible exact Sel.here | exact Sel.here | apply Sel.there))))) ?_
    refine G.oneT hT2 (i := 6) (rem' := 524160) (by kernel_rfl) (by kernel_rfl) ?_
    refine G.turnOp rfl rfl (G.val rfl rfl (pv_load Try.underlying29 rfl rfl (by first | exact blk_cell (by (repeat (first | with_reducible exact Sel.here | exact Sel.here | apply Sel.there)); done) (by rfl) | exact rng_cell (by (repeat (first | with_reducible exact Sel.here | exact Sel.here | apply Sel.there)); done) (by rfl) | exact ro_blk (by assumption) (by rfl) | exact ro_rngC (by assumption) (by rfl) | exact ro_int (by assumption) | exact ro_byte (by assumption) | exact ro_str (by assumption) | with_reducible assumption | assumption)) ?_)
    refine G.back (by repeat (first | exact Sub.nil | (apply Sub.cons; (repeat (first | with_reducible exact Sel.here | exact Sel.here | apply Sel.there))))) ?_
    refine G.takeT hT2 (i := 7) (rem' := 524032) rfl rfl rfl (by kernel_rfl) (fun _ _ _ h => h) rfl ((pv_eql rfl rfl).cast (v' := .bool true) rfl) (by repeat (first | exact Sub.nil | (apply Sub.cons; (repeat (first | with_reducible exact Sel.here | exact Sel.here | apply Sel.there))))) ?_
    refine G.takeT hT2 (i := 8) (rem' := 523776) rfl rfl rfl (by kernel_rfl) (fun _ _ _ h => h) rfl (pv_pick rfl rfl) (by repeat (first | exact Sub.nil | (apply Sub.cons; (repeat (first | with_reducible exact Sel.here | exact Sel.here | apply Sel.there))))) ?_
    refine G.takeT hT2 (i := 9) (rem' := 523264) rfl rfl rfl (by kernel_rfl) (fun _ _ _ h => h) rfl (pv_move rfl) (by repeat (first | exact Sub.nil | (apply Sub.cons; (repeat (first | with_reducible exact Sel.here | exact Sel.here | apply Sel.there))))) ?_
    refine G.takeT hT2 (i := 10) (rem' := 522240) rfl rfl rfl (by kernel_rfl) (fun _ _ _ h => h) rfl (pv_loadN (cs := [_, _, _, _]) Try.underlying26 rfl (by kernel_rfl) rfl (by first | exact blk_range (k := 4) (by (repeat (first | with_reducible exact Sel.here | exact Sel.here | apply Sel.there)); done) (by rfl) | exact rng_range (k := 4) (by (repeat (first | with_reducible exact Sel.here | exact Sel.here | apply Sel.there)); done) (by rfl) | exact ro_range (k := 4) (by assumption) (by rfl) | exact ro_rngR (k := 4) (by assumption) (by rfl))) (by repeat (first | exact Sub.nil | (apply Sub.cons; (repeat (first | with_reducible exact Sel.here | exact Sel.here | apply Sel.there))))) ?_
    refine G.oneT hT2 (i := 11) (rem' := 520192) (by kernel_rfl) (by kernel_rfl) ?_
    refine G.turnOp rfl rfl (G.cS rfl rfl rfl rfl Try.func32 rfl rfl (by repeat (first | exact Sub.nil | (apply Sub.cons; (repeat (first | with_reducible exact Sel.here | exact Sel.here | apply Sel.there))))) may0 (lpart) (by repeat (first | exact Ap.nil | apply Ap.cons)) ?_)
    intro x19 hJ
    obtain ⟨p1, p2⟩ := x19
    try dsimp only at hJ
    try dsimp only
    refine G.back (by repeat (first | exact Sub.nil | (apply Sub.cons; (repeat (first | with_reducible exact Sel.here | exact Sel.here | apply Sel.there))))) ?_
    refine G.oneT hT2 (i := 12) (rem' := 516096) (by kernel_rfl) (by kernel_rfl) ?_
    refine G.turnOp rfl rfl (G.cR rfl rfl rfl rfl Try.func19 rfl rfl (may6 (may_ownN (by repeat (first | with_reducible exact Sel.here | exact Sel.here | apply Sel.there)) i300) (may_ownI (by repeat (first | with_reducible exact Sel.here | exact Sel.here | apply Sel.there)) a0) (may_own (by repeat (first | with_reducible exact Sel.here | exact Sel.here | apply Sel.there)) rfl (fun _ _ => trivial)) (may_blk (f := vInt) (p := I64) (xs := ([300] : List Int)) (off := 0) (by repeat (first | with_reducible exact Sel.here | exact Sel.here | apply Sel.there)) rfl (by intro x hx; simp only [List.mem_cons, List.not_mem_nil, or_false] at hx; subst hx; unfold I64; decide) (by decide) (by decide)) may_nil (may_blk (f := vByte) (p := fun _ => True) (xs := ([1, 2] : List UInt8)) (off := 0) (by repeat (first | with_reducible exact Sel.here | exact Sel.here | apply Sel.there)) rfl (fun _ _ => trivial) (by decide) (by decide))) (sameNote_self 2 _ _ _ _ _ _ [300] [] [1, 2]) ?_)
    refine G.back (by repeat (first | exact Sub.nil | (apply Sub.cons; (repeat (first | with_reducible exact Sel.here | exact Sel.here | apply Sel.there))))) ?_
    refine G.takeT hT2 (i := 13) (rem' := 507904) rfl rfl rfl (by kernel_rfl) (fun _ _ _ h => h) rfl (pv_pick rfl rfl) (by repeat (first | exact Sub.nil | (apply Sub.cons; (repeat (first | with_reducible exact Sel.here | exact Sel.here | apply Sel.there))))) ?_
    refine G.takeT hT2 (i := 14) (rem' := 491520) rfl rfl rfl (by kernel_rfl) (fun _ _ _ h => h) rfl (pv_move rfl) (by repeat (first | exact Sub.nil | (apply Sub.cons; (repeat (first | with_reducible exact Sel.here | exact Sel.here | apply Sel.there))))) ?_
    refine G.oneT hT2 (i := 15) (rem' := 458752) (by kernel_rfl) (by kernel_rfl) ?_
    refine G.turnOp rfl rfl (G.cR rfl rfl rfl rfl Try.func31 rfl rfl may0 (nameF 17) ?_)
    refine G.back (by repeat (first | exact Sub.nil | (apply Sub.cons; (repeat (first | with_reducible exact Sel.here | exact Sel.here | apply Sel.there))))) ?_
    refine G.takeT hT2 (i := 16) (rem' := 393216) rfl rfl rfl (by kernel_rfl) (fun _ _ _ h => h) rfl ((pv_eqlS (b := [104, 97, 118, 101]) rfl rfl).cast (v' := .bool true) (congrArg Value.bool (by kernel_rfl))) (by repeat (first | exact Sub.nil | (apply Sub.cons; (repeat (first | with_reducible exact Sel.here | exact Sel.here | apply Sel.there))))) ?_
    refine G.takeT hT2 (i := 17) (rem' := 262144) rfl rfl rfl (by kernel_rfl) (fun _ _ _ h => h) rfl (pv_pick rfl rfl) (by repeat (first | exact Sub.nil | (apply Sub.cons; (repeat (first | with_reducible exact Sel.here | exact Sel.here | apply Sel.there))))) ?_
    refine G.takeT hT2 (i := 18) (rem' := 0) rfl rfl rfl (by kernel_rfl) (fun _ _ _ h => h) rfl (pv_assign rfl) (by repeat (first | exact Sub.nil | (apply Sub.cons; (repeat (first | with_reducible exact Sel.here | exact Sel.here | apply Sel.there))))) ?_
    refine G.overT hT2 (by kernel_rfl) ?_
    refine G.nThen ?_
    refine G.ret ?_
    exact G.done0G rfl (Rv.tmp rfl Rv.nil) (by first | rfl | exact int_eq (by omega) | (simp; done))
set_option maxRecDepth 20000 in
set_option maxHeartbeats 4000000 in

theorem fails10 {Pv : Nat → Prop} (v : Value) (b : List UInt8) (e : Nat) (p : Int) (hb : b.length ≤ 1000000000) (h : readM b = (nt0, (e, p))) : Tr Try.prog 27 #[v, .int .i64 (e : Int), .int .i64 p] [slc rByte Pv v b] [] (T0 (.bool true)) := by
  refine Tr.of (l := [(0, v), (1, .int .i64 (e : Int)), (2, .int .i64 p)]) Try.func27 rfl (n := 24) rfl (.cons rfl (.cons rfl (.cons rfl .nil))) (fun w0 hro => ?_)
  have hv := ro1 hro
  refine G.seq ?_
  refine G.region ?_
  refine G.op rfl (G.val rfl rfl (pv_assign rfl) ?_)
  refine G.nil ?_
  refine G.nThen ?_
  refine G.seq ?_
  refine G.region ?_
  refine G.op rfl (G.val rfl rfl (pv_move rfl) ?_)
  refine G.op rfl (G.cS rfl rfl rfl rfl Try.func22 rfl rfl (by repeat (first | exact Sub.nil | (apply Sub.cons; (repeat (first | with_reducible exact Sel.here | exact Sel.here | apply Sel.there))))) (may1 (by first | exact .old (by first | with_reducible assumption | assumption) | exact Sel.may (by (repeat (first | with_reducible exact Sel.here | exact Sel.here | apply Sel.there)); done) | exact may_own (by (repeat (first | with_reducible exact Sel.here | exact Sel.here | apply Sel.there)); done) rfl (fun _ _ => trivial) | exact may_ownB (by (repeat (first | with_reducible exact Sel.here | exact Sel.here | apply Sel.there)); done) | exact may_nil | exact may_ownI (by (repeat (first | with_reducible exact Sel.here | exact Sel.here | apply Sel.there)); done) (by assumption) | exact may_ownN (by (repeat (first | with_reducible exact Sel.here | exact Sel.here | apply Sel.there)); done) (by assumption))) (readF _ b hb) (by repeat (first | exact Ap.nil | apply Ap.cons)) ?_)
  intro x11 hJ
  obtain ⟨vN, vI, vB⟩ := x11
  try dsimp only at hJ
  try dsimp only
  rw [h]
  refine G.ownFact (v := vN) (by repeat (first | with_reducible exact Sel.here | exact Sel.here | apply Sel.there)) (fun hvN _ => ?_)
  refine G.ownFact (v := vI) (by repeat (first | with_reducible exact Sel.here | exact Sel.here | apply Sel.there)) (fun hvI _ => ?_)
  refine G.ownFact (v := vB) (by repeat (first | with_reducible exact Sel.here | exact Sel.here | apply Sel.there)) (fun hvB _ => ?_)
  have i0 : ∀ x ∈ ([] : List Int), I64 x := fun x hx => by cases hx
  have a0 : all16 [] := fun x hx => by cases hx
  refine G.op rfl (G.val rfl rfl (pv_move rfl) ?_)
  refine G.op rfl (G.val rfl rfl (pv_extract rfl rfl) ?_)
  refine G.op rfl (G.val rfl rfl (pv_extract rfl rfl) ?_)
  refine G.op rfl (G.alloc (z := .agg #[.int .i64 0, .slice none 0 0, .slice none 0 0, .slice none 0 0]) (cs := [.int .i64 0, .slice none 0 0, .slice none 0 0, .slice none 0 0]) rfl (by kernel_rfl) rfl ?_)
  intro b7
  refine G.op rfl (G.alloc (z := .agg #[.int .i64 0, .int .i64 0]) (cs := [.int .i64 0, .int .i64 0]) rfl (by kernel_rfl) rfl ?_)
  intro b8
  refine G.op rfl (G.storeN (by kernel_rfl) rfl rfl (by first | exact (all1_cons (by first | rfl | with_reducible assumption) (all1_cons (by first | rfl | with_reducible assumption) (all1_cons (by first | rfl | with_reducible assumption) (all1_cons (by first | rfl | with_reducible assumption) all1_nil)))) | exact List.all_eq_true.2 (vByte_one _) | rfl) (by repeat (first | with_reducible exact Sel.here | exact Sel.here | apply Sel.there)) (by first | (simp; done) | exact Nat.le_of_ble_eq_true rfl) ?_)
  refine G.op rfl (G.storeN (by kernel_rfl) rfl rfl (by first | exact (all1_cons (by first | rfl | with_reducible assumption) (all1_cons (by first | rfl | with_reducible assumption) all1_nil)) | exact List.all_eq_true.2 (vByte_one _) | rfl) (by repeat (first | with_reducible exact Sel.here | exact Sel.here | apply Sel.there)) (by first | (simp; done) | exact Nat.le_of_ble_eq_true rfl) ?_)
  refine G.nil ?_
  refine G.nThen ?_
  refine G.seq ?_
  refine G.region ?_
  refine G.op rfl (G.val rfl rfl (pv_loadN (cs := [_, _, _, _]) Try.underlying26 rfl (by kernel_rfl) rfl (by first | exact blk_range (k := 4) (by (repeat (first | with_reducible exact Sel.here | exact Sel.here | apply Sel.there)); done) (by rfl) | exact rng_range (k := 4) (by (repeat (first | with_reducible exact Sel.here | exact Sel.here | apply Sel.there)); done) (by rfl) | exact ro_range (k := 4) (by assumption) (by rfl) | exact ro_rngR (k := 4) (by assumption) (by rfl))) ?_)
  refine G.op rfl (G.val rfl rfl (pv_buildSt (z := [.int .i64 0, .slice none 0 0, .slice none 0 0, .slice none 0 0]) (pl := [(0, 1), (1, 1), (2, 1), (3, 1)]) Try.underlying26 (by kernel_rfl) (by kernel_rfl) rfl (by repeat (first | exact Fl.nil | (apply Fl.cons; exact rfl; (first | exact cells_of (by first | rfl | with_reducible assumption) | exact rfl); exact rfl; exact rfl; repeat (first | exact Sn.nil | (apply Sn.cons; repeat (first | exact St.zero | apply St.succ))))))) ?_)
  refine G.op rfl (G.cR rfl rfl rfl rfl Try.func19 rfl rfl (may6 (may_ownN (xs := []) (by repeat (first | with_reducible exact Sel.here | exact Sel.here | apply Sel.there)) i0) (may_ownI (ids := []) (by repeat (first | with_reducible exact Sel.here | exact Sel.here | apply Sel.there)) a0) (may_own (xs := []) (by repeat (first | with_reducible exact Sel.here | exact Sel.here | apply Sel.there)) rfl (fun _ _ => trivial)) may_nil may_nil may_nil) (sameNote_self 0 _ _ _ _ _ _ [] [] []) ?_)
  refine G.op rfl (G.val rfl rfl (pv_move rfl) ?_)
  refine G.want rfl rfl rfl (G.val rfl rfl (pv_loadN (cs := [_, _]) Try.underlying39 rfl (by kernel_rfl) rfl (by first | exact blk_range (k := 2) (by (repeat (first | with_reducible exact Sel.here | exact Sel.here | apply Sel.there)); done) (by rfl) | exact rng_range (k := 2) (by (repeat (first | with_reducible exact Sel.here | exact Sel.here | apply Sel.there)); done) (by rfl) | exact ro_range (k := 2) (by assumption) (by rfl) | exact ro_rngR (k := 2) (by assumption) (by rfl))) ?_)
  refine G.want rfl rfl rfl (G.val rfl rfl (pv_move rfl) ?_)
  refine G.want rfl rfl rfl (G.val rfl rfl (pv_move rfl) ?_)
  refine G.want rfl rfl rfl (G.val rfl rfl (pv_buildSt (z := [.int .i64 0, .int .i64 0]) (pl := [(0, 1), (1, 1)]) Try.underlying39 (by kernel_rfl) (by kernel_rfl) rfl (by repeat (first | exact Fl.nil | (apply Fl.cons; exact rfl; (first | exact cells_of (by first | rfl | with_reducible assumption) | exact rfl); exact rfl; exact rfl; repeat (first | exact Sn.nil | (apply Sn.cons; repeat (first | exact St.zero | apply St.succ))))))) ?_)
  refine G.want rfl rfl rfl (G.val rfl rfl ((pv_eqlSt (xs := [.int .i64 (e : Int), .int .i64 p]) (ys := [.int .i64 (e : Int), .int .i64 p]) (r := decide (((e : Int) : Int) = (e : Int)) && (decide ((p : Int) = p) && true)) Try.underlying39 (by kernel_rfl) (by kernel_rfl) rfl rfl (by kernel_rfl)).cast (v' := .bool true) (congrArg Value.bool (by simp))) ?_)
  refine G.op rfl (G.val rfl rfl (pv_pick rfl rfl) ?_)
  refine G.op rfl (G.val rfl rfl (pv_assign rfl) ?_)
  refine G.nil ?_
  refine G.nThen ?_
  refine G.ret ?_
  exact G.done0G rfl (Rv.tmp rfl Rv.nil) (by first | rfl | exact int_eq (by omega) | (simp; done))
end Go.Proofs.Ytakcffhknnailaa
