/- Contracts of the statements' kit for notes, and of the notes' shapes. Conditions: lists lie in memory; what is copied is not long. -/
import Derived.Test.YtakcffhknnailaaNA
set_option linter.unusedVariables false
set_option linter.unusedSimpArgs false
namespace Go.Proofs.Ytakcffhknnailaa
open Go.RowKit

set_option maxRecDepth 20000 in

theorem sameNote_tr {Pv1 Pv2 Pv3 Pu1 Pu2 Pu3 : Nat → Prop} (k k' : Int) (v1 v2 v3 u1 u2 u3 : Value) (ns ns' : List Int) (ids ids' : List (List UInt8)) (bs bs' : List UInt8) : Tr Try.prog 19 #[.agg #[.int .i64 k, v1, v2, v3], .agg #[.int .i64 k', u1, u2, u3]] [slc rInt Pv1 v1 ns, slc rID Pv2 v2 ids, slc rByte Pv3 v3 bs, slc rInt Pu1 u1 ns', slc rID Pu2 u2 ids', slc rByte Pu3 u3 bs'] [] (T0 (.bool (decide (k = k' ∧ ns = ns' ∧ ids = ids' ∧ bs = bs')))) := by
  refine Tr.of (l := [(0, .agg #[.int .i64 k, v1, v2, v3]), (1, .agg #[.int .i64 k', u1, u2, u3])]) Try.func19 rfl (n := 31) rfl (.cons rfl (.cons rfl .nil)) (fun w0 hro => ?_)
  obtain ⟨ha, hb, hc, hd, he, hf⟩ := ro6 hro
  have oa := Ro.open ha
  have ob := Ro.open hb
  have oc := Ro.open hc
  have od := Ro.open hd
  have oe := Ro.open he
  have og := Ro.open hf
  obtain ⟨aa, ca, qa, oa, rfl, -⟩ := oa
  obtain ⟨ab, cb, qb, ob, rfl, -⟩ := ob
  obtain ⟨ac, cc, qc, oc, rfl, -⟩ := oc
  obtain ⟨ad, cd, qd, od, rfl, -⟩ := od
  obtain ⟨ae, ce, qe, oe, rfl, -⟩ := oe
  obtain ⟨ag, cg, qg, og, rfl, -⟩ := og
  refine G.seq ?_
  refine G.region ?_
  refine G.op rfl (G.box rfl rfl (cs := [_, _, _, _]) rfl ?_)
  intro b2
  refine G.op rfl (G.box rfl rfl (cs := [_, _, _, _]) rfl ?_)
  intro b3
  refine G.op rfl (G.val rfl rfl (pv_assign rfl) ?_)
  refine G.nil ?_
  refine G.nThen ?_
  refine G.seq ?_
  refine G.region ?_
  refine G.op rfl (G.val rfl rfl (pv_fieldAddrK (sz := 0) (k := 0) Try.underlying26 rfl (by kernel_rfl) rfl rfl) ?_)
  refine G.op rfl (G.val rfl rfl (pv_load Try.underlying3 rfl rfl (by first | exact blk_cell (by (repeat (first | with_reducible exact Sel.here | exact Sel.here | apply Sel.there)); done) (by rfl) | exact rng_cell (by (repeat (first | with_reducible exact Sel.here | exact Sel.here | apply Sel.there)); done) (by rfl) | exact ro_blk (by assumption) (by rfl) | exact ro_rngC (by assumption) (by rfl) | exact ro_int (by assumption) | exact ro_byte (by assumption) | exact ro_str (by assumption) | assumption)) ?_)
  refine G.op rfl (G.val rfl rfl (pv_fieldAddrK (sz := 0) (k := 0) Try.underlying26 rfl (by kernel_rfl) rfl rfl) ?_)
  refine G.op rfl (G.val rfl rfl (pv_load Try.underlying3 rfl rfl (by first | exact blk_cell (by (repeat (first | with_reducible exact Sel.here | exact Sel.here | apply Sel.there)); done) (by rfl) | exact rng_cell (by (repeat (first | with_reducible exact Sel.here | exact Sel.here | apply Sel.there)); done) (by rfl) | exact ro_blk (by assumption) (by rfl) | exact ro_rngC (by assumption) (by rfl) | exact ro_int (by assumption) | exact ro_byte (by assumption) | exact ro_str (by assumption) | assumption)) ?_)
  refine G.op rfl (G.val rfl rfl (pv_eql rfl rfl) ?_)
  refine G.op rfl (G.val rfl rfl (pv_move rfl) ?_)
  refine G.partP (t := 10) rfl (fun h10 => ?_) (fun h10 => ?_)
  · refine G.want rfl rfl rfl (G.val rfl rfl (pv_fieldAddrK (sz := 0) (k := 1) Try.underlying26 rfl (by kernel_rfl) rfl rfl) ?_)
    refine G.want rfl rfl rfl (G.val rfl rfl (pv_load Try.underlying22 rfl rfl (by first | exact blk_cell (by (repeat (first | with_reducible exact Sel.here | exact Sel.here | apply Sel.there)); done) (by rfl) | exact rng_cell (by (repeat (first | with_reducible exact Sel.here | exact Sel.here | apply Sel.there)); done) (by rfl) | exact ro_blk (by assumption) (by rfl) | exact ro_rngC (by assumption) (by rfl) | exact ro_int (by assumption) | exact ro_byte (by assumption) | exact ro_str (by assumption) | assumption)) ?_)
    refine G.want rfl rfl rfl (G.val rfl rfl (pv_fieldAddrK (sz := 0) (k := 1) Try.underlying26 rfl (by kernel_rfl) rfl rfl) ?_)
    refine G.want rfl rfl rfl (G.val rfl rfl (pv_load Try.underlying22 rfl rfl (by first | exact blk_cell (by (repeat (first | with_reducible exact Sel.here | exact Sel.here | apply Sel.there)); done) (by rfl) | exact rng_cell (by (repeat (first | with_reducible exact Sel.here | exact Sel.here | apply Sel.there)); done) (by rfl) | exact ro_blk (by assumption) (by rfl) | exact ro_rngC (by assumption) (by rfl) | exact ro_int (by assumption) | exact ro_byte (by assumption) | exact ro_str (by assumption) | assumption)) ?_)
    refine G.want rfl rfl rfl (G.cR rfl rfl rfl rfl Try.func45 rfl rfl (may2 (by first | exact .old (by assumption) | exact Sel.may (by (repeat (first | with_reducible exact Sel.here | exact Sel.here | apply Sel.there)); done) | exact may_own (by (repeat (first | with_reducible exact Sel.here | exact Sel.here | apply Sel.there)); done) rfl (fun _ _ => trivial) | exact may_ownB (by (repeat (first | with_reducible exact Sel.here | exact Sel.here | apply Sel.there)); done) | exact may_ownI (by (repeat (first | with_reducible exact Sel.here | exact Sel.here | apply Sel.there)); done) (by assumption) | exact may_ownN (by (repeat (first | with_reducible exact Sel.here | exact Sel.here | apply Sel.there)); done) (by assumption)) (by first | exact .old (by assumption) | exact Sel.may (by (repeat (first | with_reducible exact Sel.here | exact Sel.here | apply Sel.there)); done) | exact may_own (by (repeat (first | with_reducible exact Sel.here | exact Sel.here | apply Sel.there)); done) rfl (fun _ _ => trivial) | exact may_ownB (by (repeat (first | with_reducible exact Sel.here | exact Sel.here | apply Sel.there)); done) | exact may_ownI (by (repeat (first | with_reducible exact Sel.here | exact Sel.here | apply Sel.there)); done) (by assumption) | exact may_ownN (by (repeat (first | with_reducible exact Sel.here | exact Sel.here | apply Sel.there)); done) (by assumption))) (sameInts_tr _ _ _ _) ?_)
    refine G.op rfl (G.val rfl rfl (pv_pick rfl rfl) ?_)
    refine G.op rfl (G.val rfl rfl (pv_move rfl) ?_)
    refine G.partP (t := 17) rfl (fun h17 => ?_) (fun h17 => ?_)
    · refine G.want rfl rfl rfl (G.val rfl rfl (pv_fieldAddrK (sz := 0) (k := 2) Try.underlying26 rfl (by kernel_rfl) rfl rfl) ?_)
      refine G.want rfl rfl rfl (G.val rfl rfl (pv_load Try.underlying23 rfl rfl (by first | exact blk_cell (by (repeat (first | with_reducible exact Sel.here | exact Sel.here | apply Sel.there)); done) (by rfl) | exact rng_cell (by (repeat (first | with_reducible exact Sel.here | exact Sel.here | apply Sel.there)); done) (by rfl) | exact ro_blk (by assumption) (by rfl) | exact ro_rngC (by assumption) (by rfl) | exact ro_int (by assumption) | exact ro_byte (by assumption) | exact ro_str (by assumption) | assumption)) ?_)
      refine G.want rfl rfl rfl (G.val rfl rfl (pv_fieldAddrK (sz := 0) (k := 2) Try.underlying26 rfl (by kernel_rfl) rfl rfl) ?_)
      refine G.want rfl rfl rfl (G.val rfl rfl (pv_load Try.underlying23 rfl rfl (by first | exact blk_cell (by (repeat (first | with_reducible exact Sel.here | exact Sel.here | apply Sel.there)); done) (by rfl) | exact rng_cell (by (repeat (first | with_reducible exact Sel.here | exact Sel.here | apply Sel.there)); done) (by rfl) | exact ro_blk (by assumption) (by rfl) | exact ro_rngC (by assumption) (by rfl) | exact ro_int (by assumption) | exact ro_byte (by assumption) | exact ro_str (by assumption) | assumption)) ?_)
      refine G.want rfl rfl rfl (G.cR rfl rfl rfl rfl Try.func46 rfl rfl (may2 (by first | exact .old (by assumption) | exact Sel.may (by (repeat (first | with_reducible exact Sel.here | exact Sel.here | apply Sel.there)); done) | exact may_own (by (repeat (first | with_reducible exact Sel.here | exact Sel.here | apply Sel.there)); done) rfl (fun _ _ => trivial) | exact may_ownB (by (repeat (first | with_reducible exact Sel.here | exact Sel.here | apply Sel.there)); done) | exact may_ownI (by (repeat (first | with_reducible exact Sel.here | exact Sel.here | apply Sel.there)); done) (by assumption) | exact may_ownN (by (repeat (first | with_reducible exact Sel.here | exact Sel.here | apply Sel.there)); done) (by assumption)) (by first | exact .old (by assumption) | exact Sel.may (by (repeat (first | with_reducible exact Sel.here | exact Sel.here | apply Sel.there)); done) | exact may_own (by (repeat (first | with_reducible exact Sel.here | exact Sel.here | apply Sel.there)); done) rfl (fun _ _ => trivial) | exact may_ownB (by (repeat (first | with_reducible exact Sel.here | exact Sel.here | apply Sel.there)); done) | exact may_ownI (by (repeat (first | with_reducible exact Sel.here | exact Sel.here | apply Sel.there)); done) (by assumption) | exact may_ownN (by (repeat (first | with_reducible exact Sel.here | exact Sel.here | apply Sel.there)); done) (by assumption))) (sameIDs_tr _ _ _ _) ?_)
      refine G.op rfl (G.val rfl rfl (pv_pick rfl rfl) ?_)
      refine G.op rfl (G.val rfl rfl (pv_move rfl) ?_)
      refine G.partP (t := 24) rfl (fun h24 => ?_) (fun h24 => ?_)
      · refine G.want rfl rfl rfl (G.val rfl rfl (pv_fieldAddrK (sz := 0) (k := 3) Try.underlying26 rfl (by kernel_rfl) rfl rfl) ?_)
        refine G.want rfl rfl rfl (G.val rfl rfl (pv_load Try.underlying24 rfl rfl (by first | exact blk_cell (by (repeat (first | with_reducible exact Sel.here | exact Sel.here | apply Sel.there)); done) (by rfl) | exact rng_cell (by (repeat (first | with_reducible exact Sel.here | exact Sel.here | apply Sel.there)); done) (by rfl) | exact ro_blk (by assumption) (by rfl) | exact ro_rngC (by assumption) (by rfl) | exact ro_int (by assumption) | exact ro_byte (by assumption) | exact ro_str (by assumption) | assumption)) ?_)
        refine G.want rfl rfl rfl (G.val rfl rfl (pv_fieldAddrK (sz := 0) (k := 3) Try.underlying26 rfl (by kernel_rfl) rfl rfl) ?_)
        refine G.want rfl rfl rfl (G.val rfl rfl (pv_load Try.underlying24 rfl rfl (by first | exact blk_cell (by (repeat (first | with_reducible exact Sel.here | exact Sel.here | apply Sel.there)); done) (by rfl) | exact rng_cell (by (repeat (first | with_reducible exact Sel.here | exact Sel.here | apply Sel.there)); done) (by rfl) | exact ro_blk (by assumption) (by rfl) | exact ro_rngC (by assumption) (by rfl) | exact ro_int (by assumption) | exact ro_byte (by assumption) | exact ro_str (by assumption) | assumption)) ?_)
        refine G.want rfl rfl rfl (G.cR rfl rfl rfl rfl Try.func15 rfl rfl (may2 (by first | exact .old (by assumption) | exact Sel.may (by (repeat (first | with_reducible exact Sel.here | exact Sel.here | apply Sel.there)); done) | exact may_own (by (repeat (first | with_reducible exact Sel.here | exact Sel.here | apply Sel.there)); done) rfl (fun _ _ => trivial) | exact may_ownB (by (repeat (first | with_reducible exact Sel.here | exact Sel.here | apply Sel.there)); done) | exact may_ownI (by (repeat (first | with_reducible exact Sel.here | exact Sel.here | apply Sel.there)); done) (by assumption) | exact may_ownN (by (repeat (first | with_reducible exact Sel.here | exact Sel.here | apply Sel.there)); done) (by assumption)) (by first | exact .old (by assumption) | exact Sel.may (by (repeat (first | with_reducible exact Sel.here | exact Sel.here | apply Sel.there)); done) | exact may_own (by (repeat (first | with_reducible exact Sel.here | exact Sel.here | apply Sel.there)); done) rfl (fun _ _ => trivial) | exact may_ownB (by (repeat (first | with_reducible exact Sel.here | exact Sel.here | apply Sel.there)); done) | exact may_ownI (by (repeat (first | with_reducible exact Sel.here | exact Sel.here | apply Sel.there)); done) (by assumption) | exact may_ownN (by (repeat (first | with_reducible exact Sel.here | exact Sel.here | apply Sel.there)); done) (by assumption))) (same_tr _ _ _ _) ?_)
        refine G.op rfl (G.val rfl rfl (pv_pick rfl rfl) ?_)
        refine G.op rfl (G.val rfl rfl (pv_assign rfl) ?_)
        refine G.nil ?_
        refine G.nThen ?_
        refine G.ret ?_
        exact G.done1 rfl rfl .nil ⟨congrArg Value.bool (by simp [*]), rfl⟩
      · refine G.pass rfl rfl rfl rfl rfl rfl ?_
        refine G.pass rfl rfl rfl rfl rfl rfl ?_
        refine G.pass rfl rfl rfl rfl rfl rfl ?_
        refine G.pass rfl rfl rfl rfl rfl rfl ?_
        refine G.pass rfl rfl rfl rfl rfl rfl ?_
        refine G.op rfl (G.val rfl rfl (pv_pick rfl rfl) ?_)
        refine G.op rfl (G.val rfl rfl (pv_assign rfl) ?_)
        refine G.nil ?_
        refine G.nThen ?_
        refine G.ret ?_
        exact G.done1 rfl rfl .nil ⟨congrArg Value.bool (by simp [*]), rfl⟩
    · refine G.pass rfl rfl rfl rfl rfl rfl ?_
      refine G.pass rfl rfl rfl rfl rfl rfl ?_
      refine G.pass rfl rfl rfl rfl rfl rfl ?_
      refine G.pass rfl rfl rfl rfl rfl rfl ?_
      refine G.pass rfl rfl rfl rfl rfl rfl ?_
      refine G.op rfl (G.val rfl rfl (pv_pick rfl rfl) ?_)
      refine G.op rfl (G.val rfl rfl (pv_move rfl) ?_)
      refine G.pass rfl rfl rfl rfl rfl rfl ?_
      refine G.pass rfl rfl rfl rfl rfl rfl ?_
      refine G.pass rfl rfl rfl rfl rfl rfl ?_
      refine G.pass rfl rfl rfl rfl rfl rfl ?_
      refine G.pass rfl rfl rfl rfl rfl rfl ?_
      refine G.op rfl (G.val rfl rfl (pv_pick rfl rfl) ?_)
      refine G.op rfl (G.val rfl rfl (pv_assign rfl) ?_)
      refine G.nil ?_
      refine G.nThen ?_
      refine G.ret ?_
      exact G.done1 rfl rfl .nil ⟨congrArg Value.bool (by simp [*]), rfl⟩
  · refine G.pass rfl rfl rfl rfl rfl rfl ?_
    refine G.pass rfl rfl rfl rfl rfl rfl ?_
    refine G.pass rfl rfl rfl rfl rfl rfl ?_
    refine G.pass rfl rfl rfl rfl rfl rfl ?_
    refine G.pass rfl rfl rfl rfl rfl rfl ?_
    refine G.op rfl (G.val rfl rfl (pv_pick rfl rfl) ?_)
    refine G.op rfl (G.val rfl rfl (pv_move rfl) ?_)
    refine G.pass rfl rfl rfl rfl rfl rfl ?_
    refine G.pass rfl rfl rfl rfl rfl rfl ?_
    refine G.pass rfl rfl rfl rfl rfl rfl ?_
    refine G.pass rfl rfl rfl rfl rfl rfl ?_
    refine G.pass rfl rfl rfl rfl rfl rfl ?_
    refine G.op rfl (G.val rfl rfl (pv_pick rfl rfl) ?_)
    refine G.op rfl (G.val rfl rfl (pv_move rfl) ?_)
    refine G.pass rfl rfl rfl rfl rfl rfl ?_
    refine G.pass rfl rfl rfl rfl rfl rfl ?_
    refine G.pass rfl rfl rfl rfl rfl rfl ?_
    refine G.pass rfl rfl rfl rfl rfl rfl ?_
    refine G.pass rfl rfl rfl rfl rfl rfl ?_
    refine G.op rfl (G.val rfl rfl (pv_pick rfl rfl) ?_)
    refine G.op rfl (G.val rfl rfl (pv_assign rfl) ?_)
    refine G.nil ?_
    refine G.nThen ?_
    refine G.ret ?_
    exact G.done1 rfl rfl .nil ⟨congrArg Value.bool (by simp [*]), rfl⟩
set_option maxRecDepth 20000 in

theorem copyBytes_tr {Pv : Nat → Prop} (v : Value) (a : List UInt8) (ha : a.length ≤ 1000000000) : Tr Try.prog 28 #[v] [slc rByte Pv v a] [] (TX (fun _ : Value => True) (fun x => x) (fun x => [own 5 1 x a.length (a.map vByte)])) := by
  refine Tr.of (l := [(0, v)]) Try.func28 rfl (n := 6) rfl (.cons rfl .nil) (fun w0 hro => ?_)
  have hv := ro1 hro
  obtain ⟨av, cv, qv, ov, rfl, -⟩ := Ro.open hv
  refine G.seq ?_
  refine G.region ?_
  refine G.op rfl (G.val rfl rfl (pv_assign rfl) ?_)
  refine G.nil ?_
  refine G.nThen ?_
  refine G.seq ?_
  refine G.region ?_
  refine G.op rfl (G.lit0 rfl Try.underlying24 (by kernel_rfl) rfl ?_)
  intro b3
  refine G.ownBlk (b := b3) (k := 0) (sz := 1) (by repeat (first | with_reducible exact Sel.here | exact Sel.here | apply Sel.there)) rfl (by omega) ?_
  refine G.op rfl (G.val rfl rfl (pv_move rfl) ?_)
  refine G.op rfl (G.appendS (k := 0) (cs := []) (xs := a) (f := vByte) (p := fun _ => True) (Ps := Pv) rfl Try.underlying24 Try.infoByte' rfl rfl (by repeat (first | with_reducible exact Sel.here | exact Sel.here | apply Sel.there)) (ro_sl hv) (vByte_one _) (by omega) (by omega) ?_)
  intro v'
  rw [Nat.zero_add a.length, List.nil_append]
  refine G.op rfl (G.val rfl rfl (pv_assign rfl) ?_)
  refine G.nil ?_
  refine G.nThen ?_
  refine G.ret ?_
  exact G.doneX1 (v') (by first | exact trivial | ((try dsimp only); exact trivial)) rfl rfl (by first | rfl | exact int_eq (by omega) | (simp; done)) (by repeat (first | exact Sub.nil | (apply Sub.cons; (repeat (first | with_reducible exact Sel.here | exact Sel.here | apply Sel.there)))))
set_option maxRecDepth 20000 in

theorem copyNote_tr {Pv1 Pv2 Pv3 : Nat → Prop} (k : Int) (v1 v2 v3 : Value) (ns : List Int) (ids : List (List UInt8)) (bs : List UInt8) (h1 : ns.length ≤ 1000000) (h2 : ids.length ≤ 1000000) (h3 : bs.length ≤ 1000000) : Tr Try.prog 12 #[.agg #[.int .i64 k, v1, v2, v3]] [slc rInt Pv1 v1 ns, slc rID Pv2 v2 ids, slc rByte Pv3 v3 bs] []
    (TX (fun _ : Value × Value × Value => True) (fun x => .agg #[.int .i64 k, x.1, x.2.1, x.2.2]) (fun x => [own 3 1 x.1 ns.length (ns.map vInt), own 49 16 x.2.1 ids.length (flatI ids), own 5 1 x.2.2 bs.length (bs.map vByte)])) := by
  refine Tr.of (l := [(0, .agg #[.int .i64 k, v1, v2, v3])]) Try.func12 rfl (n := 17) rfl (.cons rfl .nil) (fun w0 hro => ?_)
  obtain ⟨hA, hB, hC⟩ := ro3 hro
  have oa := Ro.open hA
  have ob := Ro.open hB
  have oc := Ro.open hC
  obtain ⟨aa, ca, qa, oa, rfl, -⟩ := oa
  obtain ⟨ab, cb, qb, ob, rfl, -⟩ := ob
  obtain ⟨ac, cc, qc, oc, rfl, -⟩ := oc
  refine G.seq ?_
  refine G.region ?_
  refine G.op rfl (G.box rfl rfl (cs := [_, _, _, _]) rfl ?_)
  intro b1
  refine G.op rfl (G.alloc (z := .agg #[.int .i64 0, .slice none 0 0, .slice none 0 0, .slice none 0 0]) (cs := [.int .i64 0, .slice none 0 0, .slice none 0 0, .slice none 0 0]) rfl (by kernel_rfl) rfl ?_)
  intro b2
  refine G.nil ?_
  refine G.nThen ?_
  refine G.seq ?_
  refine G.drawT (nn := 15) (p := [blk b2 _ _]) (rem := 32767) [0, 1, 0, 0, 8, 20, 0, 0, 128, 352, 0, 1024, 2560, 4642, 16383] [0, 1, 0, 0, 8, 20, 0, 0, 128, 320, 0, 1024, 2048, 4642, 8192] (by kernel_rfl) ⟨rfl, by kernel_rfl, by kernel_rfl⟩ (by repeat (first | exact Sub.nil | (apply Sub.cons; (repeat (first | with_reducible exact Sel.here | exact Sel.here | apply Sel.there))))) (by kernel_rfl) (fun hT1 => ?_)
  refine G.takeT hT1 (i := 0) (rem' := 32766) rfl rfl rfl (by kernel_rfl) (fun _ _ _ h => h) rfl (pv_fieldAddrK (sz := 0) (k := 0) Try.underlying26 rfl (by kernel_rfl) rfl rfl) (by repeat (first | exact Sub.nil | (apply Sub.cons; (repeat (first | with_reducible exact Sel.here | exact Sel.here | apply Sel.there))))) ?_
  refine G.takeT hT1 (i := 3) (rem' := 32758) rfl rfl rfl (by kernel_rfl) (fun _ _ _ h => h) rfl (pv_fieldAddrK (sz := 0) (k := 1) Try.underlying26 rfl (by kernel_rfl) rfl rfl) (by repeat (first | exact Sub.nil | (apply Sub.cons; (repeat (first | with_reducible exact Sel.here | exact Sel.here | apply Sel.there))))) ?_
  refine G.takeT hT1 (i := 7) (rem' := 32630) rfl rfl rfl (by kernel_rfl) (fun _ _ _ h => h) rfl (pv_fieldAddrK (sz := 0) (k := 2) Try.underlying26 rfl (by kernel_rfl) rfl rfl) (by repeat (first | exact Sub.nil | (apply Sub.cons; (repeat (first | with_reducible exact Sel.here | exact Sel.here | apply Sel.there))))) ?_
  refine G.takeT hT1 (i := 10) (rem' := 31606) rfl rfl rfl (by kernel_rfl) (fun _ _ _ h => h) rfl (pv_fieldAddrK (sz := 0) (k := 3) Try.underlying26 rfl (by kernel_rfl) rfl rfl) (by repeat (first | exact Sub.nil | (apply Sub.cons; (repeat (first | with_reducible exact Sel.here | exact Sel.here | apply Sel.there))))) ?_
  refine G.takeT hT1 (i := 1) (rem' := 31604) rfl rfl rfl (by kernel_rfl) (fun _ _ _ h => h) rfl (pv_load Try.underlying3 rfl rfl (by first | exact blk_cell (by (repeat (first | with_reducible exact Sel.here | exact Sel.here | apply Sel.there)); done) (by rfl) | exact rng_cell (by (repeat (first | with_reducible exact Sel.here | exact Sel.here | apply Sel.there)); done) (by rfl) | exact ro_blk (by assumption) (by rfl) | exact ro_rngC (by assumption) (by rfl) | exact ro_int (by assumption) | exact ro_byte (by assumption) | exact ro_str (by assumption) | assumption)) (by repeat (first | exact Sub.nil | (apply Sub.cons; (repeat (first | with_reducible exact Sel.here | exact Sel.here | apply Sel.there))))) ?_
  refine G.takeT hT1 (i := 4) (rem' := 31588) rfl rfl rfl (by kernel_rfl) (fun _ _ _ h => h) rfl (pv_load Try.underlying22 rfl rfl (by first | exact blk_cell (by (repeat (first | with_reducible exact Sel.here | exact Sel.here | apply Sel.there)); done) (by rfl) | exact rng_cell (by (repeat (first | with_reducible exact Sel.here | exact Sel.here | apply Sel.there)); done) (by rfl) | exact ro_blk (by assumption) (by rfl) | exact ro_rngC (by assumption) (by rfl) | exact ro_int (by assumption) | exact ro_byte (by assumption) | exact ro_str (by assumption) | assumption)) (by repeat (first | exact Sub.nil | (apply Sub.cons; (repeat (first | with_reducible exact Sel.here | exact Sel.here | apply Sel.there))))) ?_
  refine G.takeT hT1 (i := 8) (rem' := 31332) rfl rfl rfl (by kernel_rfl) (fun _ _ _ h => h) rfl (pv_load Try.underlying23 rfl rfl (by first | exact blk_cell (by (repeat (first | with_reducible exact Sel.here | exact Sel.here | apply Sel.there)); done) (by rfl) | exact rng_cell (by (repeat (first | with_reducible exact Sel.here | exact Sel.here | apply Sel.there)); done) (by rfl) | exact ro_blk (by assumption) (by rfl) | exact ro_rngC (by assumption) (by rfl) | exact ro_int (by assumption) | exact ro_byte (by assumption) | exact ro_str (by assumption) | assumption)) (by repeat (first | exact Sub.nil | (apply Sub.cons; (repeat (first | with_reducible exact Sel.here | exact Sel.here | apply Sel.there))))) ?_
  refine G.takeT hT1 (i := 11) (rem' := 29284) rfl rfl rfl (by kernel_rfl) (fun _ _ _ h => h) rfl (pv_load Try.underlying24 rfl rfl (by first | exact blk_cell (by (repeat (first | with_reducible exact Sel.here | exact Sel.here | apply Sel.there)); done) (by rfl) | exact rng_cell (by (repeat (first | with_reducible exact Sel.here | exact Sel.here | apply Sel.there)); done) (by rfl) | exact ro_blk (by assumption) (by rfl) | exact ro_rngC (by assumption) (by rfl) | exact ro_int (by assumption) | exact ro_byte (by assumption) | exact ro_str (by assumption) | assumption)) (by repeat (first | exact Sub.nil | (apply Sub.cons; (repeat (first | with_reducible exact Sel.here | exact Sel.here | apply Sel.there))))) ?_
  refine G.twoT hT1 (i := 2) (j := 6) (rem' := 29280) (rem'' := 29220) (by kernel_rfl) (by kernel_rfl) (by kernel_rfl) ?_ ?_
  · refine G.turnOp rfl rfl (G.lit0 rfl Try.underlying22 (by kernel_rfl) rfl ?_)
    intro b5
    refine G.ownBlk (b := b5) (k := 0) (sz := 1) (by repeat (first | with_reducible exact Sel.here | exact Sel.here | apply Sel.there)) rfl (by omega) ?_
    refine G.back (by repeat (first | exact Sub.nil | (apply Sub.cons; (repeat (first | with_reducible exact Sel.here | exact Sel.here | apply Sel.there))))) ?_
    refine G.twoT hT1 (i := 5) (j := 6) (rem' := 29248) (rem'' := 29216) (by kernel_rfl) (by kernel_rfl) (by kernel_rfl) ?_ ?_
    · refine G.turnOp rfl rfl (G.appendS (k := 0) (cs := []) (xs := ns) (f := vInt) (p := I64) (Ps := Pv1) rfl Try.underlying22 Try.infoInt' rfl rfl (by repeat (first | with_reducible exact Sel.here | exact Sel.here | apply Sel.there)) (ro_sl hA) (vInt_one _) (by omega) (by omega) ?_)
      intro vN
      rw [Nat.zero_add ns.length, List.nil_append]
      refine G.ownFact (v := vN) (by repeat (first | with_reducible exact Sel.here | exact Sel.here | apply Sel.there)) (fun hvN _ => ?_)
      refine G.back (by repeat (first | exact Sub.nil | (apply Sub.cons; (repeat (first | with_reducible exact Sel.here | exact Sel.here | apply Sel.there))))) ?_
      refine G.oneT hT1 (i := 6) (rem' := 29184) (by kernel_rfl) (by kernel_rfl) ?_
      refine G.turnOp rfl rfl (G.lit0 rfl Try.underlying23 (by kernel_rfl) rfl ?_)
      intro b9
      refine G.ownBlk (b := b9) (k := 0) (sz := 16) (by repeat (first | with_reducible exact Sel.here | exact Sel.here | apply Sel.there)) rfl (by omega) ?_
      refine G.back (by repeat (first | exact Sub.nil | (apply Sub.cons; (repeat (first | with_reducible exact Sel.here | exact Sel.here | apply Sel.there))))) ?_
      refine G.oneT hT1 (i := 9) (rem' := 28672) (by kernel_rfl) (by kernel_rfl) ?_
      refine G.turnOp rfl rfl (G.appendI (k := 0) (cs := []) (ids := ids) (Ps := Pv2) rfl Try.underlying23 Try.infoID' rfl rfl (by repeat (first | with_reducible exact Sel.here | exact Sel.here | apply Sel.there)) (ro_sl hB) (by omega) ?_)
      intro vI
      rw [Nat.zero_add ids.length, List.nil_append]
      refine G.ownFact (v := vI) (by repeat (first | with_reducible exact Sel.here | exact Sel.here | apply Sel.there)) (fun hvI _ => ?_)
      refine G.back (by repeat (first | exact Sub.nil | (apply Sub.cons; (repeat (first | with_reducible exact Sel.here | exact Sel.here | apply Sel.there))))) ?_
      refine G.oneT hT1 (i := 12) (rem' := 24576) (by kernel_rfl) (by kernel_rfl) ?_
      refine G.turnOp rfl rfl (G.cS rfl rfl rfl rfl Try.func28 rfl rfl (by repeat (first | exact Sub.nil | (apply Sub.cons; (repeat (first | with_reducible exact Sel.here | exact Sel.here | apply Sel.there))))) (may1 (by first | exact .old (by assumption) | exact Sel.may (by (repeat (first | with_reducible exact Sel.here | exact Sel.here | apply Sel.there)); done) | exact may_own (by (repeat (first | with_reducible exact Sel.here | exact Sel.here | apply Sel.there)); done) rfl (fun _ _ => trivial) | exact may_ownB (by (repeat (first | with_reducible exact Sel.here | exact Sel.here | apply Sel.there)); done) | exact may_ownI (by (repeat (first | with_reducible exact Sel.here | exact Sel.here | apply Sel.there)); done) (by assumption) | exact may_ownN (by (repeat (first | with_reducible exact Sel.here | exact Sel.here | apply Sel.there)); done) (by assumption))) (copyBytes_tr _ _ (by omega)) (by repeat (first | exact Ap.nil | apply Ap.cons)) ?_)
      intro x15 hJ
      try dsimp only at hJ
      try dsimp only
      refine G.ownFact (v := x15) (by repeat (first | with_reducible exact Sel.here | exact Sel.here | apply Sel.there)) (fun hvB _ => ?_)
      refine G.back (by repeat (first | exact Sub.nil | (apply Sub.cons; (repeat (first | with_reducible exact Sel.here | exact Sel.here | apply Sel.there))))) ?_
      refine G.takeT hT1 (i := 13) (rem' := 16384) rfl rfl rfl (by kernel_rfl) (fun _ _ _ h => h) rfl (pv_buildSt (z := [.int .i64 0, .slice none 0 0, .slice none 0 0, .slice none 0 0]) (pl := [(0, 1), (1, 1), (2, 1), (3, 1)]) Try.underlying26 (by kernel_rfl) (by kernel_rfl) rfl (by repeat (first | exact Fl.nil | (apply Fl.cons; exact rfl; (first | exact cells_of (by first | rfl | assumption) | exact rfl); exact rfl; exact rfl; repeat (first | exact Sn.nil | (apply Sn.cons; repeat (first | exact St.zero | apply St.succ))))))) (by repeat (first | exact Sub.nil | (apply Sub.cons; (repeat (first | with_reducible exact Sel.here | exact Sel.here | apply Sel.there))))) ?_
      refine G.oneT hT1 (i := 14) (rem' := 0) (by kernel_rfl) (by kernel_rfl) ?_
      refine G.turnOp rfl rfl (G.storeN (by kernel_rfl) rfl rfl (by first | rfl | exact List.all_eq_true.2 (vByte_one _) | (repeat (first | exact all1_nil | (apply all1_cons; first | rfl | assumption)))) (by repeat (first | with_reducible exact Sel.here | exact Sel.here | apply Sel.there)) (by first | (simp; done) | exact Nat.le_of_ble_eq_true rfl) ?_)
      refine G.back (by repeat (first | exact Sub.nil | (apply Sub.cons; (repeat (first | with_reducible exact Sel.here | exact Sel.here | apply Sel.there))))) ?_
      refine G.overT hT1 (by kernel_rfl) ?_
      refine G.nThen ?_
      refine G.ret ?_
      exact G.doneG ((vN, vI, x15)) (by first | exact trivial | ((try dsimp only); exact trivial)) rfl (Rv.cellN (cs := [_, _, _, _]) rfl Try.underlying26 rfl (by kernel_rfl) (by first | exact blk_range (k := 4) (by (repeat (first | with_reducible exact Sel.here | exact Sel.here | apply Sel.there)); done) (by rfl)) Rv.nil) (by first | rfl | exact int_eq (by omega) | (simp; done)) (by repeat (first | exact Sub.nil | (apply Sub.cons; (repeat (first | with_reducible exact Sel.here | exact Sel.here | apply Sel.there)))))
    · refine G.turnOp rfl rfl (G.lit0 rfl Try.underlying23 (by kernel_rfl) rfl ?_)
      intro b9
      refine G.ownBlk (b := b9) (k := 0) (sz := 16) (by repeat (first | with_reducible exact Sel.here | exact Sel.here | apply Sel.there)) rfl (by omega) ?_
      refine G.back (by repeat (first | exact Sub.nil | (apply Sub.cons; (repeat (first | with_reducible exact Sel.here | exact Sel.here | apply Sel.there))))) ?_
      refine G.oneT hT1 (i := 5) (rem' := 29184) (by kernel_rfl) (by kernel_rfl) ?_
      refine G.turnOp rfl rfl (G.appendS (k := 0) (cs := []) (xs := ns) (f := vInt) (p := I64) (Ps := Pv1) rfl Try.underlying22 Try.infoInt' rfl rfl (by repeat (first | with_reducible exact Sel.here | exact Sel.here | apply Sel.there)) (ro_sl hA) (vInt_one _) (by omega) (by omega) ?_)
      intro vN
      rw [Nat.zero_add ns.length, List.nil_append]
      refine G.ownFact (v := vN) (by repeat (first | with_reducible exact Sel.here | exact Sel.here | apply Sel.there)) (fun hvN _ => ?_)
      refine G.back (by repeat (first | exact Sub.nil | (apply Sub.cons; (repeat (first | with_reducible exact Sel.here | exact Sel.here | apply Sel.there))))) ?_
      refine G.oneT hT1 (i := 9) (rem' := 28672) (by kernel_rfl) (by kernel_rfl) ?_
      refine G.turnOp rfl rfl (G.appendI (k := 0) (cs := []) (ids := ids) (Ps := Pv2) rfl Try.underlying23 Try.infoID' rfl rfl (by repeat (first | with_reducible exact Sel.here | exact Sel.here | apply Sel.there)) (ro_sl hB) (by omega) ?_)
      intro vI
      rw [Nat.zero_add ids.length, List.nil_append]
      refine G.ownFact (v := vI) (by repeat (first | with_reducible exact Sel.here | exact Sel.here | apply Sel.there)) (fun hvI _ => ?_)
      refine G.back (by repeat (first | exact Sub.nil | (apply Sub.cons; (repeat (first | with_reducible exact Sel.here | exact Sel.here | apply Sel.there))))) ?_
      refine G.oneT hT1 (i := 12) (rem' := 24576) (by kernel_rfl) (by kernel_rfl) ?_
      refine G.turnOp rfl rfl (G.cS rfl rfl rfl rfl Try.func28 rfl rfl (by repeat (first | exact Sub.nil | (apply Sub.cons; (repeat (first | with_reducible exact Sel.here | exact Sel.here | apply Sel.there))))) (may1 (by first | exact .old (by assumption) | exact Sel.may (by (repeat (first | with_reducible exact Sel.here | exact Sel.here | apply Sel.there)); done) | exact may_own (by (repeat (first | with_reducible exact Sel.here | exact Sel.here | apply Sel.there)); done) rfl (fun _ _ => trivial) | exact may_ownB (by (repeat (first | with_reducible exact Sel.here | exact Sel.here | apply Sel.there)); done) | exact may_ownI (by (repeat (first | with_reducible exact Sel.here | exact Sel.here | apply Sel.there)); done) (by assumption) | exact may_ownN (by (repeat (first | with_reducible exact Sel.here | exact Sel.here | apply Sel.there)); done) (by assumption))) (copyBytes_tr _ _ (by omega)) (by repeat (first | exact Ap.nil | apply Ap.cons)) ?_)
      intro x15 hJ
      try dsimp only at hJ
      try dsimp only
      refine G.ownFact (v := x15) (by repeat (first | with_reducible exact Sel.here | exact Sel.here | apply Sel.there)) (fun hvB _ => ?_)
      refine G.back (by repeat (first | exact Sub.nil | (apply Sub.cons; (repeat (first | with_reducible exact Sel.here | exact Sel.here | apply Sel.there))))) ?_
      refine G.takeT hT1 (i := 13) (rem' := 16384) rfl rfl rfl (by kernel_rfl) (fun _ _ _ h => h) rfl (pv_buildSt (z := [.int .i64 0, .slice none 0 0, .slice none 0 0, .slice none 0 0]) (pl := [(0, 1), (1, 1), (2, 1), (3, 1)]) Try.underlying26 (by kernel_rfl) (by kernel_rfl) rfl (by repeat (first | exact Fl.nil | (apply Fl.cons; exact rfl; (first | exact cells_of (by first | rfl | assumption) | exact rfl); exact rfl; exact rfl; repeat (first | exact Sn.nil | (apply Sn.cons; repeat (first | exact St.zero | apply St.succ))))))) (by repeat (first | exact Sub.nil | (apply Sub.cons; (repeat (first | with_reducible exact Sel.here | exact Sel.here | apply Sel.there))))) ?_
      refine G.oneT hT1 (i := 14) (rem' := 0) (by kernel_rfl) (by kernel_rfl) ?_
      refine G.turnOp rfl rfl (G.storeN (by kernel_rfl) rfl rfl (by first | rfl | exact List.all_eq_true.2 (vByte_one _) | (repeat (first | exact all1_nil | (apply all1_cons; first | rfl | assumption)))) (by repeat (first | with_reducible exact Sel.here | exact Sel.here | apply Sel.there)) (by first | (simp; done) | exact Nat.le_of_ble_eq_true rfl) ?_)
      refine G.back (by repeat (first | exact Sub.nil | (apply Sub.cons; (repeat (first | with_reducible exact Sel.here | exact Sel.here | apply Sel.there))))) ?_
      refine G.overT hT1 (by kernel_rfl) ?_
      refine G.nThen ?_
      refine G.ret ?_
      exact G.doneG ((vN, vI, x15)) (by first | exact trivial | ((try dsimp only); exact trivial)) rfl (Rv.cellN (cs := [_, _, _, _]) rfl Try.underlying26 rfl (by kernel_rfl) (by first | exact blk_range (k := 4) (by (repeat (first | with_reducible exact Sel.here | exact Sel.here | apply Sel.there)); done) (by rfl)) Rv.nil) (by first | rfl | exact int_eq (by omega) | (simp; done)) (by repeat (first | exact Sub.nil | (apply Sub.cons; (repeat (first | with_reducible exact Sel.here | exact Sel.here | apply Sel.there)))))
  · refine G.turnOp rfl rfl (G.lit0 rfl Try.underlying23 (by kernel_rfl) rfl ?_)
    intro b9
    refine G.ownBlk (b := b9) (k := 0) (sz := 16) (by repeat (first | with_reducible exact Sel.here | exact Sel.here | apply Sel.there)) rfl (by omega) ?_
    refine G.back (by repeat (first | exact Sub.nil | (apply Sub.cons; (repeat (first | with_reducible exact Sel.here | exact Sel.here | apply Sel.there))))) ?_
    refine G.oneT hT1 (i := 2) (rem' := 29216) (by kernel_rfl) (by kernel_rfl) ?_
    refine G.turnOp rfl rfl (G.lit0 rfl Try.underlying22 (by kernel_rfl) rfl ?_)
    intro b5
    refine G.ownBlk (b := b5) (k := 0) (sz := 1) (by repeat (first | with_reducible exact Sel.here | exact Sel.here | apply Sel.there)) rfl (by omega) ?_
    refine G.back (by repeat (first | exact Sub.nil | (apply Sub.cons; (repeat (first | with_reducible exact Sel.here | exact Sel.here | apply Sel.there))))) ?_
    refine G.oneT hT1 (i := 5) (rem' := 29184) (by kernel_rfl) (by kernel_rfl) ?_
    refine G.turnOp rfl rfl (G.appendS (k := 0) (cs := []) (xs := ns) (f := vInt) (p := I64) (Ps := Pv1) rfl Try.underlying22 Try.infoInt' rfl rfl (by repeat (first | with_reducible exact Sel.here | exact Sel.here | apply Sel.there)) (ro_sl hA) (vInt_one _) (by omega) (by omega) ?_)
    intro vN
    rw [Nat.zero_add ns.length, List.nil_append]
    refine G.ownFact (v := vN) (by repeat (first | with_reducible exact Sel.here | exact Sel.here | apply Sel.there)) (fun hvN _ => ?_)
    refine G.back (by repeat (first | exact Sub.nil | (apply Sub.cons; (repeat (first | with_reducible exact Sel.here | exact Sel.here | apply Sel.there))))) ?_
    refine G.oneT hT1 (i := 9) (rem' := 28672) (by kernel_rfl) (by kernel_rfl) ?_
    refine G.turnOp rfl rfl (G.appendI (k := 0) (cs := []) (ids := ids) (Ps := Pv2) rfl Try.underlying23 Try.infoID' rfl rfl (by repeat (first | with_reducible exact Sel.here | exact Sel.here | apply Sel.there)) (ro_sl hB) (by omega) ?_)
    intro vI
    rw [Nat.zero_add ids.length, List.nil_append]
    refine G.ownFact (v := vI) (by repeat (first | with_reducible exact Sel.here | exact Sel.here | apply Sel.there)) (fun hvI _ => ?_)
    refine G.back (by repeat (first | exact Sub.nil | (apply Sub.cons; (repeat (first | with_reducible exact Sel.here | exact Sel.here | apply Sel.there))))) ?_
    refine G.oneT hT1 (i := 12) (rem' := 24576) (by kernel_rfl) (by kernel_rfl) ?_
    refine G.turnOp rfl rfl (G.cS rfl rfl rfl rfl Try.func28 rfl rfl (by repeat (first | exact Sub.nil | (apply Sub.cons; (repeat (first | with_reducible exact Sel.here | exact Sel.here | apply Sel.there))))) (may1 (by first | exact .old (by assumption) | exact Sel.may (by (repeat (first | with_reducible exact Sel.here | exact Sel.here | apply Sel.there)); done) | exact may_own (by (repeat (first | with_reducible exact Sel.here | exact Sel.here | apply Sel.there)); done) rfl (fun _ _ => trivial) | exact may_ownB (by (repeat (first | with_reducible exact Sel.here | exact Sel.here | apply Sel.there)); done) | exact may_ownI (by (repeat (first | with_reducible exact Sel.here | exact Sel.here | apply Sel.there)); done) (by assumption) | exact may_ownN (by (repeat (first | with_reducible exact Sel.here | exact Sel.here | apply Sel.there)); done) (by assumption))) (copyBytes_tr _ _ (by omega)) (by repeat (first | exact Ap.nil | apply Ap.cons)) ?_)
    intro x15 hJ
    try dsimp only at hJ
    try dsimp only
    refine G.ownFact (v := x15) (by repeat (first | with_reducible exact Sel.here | exact Sel.here | apply Sel.there)) (fun hvB _ => ?_)
    refine G.back (by repeat (first | exact Sub.nil | (apply Sub.cons; (repeat (first | with_reducible exact Sel.here | exact Sel.here | apply Sel.there))))) ?_
    refine G.takeT hT1 (i := 13) (rem' := 16384) rfl rfl rfl (by kernel_rfl) (fun _ _ _ h => h) rfl (pv_buildSt (z := [.int .i64 0, .slice none 0 0, .slice none 0 0, .slice none 0 0]) (pl := [(0, 1), (1, 1), (2, 1), (3, 1)]) Try.underlying26 (by kernel_rfl) (by kernel_rfl) rfl (by repeat (first | exact Fl.nil | (apply Fl.cons; exact rfl; (first | exact cells_of (by first | rfl | assumption) | exact rfl); exact rfl; exact rfl; repeat (first | exact Sn.nil | (apply Sn.cons; repeat (first | exact St.zero | apply St.succ))))))) (by repeat (first | exact Sub.nil | (apply Sub.cons; (repeat (first | with_reducible exact Sel.here | exact Sel.here | apply Sel.there))))) ?_
    refine G.oneT hT1 (i := 14) (rem' := 0) (by kernel_rfl) (by kernel_rfl) ?_
    refine G.turnOp rfl rfl (G.storeN (by kernel_rfl) rfl rfl (by first | rfl | exact List.all_eq_true.2 (vByte_one _) | (repeat (first | exact all1_nil | (apply all1_cons; first | rfl | assumption)))) (by repeat (first | with_reducible exact Sel.here | exact Sel.here | apply Sel.there)) (by first | (simp; done) | exact Nat.le_of_ble_eq_true rfl) ?_)
    refine G.back (by repeat (first | exact Sub.nil | (apply Sub.cons; (repeat (first | with_reducible exact Sel.here | exact Sel.here | apply Sel.there))))) ?_
    refine G.overT hT1 (by kernel_rfl) ?_
    refine G.nThen ?_
    refine G.ret ?_
    exact G.doneG ((vN, vI, x15)) (by first | exact trivial | ((try dsimp only); exact trivial)) rfl (Rv.cellN (cs := [_, _, _, _]) rfl Try.underlying26 rfl (by kernel_rfl) (by first | exact blk_range (k := 4) (by (repeat (first | with_reducible exact Sel.here | exact Sel.here | apply Sel.there)); done) (by rfl)) Rv.nil) (by first | rfl | exact int_eq (by omega) | (simp; done)) (by repeat (first | exact Sub.nil | (apply Sub.cons; (repeat (first | with_reducible exact Sel.here | exact Sel.here | apply Sel.there)))))
set_option maxRecDepth 20000 in

theorem longNote_tr {Pv1 Pv2 Pv3 : Nat → Prop} (k : Int) (v1 v2 v3 : Value) (ns : List Int) (ids : List (List UInt8)) (bs : List UInt8) : Tr Try.prog 11 #[.agg #[.int .i64 k, v1, v2, v3]] [slc rInt Pv1 v1 ns, slc rID Pv2 v2 ids, slc rByte Pv3 v3 bs] [] (T0 (.bool (decide (200 < ns.length ∨ 40 < ids.length ∨ 2000 < bs.length)))) := by
  refine Tr.of (l := [(0, .agg #[.int .i64 k, v1, v2, v3])]) Try.func11 rfl (n := 19) rfl (.cons rfl .nil) (fun w0 hro => ?_)
  obtain ⟨hA, hB, hC⟩ := ro3 hro
  have oa := Ro.open hA
  have ob := Ro.open hB
  have oc := Ro.open hC
  obtain ⟨aa, ca, qa, oa, rfl, -⟩ := oa
  obtain ⟨ab, cb, qb, ob, rfl, -⟩ := ob
  obtain ⟨ac, cc, qc, oc, rfl, -⟩ := oc
  refine G.seq ?_
  refine G.region ?_
  refine G.op rfl (G.box rfl rfl (cs := [_, _, _, _]) rfl ?_)
  intro b1
  refine G.op rfl (G.val rfl rfl (pv_assign rfl) ?_)
  refine G.nil ?_
  refine G.nThen ?_
  refine G.seq ?_
  refine G.region ?_
  refine G.op rfl (G.val rfl rfl (pv_fieldAddrK (sz := 0) (k := 1) Try.underlying26 rfl (by kernel_rfl) rfl rfl) ?_)
  refine G.op rfl (G.val rfl rfl (pv_load Try.underlying22 rfl rfl (by first | exact blk_cell (by (repeat (first | with_reducible exact Sel.here | exact Sel.here | apply Sel.there)); done) (by rfl) | exact rng_cell (by (repeat (first | with_reducible exact Sel.here | exact Sel.here | apply Sel.there)); done) (by rfl) | exact ro_blk (by assumption) (by rfl) | exact ro_rngC (by assumption) (by rfl) | exact ro_int (by assumption) | exact ro_byte (by assumption) | exact ro_str (by assumption) | assumption)) ?_)
  refine G.op rfl (G.val rfl rfl (pv_lenSl Try.underlying22 rfl) ?_)
  refine G.op rfl (G.val rfl rfl (pv_gtr rfl rfl) ?_)
  refine G.op rfl (G.val rfl rfl (pv_move rfl) ?_)
  refine G.partP (t := 7) rfl (fun h7 => ?_) (fun h7 => ?_)
  · refine G.pass rfl rfl rfl rfl rfl rfl ?_
    refine G.pass rfl rfl rfl rfl rfl rfl ?_
    refine G.pass rfl rfl rfl rfl rfl rfl ?_
    refine G.pass rfl rfl rfl rfl rfl rfl ?_
    refine G.op rfl (G.val rfl rfl (pv_pick rfl rfl) ?_)
    refine G.op rfl (G.val rfl rfl (pv_move rfl) ?_)
    refine G.pass rfl rfl rfl rfl rfl rfl ?_
    refine G.pass rfl rfl rfl rfl rfl rfl ?_
    refine G.pass rfl rfl rfl rfl rfl rfl ?_
    refine G.pass rfl rfl rfl rfl rfl rfl ?_
    refine G.op rfl (G.val rfl rfl (pv_pick rfl rfl) ?_)
    refine G.op rfl (G.val rfl rfl (pv_assign rfl) ?_)
    refine G.nil ?_
    refine G.nThen ?_
    refine G.ret ?_
    exact G.done1 rfl rfl .nil ⟨congrArg Value.bool (by first | exact (decide_eq_true (by omega)).symm | (rw [decide_eq_decide]; omega)), rfl⟩
  · refine G.want rfl rfl rfl (G.val rfl rfl (pv_fieldAddrK (sz := 0) (k := 2) Try.underlying26 rfl (by kernel_rfl) rfl rfl) ?_)
    refine G.want rfl rfl rfl (G.val rfl rfl (pv_load Try.underlying23 rfl rfl (by first | exact blk_cell (by (repeat (first | with_reducible exact Sel.here | exact Sel.here | apply Sel.there)); done) (by rfl) | exact rng_cell (by (repeat (first | with_reducible exact Sel.here | exact Sel.here | apply Sel.there)); done) (by rfl) | exact ro_blk (by assumption) (by rfl) | exact ro_rngC (by assumption) (by rfl) | exact ro_int (by assumption) | exact ro_byte (by assumption) | exact ro_str (by assumption) | assumption)) ?_)
    refine G.want rfl rfl rfl (G.val rfl rfl (pv_lenSl Try.underlying23 rfl) ?_)
    refine G.want rfl rfl rfl (G.val rfl rfl (pv_gtr rfl rfl) ?_)
    refine G.op rfl (G.val rfl rfl (pv_pick rfl rfl) ?_)
    refine G.op rfl (G.val rfl rfl (pv_move rfl) ?_)
    refine G.partP (t := 13) rfl (fun h13 => ?_) (fun h13 => ?_)
    · refine G.pass rfl rfl rfl rfl rfl rfl ?_
      refine G.pass rfl rfl rfl rfl rfl rfl ?_
      refine G.pass rfl rfl rfl rfl rfl rfl ?_
      refine G.pass rfl rfl rfl rfl rfl rfl ?_
      refine G.op rfl (G.val rfl rfl (pv_pick rfl rfl) ?_)
      refine G.op rfl (G.val rfl rfl (pv_assign rfl) ?_)
      refine G.nil ?_
      refine G.nThen ?_
      refine G.ret ?_
      exact G.done1 rfl rfl .nil ⟨congrArg Value.bool (by first | exact (decide_eq_true (by omega)).symm | (rw [decide_eq_decide]; omega)), rfl⟩
    · refine G.want rfl rfl rfl (G.val rfl rfl (pv_fieldAddrK (sz := 0) (k := 3) Try.underlying26 rfl (by kernel_rfl) rfl rfl) ?_)
      refine G.want rfl rfl rfl (G.val rfl rfl (pv_load Try.underlying24 rfl rfl (by first | exact blk_cell (by (repeat (first | with_reducible exact Sel.here | exact Sel.here | apply Sel.there)); done) (by rfl) | exact rng_cell (by (repeat (first | with_reducible exact Sel.here | exact Sel.here | apply Sel.there)); done) (by rfl) | exact ro_blk (by assumption) (by rfl) | exact ro_rngC (by assumption) (by rfl) | exact ro_int (by assumption) | exact ro_byte (by assumption) | exact ro_str (by assumption) | assumption)) ?_)
      refine G.want rfl rfl rfl (G.val rfl rfl (pv_lenSl Try.underlying24 rfl) ?_)
      refine G.want rfl rfl rfl (G.val rfl rfl (pv_gtr rfl rfl) ?_)
      refine G.op rfl (G.val rfl rfl (pv_pick rfl rfl) ?_)
      refine G.op rfl (G.val rfl rfl (pv_assign rfl) ?_)
      refine G.nil ?_
      refine G.nThen ?_
      refine G.ret ?_
      exact G.done1 rfl rfl .nil ⟨congrArg Value.bool (by first | exact (decide_eq_true (by omega)).symm | (rw [decide_eq_decide]; omega)), rfl⟩
end Go.Proofs.Ytakcffhknnailaa
