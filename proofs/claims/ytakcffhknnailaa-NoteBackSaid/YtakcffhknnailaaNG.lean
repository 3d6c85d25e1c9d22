/- Contracts of layer 10: a note's bytes, of the program and of the reference. Conditions: lists lie in memory. -/
import Derived.Test.YtakcffhknnailaaNF
set_option linter.unusedVariables false
set_option linter.unusedSimpArgs false
namespace Go.Proofs.Ytakcffhknnailaa
open Go.RowKit

def noteOut (k : Int) (ns : List Int) (ids : List (List UInt8)) (bs : List UInt8) : List UInt8 := if checkM k ns ids.length bs.length = 0 then noteB k ns ids bs else []
set_option maxRecDepth 20000 in

theorem bytesNF {Pv1 Pv2 Pv3 : Nat → Prop} (k : Int) (v1 v2 v3 : Value) (ns : List Int) (ids : List (List UInt8)) (bs : List UInt8) : Tr Try.prog 13 #[.agg #[.int .i64 k, v1, v2, v3]] [slc rInt Pv1 v1 ns, slc rID Pv2 v2 ids, slc rByte Pv3 v3 bs] []
    (TX (fun _ : Value => True) (fun x => .tuple #[x, .int .i64 (checkM k ns ids.length bs.length)]) (fun x => [ownB 5 x (noteOut k ns ids bs)])) := by
  refine Tr.of (l := [(0, .agg #[.int .i64 k, v1, v2, v3])]) Try.func13 rfl (n := 60) rfl (.cons rfl .nil) (fun w0 hro => ?_)
  obtain ⟨hA, hB, hC⟩ := ro3 hro
  have hA' := hA
  have hB' := hB
  have hC' := hC
  have h16 := Ro.all16 hB
  have oa := Ro.open hA
  have ob := Ro.open hB
  have oc := Ro.open hC
  obtain ⟨aa, ca, qa, oa', rfl, hca, hma, -, had, hel⟩ := oa
  obtain ⟨ab, cb, qb, ob', rfl, hcb, hmb, -, hbd, hbl⟩ := ob
  obtain ⟨ac, cc, qc, oc', rfl, -⟩ := oc
  refine G.seq ?_
  refine G.region ?_
  refine G.op rfl (G.box rfl rfl (cs := [_, _, _, _]) rfl ?_)
  intro b1
  refine G.op rfl (G.val rfl rfl (pv_assign rfl) ?_)
  refine G.op rfl (G.val rfl rfl (pv_assign rfl) ?_)
  refine G.nil ?_
  refine G.nThen ?_
  refine G.seq ?_
  refine G.seq ?_
  refine G.region ?_
  refine G.op rfl (G.val rfl rfl (pv_loadN (cs := [_, _, _, _]) Try.underlying26 rfl (by kernel_rfl) rfl (by first | exact blk_range (k := 4) (by (repeat (first | with_reducible exact Sel.here | exact Sel.here | apply Sel.there)); done) (by rfl) | exact rng_range (k := 4) (by (repeat (first | with_reducible exact Sel.here | exact Sel.here | apply Sel.there)); done) (by rfl) | exact ro_range (k := 4) (by assumption) (by rfl) | exact ro_rngR (k := 4) (by assumption) (by rfl))) ?_)
  refine G.op rfl (G.cR rfl rfl rfl rfl Try.func16 rfl rfl (may3 (by first | exact .old (by assumption) | exact Sel.may (by (repeat (first | with_reducible exact Sel.here | exact Sel.here | apply Sel.there)); done) | exact may_own (by (repeat (first | with_reducible exact Sel.here | exact Sel.here | apply Sel.there)); done) rfl (fun _ _ => trivial) | exact may_ownB (by (repeat (first | with_reducible exact Sel.here | exact Sel.here | apply Sel.there)); done) | exact may_ownI (by (repeat (first | with_reducible exact Sel.here | exact Sel.here | apply Sel.there)); done) (by assumption) | exact may_ownN (by (repeat (first | with_reducible exact Sel.here | exact Sel.here | apply Sel.there)); done) (by assumption)) (by first | exact .old (by assumption) | exact Sel.may (by (repeat (first | with_reducible exact Sel.here | exact Sel.here | apply Sel.there)); done) | exact may_own (by (repeat (first | with_reducible exact Sel.here | exact Sel.here | apply Sel.there)); done) rfl (fun _ _ => trivial) | exact may_ownB (by (repeat (first | with_reducible exact Sel.here | exact Sel.here | apply Sel.there)); done) | exact may_ownI (by (repeat (first | with_reducible exact Sel.here | exact Sel.here | apply Sel.there)); done) (by assumption) | exact may_ownN (by (repeat (first | with_reducible exact Sel.here | exact Sel.here | apply Sel.there)); done) (by assumption)) (by first | exact .old (by assumption) | exact Sel.may (by (repeat (first | with_reducible exact Sel.here | exact Sel.here | apply Sel.there)); done) | exact may_own (by (repeat (first | with_reducible exact Sel.here | exact Sel.here | apply Sel.there)); done) rfl (fun _ _ => trivial) | exact may_ownB (by (repeat (first | with_reducible exact Sel.here | exact Sel.here | apply Sel.there)); done) | exact may_ownI (by (repeat (first | with_reducible exact Sel.here | exact Sel.here | apply Sel.there)); done) (by assumption) | exact may_ownN (by (repeat (first | with_reducible exact Sel.here | exact Sel.here | apply Sel.there)); done) (by assumption))) (checkF _ _ _ _ _ _ _) ?_)
  refine G.op rfl (G.val rfl rfl (pv_assign rfl) ?_)
  refine G.nil ?_
  refine G.nThen ?_
  refine G.seq ?_
  refine G.region ?_
  refine G.op rfl (G.val rfl rfl (pv_move rfl) ?_)
  refine G.op rfl (G.val rfl rfl (pv_neq rfl rfl) ?_)
  refine G.nil ?_
  refine G.nThen ?_
  refine G.condP rfl (fun h13 => ?_) (fun h13 => ?_)
  · rw [show noteOut k ns ids bs = [] from if_neg h13]
    refine G.seq ?_
    refine G.region ?_
    refine G.op rfl (G.val rfl rfl (pv_move rfl) ?_)
    refine G.op rfl (G.val rfl rfl (pv_assign rfl) ?_)
    refine G.op rfl (G.val rfl rfl (pv_assign rfl) ?_)
    refine G.nil ?_
    refine G.nThen ?_
    refine G.ret ?_
    refine G.rThen ?_
    refine G.ownBNil 5 ?_
    exact G.doneX2 (.slice none 0 0) (by first | exact trivial | ((try dsimp only); exact trivial)) rfl rfl rfl (by first | rfl | exact int_eq (by omega) | (simp; done)) (by repeat (first | exact Sub.nil | (apply Sub.cons; (repeat (first | with_reducible exact Sel.here | exact Sel.here | apply Sel.there)))))
  · have h0 : checkM k ns ids.length bs.length = 0 := by omega
    rw [show noteOut k ns ids bs = noteB k ns ids bs from if_pos h0]
    obtain ⟨hk1, hk2, hall, hn, hi, hbs⟩ := checkM_ok h0
    have e1 := sizeM_le k
    have e2 := sizeM_le (ns.length : Int)
    have e3 := sizeM_le (ids.length : Int)
    have q1 := hdN_len k ns
    have q2 := hdI_len k ns ids
    have q3 := fN_len ns ns.length
    have q4 := fI_len h16 ids.length
    have q5 := noteB_len (k := k) (ns := ns) (bs := bs) h16
    refine G.skip ?_
    refine G.nThen ?_
    refine G.seq ?_
    refine G.region ?_
    refine G.op rfl (G.cS rfl rfl rfl rfl Try.func33 rfl rfl (by repeat (first | exact Sub.nil | (apply Sub.cons; (repeat (first | with_reducible exact Sel.here | exact Sel.here | apply Sel.there))))) may0 (new_tr) (by repeat (first | exact Ap.nil | apply Ap.cons)) ?_)
    intro x15 hJ
    try dsimp only at hJ
    try dsimp only
    refine G.op rfl (G.val rfl rfl (pv_assign rfl) ?_)
    refine G.nil ?_
    refine G.nThen ?_
    refine G.seq ?_
    refine G.region ?_
    refine G.op rfl (G.val rfl rfl (pv_move rfl) ?_)
    refine G.op rfl (G.val rfl rfl (pv_fieldAddrK (sz := 0) (k := 0) Try.underlying26 rfl (by kernel_rfl) rfl rfl) ?_)
    refine G.op rfl (G.val rfl rfl (pv_load Try.underlying3 rfl rfl (by first | exact blk_cell (by (repeat (first | with_reducible exact Sel.here | exact Sel.here | apply Sel.there)); done) (by rfl) | exact rng_cell (by (repeat (first | with_reducible exact Sel.here | exact Sel.here | apply Sel.there)); done) (by rfl) | exact ro_blk (by assumption) (by rfl) | exact ro_rngC (by assumption) (by rfl) | exact ro_int (by assumption) | exact ro_byte (by assumption) | exact ro_str (by assumption) | assumption)) ?_)
    refine G.op rfl (G.cS rfl rfl rfl rfl Try.func34 rfl rfl (by repeat (first | exact Sub.nil | (apply Sub.cons; (repeat (first | with_reducible exact Sel.here | exact Sel.here | apply Sel.there))))) may0 (wintF _ _ _ _ (by omega) (by first | omega | (simp only [List.length_append, List.length_nil, putM_length]; omega))) (by repeat (first | exact Ap.nil | apply Ap.cons)) ?_)
    intro x19 hJ
    try dsimp only at hJ
    try dsimp only
    refine G.nil ?_
    refine G.nThen ?_
    refine G.seq ?_
    refine G.region ?_
    refine G.op rfl (G.val rfl rfl (pv_move rfl) ?_)
    refine G.op rfl (G.val rfl rfl (pv_fieldAddrK (sz := 0) (k := 1) Try.underlying26 rfl (by kernel_rfl) rfl rfl) ?_)
    refine G.op rfl (G.val rfl rfl (pv_load Try.underlying22 rfl rfl (by first | exact blk_cell (by (repeat (first | with_reducible exact Sel.here | exact Sel.here | apply Sel.there)); done) (by rfl) | exact rng_cell (by (repeat (first | with_reducible exact Sel.here | exact Sel.here | apply Sel.there)); done) (by rfl) | exact ro_blk (by assumption) (by rfl) | exact ro_rngC (by assumption) (by rfl) | exact ro_int (by assumption) | exact ro_byte (by assumption) | exact ro_str (by assumption) | assumption)) ?_)
    refine G.op rfl (G.val rfl rfl (pv_lenSl Try.underlying22 rfl) ?_)
    refine G.op rfl (G.cS rfl rfl rfl rfl Try.func34 rfl rfl (by repeat (first | exact Sub.nil | (apply Sub.cons; (repeat (first | with_reducible exact Sel.here | exact Sel.here | apply Sel.there))))) may0 (wintF _ _ _ _ (by omega) (by first | omega | (simp only [List.length_append, List.length_nil, putM_length]; omega))) (by repeat (first | exact Ap.nil | apply Ap.cons)) ?_)
    intro x24 hJ
    try dsimp only at hJ
    try dsimp only
    rw [show ([] : List UInt8) ++ putM k ++ putM (ns.length : Int) = hdN k ns from rfl]
    refine G.nil ?_
    refine G.nThen ?_
    refine G.seq ?_
    refine G.seq ?_
    refine G.region ?_
    refine G.op rfl (G.val rfl rfl (pv_fieldAddrK (sz := 0) (k := 1) Try.underlying26 rfl (by kernel_rfl) rfl rfl) ?_)
    refine G.op rfl (G.val rfl rfl (pv_load Try.underlying22 rfl rfl (by first | exact blk_cell (by (repeat (first | with_reducible exact Sel.here | exact Sel.here | apply Sel.there)); done) (by rfl) | exact rng_cell (by (repeat (first | with_reducible exact Sel.here | exact Sel.here | apply Sel.there)); done) (by rfl) | exact ro_blk (by assumption) (by rfl) | exact ro_rngC (by assumption) (by rfl) | exact ro_int (by assumption) | exact ro_byte (by assumption) | exact ro_str (by assumption) | assumption)) ?_)
    refine G.op rfl (G.val rfl rfl (pv_lenSl Try.underlying22 rfl) ?_)
    refine G.op rfl (G.val rfl rfl (pv_move rfl) ?_)
    refine G.nil ?_
    refine G.nThen ?_
    refine G.block ?_
    rw [← fN_zero (hdN k ns) ns]
    refine G.loopK (X := Nat × Value) (ts := [1, 2, 3, 5, 26, 27]) (fun st => st.1 ≤ ns.length) (fun st => [(28, .int .i64 (st.1 : Int))]) (fun st => [blk x15 90 [.bool true, .bool false, st.2], own 5 1 st.2 (hdN k ns ++ fN ns st.1).length ((hdN k ns ++ fN ns st.1).map vByte)]) (fun st => ns.length - st.1) (x0 := (0, x24)) (.cons rfl (.cons rfl (.cons rfl (.cons rfl (.cons rfl (.cons rfl .nil)))))) (by repeat (first | exact Sub.nil | (apply Sub.cons; (repeat (first | with_reducible exact Sel.here | exact Sel.here | apply Sel.there))))) (.cons .nil) (by repeat (first | exact Ap.nil | apply Ap.cons)) (by first | exact trivial | ((try dsimp only); exact Nat.zero_le _)) (.consE rfl (by first | rfl | exact int_eq (by omega) | exact congrArg _ (by omega)) .nil) (fun st hJ => ?_)
    obtain ⟨j, vw⟩ := st
    try dsimp only at hJ
    try dsimp only
    have hkj := hJ
    have qj := fN_len ns j
    have qj1 := fN_len ns (j + 1)
    refine G.seq ?_
    refine G.region ?_
    refine G.op rfl (G.val rfl rfl (pv_lss rfl rfl) ?_)
    refine G.nil ?_
    refine G.nThen ?_
    refine G.seq ?_
    refine G.condP rfl (fun h29 => ?_) (fun h29 => ?_)
    · have hlj : j < ns.length := by omega
      have hE := hel j hlj
      refine G.skip ?_
      refine G.nThen ?_
      refine G.seq ?_
      refine G.block ?_
      refine G.seq ?_
      refine G.region ?_
      refine G.op rfl (G.val rfl rfl (pv_ixSl (sz := 1) Try.underlying22 (by kernel_rfl) rfl rfl (by first | assumption | exact fun _ => rfl) rfl (by omega)) ?_)
      refine G.op rfl (G.val rfl rfl (pv_load Try.underlying3 rfl rfl (by first | exact blk_cell (by (repeat (first | with_reducible exact Sel.here | exact Sel.here | apply Sel.there)); done) (by rfl) | exact rng_cell (by (repeat (first | with_reducible exact Sel.here | exact Sel.here | apply Sel.there)); done) (by rfl) | exact ro_blk (by assumption) (by rfl) | exact ro_rngC (by assumption) (by rfl) | exact ro_int (by assumption) | exact ro_byte (by assumption) | exact ro_str (by assumption) | assumption)) ?_)
      refine G.op rfl (G.val rfl rfl (pv_assign rfl) ?_)
      refine G.nil ?_
      refine G.nThen ?_
      refine G.region ?_
      refine G.op rfl (G.val rfl rfl (pv_move rfl) ?_)
      refine G.op rfl (G.val rfl rfl (pv_move rfl) ?_)
      refine G.op rfl (G.cS rfl rfl rfl rfl Try.func34 rfl rfl (by repeat (first | exact Sub.nil | (apply Sub.cons; (repeat (first | with_reducible exact Sel.here | exact Sel.here | apply Sel.there))))) may0 (wintF _ _ _ _ (hall _ (List.getElem_mem hlj)) (by first | omega | (simp only [List.length_append, List.length_nil, putM_length]; omega))) (by repeat (first | exact Ap.nil | apply Ap.cons)) ?_)
      intro x34 hJ
      try dsimp only at hJ
      try dsimp only
      rw [fN_app (hdN k ns) hlj]
      refine G.nil ?_
      refine G.nBlock ?_
      refine G.nThen ?_
      refine G.region ?_
      refine G.op rfl (G.val rfl rfl (pv_add64 rfl rfl (by omega)) ?_)
      refine G.op rfl (G.val rfl rfl (pv_move rfl) ?_)
      refine G.nil ?_
      exact G.next ((j + 1, x34)) (by first | exact trivial | ((try dsimp only); exact by omega)) (by (try dsimp only); omega) (.consE rfl (by first | rfl | exact int_eq (by omega) | exact congrArg _ (by omega)) (.cons rfl (.cons rfl (.cons rfl (.cons rfl (.cons rfl (.cons rfl .nil))))))) (by repeat (first | exact Sub.nil | (apply Sub.cons; (repeat (first | with_reducible exact Sel.here | exact Sel.here | apply Sel.there)))))
    · obtain rfl : j = ns.length := by omega
      refine G.exit ?_
      refine G.eThen ?_
      refine G.eThen ?_
      refine G.eBlock ?_
      refine G.nThen ?_
      refine G.seq ?_
      refine G.region ?_
      refine G.op rfl (G.val rfl rfl (pv_move rfl) ?_)
      refine G.op rfl (G.val rfl rfl (pv_fieldAddrK (sz := 0) (k := 2) Try.underlying26 rfl (by kernel_rfl) rfl rfl) ?_)
      refine G.op rfl (G.val rfl rfl (pv_load Try.underlying23 rfl rfl (by first | exact blk_cell (by (repeat (first | with_reducible exact Sel.here | exact Sel.here | apply Sel.there)); done) (by rfl) | exact rng_cell (by (repeat (first | with_reducible exact Sel.here | exact Sel.here | apply Sel.there)); done) (by rfl) | exact ro_blk (by assumption) (by rfl) | exact ro_rngC (by assumption) (by rfl) | exact ro_int (by assumption) | exact ro_byte (by assumption) | exact ro_str (by assumption) | assumption)) ?_)
      refine G.op rfl (G.val rfl rfl (pv_lenSl Try.underlying23 rfl) ?_)
      refine G.op rfl (G.cS rfl rfl rfl rfl Try.func34 rfl rfl (by repeat (first | exact Sub.nil | (apply Sub.cons; (repeat (first | with_reducible exact Sel.here | exact Sel.here | apply Sel.there))))) may0 (wintF _ _ _ _ (by omega) (by first | omega | (simp only [List.length_append, List.length_nil, putM_length]; omega))) (by repeat (first | exact Ap.nil | apply Ap.cons)) ?_)
      intro x40 hJ
      try dsimp only at hJ
      try dsimp only
      rw [show hdN k ns ++ fN ns ns.length ++ putM (ids.length : Int) = hdI k ns ids from rfl]
      refine G.nil ?_
      refine G.nThen ?_
      refine G.seq ?_
      refine G.seq ?_
      refine G.region ?_
      refine G.op rfl (G.val rfl rfl (pv_fieldAddrK (sz := 0) (k := 2) Try.underlying26 rfl (by kernel_rfl) rfl rfl) ?_)
      refine G.op rfl (G.val rfl rfl (pv_load Try.underlying23 rfl rfl (by first | exact blk_cell (by (repeat (first | with_reducible exact Sel.here | exact Sel.here | apply Sel.there)); done) (by rfl) | exact rng_cell (by (repeat (first | with_reducible exact Sel.here | exact Sel.here | apply Sel.there)); done) (by rfl) | exact ro_blk (by assumption) (by rfl) | exact ro_rngC (by assumption) (by rfl) | exact ro_int (by assumption) | exact ro_byte (by assumption) | exact ro_str (by assumption) | assumption)) ?_)
      refine G.op rfl (G.val rfl rfl (pv_lenSl Try.underlying23 rfl) ?_)
      refine G.op rfl (G.val rfl rfl (pv_move rfl) ?_)
      refine G.nil ?_
      refine G.nThen ?_
      refine G.block ?_
      rw [← fI_zero (hdI k ns ids) ids]
      refine G.loopK (X := Nat × Value) (ts := [1, 2, 3, 5, 42, 43]) (fun st => st.1 ≤ ids.length) (fun st => [(44, .int .i64 (st.1 : Int))]) (fun st => [blk x15 90 [.bool true, .bool false, st.2], own 5 1 st.2 (hdI k ns ids ++ fI ids st.1).length ((hdI k ns ids ++ fI ids st.1).map vByte)]) (fun st => ids.length - st.1) (x0 := (0, x40)) (.cons rfl (.cons rfl (.cons rfl (.cons rfl (.cons rfl (.cons rfl .nil)))))) (by repeat (first | exact Sub.nil | (apply Sub.cons; (repeat (first | with_reducible exact Sel.here | exact Sel.here | apply Sel.there))))) (.cons .nil) (by repeat (first | exact Ap.nil | apply Ap.cons)) (by first | exact trivial | ((try dsimp only); exact Nat.zero_le _)) (.consE rfl (by first | rfl | exact int_eq (by omega) | exact congrArg _ (by omega)) .nil) (fun st hJ => ?_)
      obtain ⟨q, vi⟩ := st
      try dsimp only at hJ
      try dsimp only
      have hkq := hJ
      have qj := fI_len h16 q
      have qj1 := fI_len h16 (q + 1)
      refine G.seq ?_
      refine G.region ?_
      refine G.op rfl (G.val rfl rfl (pv_lss rfl rfl) ?_)
      refine G.nil ?_
      refine G.nThen ?_
      refine G.seq ?_
      refine G.condP rfl (fun h45 => ?_) (fun h45 => ?_)
      · have hlq : q < ids.length := by omega
        obtain ⟨lq, rq⟩ := Ro.arr8 (hbl q hlq)
        refine G.skip ?_
        refine G.nThen ?_
        refine G.seq ?_
        refine G.block ?_
        refine G.seq ?_
        refine G.region ?_
        refine G.op rfl (G.val rfl rfl (pv_ixSl (sz := 16) Try.underlying23 (by kernel_rfl) rfl rfl (by first | assumption | exact fun _ => rfl) rfl (by omega)) ?_)
        refine G.op rfl (G.val rfl rfl (pv_loadN (cs := ids[q].map vByte) Try.underlying49 rfl (by rw [List.length_map, lq]; kernel_rfl) rfl rq) ?_)
        refine G.op rfl (G.alloc (z := .agg #[.int .u8 0, .int .u8 0, .int .u8 0, .int .u8 0, .int .u8 0, .int .u8 0, .int .u8 0, .int .u8 0, .int .u8 0, .int .u8 0, .int .u8 0, .int .u8 0, .int .u8 0, .int .u8 0, .int .u8 0, .int .u8 0]) (cs := [.int .u8 0, .int .u8 0, .int .u8 0, .int .u8 0, .int .u8 0, .int .u8 0, .int .u8 0, .int .u8 0, .int .u8 0, .int .u8 0, .int .u8 0, .int .u8 0, .int .u8 0, .int .u8 0, .int .u8 0, .int .u8 0]) rfl (by kernel_rfl) rfl ?_)
        intro b9
        refine G.op rfl (G.storeN (by rw [List.length_map, lq]; kernel_rfl) rfl rfl (List.all_eq_true.2 (vByte_one _)) (by repeat (first | with_reducible exact Sel.here | exact Sel.here | apply Sel.there)) (by simp [lq]) ?_)
        rw [putN_whole _ _ (by rw [List.length_map, lq]; rfl)]
        refine G.nil ?_
        refine G.nThen ?_
        refine G.region ?_
        refine G.op rfl (G.val rfl rfl (pv_move rfl) ?_)
        refine G.op rfl (G.val rfl rfl (pv_loadN (cs := ids[q].map vByte) Try.underlying49 rfl (by rw [List.length_map, lq]; kernel_rfl) rfl (blk_range (k := 16) (by repeat (first | with_reducible exact Sel.here | exact Sel.here | apply Sel.there)) (List.take_of_length_le (by rw [List.drop_zero, List.length_map, lq]; exact Nat.le_refl _)))) ?_)
        refine G.op rfl (G.cS rfl rfl rfl rfl Try.func35 rfl rfl (by repeat (first | exact Sub.nil | (apply Sub.cons; (repeat (first | with_reducible exact Sel.here | exact Sel.here | apply Sel.there))))) may0 (wid_tr _ _ _ _ ids[q] lq (by first | omega | (simp only [List.length_append, List.length_nil, putM_length]; omega))) (by repeat (first | exact Ap.nil | apply Ap.cons)) ?_)
        intro x50 hJ
        try dsimp only at hJ
        try dsimp only
        rw [fI_app (hdI k ns ids) hlq]
        refine G.nil ?_
        refine G.nBlock ?_
        refine G.nThen ?_
        refine G.region ?_
        refine G.op rfl (G.val rfl rfl (pv_add64 rfl rfl (by omega)) ?_)
        refine G.op rfl (G.val rfl rfl (pv_move rfl) ?_)
        refine G.nil ?_
        exact G.next ((q + 1, x50)) (by first | exact trivial | ((try dsimp only); exact by omega)) (by (try dsimp only); omega) (.consE rfl (by first | rfl | exact int_eq (by omega) | exact congrArg _ (by omega)) (.cons rfl (.cons rfl (.cons rfl (.cons rfl (.cons rfl (.cons rfl .nil))))))) (by repeat (first | exact Sub.nil | (apply Sub.cons; (repeat (first | with_reducible exact Sel.here | exact Sel.here | apply Sel.there)))))
      · obtain rfl : q = ids.length := by omega
        refine G.exit ?_
        refine G.eThen ?_
        refine G.eThen ?_
        refine G.eBlock ?_
        refine G.nThen ?_
        refine G.seq ?_
        refine G.region ?_
        refine G.op rfl (G.val rfl rfl (pv_move rfl) ?_)
        refine G.op rfl (G.val rfl rfl (pv_fieldAddrK (sz := 0) (k := 3) Try.underlying26 rfl (by kernel_rfl) rfl rfl) ?_)
        refine G.op rfl (G.val rfl rfl (pv_load Try.underlying24 rfl rfl (by first | exact blk_cell (by (repeat (first | with_reducible exact Sel.here | exact Sel.here | apply Sel.there)); done) (by rfl) | exact rng_cell (by (repeat (first | with_reducible exact Sel.here | exact Sel.here | apply Sel.there)); done) (by rfl) | exact ro_blk (by assumption) (by rfl) | exact ro_rngC (by assumption) (by rfl) | exact ro_int (by assumption) | exact ro_byte (by assumption) | exact ro_str (by assumption) | assumption)) ?_)
        refine G.op rfl (G.cS rfl rfl rfl rfl Try.func36 rfl rfl (by repeat (first | exact Sub.nil | (apply Sub.cons; (repeat (first | with_reducible exact Sel.here | exact Sel.here | apply Sel.there))))) (may1 (by first | exact .old (by assumption) | exact Sel.may (by (repeat (first | with_reducible exact Sel.here | exact Sel.here | apply Sel.there)); done) | exact may_own (by (repeat (first | with_reducible exact Sel.here | exact Sel.here | apply Sel.there)); done) rfl (fun _ _ => trivial) | exact may_ownB (by (repeat (first | with_reducible exact Sel.here | exact Sel.here | apply Sel.there)); done) | exact may_ownI (by (repeat (first | with_reducible exact Sel.here | exact Sel.here | apply Sel.there)); done) (by assumption) | exact may_ownN (by (repeat (first | with_reducible exact Sel.here | exact Sel.here | apply Sel.there)); done) (by assumption))) (wbytesF _ _ _ _ bs (by first | omega | (simp only [List.length_append, List.length_nil, putM_length]; omega)) (by omega)) (by repeat (first | exact Ap.nil | apply Ap.cons)) ?_)
        intro x55 hJ
        try dsimp only at hJ
        try dsimp only
        rw [show hdI k ns ids ++ fI ids ids.length ++ bytesM bs = noteB k ns ids bs from rfl]
        refine G.nil ?_
        refine G.nThen ?_
        refine G.seq ?_
        refine G.region ?_
        refine G.op rfl (G.val rfl rfl (pv_move rfl) ?_)
        refine G.op rfl (G.cS rfl rfl rfl rfl Try.func37 rfl rfl (by repeat (first | exact Sub.nil | (apply Sub.cons; (repeat (first | with_reducible exact Sel.here | exact Sel.here | apply Sel.there))))) (may2 (by first | exact .old (by assumption) | exact Sel.may (by (repeat (first | with_reducible exact Sel.here | exact Sel.here | apply Sel.there)); done) | exact may_own (by (repeat (first | with_reducible exact Sel.here | exact Sel.here | apply Sel.there)); done) rfl (fun _ _ => trivial) | exact may_ownB (by (repeat (first | with_reducible exact Sel.here | exact Sel.here | apply Sel.there)); done) | exact may_ownI (by (repeat (first | with_reducible exact Sel.here | exact Sel.here | apply Sel.there)); done) (by assumption) | exact may_ownN (by (repeat (first | with_reducible exact Sel.here | exact Sel.here | apply Sel.there)); done) (by assumption)) (by first | exact .old (by assumption) | exact Sel.may (by (repeat (first | with_reducible exact Sel.here | exact Sel.here | apply Sel.there)); done) | exact may_own (by (repeat (first | with_reducible exact Sel.here | exact Sel.here | apply Sel.there)); done) rfl (fun _ _ => trivial) | exact may_ownB (by (repeat (first | with_reducible exact Sel.here | exact Sel.here | apply Sel.there)); done) | exact may_ownI (by (repeat (first | with_reducible exact Sel.here | exact Sel.here | apply Sel.there)); done) (by assumption) | exact may_ownN (by (repeat (first | with_reducible exact Sel.here | exact Sel.here | apply Sel.there)); done) (by assumption))) (woutB_tr _ _ _ _ (by first | omega | (simp only [List.length_append, List.length_nil, putM_length]; omega))) (by repeat (first | exact Ap.nil | apply Ap.cons)) ?_)
        intro x57 hJ
        try dsimp only at hJ
        try dsimp only
        refine G.op rfl (G.val rfl rfl (pv_extract rfl rfl) ?_)
        refine G.op rfl (G.val rfl rfl (pv_extract rfl rfl) ?_)
        refine G.op rfl (G.val rfl rfl (pv_assign rfl) ?_)
        refine G.op rfl (G.val rfl rfl (pv_assign rfl) ?_)
        refine G.nil ?_
        refine G.nThen ?_
        refine G.ret ?_
        exact G.doneX2 (x57) (by first | exact trivial | ((try dsimp only); exact trivial)) rfl rfl rfl (by rw [h0]; rfl) (by repeat (first | exact Sub.nil | (apply Sub.cons; (repeat (first | with_reducible exact Sel.here | exact Sel.here | apply Sel.there)))))
set_option maxRecDepth 20000 in

theorem bytesNR {Pv1 Pv2 Pv3 : Nat → Prop} (k : Int) (v1 v2 v3 : Value) (ns : List Int) (ids : List (List UInt8)) (bs : List UInt8) : Tr Try.prog 14 #[.agg #[.int .i64 k, v1, v2, v3]] [slc rInt Pv1 v1 ns, slc rID Pv2 v2 ids, slc rByte Pv3 v3 bs] []
    (TX (fun _ : Value => True) (fun x => .tuple #[x, .int .i64 (checkM k ns ids.length bs.length)]) (fun x => [ownB 5 x (noteOut k ns ids bs)])) := by
  refine Tr.of (l := [(0, .agg #[.int .i64 k, v1, v2, v3])]) Try.func14 rfl (n := 65) rfl (.cons rfl .nil) (fun w0 hro => ?_)
  obtain ⟨hA, hB, hC⟩ := ro3 hro
  have hA' := hA
  have hB' := hB
  have hC' := hC
  have h16 := Ro.all16 hB
  have oa := Ro.open hA
  have ob := Ro.open hB
  have oc := Ro.open hC
  obtain ⟨aa, ca, qa, oa', rfl, hca, hma, -, had, hel⟩ := oa
  obtain ⟨ab, cb, qb, ob', rfl, hcb, hmb, -, hbd, hbl⟩ := ob
  obtain ⟨ac, cc, qc, oc', rfl, -⟩ := oc
  refine G.seq ?_
  refine G.region ?_
  refine G.op rfl (G.box rfl rfl (cs := [_, _, _, _]) rfl ?_)
  intro b1
  refine G.op rfl (G.val rfl rfl (pv_assign rfl) ?_)
  refine G.op rfl (G.val rfl rfl (pv_assign rfl) ?_)
  refine G.nil ?_
  refine G.nThen ?_
  refine G.seq ?_
  refine G.region ?_
  refine G.op rfl (G.val rfl rfl (pv_loadN (cs := [_, _, _, _]) Try.underlying26 rfl (by kernel_rfl) rfl (by first | exact blk_range (k := 4) (by (repeat (first | with_reducible exact Sel.here | exact Sel.here | apply Sel.there)); done) (by rfl) | exact rng_range (k := 4) (by (repeat (first | with_reducible exact Sel.here | exact Sel.here | apply Sel.there)); done) (by rfl) | exact ro_range (k := 4) (by assumption) (by rfl) | exact ro_rngR (k := 4) (by assumption) (by rfl))) ?_)
  refine G.op rfl (G.cR rfl rfl rfl rfl Try.func17 rfl rfl (may3 (by first | exact .old (by assumption) | exact Sel.may (by (repeat (first | with_reducible exact Sel.here | exact Sel.here | apply Sel.there)); done) | exact may_own (by (repeat (first | with_reducible exact Sel.here | exact Sel.here | apply Sel.there)); done) rfl (fun _ _ => trivial) | exact may_ownB (by (repeat (first | with_reducible exact Sel.here | exact Sel.here | apply Sel.there)); done) | exact may_ownI (by (repeat (first | with_reducible exact Sel.here | exact Sel.here | apply Sel.there)); done) (by assumption) | exact may_ownN (by (repeat (first | with_reducible exact Sel.here | exact Sel.here | apply Sel.there)); done) (by assumption)) (by first | exact .old (by assumption) | exact Sel.may (by (repeat (first | with_reducible exact Sel.here | exact Sel.here | apply Sel.there)); done) | exact may_own (by (repeat (first | with_reducible exact Sel.here | exact Sel.here | apply Sel.there)); done) rfl (fun _ _ => trivial) | exact may_ownB (by (repeat (first | with_reducible exact Sel.here | exact Sel.here | apply Sel.there)); done) | exact may_ownI (by (repeat (first | with_reducible exact Sel.here | exact Sel.here | apply Sel.there)); done) (by assumption) | exact may_ownN (by (repeat (first | with_reducible exact Sel.here | exact Sel.here | apply Sel.there)); done) (by assumption)) (by first | exact .old (by assumption) | exact Sel.may (by (repeat (first | with_reducible exact Sel.here | exact Sel.here | apply Sel.there)); done) | exact may_own (by (repeat (first | with_reducible exact Sel.here | exact Sel.here | apply Sel.there)); done) rfl (fun _ _ => trivial) | exact may_ownB (by (repeat (first | with_reducible exact Sel.here | exact Sel.here | apply Sel.there)); done) | exact may_ownI (by (repeat (first | with_reducible exact Sel.here | exact Sel.here | apply Sel.there)); done) (by assumption) | exact may_ownN (by (repeat (first | with_reducible exact Sel.here | exact Sel.here | apply Sel.there)); done) (by assumption))) (checkR _ _ _ _ _ _ _) ?_)
  refine G.op rfl (G.val rfl rfl (pv_assign rfl) ?_)
  refine G.nil ?_
  refine G.nThen ?_
  refine G.seq ?_
  refine G.seq ?_
  refine G.region ?_
  refine G.op rfl (G.val rfl rfl (pv_move rfl) ?_)
  refine G.op rfl (G.val rfl rfl (pv_neq rfl rfl) ?_)
  refine G.nil ?_
  refine G.nThen ?_
  refine G.condP rfl (fun h11 => ?_) (fun h11 => ?_)
  · rw [show noteOut k ns ids bs = [] from if_neg h11]
    refine G.seq ?_
    refine G.region ?_
    refine G.op rfl (G.val rfl rfl (pv_move rfl) ?_)
    refine G.op rfl (G.val rfl rfl (pv_assign rfl) ?_)
    refine G.op rfl (G.val rfl rfl (pv_assign rfl) ?_)
    refine G.nil ?_
    refine G.nThen ?_
    refine G.ret ?_
    refine G.rThen ?_
    refine G.ownBNil 5 ?_
    exact G.doneX2 (.slice none 0 0) (by first | exact trivial | ((try dsimp only); exact trivial)) rfl rfl rfl (by first | rfl | exact int_eq (by omega) | (simp; done)) (by repeat (first | exact Sub.nil | (apply Sub.cons; (repeat (first | with_reducible exact Sel.here | exact Sel.here | apply Sel.there)))))
  · have h0 : checkM k ns ids.length bs.length = 0 := by omega
    rw [show noteOut k ns ids bs = noteB k ns ids bs from if_pos h0]
    obtain ⟨hk1, hk2, hall, hn, hi, hbs⟩ := checkM_ok h0
    have e1 := sizeM_le k
    have e2 := sizeM_le (ns.length : Int)
    have e3 := sizeM_le (ids.length : Int)
    have q1 := hdN_len k ns
    have q2 := hdI_len k ns ids
    have q3 := fN_len ns ns.length
    have q4 := fI_len h16 ids.length
    have q5 := noteB_len (k := k) (ns := ns) (bs := bs) h16
    refine G.skip ?_
    refine G.nThen ?_
    refine G.seq ?_
    refine G.region ?_
    refine G.op rfl (G.val rfl rfl (pv_buildSt (z := [.slice none 0 0, .bool false]) (pl := [(0, 1), (1, 1)]) Try.underlying65 (by kernel_rfl) (by kernel_rfl) rfl (by repeat (first | exact Fl.nil | (apply Fl.cons; exact rfl; (first | exact cells_of (by first | rfl | assumption) | exact rfl); exact rfl; exact rfl; repeat (first | exact Sn.nil | (apply Sn.cons; repeat (first | exact St.zero | apply St.succ))))))) ?_)
    refine G.op rfl (G.box rfl rfl (cs := [_, _]) rfl ?_)
    intro b14
    refine G.ownNil 5 1 ?_
    rw [show own 5 1 (.slice none 0 0) 0 [] = own 5 1 (.slice none 0 0) ([] : List UInt8).length (([] : List UInt8).map vByte) from rfl]
    refine G.op rfl (G.val rfl rfl (pv_assign rfl) ?_)
    refine G.nil ?_
    refine G.nThen ?_
    refine G.seq ?_
    refine G.region ?_
    refine G.op rfl (G.val rfl rfl (pv_move rfl) ?_)
    refine G.op rfl (G.val rfl rfl (pv_fieldAddrK (sz := 0) (k := 0) Try.underlying26 rfl (by kernel_rfl) rfl rfl) ?_)
    refine G.op rfl (G.val rfl rfl (pv_load Try.underlying3 rfl rfl (by first | exact blk_cell (by (repeat (first | with_reducible exact Sel.here | exact Sel.here | apply Sel.there)); done) (by rfl) | exact rng_cell (by (repeat (first | with_reducible exact Sel.here | exact Sel.here | apply Sel.there)); done) (by rfl) | exact ro_blk (by assumption) (by rfl) | exact ro_rngC (by assumption) (by rfl) | exact ro_int (by assumption) | exact ro_byte (by assumption) | exact ro_str (by assumption) | assumption)) ?_)
    refine G.op rfl (G.cS rfl rfl rfl rfl Try.func38 rfl rfl (by repeat (first | exact Sub.nil | (apply Sub.cons; (repeat (first | with_reducible exact Sel.here | exact Sel.here | apply Sel.there))))) may0 (wintR _ _ _ _ (by omega) (by first | omega | (simp only [List.length_append, List.length_nil, putM_length]; omega))) (by repeat (first | exact Ap.nil | apply Ap.cons)) ?_)
    intro x18 hJ
    try dsimp only at hJ
    try dsimp only
    refine G.nil ?_
    refine G.nThen ?_
    refine G.seq ?_
    refine G.region ?_
    refine G.op rfl (G.val rfl rfl (pv_move rfl) ?_)
    refine G.op rfl (G.val rfl rfl (pv_fieldAddrK (sz := 0) (k := 1) Try.underlying26 rfl (by kernel_rfl) rfl rfl) ?_)
    refine G.op rfl (G.val rfl rfl (pv_load Try.underlying22 rfl rfl (by first | exact blk_cell (by (repeat (first | with_reducible exact Sel.here | exact Sel.here | apply Sel.there)); done) (by rfl) | exact rng_cell (by (repeat (first | with_reducible exact Sel.here | exact Sel.here | apply Sel.there)); done) (by rfl) | exact ro_blk (by assumption) (by rfl) | exact ro_rngC (by assumption) (by rfl) | exact ro_int (by assumption) | exact ro_byte (by assumption) | exact ro_str (by assumption) | assumption)) ?_)
    refine G.op rfl (G.val rfl rfl (pv_lenSl Try.underlying22 rfl) ?_)
    refine G.op rfl (G.cS rfl rfl rfl rfl Try.func38 rfl rfl (by repeat (first | exact Sub.nil | (apply Sub.cons; (repeat (first | with_reducible exact Sel.here | exact Sel.here | apply Sel.there))))) may0 (wintR _ _ _ _ (by omega) (by first | omega | (simp only [List.length_append, List.length_nil, putM_length]; omega))) (by repeat (first | exact Ap.nil | apply Ap.cons)) ?_)
    intro x23 hJ
    try dsimp only at hJ
    try dsimp only
    rw [show ([] : List UInt8) ++ putM k ++ putM (ns.length : Int) = hdN k ns from rfl]
    refine G.nil ?_
    refine G.nThen ?_
    refine G.seq ?_
    refine G.seq ?_
    refine G.region ?_
    refine G.op rfl (G.val rfl rfl (pv_assign rfl) ?_)
    refine G.nil ?_
    refine G.nThen ?_
    refine G.block ?_
    rw [← fN_zero (hdN k ns) ns]
    refine G.loopK (X := Nat × Value) (ts := [1, 2, 3, 5]) (fun st => st.1 ≤ ns.length) (fun st => [(6, .int .i64 (st.1 : Int))]) (fun st => [blk b14 65 [st.2, .bool false], own 5 1 st.2 (hdN k ns ++ fN ns st.1).length ((hdN k ns ++ fN ns st.1).map vByte)]) (fun st => ns.length - st.1) (x0 := (0, x23)) (.cons rfl (.cons rfl (.cons rfl (.cons rfl .nil)))) (by repeat (first | exact Sub.nil | (apply Sub.cons; (repeat (first | with_reducible exact Sel.here | exact Sel.here | apply Sel.there))))) (.cons .nil) (by repeat (first | exact Ap.nil | apply Ap.cons)) (by first | exact trivial | ((try dsimp only); exact Nat.zero_le _)) (.consE rfl (by first | rfl | exact int_eq (by omega) | exact congrArg _ (by omega)) .nil) (fun st hJ => ?_)
    obtain ⟨j, vw⟩ := st
    try dsimp only at hJ
    try dsimp only
    have hkj := hJ
    have qj := fN_len ns j
    have qj1 := fN_len ns (j + 1)
    refine G.seq ?_
    refine G.seq ?_
    refine G.region ?_
    refine G.op rfl (G.val rfl rfl (pv_move rfl) ?_)
    refine G.op rfl (G.val rfl rfl (pv_fieldAddrK (sz := 0) (k := 1) Try.underlying26 rfl (by kernel_rfl) rfl rfl) ?_)
    refine G.op rfl (G.val rfl rfl (pv_load Try.underlying22 rfl rfl (by first | exact blk_cell (by (repeat (first | with_reducible exact Sel.here | exact Sel.here | apply Sel.there)); done) (by rfl) | exact rng_cell (by (repeat (first | with_reducible exact Sel.here | exact Sel.here | apply Sel.there)); done) (by rfl) | exact ro_blk (by assumption) (by rfl) | exact ro_rngC (by assumption) (by rfl) | exact ro_int (by assumption) | exact ro_byte (by assumption) | exact ro_str (by assumption) | assumption)) ?_)
    refine G.op rfl (G.val rfl rfl (pv_lenSl Try.underlying22 rfl) ?_)
    refine G.op rfl (G.val rfl rfl (pv_lss rfl rfl) ?_)
    refine G.nil ?_
    refine G.nThen ?_
    refine G.condP rfl (fun h28 => ?_) (fun h28 => ?_)
    · have hlj : j < ns.length := by omega
      have hE := hel j hlj
      refine G.skip ?_
      refine G.nThen ?_
      refine G.seq ?_
      refine G.block ?_
      refine G.region ?_
      refine G.op rfl (G.val rfl rfl (pv_move rfl) ?_)
      refine G.op rfl (G.val rfl rfl (pv_fieldAddrK (sz := 0) (k := 1) Try.underlying26 rfl (by kernel_rfl) rfl rfl) ?_)
      refine G.op rfl (G.val rfl rfl (pv_load Try.underlying22 rfl rfl (by first | exact blk_cell (by (repeat (first | with_reducible exact Sel.here | exact Sel.here | apply Sel.there)); done) (by rfl) | exact rng_cell (by (repeat (first | with_reducible exact Sel.here | exact Sel.here | apply Sel.there)); done) (by rfl) | exact ro_blk (by assumption) (by rfl) | exact ro_rngC (by assumption) (by rfl) | exact ro_int (by assumption) | exact ro_byte (by assumption) | exact ro_str (by assumption) | assumption)) ?_)
      refine G.op rfl (G.val rfl rfl (pv_move rfl) ?_)
      refine G.op rfl (G.val rfl rfl (pv_ixSl (sz := 1) Try.underlying22 (by kernel_rfl) rfl rfl (by first | assumption | exact fun _ => rfl) rfl (by omega)) ?_)
      refine G.op rfl (G.val rfl rfl (pv_load Try.underlying3 rfl rfl (by first | exact blk_cell (by (repeat (first | with_reducible exact Sel.here | exact Sel.here | apply Sel.there)); done) (by rfl) | exact rng_cell (by (repeat (first | with_reducible exact Sel.here | exact Sel.here | apply Sel.there)); done) (by rfl) | exact ro_blk (by assumption) (by rfl) | exact ro_rngC (by assumption) (by rfl) | exact ro_int (by assumption) | exact ro_byte (by assumption) | exact ro_str (by assumption) | assumption)) ?_)
      refine G.op rfl (G.cS rfl rfl rfl rfl Try.func38 rfl rfl (by repeat (first | exact Sub.nil | (apply Sub.cons; (repeat (first | with_reducible exact Sel.here | exact Sel.here | apply Sel.there))))) may0 (wintR _ _ _ _ (hall _ (List.getElem_mem hlj)) (by first | omega | (simp only [List.length_append, List.length_nil, putM_length]; omega))) (by repeat (first | exact Ap.nil | apply Ap.cons)) ?_)
      intro x37 hJ
      try dsimp only at hJ
      try dsimp only
      rw [fN_app (hdN k ns) hlj]
      refine G.nil ?_
      refine G.nBlock ?_
      refine G.nThen ?_
      refine G.region ?_
      refine G.op rfl (G.val rfl rfl (pv_move rfl) ?_)
      refine G.op rfl (G.val rfl rfl (pv_add64 rfl rfl (by omega)) ?_)
      refine G.op rfl (G.val rfl rfl (pv_assign rfl) ?_)
      refine G.nil ?_
      exact G.next ((j + 1, x37)) (by first | exact trivial | ((try dsimp only); exact by omega)) (by (try dsimp only); omega) (.consE rfl (by first | rfl | exact int_eq (by omega) | exact congrArg _ (by omega)) (.cons rfl (.cons rfl (.cons rfl (.cons rfl .nil))))) (by repeat (first | exact Sub.nil | (apply Sub.cons; (repeat (first | with_reducible exact Sel.here | exact Sel.here | apply Sel.there)))))
    · obtain rfl : j = ns.length := by omega
      refine G.exit ?_
      refine G.eThen ?_
      refine G.eThen ?_
      refine G.eBlock ?_
      refine G.nThen ?_
      refine G.seq ?_
      refine G.region ?_
      refine G.op rfl (G.val rfl rfl (pv_move rfl) ?_)
      refine G.op rfl (G.val rfl rfl (pv_fieldAddrK (sz := 0) (k := 2) Try.underlying26 rfl (by kernel_rfl) rfl rfl) ?_)
      refine G.op rfl (G.val rfl rfl (pv_load Try.underlying23 rfl rfl (by first | exact blk_cell (by (repeat (first | with_reducible exact Sel.here | exact Sel.here | apply Sel.there)); done) (by rfl) | exact rng_cell (by (repeat (first | with_reducible exact Sel.here | exact Sel.here | apply Sel.there)); done) (by rfl) | exact ro_blk (by assumption) (by rfl) | exact ro_rngC (by assumption) (by rfl) | exact ro_int (by assumption) | exact ro_byte (by assumption) | exact ro_str (by assumption) | assumption)) ?_)
      refine G.op rfl (G.val rfl rfl (pv_lenSl Try.underlying23 rfl) ?_)
      refine G.op rfl (G.cS rfl rfl rfl rfl Try.func38 rfl rfl (by repeat (first | exact Sub.nil | (apply Sub.cons; (repeat (first | with_reducible exact Sel.here | exact Sel.here | apply Sel.there))))) may0 (wintR _ _ _ _ (by omega) (by first | omega | (simp only [List.length_append, List.length_nil, putM_length]; omega))) (by repeat (first | exact Ap.nil | apply Ap.cons)) ?_)
      intro x42 hJ
      try dsimp only at hJ
      try dsimp only
      rw [show hdN k ns ++ fN ns ns.length ++ putM (ids.length : Int) = hdI k ns ids from rfl]
      refine G.nil ?_
      refine G.nThen ?_
      refine G.seq ?_
      refine G.seq ?_
      refine G.region ?_
      refine G.op rfl (G.val rfl rfl (pv_assign rfl) ?_)
      refine G.nil ?_
      refine G.nThen ?_
      refine G.block ?_
      rw [← fI_zero (hdI k ns ids) ids]
      refine G.loopK (X := Nat × Value) (ts := [1, 2, 3, 5]) (fun st => st.1 ≤ ids.length) (fun st => [(7, .int .i64 (st.1 : Int))]) (fun st => [blk b14 65 [st.2, .bool false], own 5 1 st.2 (hdI k ns ids ++ fI ids st.1).length ((hdI k ns ids ++ fI ids st.1).map vByte)]) (fun st => ids.length - st.1) (x0 := (0, x42)) (.cons rfl (.cons rfl (.cons rfl (.cons rfl .nil)))) (by repeat (first | exact Sub.nil | (apply Sub.cons; (repeat (first | with_reducible exact Sel.here | exact Sel.here | apply Sel.there))))) (.cons .nil) (by repeat (first | exact Ap.nil | apply Ap.cons)) (by first | exact trivial | ((try dsimp only); exact Nat.zero_le _)) (.consE rfl (by first | rfl | exact int_eq (by omega) | exact congrArg _ (by omega)) .nil) (fun st hJ => ?_)
      obtain ⟨q, vi⟩ := st
      try dsimp only at hJ
      try dsimp only
      have hkq := hJ
      have qj := fI_len h16 q
      have qj1 := fI_len h16 (q + 1)
      refine G.seq ?_
      refine G.seq ?_
      refine G.region ?_
      refine G.op rfl (G.val rfl rfl (pv_move rfl) ?_)
      refine G.op rfl (G.val rfl rfl (pv_fieldAddrK (sz := 0) (k := 2) Try.underlying26 rfl (by kernel_rfl) rfl rfl) ?_)
      refine G.op rfl (G.val rfl rfl (pv_load Try.underlying23 rfl rfl (by first | exact blk_cell (by (repeat (first | with_reducible exact Sel.here | exact Sel.here | apply Sel.there)); done) (by rfl) | exact rng_cell (by (repeat (first | with_reducible exact Sel.here | exact Sel.here | apply Sel.there)); done) (by rfl) | exact ro_blk (by assumption) (by rfl) | exact ro_rngC (by assumption) (by rfl) | exact ro_int (by assumption) | exact ro_byte (by assumption) | exact ro_str (by assumption) | assumption)) ?_)
      refine G.op rfl (G.val rfl rfl (pv_lenSl Try.underlying23 rfl) ?_)
      refine G.op rfl (G.val rfl rfl (pv_lss rfl rfl) ?_)
      refine G.nil ?_
      refine G.nThen ?_
      refine G.condP rfl (fun h47 => ?_) (fun h47 => ?_)
      · have hlq : q < ids.length := by omega
        obtain ⟨lq, rq⟩ := Ro.arr8 (hbl q hlq)
        refine G.skip ?_
        refine G.nThen ?_
        refine G.seq ?_
        refine G.block ?_
        refine G.region ?_
        refine G.op rfl (G.val rfl rfl (pv_move rfl) ?_)
        refine G.op rfl (G.val rfl rfl (pv_fieldAddrK (sz := 0) (k := 2) Try.underlying26 rfl (by kernel_rfl) rfl rfl) ?_)
        refine G.op rfl (G.val rfl rfl (pv_load Try.underlying23 rfl rfl (by first | exact blk_cell (by (repeat (first | with_reducible exact Sel.here | exact Sel.here | apply Sel.there)); done) (by rfl) | exact rng_cell (by (repeat (first | with_reducible exact Sel.here | exact Sel.here | apply Sel.there)); done) (by rfl) | exact ro_blk (by assumption) (by rfl) | exact ro_rngC (by assumption) (by rfl) | exact ro_int (by assumption) | exact ro_byte (by assumption) | exact ro_str (by assumption) | assumption)) ?_)
        refine G.op rfl (G.val rfl rfl (pv_move rfl) ?_)
        refine G.op rfl (G.val rfl rfl (pv_ixSl (sz := 16) Try.underlying23 (by kernel_rfl) rfl rfl (by first | assumption | exact fun _ => rfl) rfl (by omega)) ?_)
        refine G.op rfl (G.val rfl rfl (pv_loadN (cs := ids[q].map vByte) Try.underlying49 rfl (by rw [List.length_map, lq]; kernel_rfl) rfl rq) ?_)
        refine G.op rfl (G.cS rfl rfl rfl rfl Try.func39 rfl rfl (by repeat (first | exact Sub.nil | (apply Sub.cons; (repeat (first | with_reducible exact Sel.here | exact Sel.here | apply Sel.there))))) may0 (widR_tr _ _ _ _ ids[q] lq (by first | omega | (simp only [List.length_append, List.length_nil, putM_length]; omega))) (by repeat (first | exact Ap.nil | apply Ap.cons)) ?_)
        intro x56 hJ
        try dsimp only at hJ
        try dsimp only
        rw [fI_app (hdI k ns ids) hlq]
        refine G.nil ?_
        refine G.nBlock ?_
        refine G.nThen ?_
        refine G.region ?_
        refine G.op rfl (G.val rfl rfl (pv_move rfl) ?_)
        refine G.op rfl (G.val rfl rfl (pv_add64 rfl rfl (by omega)) ?_)
        refine G.op rfl (G.val rfl rfl (pv_assign rfl) ?_)
        refine G.nil ?_
        exact G.next ((q + 1, x56)) (by first | exact trivial | ((try dsimp only); exact by omega)) (by (try dsimp only); omega) (.consE rfl (by first | rfl | exact int_eq (by omega) | exact congrArg _ (by omega)) (.cons rfl (.cons rfl (.cons rfl (.cons rfl .nil))))) (by repeat (first | exact Sub.nil | (apply Sub.cons; (repeat (first | with_reducible exact Sel.here | exact Sel.here | apply Sel.there)))))
      · obtain rfl : q = ids.length := by omega
        refine G.exit ?_
        refine G.eThen ?_
        refine G.eThen ?_
        refine G.eBlock ?_
        refine G.nThen ?_
        refine G.seq ?_
        refine G.region ?_
        refine G.op rfl (G.val rfl rfl (pv_move rfl) ?_)
        refine G.op rfl (G.val rfl rfl (pv_fieldAddrK (sz := 0) (k := 3) Try.underlying26 rfl (by kernel_rfl) rfl rfl) ?_)
        refine G.op rfl (G.val rfl rfl (pv_load Try.underlying24 rfl rfl (by first | exact blk_cell (by (repeat (first | with_reducible exact Sel.here | exact Sel.here | apply Sel.there)); done) (by rfl) | exact rng_cell (by (repeat (first | with_reducible exact Sel.here | exact Sel.here | apply Sel.there)); done) (by rfl) | exact ro_blk (by assumption) (by rfl) | exact ro_rngC (by assumption) (by rfl) | exact ro_int (by assumption) | exact ro_byte (by assumption) | exact ro_str (by assumption) | assumption)) ?_)
        refine G.op rfl (G.cS rfl rfl rfl rfl Try.func40 rfl rfl (by repeat (first | exact Sub.nil | (apply Sub.cons; (repeat (first | with_reducible exact Sel.here | exact Sel.here | apply Sel.there))))) (may1 (by first | exact .old (by assumption) | exact Sel.may (by (repeat (first | with_reducible exact Sel.here | exact Sel.here | apply Sel.there)); done) | exact may_own (by (repeat (first | with_reducible exact Sel.here | exact Sel.here | apply Sel.there)); done) rfl (fun _ _ => trivial) | exact may_ownB (by (repeat (first | with_reducible exact Sel.here | exact Sel.here | apply Sel.there)); done) | exact may_ownI (by (repeat (first | with_reducible exact Sel.here | exact Sel.here | apply Sel.there)); done) (by assumption) | exact may_ownN (by (repeat (first | with_reducible exact Sel.here | exact Sel.here | apply Sel.there)); done) (by assumption))) (wbytesR _ _ _ _ bs (by first | omega | (simp only [List.length_append, List.length_nil, putM_length]; omega)) (by omega)) (by repeat (first | exact Ap.nil | apply Ap.cons)) ?_)
        intro x60 hJ
        try dsimp only at hJ
        try dsimp only
        rw [show hdI k ns ids ++ fI ids ids.length ++ bytesM bs = noteB k ns ids bs from rfl]
        refine G.nil ?_
        refine G.nThen ?_
        refine G.seq ?_
        refine G.region ?_
        refine G.op rfl (G.val rfl rfl (pv_move rfl) ?_)
        refine G.op rfl (G.cS rfl rfl rfl rfl Try.func41 rfl rfl (by repeat (first | exact Sub.nil | (apply Sub.cons; (repeat (first | with_reducible exact Sel.here | exact Sel.here | apply Sel.there))))) (may2 (by first | exact .old (by assumption) | exact Sel.may (by (repeat (first | with_reducible exact Sel.here | exact Sel.here | apply Sel.there)); done) | exact may_own (by (repeat (first | with_reducible exact Sel.here | exact Sel.here | apply Sel.there)); done) rfl (fun _ _ => trivial) | exact may_ownB (by (repeat (first | with_reducible exact Sel.here | exact Sel.here | apply Sel.there)); done) | exact may_ownI (by (repeat (first | with_reducible exact Sel.here | exact Sel.here | apply Sel.there)); done) (by assumption) | exact may_ownN (by (repeat (first | with_reducible exact Sel.here | exact Sel.here | apply Sel.there)); done) (by assumption)) (by first | exact .old (by assumption) | exact Sel.may (by (repeat (first | with_reducible exact Sel.here | exact Sel.here | apply Sel.there)); done) | exact may_own (by (repeat (first | with_reducible exact Sel.here | exact Sel.here | apply Sel.there)); done) rfl (fun _ _ => trivial) | exact may_ownB (by (repeat (first | with_reducible exact Sel.here | exact Sel.here | apply Sel.there)); done) | exact may_ownI (by (repeat (first | with_reducible exact Sel.here | exact Sel.here | apply Sel.there)); done) (by assumption) | exact may_ownN (by (repeat (first | with_reducible exact Sel.here | exact Sel.here | apply Sel.there)); done) (by assumption))) (woutRB_tr _ _ _ _ (by first | omega | (simp only [List.length_append, List.length_nil, putM_length]; omega))) (by repeat (first | exact Ap.nil | apply Ap.cons)) ?_)
        intro x62 hJ
        try dsimp only at hJ
        try dsimp only
        refine G.op rfl (G.val rfl rfl (pv_extract rfl rfl) ?_)
        refine G.op rfl (G.val rfl rfl (pv_extract rfl rfl) ?_)
        refine G.op rfl (G.val rfl rfl (pv_assign rfl) ?_)
        refine G.op rfl (G.val rfl rfl (pv_assign rfl) ?_)
        refine G.nil ?_
        refine G.nThen ?_
        refine G.ret ?_
        exact G.doneX2 (x62) (by first | exact trivial | ((try dsimp only); exact trivial)) rfl rfl rfl (by rw [h0]; rfl) (by repeat (first | exact Sub.nil | (apply Sub.cons; (repeat (first | with_reducible exact Sel.here | exact Sel.here | apply Sel.there)))))
end Go.Proofs.Ytakcffhknnailaa
