/- The statement NoteCut. Conditions: none. -/
import Derived.Test.YtakcffhknnailaaNJ
import Derived.Test.YtakcffhknnailaaNP
set_option linter.unusedVariables false
set_option linter.unusedSimpArgs false
namespace Go.Proofs.Ytakcffhknnailaa
open Go.RowKit

theorem noteB_pos {k : Int} {ns : List Int} {ids : List (List UInt8)} {bs : List UInt8} (h1 : 1 ≤ k) (h2 : k ≤ 24) : 0 < (noteB k ns ids bs).length := by
  have := sizeM_ok (x := k) (by omega) (by omega)
  unfold noteB hdI hdN
  simp only [List.length_append, putM_length]
  omega
set_option maxRecDepth 20000 in
set_option maxHeartbeats 4000000 in

theorem ncut {Pv1 Pv2 Pv3 Pm : Nat → Prop} (k at_ : Int) (v1 v2 v3 vm : Value) (ns : List Int) (ids : List (List UInt8)) (bs more : List UInt8) : Tr Try.prog 6 #[.agg #[.int .i64 k, v1, v2, v3], .int .i64 at_, vm] [slc rInt Pv1 v1 ns, slc rID Pv2 v2 ids, slc rByte Pv3 v3 bs, slc rByte Pm vm more] [] (T0 (.bool true)) := by
  refine Tr.of (l := [(0, .agg #[.int .i64 k, v1, v2, v3]), (1, .int .i64 at_), (2, vm)]) Try.func6 rfl (n := 57) rfl (.cons rfl (.cons rfl (.cons rfl .nil))) (fun w0 hro => ?_)
  obtain ⟨hA, hB, hC, hM⟩ := ro4 hro
  have hM' := hM
  have h64 := Ro.i64s hA
  have h16 := Ro.all16 hB
  have oA := Ro.open hA
  obtain ⟨aA, cA, qA, oA, rfl, -⟩ := oA
  have oB := Ro.open hB
  obtain ⟨aB, cB, qB, oB, rfl, -⟩ := oB
  have oC := Ro.open hC
  obtain ⟨aC, cC, qC, oC, rfl, -⟩ := oC
  have oM := Ro.open hM
  obtain ⟨aM, cM, qM, oM, rfl, -⟩ := oM
  refine G.seq ?_
  refine G.region ?_
  refine G.op rfl (G.box rfl rfl (cs := [_, _, _, _]) rfl ?_)
  intro b3
  refine G.op rfl (G.val rfl rfl (pv_assign rfl) ?_)
  refine G.nil ?_
  refine G.nThen ?_
  refine G.seq ?_
  refine G.region ?_
  refine G.op rfl (G.cR rfl rfl rfl rfl Try.func20 rfl rfl may0 (awake10) ?_)
  refine G.op rfl (G.val rfl rfl (pv_assign rfl) ?_)
  refine G.nil ?_
  refine G.nThen ?_
  refine G.seq ?_
  refine G.seq ?_
  refine G.region ?_
  refine G.op rfl (G.val rfl rfl (pv_loadN (cs := [_, _, _, _]) Try.underlying26 rfl (by kernel_rfl) rfl (by first | exact blk_range (k := 4) (by (repeat (first | with_reducible exact Sel.here | exact Sel.here | apply Sel.there)); done) (by rfl) | exact rng_range (k := 4) (by (repeat (first | with_reducible exact Sel.here | exact Sel.here | apply Sel.there)); done) (by rfl) | exact ro_range (k := 4) (by assumption) (by rfl) | exact ro_rngR (k := 4) (by assumption) (by rfl))) ?_)
  refine G.op rfl (G.cR rfl rfl rfl rfl Try.func11 rfl rfl (may3 (by first | (apply May.old; first | with_reducible assumption | assumption) | (apply Sel.may; (repeat (first | with_reducible exact Sel.here | exact Sel.here | apply Sel.there)); done) | (apply may_own; (repeat (first | with_reducible exact Sel.here | exact Sel.here | apply Sel.there)); exact rfl; exact (fun _ _ => trivial); done) | (apply may_ownB; (repeat (first | with_reducible exact Sel.here | exact Sel.here | apply Sel.there)); done) | exact may_nil | (apply may_ownI; (repeat (first | with_reducible exact Sel.here | exact Sel.here | apply Sel.there)); assumption; done) | (apply may_ownN; (repeat (first | with_reducible exact Sel.here | exact Sel.here | apply Sel.there)); assumption; done)) (by first | (apply May.old; first | with_reducible assumption | assumption) | (apply Sel.may; (repeat (first | with_reducible exact Sel.here | exact Sel.here | apply Sel.there)); done) | (apply may_own; (repeat (first | with_reducible exact Sel.here | exact Sel.here | apply Sel.there)); exact rfl; exact (fun _ _ => trivial); done) | (apply may_ownB; (repeat (first | with_reducible exact Sel.here | exact Sel.here | apply Sel.there)); done) | exact may_nil | (apply may_ownI; (repeat (first | with_reducible exact Sel.here | exact Sel.here | apply Sel.there)); assumption; done) | (apply may_ownN; (repeat (first | with_reducible exact Sel.here | exact Sel.here | apply Sel.there)); assumption; done)) (by first | (apply May.old; first | with_reducible assumption | assumption) | (apply Sel.may; (repeat (first | with_reducible exact Sel.here | exact Sel.here | apply Sel.there)); done) | (apply may_own; (repeat (first | with_reducible exact Sel.here | exact Sel.here | apply Sel.there)); exact rfl; exact (fun _ _ => trivial); done) | (apply may_ownB; (repeat (first | with_reducible exact Sel.here | exact Sel.here | apply Sel.there)); done) | exact may_nil | (apply may_ownI; (repeat (first | with_reducible exact Sel.here | exact Sel.here | apply Sel.there)); assumption; done) | (apply may_ownN; (repeat (first | with_reducible exact Sel.here | exact Sel.here | apply Sel.there)); assumption; done))) (longNote_tr _ _ _ _ _ _ _) ?_)
  refine G.op rfl (G.val rfl rfl (pv_move rfl) ?_)
  refine G.partP (t := 14) rfl (fun h14 => ?_) (fun h14 => ?_)
  · refine G.pass rfl rfl rfl rfl rfl rfl ?_
    refine G.pass rfl rfl rfl rfl rfl rfl ?_
    refine G.pass rfl rfl rfl rfl rfl rfl ?_
    refine G.op rfl (G.val rfl rfl (pv_pick rfl rfl) ?_)
    refine G.op rfl (G.val rfl rfl (pv_move rfl) ?_)
    refine G.pass rfl rfl rfl rfl rfl rfl ?_
    refine G.pass rfl rfl rfl rfl rfl rfl ?_
    refine G.pass rfl rfl rfl rfl rfl rfl ?_
    refine G.op rfl (G.val rfl rfl (pv_pick rfl rfl) ?_)
    refine G.op rfl (G.val rfl rfl (pv_move rfl) ?_)
    refine G.pass rfl rfl rfl rfl rfl rfl ?_
    refine G.pass rfl rfl rfl rfl rfl rfl ?_
    refine G.pass rfl rfl rfl rfl rfl rfl ?_
    refine G.op rfl (G.val rfl rfl (pv_pick rfl rfl) ?_)
    refine G.nil ?_
    refine G.nThen ?_
    refine G.condT rfl (rfl) ?_
    refine G.seq ?_
    refine G.region ?_
    refine G.op rfl (G.val rfl rfl (pv_move rfl) ?_)
    refine G.op rfl (G.val rfl rfl (pv_assign rfl) ?_)
    refine G.nil ?_
    refine G.nThen ?_
    refine G.ret ?_
    refine G.rThen ?_
    exact G.done0G rfl (Rv.tmp rfl Rv.nil) (by first | rfl | exact int_eq (by omega) | (simp; done))
  · refine G.want rfl rfl rfl (G.val rfl rfl (pv_loadN (cs := [_, _, _, _]) Try.underlying26 rfl (by kernel_rfl) rfl (by first | exact blk_range (k := 4) (by (repeat (first | with_reducible exact Sel.here | exact Sel.here | apply Sel.there)); done) (by rfl) | exact rng_range (k := 4) (by (repeat (first | with_reducible exact Sel.here | exact Sel.here | apply Sel.there)); done) (by rfl) | exact ro_range (k := 4) (by assumption) (by rfl) | exact ro_rngR (k := 4) (by assumption) (by rfl))) ?_)
    refine G.want rfl rfl rfl (G.cR rfl rfl rfl rfl Try.func16 rfl rfl (may3 (by first | (apply May.old; first | with_reducible assumption | assumption) | (apply Sel.may; (repeat (first | with_reducible exact Sel.here | exact Sel.here | apply Sel.there)); done) | (apply may_own; (repeat (first | with_reducible exact Sel.here | exact Sel.here | apply Sel.there)); exact rfl; exact (fun _ _ => trivial); done) | (apply may_ownB; (repeat (first | with_reducible exact Sel.here | exact Sel.here | apply Sel.there)); done) | exact may_nil | (apply may_ownI; (repeat (first | with_reducible exact Sel.here | exact Sel.here | apply Sel.there)); assumption; done) | (apply may_ownN; (repeat (first | with_reducible exact Sel.here | exact Sel.here | apply Sel.there)); assumption; done)) (by first | (apply May.old; first | with_reducible assumption | assumption) | (apply Sel.may; (repeat (first | with_reducible exact Sel.here | exact Sel.here | apply Sel.there)); done) | (apply may_own; (repeat (first | with_reducible exact Sel.here | exact Sel.here | apply Sel.there)); exact rfl; exact (fun _ _ => trivial); done) | (apply may_ownB; (repeat (first | with_reducible exact Sel.here | exact Sel.here | apply Sel.there)); done) | exact may_nil | (apply may_ownI; (repeat (first | with_reducible exact Sel.here | exact Sel.here | apply Sel.there)); assumption; done) | (apply may_ownN; (repeat (first | with_reducible exact Sel.here | exact Sel.here | apply Sel.there)); assumption; done)) (by first | (apply May.old; first | with_reducible assumption | assumption) | (apply Sel.may; (repeat (first | with_reducible exact Sel.here | exact Sel.here | apply Sel.there)); done) | (apply may_own; (repeat (first | with_reducible exact Sel.here | exact Sel.here | apply Sel.there)); exact rfl; exact (fun _ _ => trivial); done) | (apply may_ownB; (repeat (first | with_reducible exact Sel.here | exact Sel.here | apply Sel.there)); done) | exact may_nil | (apply may_ownI; (repeat (first | with_reducible exact Sel.here | exact Sel.here | apply Sel.there)); assumption; done) | (apply may_ownN; (repeat (first | with_reducible exact Sel.here | exact Sel.here | apply Sel.there)); assumption; done))) (checkF _ _ _ _ _ _ _) ?_)
    refine G.want rfl rfl rfl (G.val rfl rfl (pv_neq rfl rfl) ?_)
    refine G.op rfl (G.val rfl rfl (pv_pick rfl rfl) ?_)
    refine G.op rfl (G.val rfl rfl (pv_move rfl) ?_)
    refine G.partP (t := 19) rfl (fun h19 => ?_) (fun h19 => ?_)
    · refine G.pass rfl rfl rfl rfl rfl rfl ?_
      refine G.pass rfl rfl rfl rfl rfl rfl ?_
      refine G.pass rfl rfl rfl rfl rfl rfl ?_
      refine G.op rfl (G.val rfl rfl (pv_pick rfl rfl) ?_)
      refine G.op rfl (G.val rfl rfl (pv_move rfl) ?_)
      refine G.pass rfl rfl rfl rfl rfl rfl ?_
      refine G.pass rfl rfl rfl rfl rfl rfl ?_
      refine G.pass rfl rfl rfl rfl rfl rfl ?_
      refine G.op rfl (G.val rfl rfl (pv_pick rfl rfl) ?_)
      refine G.nil ?_
      refine G.nThen ?_
      refine G.condT rfl (rfl) ?_
      refine G.seq ?_
      refine G.region ?_
      refine G.op rfl (G.val rfl rfl (pv_move rfl) ?_)
      refine G.op rfl (G.val rfl rfl (pv_assign rfl) ?_)
      refine G.nil ?_
      refine G.nThen ?_
      refine G.ret ?_
      refine G.rThen ?_
      exact G.done0G rfl (Rv.tmp rfl Rv.nil) (by first | rfl | exact int_eq (by omega) | (simp; done))
    · refine G.want rfl rfl rfl (G.val rfl rfl (pv_move rfl) ?_)
      refine G.want rfl rfl rfl (G.val rfl rfl (pv_lenSl Try.underlying24 rfl) ?_)
      refine G.want rfl rfl rfl (G.val rfl rfl (pv_lss rfl rfl) ?_)
      refine G.op rfl (G.val rfl rfl (pv_pick rfl rfl) ?_)
      refine G.op rfl (G.val rfl rfl (pv_move rfl) ?_)
      refine G.partP (t := 24) rfl (fun h24 => ?_) (fun h24 => ?_)
      · refine G.pass rfl rfl rfl rfl rfl rfl ?_
        refine G.pass rfl rfl rfl rfl rfl rfl ?_
        refine G.pass rfl rfl rfl rfl rfl rfl ?_
        refine G.op rfl (G.val rfl rfl (pv_pick rfl rfl) ?_)
        refine G.nil ?_
        refine G.nThen ?_
        refine G.condT rfl (rfl) ?_
        refine G.seq ?_
        refine G.region ?_
        refine G.op rfl (G.val rfl rfl (pv_move rfl) ?_)
        refine G.op rfl (G.val rfl rfl (pv_assign rfl) ?_)
        refine G.nil ?_
        refine G.nThen ?_
        refine G.ret ?_
        refine G.rThen ?_
        exact G.done0G rfl (Rv.tmp rfl Rv.nil) (by first | rfl | exact int_eq (by omega) | (simp; done))
      · refine G.want rfl rfl rfl (G.val rfl rfl (pv_move rfl) ?_)
        refine G.want rfl rfl rfl (G.val rfl rfl (pv_lenSl Try.underlying24 rfl) ?_)
        refine G.want rfl rfl rfl (G.val rfl rfl (pv_gtr rfl rfl) ?_)
        refine G.op rfl (G.val rfl rfl (pv_pick rfl rfl) ?_)
        refine G.nil ?_
        refine G.nThen ?_
        refine G.condP rfl (fun h28 => ?_) (fun h28 => ?_)
        · refine G.seq ?_
          refine G.region ?_
          refine G.op rfl (G.val rfl rfl (pv_move rfl) ?_)
          refine G.op rfl (G.val rfl rfl (pv_assign rfl) ?_)
          refine G.nil ?_
          refine G.nThen ?_
          refine G.ret ?_
          refine G.rThen ?_
          exact G.done0G rfl (Rv.tmp rfl Rv.nil) (by first | rfl | exact int_eq (by omega) | (simp; done))
        · have h0 : checkM k ns ids.length bs.length = 0 := by omega
          obtain ⟨hk1, hk2, hall, hn, hi, hbs⟩ := checkM_ok h0
          refine G.skip ?_
          refine G.nThen ?_
          refine G.seq ?_
          refine G.region ?_
          refine G.op rfl (G.val rfl rfl (pv_loadN (cs := [_, _, _, _]) Try.underlying26 rfl (by kernel_rfl) rfl (by first | exact blk_range (k := 4) (by (repeat (first | with_reducible exact Sel.here | exact Sel.here | apply Sel.there)); done) (by rfl) | exact rng_range (k := 4) (by (repeat (first | with_reducible exact Sel.here | exact Sel.here | apply Sel.there)); done) (by rfl) | exact ro_range (k := 4) (by assumption) (by rfl) | exact ro_rngR (k := 4) (by assumption) (by rfl))) ?_)
          refine G.op rfl (G.cS rfl rfl rfl rfl Try.func25 rfl rfl (by repeat (first | exact Sub.nil | (apply Sub.cons; (repeat (first | with_reducible exact Sel.here | exact Sel.here | apply Sel.there))))) (may3 (by first | (apply May.old; first | with_reducible assumption | assumption) | (apply Sel.may; (repeat (first | with_reducible exact Sel.here | exact Sel.here | apply Sel.there)); done) | (apply may_own; (repeat (first | with_reducible exact Sel.here | exact Sel.here | apply Sel.there)); exact rfl; exact (fun _ _ => trivial); done) | (apply may_ownB; (repeat (first | with_reducible exact Sel.here | exact Sel.here | apply Sel.there)); done) | exact may_nil | (apply may_ownI; (repeat (first | with_reducible exact Sel.here | exact Sel.here | apply Sel.there)); assumption; done) | (apply may_ownN; (repeat (first | with_reducible exact Sel.here | exact Sel.here | apply Sel.there)); assumption; done)) (by first | (apply May.old; first | with_reducible assumption | assumption) | (apply Sel.may; (repeat (first | with_reducible exact Sel.here | exact Sel.here | apply Sel.there)); done) | (apply may_own; (repeat (first | with_reducible exact Sel.here | exact Sel.here | apply Sel.there)); exact rfl; exact (fun _ _ => trivial); done) | (apply may_ownB; (repeat (first | with_reducible exact Sel.here | exact Sel.here | apply Sel.there)); done) | exact may_nil | (apply may_ownI; (repeat (first | with_reducible exact Sel.here | exact Sel.here | apply Sel.there)); assumption; done) | (apply may_ownN; (repeat (first | with_reducible exact Sel.here | exact Sel.here | apply Sel.there)); assumption; done)) (by first | (apply May.old; first | with_reducible assumption | assumption) | (apply Sel.may; (repeat (first | with_reducible exact Sel.here | exact Sel.here | apply Sel.there)); done) | (apply may_own; (repeat (first | with_reducible exact Sel.here | exact Sel.here | apply Sel.there)); exact rfl; exact (fun _ _ => trivial); done) | (apply may_ownB; (repeat (first | with_reducible exact Sel.here | exact Sel.here | apply Sel.there)); done) | exact may_nil | (apply may_ownI; (repeat (first | with_reducible exact Sel.here | exact Sel.here | apply Sel.there)); assumption; done) | (apply may_ownN; (repeat (first | with_reducible exact Sel.here | exact Sel.here | apply Sel.there)); assumption; done))) (lbytes _ _ _ _ _ _ _) (by repeat (first | exact Ap.nil | apply Ap.cons)) ?_)
          intro x31 hJ
          try dsimp only at hJ
          try dsimp only
          rw [show noteOut k ns ids bs = noteB k ns ids bs from if_pos h0]
          have hl1 := noteB_len (k := k) (ns := ns) (bs := bs) h16
          have hl2 := noteB_pos (ns := ns) (ids := ids) (bs := bs) hk1 hk2
          have hcut := fun q => read_cut (q := q) h0 h16
          have hmore := read_more (more := more) h0 h16 (by omega)
          obtain ⟨B, hBB⟩ : ∃ c, noteB k ns ids bs = c := ⟨_, rfl⟩
          rw [hBB] at hl1 hl2 hmore ⊢
          simp only [hBB] at hcut
          refine G.ownBOwn (v := x31) (by repeat (first | with_reducible exact Sel.here | exact Sel.here | apply Sel.there)) ?_
          refine G.ownOpen (v := x31) (by repeat (first | with_reducible exact Sel.here | exact Sel.here | apply Sel.there)) (fun ba bc hvx hbc hbm => ?_)
          subst hvx
          refine G.op rfl (G.val rfl rfl (pv_assign rfl) ?_)
          refine G.nil ?_
          refine G.nThen ?_
          refine G.seq ?_
          refine G.region ?_
          refine G.op rfl (G.val rfl rfl (pv_move rfl) ?_)
          refine G.op rfl (G.val rfl rfl (pv_move rfl) ?_)
          refine G.op rfl (G.val rfl rfl (pv_move rfl) ?_)
          refine G.op rfl (G.val rfl rfl (pv_lenSl Try.underlying24 rfl) ?_)
          refine G.op rfl (G.cR rfl rfl rfl rfl Try.func26 rfl rfl may0 (pick_tr at_ B.length (by omega) (by omega)) ?_)
          obtain ⟨pq, hpq⟩ : ∃ c, pickN at_ B.length = c := ⟨_, rfl⟩
          have hpl : pq < B.length := by rw [← hpq]; exact pickN_lt _ (by omega)
          rw [hpq]
          obtain ⟨z, hz⟩ := hcut pq hpl
          refine G.op rfl (G.val rfl rfl (pv_subH (sz := 1) (k := pq) Try.underlying24 Try.sizeByte rfl rfl rfl (by omega)) ?_)
          refine G.op rfl (G.cS rfl rfl rfl rfl Try.func22 rfl rfl (by repeat (first | exact Sub.nil | (apply Sub.cons; (repeat (first | with_reducible exact Sel.here | exact Sel.here | apply Sel.there))))) (may1 (may_ownPre (f := vByte) (p := fun _ => True) (xs := B) (j := pq) (by repeat (first | with_reducible exact Sel.here | exact Sel.here | apply Sel.there)) rfl (fun _ _ => trivial) (by omega))) (readF _ (B.take pq) (by rw [List.length_take]; omega)) (by repeat (first | exact Ap.nil | apply Ap.cons)) ?_)
          intro x39 hJ
          obtain ⟨rN, rI, rB⟩ := x39
          try dsimp only at hJ
          try dsimp only
          rw [hz]
          refine G.ownFact (v := rN) (by repeat (first | with_reducible exact Sel.here | exact Sel.here | apply Sel.there)) (fun hfrN _ => ?_)
          refine G.ownFact (v := rI) (by repeat (first | with_reducible exact Sel.here | exact Sel.here | apply Sel.there)) (fun hfrI _ => ?_)
          refine G.ownFact (v := rB) (by repeat (first | with_reducible exact Sel.here | exact Sel.here | apply Sel.there)) (fun hfrB _ => ?_)
          refine G.op rfl (G.val rfl rfl (pv_move rfl) ?_)
          refine G.op rfl (G.val rfl rfl (pv_extract rfl rfl) ?_)
          refine G.op rfl (G.val rfl rfl (pv_extract rfl rfl) ?_)
          refine G.op rfl (G.alloc (z := .agg #[.int .i64 0, .slice none 0 0, .slice none 0 0, .slice none 0 0]) (cs := [.int .i64 0, .slice none 0 0, .slice none 0 0, .slice none 0 0]) rfl (by kernel_rfl) rfl ?_)
          intro b9
          refine G.op rfl (G.alloc (z := .agg #[.int .i64 0, .int .i64 0]) (cs := [.int .i64 0, .int .i64 0]) rfl (by kernel_rfl) rfl ?_)
          intro b10
          refine G.op rfl (G.storeN (by kernel_rfl) rfl rfl (by first | exact (all1_cons (by first | rfl | with_reducible assumption) (all1_cons (by first | rfl | with_reducible assumption) (all1_cons (by first | rfl | with_reducible assumption) (all1_cons (by first | rfl | with_reducible assumption) all1_nil)))) | exact List.all_eq_true.2 (vByte_one _) | rfl) (by repeat (first | with_reducible exact Sel.here | exact Sel.here | apply Sel.there)) (by first | (simp; done) | exact Nat.le_of_ble_eq_true rfl) ?_)
          refine G.op rfl (G.storeN (by kernel_rfl) rfl rfl (by first | exact (all1_cons (by first | rfl | with_reducible assumption) (all1_cons (by first | rfl | with_reducible assumption) all1_nil)) | exact List.all_eq_true.2 (vByte_one _) | rfl) (by repeat (first | with_reducible exact Sel.here | exact Sel.here | apply Sel.there)) (by first | (simp; done) | exact Nat.le_of_ble_eq_true rfl) ?_)
          refine G.nil ?_
          refine G.nThen ?_
          refine G.seq ?_
          refine G.region ?_
          refine G.op rfl (G.val rfl rfl (pv_move rfl) ?_)
          refine G.op rfl (G.val rfl rfl (pv_move rfl) ?_)
          refine G.want rfl rfl rfl (G.val rfl rfl (pv_fieldAddrK (sz := 0) (k := 0) Try.underlying39 rfl (by kernel_rfl) rfl rfl) ?_)
          refine G.want rfl rfl rfl (G.val rfl rfl (pv_load Try.underlying29 rfl rfl (by first | exact blk_cell (by (repeat (first | with_reducible exact Sel.here | exact Sel.here | apply Sel.there)); done) (by rfl) | exact rng_cell (by (repeat (first | with_reducible exact Sel.here | exact Sel.here | apply Sel.there)); done) (by rfl) | exact ro_blk (by assumption) (by rfl) | exact ro_rngC (by assumption) (by rfl) | exact ro_int (by assumption) | exact ro_byte (by assumption) | exact ro_str (by assumption) | with_reducible assumption | assumption)) ?_)
          refine G.want rfl rfl rfl (G.val rfl rfl ((pv_eql rfl rfl).cast (v' := .bool true) (congrArg Value.bool (by simp))) ?_)
          refine G.op rfl (G.val rfl rfl (pv_pick rfl rfl) ?_)
          refine G.op rfl (G.val rfl rfl (pv_move rfl) ?_)
          refine G.want rfl rfl rfl (G.val rfl rfl (pv_move rfl) ?_)
          refine G.want rfl rfl rfl (G.cS rfl rfl rfl rfl Try.func28 rfl rfl (by repeat (first | exact Sub.nil | (apply Sub.cons; (repeat (first | with_reducible exact Sel.here | exact Sel.here | apply Sel.there))))) (may1 (by first | (apply May.old; first | with_reducible assumption | assumption) | (apply Sel.may; (repeat (first | with_reducible exact Sel.here | exact Sel.here | apply Sel.there)); done) | (apply may_own; (repeat (first | with_reducible exact Sel.here | exact Sel.here | apply Sel.there)); exact rfl; exact (fun _ _ => trivial); done) | (apply may_ownB; (repeat (first | with_reducible exact Sel.here | exact Sel.here | apply Sel.there)); done) | exact may_nil | (apply may_ownI; (repeat (first | with_reducible exact Sel.here | exact Sel.here | apply Sel.there)); assumption; done) | (apply may_ownN; (repeat (first | with_reducible exact Sel.here | exact Sel.here | apply Sel.there)); assumption; done))) (copyBytes_tr _ _ (by omega)) (by repeat (first | exact Ap.nil | apply Ap.cons)) ?_)
          intro x50 hJ
          try dsimp only at hJ
          try dsimp only
          refine G.ownFact (v := x50) (by repeat (first | with_reducible exact Sel.here | exact Sel.here | apply Sel.there)) (fun hfx50 _ => ?_)
          refine G.want rfl rfl rfl (G.val rfl rfl (pv_move rfl) ?_)
          refine G.want rfl rfl rfl (G.appendS (k := B.length) (cs := B.map vByte) (xs := more) (f := vByte) (p := fun _ => True) (Ps := Pm) rfl Try.underlying24 Try.infoByte' rfl rfl (hsel := (by exact Sel.here)) (ro_sl hM') (vByte_one _) (by omega) (by omega) ?_)
          intro v52
          rw [own_app]
          refine G.want rfl rfl rfl (G.val rfl rfl (pv_move rfl) ?_)
          refine G.want rfl rfl rfl (G.val rfl rfl (pv_lenSl Try.underlying24 rfl) ?_)
          refine G.want rfl rfl rfl (G.cR rfl rfl rfl rfl Try.func27 rfl rfl (may1 (by first | (apply May.old; first | with_reducible assumption | assumption) | (apply Sel.may; (repeat (first | with_reducible exact Sel.here | exact Sel.here | apply Sel.there)); done) | (apply may_own; (repeat (first | with_reducible exact Sel.here | exact Sel.here | apply Sel.there)); exact rfl; exact (fun _ _ => trivial); done) | (apply may_ownB; (repeat (first | with_reducible exact Sel.here | exact Sel.here | apply Sel.there)); done) | exact may_nil | (apply may_ownI; (repeat (first | with_reducible exact Sel.here | exact Sel.here | apply Sel.there)); assumption; done) | (apply may_ownN; (repeat (first | with_reducible exact Sel.here | exact Sel.here | apply Sel.there)); assumption; done))) (fails10 _ (B ++ more) 4 (B.length : Int) (by rw [List.length_append]; omega) hmore) ?_)
          refine G.op rfl (G.val rfl rfl (pv_pick rfl rfl) ?_)
          refine G.op rfl (G.val rfl rfl (pv_assign rfl) ?_)
          refine G.nil ?_
          refine G.nThen ?_
          refine G.ret ?_
          exact G.done0G rfl (Rv.tmp rfl Rv.nil) (by first | rfl | exact int_eq (by omega) | (simp; done))
end Go.Proofs.Ytakcffhknnailaa
