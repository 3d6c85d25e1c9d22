/- Contract of layer 10's Read. Conditions: the bytes lie in memory, not more than a thousand million. -/
import Derived.Test.YtakcffhknnailaaNH
set_option linter.unusedVariables false
set_option linter.unusedSimpArgs false
namespace Go.Proofs.Ytakcffhknnailaa
open Go.RowKit

theorem numS_stop {b : List UInt8} {low high above : Int} {s : Rs} (h : s.e ≠ 0) : numS b low high above s = (0, s) := if_neg h
theorem cntS_stop {b : List UInt8} {least most : Int} {s : Rs} (h : s.e ≠ 0) : cntS b least most s = (0, s) := by
  unfold cntS
  rw [numS_stop h]
  exact if_neg fun h2 => h h2.1
theorem bytS_stop {b : List UInt8} {high : Int} {s : Rs} (h : s.e ≠ 0) : bytS b high s = ([], s) := if_neg h
theorem finM_stop {b : List UInt8} {k : Int} {ns : List Int} {ids : List (List UInt8)} {bs : List UInt8} {s : Rs} (h : s.e ≠ 0) : finM b k ns ids bs s = (nt0, (s.e, s.p)) := by
  have e1 : endS b s = (s.e, s.p) := if_neg fun h2 => h h2.1
  unfold finM
  rw [e1]
  exact if_pos h
theorem tbM_stop {b : List UInt8} {sh : Sh} {k : Int} {ns : List Int} {ids : List (List UInt8)} {s : Rs} (h : s.e ≠ 0) : tbM b sh k ns ids s = (nt0, (s.e, s.p)) := by
  unfold tbM
  rw [bytS_stop h, show least7 sh ([], s) s = s from if_neg fun h2 => h h2.1]
  exact finM_stop h
theorem tiM_stop {b : List UInt8} {sh : Sh} {k : Int} {ns : List Int} {s : Rs} (h : s.e ≠ 0) : tiM b sh k ns s = (nt0, (s.e, s.p)) := by
  unfold tiM
  rw [cntS_stop h]
  exact tbM_stop h
theorem tnM_stop {b : List UInt8} {sh : Sh} {k : Int} {s : Rs} (h : s.e ≠ 0) : tnM b sh k s = (nt0, (s.e, s.p)) := by
  unfold tnM
  rw [cntS_stop h]
  exact tiM_stop h
theorem cntS_few {b : List UInt8} {least most : Int} {s : Rs} (h : (numS b 0 most 3 s).2.e = 0 ∧ ((numS b 0 most 3 s).1 : Int) < least) : cntS b least most s = (0, ⟨(numS b 0 most 3 s).2.a, 5, s.a⟩) := if_pos h
theorem cntS_go {b : List UInt8} {least most : Int} {s : Rs} (h : ¬ ((numS b 0 most 3 s).2.e = 0 ∧ ((numS b 0 most 3 s).1 : Int) < least)) : cntS b least most s = numS b 0 most 3 s := if_neg h
theorem fewS_iff {b : List UInt8} {least most : Int} {s : Rs} : ((fewS b least most s).1 ≠ 0 ∧ (fewS b least most s) = (5, (s.a : Int)) ∧ (numS b 0 most 3 s).2.e = 0 ∧ ((numS b 0 most 3 s).1 : Int) < least) ∨ (fewS b least most s = (0, 0) ∧ ¬ ((numS b 0 most 3 s).2.e = 0 ∧ ((numS b 0 most 3 s).1 : Int) < least)) := by
  by_cases h : (numS b 0 most 3 s).2.e = 0 ∧ ((numS b 0 most 3 s).1 : Int) < least
  · left
    have e : fewS b least most s = (5, (s.a : Int)) := if_pos h
    rw [e]
    exact ⟨(by decide : (5 : Int) ≠ 0), rfl, h⟩
  · right
    exact ⟨if_neg h, h⟩
/-- what is still to be done, of part p on -/
def nowM (b : List UInt8) (sh : Sh) (k : Int) (ns : List Int) (ids : List (List UInt8)) (bs : List UInt8) (s : Rs) : Nat → Nt × (Nat × Int)
  | 0 => tnM b sh k s
  | 1 => tiM b sh k ns s
  | 2 => tbM b sh k ns ids s
  | _ => finM b k ns ids bs s
theorem nowM_stop {b : List UInt8} {sh : Sh} {k : Int} {ns : List Int} {ids : List (List UInt8)} {bs : List UInt8} {s : Rs} {p : Nat} (h : s.e ≠ 0) : nowM b sh k ns ids bs s p = (nt0, (s.e, s.p)) := by
  match p with
  | 0 => exact tnM_stop h
  | 1 => exact tiM_stop h
  | 2 => exact tbM_stop h
  | _ + 3 => exact finM_stop h
theorem now0 {b : List UInt8} {sh : Sh} {k : Int} {ns : List Int} {ids : List (List UInt8)} {bs : List UInt8} {s : Rs} (h : ¬ ((numS b 0 sh.ns 3 s).2.e = 0 ∧ ((numS b 0 sh.ns 3 s).1 : Int) < sh.n)) :
    nowM b sh k ns ids bs s 0 = nowM b sh k (numsS b (numS b 0 sh.ns 3 s).2 (numS b 0 sh.ns 3 s).1).1 ids bs (numsS b (numS b 0 sh.ns 3 s).2 (numS b 0 sh.ns 3 s).1).2 1 := by
  show tnM b sh k s = tiM b sh k _ _
  unfold tnM
  rw [cntS_go h]
theorem now0f {b : List UInt8} {sh : Sh} {k : Int} {ns : List Int} {ids : List (List UInt8)} {bs : List UInt8} {s : Rs} (h : (numS b 0 sh.ns 3 s).2.e = 0 ∧ ((numS b 0 sh.ns 3 s).1 : Int) < sh.n) : nowM b sh k ns ids bs s 0 = (nt0, (5, (s.a : Int))) := by
  show tnM b sh k s = _
  unfold tnM
  rw [cntS_few h]
  exact tiM_stop (s := ⟨(numS b 0 sh.ns 3 s).2.a, 5, s.a⟩) (show (5 : Nat) ≠ 0 by decide)
theorem now1 {b : List UInt8} {sh : Sh} {k : Int} {ns : List Int} {ids : List (List UInt8)} {bs : List UInt8} {s : Rs} (h : ¬ ((numS b 0 sh.is 3 s).2.e = 0 ∧ ((numS b 0 sh.is 3 s).1 : Int) < sh.i)) :
    nowM b sh k ns ids bs s 1 = nowM b sh k ns (idsS b (numS b 0 sh.is 3 s).2 (numS b 0 sh.is 3 s).1).1 bs (idsS b (numS b 0 sh.is 3 s).2 (numS b 0 sh.is 3 s).1).2 2 := by
  show tiM b sh k ns s = tbM b sh k ns _ _
  unfold tiM
  rw [cntS_go h]
theorem now1f {b : List UInt8} {sh : Sh} {k : Int} {ns : List Int} {ids : List (List UInt8)} {bs : List UInt8} {s : Rs} (h : (numS b 0 sh.is 3 s).2.e = 0 ∧ ((numS b 0 sh.is 3 s).1 : Int) < sh.i) : nowM b sh k ns ids bs s 1 = (nt0, (5, (s.a : Int))) := by
  show tiM b sh k ns s = _
  unfold tiM
  rw [cntS_few h]
  exact tbM_stop (s := ⟨(numS b 0 sh.is 3 s).2.a, 5, s.a⟩) (show (5 : Nat) ≠ 0 by decide)
theorem now2 {b : List UInt8} {sh : Sh} {k : Int} {ns : List Int} {ids : List (List UInt8)} {bs : List UInt8} {s : Rs} (h : ¬ ((bytS b sh.bs s).2.e = 0 ∧ ((bytS b sh.bs s).1.length : Int) < sh.b)) :
    nowM b sh k ns ids bs s 2 = nowM b sh k ns ids (bytS b sh.bs s).1 (bytS b sh.bs s).2 3 := by
  show tbM b sh k ns ids s = finM b k ns ids _ _
  unfold tbM
  rw [show least7 sh (bytS b sh.bs s) s = (bytS b sh.bs s).2 from if_neg h]
theorem now2f {b : List UInt8} {sh : Sh} {k : Int} {ns : List Int} {ids : List (List UInt8)} {bs : List UInt8} {s : Rs} (h : (bytS b sh.bs s).2.e = 0 ∧ ((bytS b sh.bs s).1.length : Int) < sh.b) : nowM b sh k ns ids bs s 2 = (nt0, (5, (s.a : Int))) := by
  show tbM b sh k ns ids s = _
  unfold tbM
  rw [show least7 sh (bytS b sh.bs s) s = ⟨(bytS b sh.bs s).2.a, 5, s.a⟩ from if_pos h]
  exact finM_stop (s := ⟨(bytS b sh.bs s).2.a, 5, s.a⟩) (show (5 : Nat) ≠ 0 by decide)
theorem kind_in {b : List UInt8} (h : (numS b 1 24 5 rs0).2.e = 0) : ∃ sh, shM ((numS b 1 24 5 rs0).1 : Int) = some sh := by
  have e : numS b 1 24 5 rs0 = (numN (bndM b 0 1 24 5), ⟨nextN 0 (bndM b 0 1 24 5), errN (bndM b 0 1 24 5), posN 0 (bndM b 0 1 24 5)⟩) := rfl
  rw [e] at h ⊢
  cases hb : bndM b 0 1 24 5 with
  | ok n nx =>
    have := bnd_get hb
    exact shM_near this.2.2 this.2.1
  | bad e q =>
    rw [hb] at h
    have h : e = 0 := h
    subst h
    exact absurd hb (bnd_bad0 (by decide))
theorem kind_out {b : List UInt8} (h : (numS b 1 24 5 rs0).2.e ≠ 0) : ((numS b 1 24 5 rs0).1 : Int) = 0 ∧ shM ((numS b 1 24 5 rs0).1 : Int) = none := by
  have e : numS b 1 24 5 rs0 = (numN (bndM b 0 1 24 5), ⟨nextN 0 (bndM b 0 1 24 5), errN (bndM b 0 1 24 5), posN 0 (bndM b 0 1 24 5)⟩) := rfl
  rw [e] at h ⊢
  cases hb : bndM b 0 1 24 5 with
  | ok n nx =>
    rw [hb] at h
    exact absurd rfl h
  | bad e q => exact ⟨rfl, rfl⟩
theorem openF {Pu : Nat → Prop} (u : Value) (b : List UInt8) (hb : b.length ≤ 1000000000) : Tr Try.prog 47 #[u] [slc rByte Pu u b] []
    (TX (fun _ : Nat × Value => True) (fun x => .pointer (some ⟨x.1, 0, none⟩)) (fun x => [blk x.1 96 [.bool true, x.2, .int .i64 (rs0.a : Int), .int .i64 (rs0.e : Int), .int .i64 rs0.p], own 5 1 x.2 b.length (b.map vByte)])) := open_tr u b hb
set_option maxRecDepth 20000 in
set_option maxHeartbeats 4000000 in

theorem readFA {Pu : Nat → Prop} (u : Value) (b : List UInt8) (hb : b.length ≤ 1000000000) (hA : (numS b 1 24 5 rs0).2.e ≠ 0) : Tr Try.prog 22 #[u] [slc rByte Pu u b] []
    (TX (fun _ : Value × Value × Value => True) (fun x => .tuple #[.agg #[.int .i64 (readM b).1.k, x.1, x.2.1, x.2.2], .agg #[.int .i64 ((readM b).2.1 : Int), .int .i64 (readM b).2.2]]) (fun x => [own 3 1 x.1 (readM b).1.ns.length ((readM b).1.ns.map vInt), own 49 16 x.2.1 (readM b).1.ids.length (flatI (readM b).1.ids), own 5 1 x.2.2 (readM b).1.bs.length ((readM b).1.bs.map vByte)])) := by
  refine Tr.of (l := [(0, u)]) Try.func22 rfl (n := 130) rfl (.cons rfl .nil) (fun w0 hro => ?_)
  have hu := ro1 hro
  have h0 := rs0_ok b
  have hz : readM b = (nt0, ((numS b 1 24 5 rs0).2.e, (numS b 1 24 5 rs0).2.p)) := tnM_stop hA
  obtain ⟨hk0, hsn⟩ := kind_out hA
  refine G.seq ?_
  refine G.region ?_
  refine G.op rfl (G.alloc (z := .agg #[.int .i64 0, .slice none 0 0, .slice none 0 0, .slice none 0 0]) (cs := [.int .i64 0, .slice none 0 0, .slice none 0 0, .slice none 0 0]) rfl (by kernel_rfl) rfl ?_)
  intro b2
  refine G.op rfl (G.alloc (z := .agg #[.int .i64 0, .int .i64 0]) (cs := [.int .i64 0, .int .i64 0]) rfl (by kernel_rfl) rfl ?_)
  intro b3
  refine G.nil ?_
  refine G.nThen ?_
  refine G.scope ?_
  refine G.seq ?_
  refine G.region ?_
  refine G.op rfl (G.val rfl rfl (pv_move rfl) ?_)
  refine G.op rfl (G.cS rfl rfl rfl rfl Try.func47 rfl rfl (by repeat (first | exact Sub.nil | (apply Sub.cons; (repeat (first | with_reducible exact Sel.here | exact Sel.here | apply Sel.there))))) (may1 (by first | exact .old (by first | with_reducible assumption | assumption) | exact Sel.may (by (repeat (first | with_reducible exact Sel.here | exact Sel.here | apply Sel.there)); done) | exact may_own (by (repeat (first | with_reducible exact Sel.here | exact Sel.here | apply Sel.there)); done) rfl (fun _ _ => trivial) | exact may_ownB (by (repeat (first | with_reducible exact Sel.here | exact Sel.here | apply Sel.there)); done) | exact may_ownI (by (repeat (first | with_reducible exact Sel.here | exact Sel.here | apply Sel.there)); done) (by assumption) | exact may_ownN (by (repeat (first | with_reducible exact Sel.here | exact Sel.here | apply Sel.there)); done) (by assumption))) (openF _ b hb) (by repeat (first | exact Ap.nil | apply Ap.cons)) ?_)
  intro x13 hJ
  obtain ⟨D, v⟩ := x13
  try dsimp only at hJ
  try dsimp only
  obtain ⟨r1, hr1⟩ : ∃ c, numS b 1 24 5 rs0 = c := ⟨_, rfl⟩
  refine G.op rfl (G.val rfl rfl (pv_assign rfl) ?_)
  refine G.nil ?_
  refine G.nThen ?_
  refine G.seq ?_
  refine G.region ?_
  refine G.op rfl (G.val rfl rfl (pv_move rfl) ?_)
  refine G.op rfl (G.cS rfl rfl rfl rfl Try.func48 rfl rfl (by repeat (first | exact Sub.nil | (apply Sub.cons; (repeat (first | with_reducible exact Sel.here | exact Sel.here | apply Sel.there))))) may0 (intF _ _ _ rs0 1 24 h0 hb) (by repeat (first | exact Ap.nil | apply Ap.cons)) ?_)
  intro x15 hJ
  try dsimp only at hJ
  try dsimp only
  rw [hr1] at hz hk0 hsn hA
  rw [hr1]
  refine G.op rfl (G.val rfl rfl (pv_buildSt (z := [.int .i64 0, .slice none 0 0, .slice none 0 0, .slice none 0 0]) (pl := [(0, 1), (1, 1), (2, 1), (3, 1)]) Try.underlying26 (by kernel_rfl) (by kernel_rfl) rfl (by repeat (first | exact Fl.nil | (apply Fl.cons; exact rfl; (first | exact cells_of (by first | rfl | with_reducible assumption) | exact rfl); exact rfl; exact rfl; repeat (first | exact Sn.nil | (apply Sn.cons; repeat (first | exact St.zero | apply St.succ))))))) ?_)
  refine G.op rfl (G.alloc (z := .agg #[.int .i64 0, .slice none 0 0, .slice none 0 0, .slice none 0 0]) (cs := [.int .i64 0, .slice none 0 0, .slice none 0 0, .slice none 0 0]) rfl (by kernel_rfl) rfl ?_)
  intro b5
  refine G.op rfl (G.storeN (by kernel_rfl) rfl rfl (by first | exact (all1_cons (by first | rfl | with_reducible assumption) (all1_cons (by first | rfl | with_reducible assumption) (all1_cons (by first | rfl | with_reducible assumption) (all1_cons (by first | rfl | with_reducible assumption) all1_nil)))) | exact List.all_eq_true.2 (vByte_one _) | rfl) (by repeat (first | with_reducible exact Sel.here | exact Sel.here | apply Sel.there)) (by first | (simp; done) | exact Nat.le_of_ble_eq_true rfl) ?_)
  refine G.nil ?_
  refine G.nThen ?_
  refine G.seq ?_
  refine G.region ?_
  refine G.op rfl (G.val rfl rfl (pv_fieldAddrK (sz := 0) (k := 0) Try.underlying26 rfl (by kernel_rfl) rfl rfl) ?_)
  refine G.op rfl (G.val rfl rfl (pv_load Try.underlying3 rfl rfl (by first | exact blk_cell (by (repeat (first | with_reducible exact Sel.here | exact Sel.here | apply Sel.there)); done) (by rfl) | exact rng_cell (by (repeat (first | with_reducible exact Sel.here | exact Sel.here | apply Sel.there)); done) (by rfl) | exact ro_blk (by assumption) (by rfl) | exact ro_rngC (by assumption) (by rfl) | exact ro_int (by assumption) | exact ro_byte (by assumption) | exact ro_str (by assumption) | with_reducible assumption | assumption)) ?_)
  refine G.op rfl (G.cR rfl rfl rfl rfl Try.func42 rfl rfl may0 (shaped_none _ hsn) ?_)
  refine G.op rfl (G.val rfl rfl (pv_assign rfl) ?_)
  refine G.nil ?_
  refine G.nThen ?_
  refine G.seq ?_
  refine G.seq ?_
  refine G.region ?_
  refine G.op rfl (G.val rfl rfl (pv_move rfl) ?_)
  refine G.op rfl (G.val rfl rfl (pv_eqlP0 Try.underlying66 rfl rfl) ?_)
  refine G.nil ?_
  refine G.nThen ?_
  refine G.condT rfl (rfl) ?_
  refine G.seq ?_
  refine G.region ?_
  refine G.op rfl (G.val rfl rfl (pv_buildSt (z := [.int .i64 0, .slice none 0 0, .slice none 0 0, .slice none 0 0]) (pl := [(0, 1), (1, 1), (2, 1), (3, 1)]) Try.underlying26 (by kernel_rfl) (by kernel_rfl) rfl (by repeat (first | exact Fl.nil | (apply Fl.cons; exact rfl; (first | exact cells_of (by first | rfl | with_reducible assumption) | exact rfl); exact rfl; exact rfl; repeat (first | exact Sn.nil | (apply Sn.cons; repeat (first | exact St.zero | apply St.succ))))))) ?_)
  refine G.op rfl (G.val rfl rfl (pv_move rfl) ?_)
  refine G.op rfl (G.cR rfl rfl rfl rfl Try.func49 rfl rfl (may1 (by first | exact .old (by first | with_reducible assumption | assumption) | exact Sel.may (by (repeat (first | with_reducible exact Sel.here | exact Sel.here | apply Sel.there)); done) | exact may_own (by (repeat (first | with_reducible exact Sel.here | exact Sel.here | apply Sel.there)); done) rfl (fun _ _ => trivial) | exact may_ownB (by (repeat (first | with_reducible exact Sel.here | exact Sel.here | apply Sel.there)); done) | exact may_ownI (by (repeat (first | with_reducible exact Sel.here | exact Sel.here | apply Sel.there)); done) (by assumption) | exact may_ownN (by (repeat (first | with_reducible exact Sel.here | exact Sel.here | apply Sel.there)); done) (by assumption))) (faultF _ _ _) ?_)
  refine G.op rfl (G.storeN (by kernel_rfl) rfl rfl (by first | exact (all1_cons (by first | rfl | with_reducible assumption) (all1_cons (by first | rfl | with_reducible assumption) (all1_cons (by first | rfl | with_reducible assumption) (all1_cons (by first | rfl | with_reducible assumption) all1_nil)))) | exact List.all_eq_true.2 (vByte_one _) | rfl) (by repeat (first | with_reducible exact Sel.here | exact Sel.here | apply Sel.there)) (by first | (simp; done) | exact Nat.le_of_ble_eq_true rfl) ?_)
  refine G.op rfl (G.storeN (by kernel_rfl) rfl rfl (by first | exact (all1_cons (by first | rfl | with_reducible assumption) (all1_cons (by first | rfl | with_reducible assumption) all1_nil)) | exact List.all_eq_true.2 (vByte_one _) | rfl) (by repeat (first | with_reducible exact Sel.here | exact Sel.here | apply Sel.there)) (by first | (simp; done) | exact Nat.le_of_ble_eq_true rfl) ?_)
  refine G.nil ?_
  refine G.nThen ?_
  refine G.ret ?_
  refine G.rThen ?_
  refine G.rScope ?_
  rw [hz]
  refine G.ownNil 3 1 ?_
  refine G.ownNil 49 16 ?_
  refine G.ownNil 5 1 ?_
  exact G.doneG ((.slice none 0 0, .slice none 0 0, .slice none 0 0)) (by first | exact trivial | ((try dsimp only); exact trivial)) rfl (Rv.cellN (cs := [_, _, _, _]) rfl Try.underlying26 rfl (by kernel_rfl) (by first | exact blk_range (k := 4) (by (repeat (first | with_reducible exact Sel.here | exact Sel.here | apply Sel.there)); done) (by rfl)) (Rv.cellN (cs := [_, _]) rfl Try.underlying39 rfl (by kernel_rfl) (by first | exact blk_range (k := 2) (by (repeat (first | with_reducible exact Sel.here | exact Sel.here | apply Sel.there)); done) (by rfl)) Rv.nil)) (by first | rfl | exact int_eq (by omega) | (simp; done)) (by repeat (first | exact Sub.nil | (apply Sub.cons; (repeat (first | with_reducible exact Sel.here | exact Sel.here | apply Sel.there)))))
theorem endS_zero {b : List UInt8} {s : Rs} (hs : okS b s) (he : s.e = 0) (h : (endS b s).1 = 0) : endS b s = (0, 0) := by
  unfold endS at h ⊢
  split at h
  · cases h
  · rename_i hn
    rw [if_neg hn, he, hs.2 he]
set_option maxRecDepth 20000 in
set_option maxHeartbeats 4000000 in

theorem readFB {Pu : Nat → Prop} (u : Value) (b : List UInt8) (hb : b.length ≤ 1000000000) (sh : Sh) (hB : (numS b 1 24 5 rs0).2.e = 0) (hsh : shM ((numS b 1 24 5 rs0).1 : Int) = some sh) : Tr Try.prog 22 #[u] [slc rByte Pu u b] []
    (TX (fun _ : Value × Value × Value => True) (fun x => .tuple #[.agg #[.int .i64 (readM b).1.k, x.1, x.2.1, x.2.2], .agg #[.int .i64 ((readM b).2.1 : Int), .int .i64 (readM b).2.2]]) (fun x => [own 3 1 x.1 (readM b).1.ns.length ((readM b).1.ns.map vInt), own 49 16 x.2.1 (readM b).1.ids.length (flatI (readM b).1.ids), own 5 1 x.2.2 (readM b).1.bs.length ((readM b).1.bs.map vByte)])) := by
  refine Tr.of (l := [(0, u)]) Try.func22 rfl (n := 130) rfl (.cons rfl .nil) (fun w0 hro => ?_)
  have hu := ro1 hro
  have h0 := rs0_ok b
  have hz : readM b = tnM b (shD (numS b 1 24 5 rs0).1) (numS b 1 24 5 rs0).1 (numS b 1 24 5 rs0).2 := rfl
  refine G.seq ?_
  refine G.region ?_
  refine G.op rfl (G.alloc (z := .agg #[.int .i64 0, .slice none 0 0, .slice none 0 0, .slice none 0 0]) (cs := [.int .i64 0, .slice none 0 0, .slice none 0 0, .slice none 0 0]) rfl (by kernel_rfl) rfl ?_)
  intro b2
  refine G.op rfl (G.alloc (z := .agg #[.int .i64 0, .int .i64 0]) (cs := [.int .i64 0, .int .i64 0]) rfl (by kernel_rfl) rfl ?_)
  intro b3
  refine G.nil ?_
  refine G.nThen ?_
  refine G.scope ?_
  refine G.seq ?_
  refine G.region ?_
  refine G.op rfl (G.val rfl rfl (pv_move rfl) ?_)
  refine G.op rfl (G.cS rfl rfl rfl rfl Try.func47 rfl rfl (by repeat (first | exact Sub.nil | (apply Sub.cons; (repeat (first | with_reducible exact Sel.here | exact Sel.here | apply Sel.there))))) (may1 (by first | exact .old (by first | with_reducible assumption | assumption) | exact Sel.may (by (repeat (first | with_reducible exact Sel.here | exact Sel.here | apply Sel.there)); done) | exact may_own (by (repeat (first | with_reducible exact Sel.here | exact Sel.here | apply Sel.there)); done) rfl (fun _ _ => trivial) | exact may_ownB (by (repeat (first | with_reducible exact Sel.here | exact Sel.here | apply Sel.there)); done) | exact may_ownI (by (repeat (first | with_reducible exact Sel.here | exact Sel.here | apply Sel.there)); done) (by assumption) | exact may_ownN (by (repeat (first | with_reducible exact Sel.here | exact Sel.here | apply Sel.there)); done) (by assumption))) (openF _ b hb) (by repeat (first | exact Ap.nil | apply Ap.cons)) ?_)
  intro x13 hJ
  obtain ⟨D, v⟩ := x13
  try dsimp only at hJ
  try dsimp only
  obtain ⟨r1, hr1⟩ : ∃ c, numS b 1 24 5 rs0 = c := ⟨_, rfl⟩
  refine G.op rfl (G.val rfl rfl (pv_assign rfl) ?_)
  refine G.nil ?_
  refine G.nThen ?_
  refine G.seq ?_
  refine G.region ?_
  refine G.op rfl (G.val rfl rfl (pv_move rfl) ?_)
  refine G.op rfl (G.cS rfl rfl rfl rfl Try.func48 rfl rfl (by repeat (first | exact Sub.nil | (apply Sub.cons; (repeat (first | with_reducible exact Sel.here | exact Sel.here | apply Sel.there))))) may0 (intF _ _ _ rs0 1 24 h0 hb) (by repeat (first | exact Ap.nil | apply Ap.cons)) ?_)
  intro x15 hJ
  try dsimp only at hJ
  try dsimp only
  rw [hr1] at hz hB hsh
  rw [show shD (r1.1 : Int) = sh by unfold shD; rw [hsh]; rfl] at hz
  have k1 : okS b r1.2 := by rw [← hr1]; exact numS_ok h0 (by decide)
  rw [hr1]
  refine G.op rfl (G.val rfl rfl (pv_buildSt (z := [.int .i64 0, .slice none 0 0, .slice none 0 0, .slice none 0 0]) (pl := [(0, 1), (1, 1), (2, 1), (3, 1)]) Try.underlying26 (by kernel_rfl) (by kernel_rfl) rfl (by repeat (first | exact Fl.nil | (apply Fl.cons; exact rfl; (first | exact cells_of (by first | rfl | with_reducible assumption) | exact rfl); exact rfl; exact rfl; repeat (first | exact Sn.nil | (apply Sn.cons; repeat (first | exact St.zero | apply St.succ))))))) ?_)
  refine G.op rfl (G.alloc (z := .agg #[.int .i64 0, .slice none 0 0, .slice none 0 0, .slice none 0 0]) (cs := [.int .i64 0, .slice none 0 0, .slice none 0 0, .slice none 0 0]) rfl (by kernel_rfl) rfl ?_)
  intro b5
  refine G.op rfl (G.storeN (by kernel_rfl) rfl rfl (by first | exact (all1_cons (by first | rfl | with_reducible assumption) (all1_cons (by first | rfl | with_reducible assumption) (all1_cons (by first | rfl | with_reducible assumption) (all1_cons (by first | rfl | with_reducible assumption) all1_nil)))) | exact List.all_eq_true.2 (vByte_one _) | rfl) (by repeat (first | with_reducible exact Sel.here | exact Sel.here | apply Sel.there)) (by first | (simp; done) | exact Nat.le_of_ble_eq_true rfl) ?_)
  refine G.nil ?_
  refine G.nThen ?_
  refine G.seq ?_
  refine G.region ?_
  refine G.op rfl (G.val rfl rfl (pv_fieldAddrK (sz := 0) (k := 0) Try.underlying26 rfl (by kernel_rfl) rfl rfl) ?_)
  refine G.op rfl (G.val rfl rfl (pv_load Try.underlying3 rfl rfl (by first | exact blk_cell (by (repeat (first | with_reducible exact Sel.here | exact Sel.here | apply Sel.there)); done) (by rfl) | exact rng_cell (by (repeat (first | with_reducible exact Sel.here | exact Sel.here | apply Sel.there)); done) (by rfl) | exact ro_blk (by assumption) (by rfl) | exact ro_rngC (by assumption) (by rfl) | exact ro_int (by assumption) | exact ro_byte (by assumption) | exact ro_str (by assumption) | with_reducible assumption | assumption)) ?_)
  refine G.op rfl (G.cS rfl rfl rfl rfl Try.func42 rfl rfl (by repeat (first | exact Sub.nil | (apply Sub.cons; (repeat (first | with_reducible exact Sel.here | exact Sel.here | apply Sel.there))))) may0 (shaped_some _ _ hsh) (by repeat (first | exact Ap.nil | apply Ap.cons)) ?_)
  intro x19 hJ
  obtain ⟨bS, oS⟩ := x19
  try dsimp only at hJ
  try dsimp only
  refine G.op rfl (G.val rfl rfl (pv_assign rfl) ?_)
  refine G.nil ?_
  refine G.nThen ?_
  refine G.seq ?_
  refine G.seq ?_
  refine G.region ?_
  refine G.op rfl (G.val rfl rfl (pv_move rfl) ?_)
  refine G.op rfl (G.val rfl rfl (pv_eqlP0 Try.underlying66 rfl rfl) ?_)
  refine G.nil ?_
  refine G.nThen ?_
  refine G.condF rfl (rfl) ?_
  refine G.skip ?_
  refine G.nThen ?_
  refine G.seq ?_
  refine G.region ?_
  refine G.op rfl (G.val rfl rfl (pv_buildSt (z := [.int .i64 0, .int .i64 0]) (pl := [(0, 1), (1, 1)]) Try.underlying39 (by kernel_rfl) (by kernel_rfl) rfl (by repeat (first | exact Fl.nil | (apply Fl.cons; exact rfl; (first | exact cells_of (by first | rfl | with_reducible assumption) | exact rfl); exact rfl; exact rfl; repeat (first | exact Sn.nil | (apply Sn.cons; repeat (first | exact St.zero | apply St.succ))))))) ?_)
  refine G.op rfl (G.alloc (z := .agg #[.int .i64 0, .int .i64 0]) (cs := [.int .i64 0, .int .i64 0]) rfl (by kernel_rfl) rfl ?_)
  intro b7
  refine G.op rfl (G.storeN (by kernel_rfl) rfl rfl (by first | exact (all1_cons (by first | rfl | with_reducible assumption) (all1_cons (by first | rfl | with_reducible assumption) all1_nil)) | exact List.all_eq_true.2 (vByte_one _) | rfl) (by repeat (first | with_reducible exact Sel.here | exact Sel.here | apply Sel.there)) (by first | (simp; done) | exact Nat.le_of_ble_eq_true rfl) ?_)
  refine G.nil ?_
  refine G.nThen ?_
  refine G.seq ?_
  refine G.label ?_
  refine G.nThen ?_
  refine G.seq ?_
  refine G.cutK (X := (Int × Int) × Rs × (List Int) × (List (List UInt8)) × (List UInt8) × Value × Value × Value) (ts := [2, 3, 4, 5, 7]) (p := [blk b7 _ _, blk D _ _, blk b5 _ _]) (fun st => (st.1 = (0, 0) ∧ st.2.1.e = 0 ∧ okS b st.2.1 ∧ readM b = finM b r1.1 st.2.2.1 st.2.2.2.1 st.2.2.2.2.1 st.2.1) ∨ (st.1.1 ≠ 0 ∧ 0 ≤ st.1.1 ∧ readM b = (nt0, (st.1.1.toNat, st.1.2)))) (fun st => []) (fun st => [blk b7 39 [.int .i64 st.1.1, .int .i64 st.1.2], blk D 96 [.bool true, v, .int .i64 (st.2.1.a : Int), .int .i64 (st.2.1.e : Int), .int .i64 st.2.1.p], own 3 1 st.2.2.2.2.2.1 st.2.2.1.length (st.2.2.1.map vInt), own 49 16 st.2.2.2.2.2.2.1 st.2.2.2.1.length (flatI st.2.2.2.1), own 5 1 st.2.2.2.2.2.2.2 st.2.2.2.2.1.length (st.2.2.2.2.1.map vByte), blk b5 26 [.int .i64 (r1.1 : Int), st.2.2.2.2.2.1, st.2.2.2.2.2.2.1, st.2.2.2.2.2.2.2]]) (.cons rfl (.cons rfl (.cons rfl (.cons rfl (.cons rfl .nil))))) (by repeat (first | exact Sub.nil | (apply Sub.cons; (repeat (first | with_reducible exact Sel.here | exact Sel.here | apply Sel.there))))) Ap.nil (by repeat (first | exact Ap.nil | apply Ap.cons)) ?_ ?_
  · refine G.seq ?_
    refine G.region ?_
    refine G.op rfl (G.val rfl rfl (pv_move rfl) ?_)
    refine G.nil ?_
    refine G.nThen ?_
    refine G.block ?_
    refine G.ownNil 3 1 ?_
    refine G.ownNil 49 16 ?_
    refine G.ownNil 5 1 ?_
    refine G.loopK (X := Nat × Rs × (List Int) × (List (List UInt8)) × (List UInt8) × Value × Value × Value) (ts := [2, 3, 4, 5, 6, 7]) (fun st => st.1 ≤ 3 ∧ (readM b = nowM b sh r1.1 st.2.2.1 st.2.2.2.1 st.2.2.2.2.1 st.2.1 st.1 ∧ st.2.1.e = 0 ∧ okS b st.2.1 ∧ (st.1 = 0 → st.2.2.1 = []) ∧ (st.1 ≤ 1 → st.2.2.2.1 = []) ∧ (st.1 ≤ 2 → st.2.2.2.2.1 = []))) (fun st => [(26, .int .i64 (st.1 : Int))]) (fun st => [blk D 96 [.bool true, v, .int .i64 (st.2.1.a : Int), .int .i64 (st.2.1.e : Int), .int .i64 st.2.1.p], own 3 1 st.2.2.2.2.2.1 st.2.2.1.length (st.2.2.1.map vInt), own 49 16 st.2.2.2.2.2.2.1 st.2.2.2.1.length (flatI st.2.2.2.1), own 5 1 st.2.2.2.2.2.2.2 st.2.2.2.2.1.length (st.2.2.2.2.1.map vByte), blk b5 26 [.int .i64 (r1.1 : Int), st.2.2.2.2.2.1, st.2.2.2.2.2.2.1, st.2.2.2.2.2.2.2], blk b7 39 [.int .i64 0, .int .i64 0]]) (fun st => 3 - st.1) (x0 := (0, r1.2, [], [], [], .slice none 0 0, .slice none 0 0, .slice none 0 0)) (.cons rfl (.cons rfl (.cons rfl (.cons rfl (.cons rfl (.cons rfl .nil)))))) (by repeat (first | exact Sub.nil | (apply Sub.cons; (repeat (first | with_reducible exact Sel.here | exact Sel.here | apply Sel.there))))) (.cons .nil) (by repeat (first | exact Ap.nil | apply Ap.cons)) (by first | exact trivial | ((try dsimp only); exact ⟨Nat.zero_le _, ⟨hz, hB, k1, fun _ => rfl, fun _ => rfl, fun _ => rfl⟩⟩)) (.consE rfl (by first | rfl | exact int_eq (by omega) | exact congrArg _ (by omega)) .nil) (fun st hJ => ?_)
    obtain ⟨part, s, ns, ids, bs, vN, vI, vB⟩ := st
    try dsimp only at hJ
    try dsimp only
    obtain ⟨hkpart, hJ⟩ := hJ
    obtain ⟨hJr, he, ks, hn0, hi0, hb0⟩ := hJ
    refine G.seq ?_
    refine G.region ?_
    refine G.op rfl (G.val rfl rfl (pv_lss rfl rfl) ?_)
    refine G.nil ?_
    refine G.nThen ?_
    refine G.seq ?_
    refine G.condP rfl (fun h27 => ?_) (fun h27 => ?_)
    · have hp3 : part < 3 := by omega
      refine G.skip ?_
      refine G.nThen ?_
      refine G.seq ?_
      refine G.block ?_
      refine G.seq ?_
      refine G.region ?_
      refine G.op rfl (G.val rfl rfl (pv_move rfl) ?_)
      refine G.op rfl (G.val rfl rfl (pv_assign rfl) ?_)
      refine G.nil ?_
      refine G.nThen ?_
      refine G.seq ?_
      refine G.region ?_
      refine G.op rfl (G.val rfl rfl (pv_buildSt (z := [.int .i64 0, .int .i64 0]) (pl := [(0, 1), (1, 1)]) Try.underlying39 (by kernel_rfl) (by kernel_rfl) rfl (by repeat (first | exact Fl.nil | (apply Fl.cons; exact rfl; (first | exact cells_of (by first | rfl | with_reducible assumption) | exact rfl); exact rfl; exact rfl; repeat (first | exact Sn.nil | (apply Sn.cons; repeat (first | exact St.zero | apply St.succ))))))) ?_)
      refine G.op rfl (G.alloc (z := .agg #[.int .i64 0, .int .i64 0]) (cs := [.int .i64 0, .int .i64 0]) rfl (by kernel_rfl) rfl ?_)
      intro b10
      refine G.op rfl (G.val rfl rfl (pv_assign rfl) ?_)
      refine G.op rfl (G.storeN (by kernel_rfl) rfl rfl (by first | exact (all1_cons (by first | rfl | with_reducible assumption) (all1_cons (by first | rfl | with_reducible assumption) all1_nil)) | exact List.all_eq_true.2 (vByte_one _) | rfl) (by repeat (first | with_reducible exact Sel.here | exact Sel.here | apply Sel.there)) (by first | (simp; done) | exact Nat.le_of_ble_eq_true rfl) ?_)
      refine G.nil ?_
      refine G.nThen ?_
      refine G.seq ?_
      refine G.cutK (X := Rs × (Int × Int) × (List Int) × (List (List UInt8)) × (List UInt8) × Value × Value × Value) (ts := [2, 3, 4, 5, 6, 7, 10, 26]) (p := [blk D _ _, own 3 1 vN _ _, own 49 16 vI _ _, own 5 1 vB _ _, blk b5 _ _, blk b10 _ _]) (fun st => okS b st.1 ∧ (part = 0 → st.2.2.2.1 = []) ∧ (part ≤ 1 → st.2.2.2.2.1 = []) ∧ ((st.2.1 = (0, 0) ∧ readM b = nowM b sh r1.1 st.2.2.1 st.2.2.2.1 st.2.2.2.2.1 st.1 (part + 1)) ∨ (st.2.1.1 ≠ 0 ∧ 0 ≤ st.2.1.1 ∧ st.1.e = 0 ∧ readM b = (nt0, (st.2.1.1.toNat, st.2.1.2))))) (fun st => []) (fun st => [blk D 96 [.bool true, v, .int .i64 (st.1.a : Int), .int .i64 (st.1.e : Int), .int .i64 st.1.p], own 3 1 st.2.2.2.2.2.1 st.2.2.1.length (st.2.2.1.map vInt), own 49 16 st.2.2.2.2.2.2.1 st.2.2.2.1.length (flatI st.2.2.2.1), own 5 1 st.2.2.2.2.2.2.2 st.2.2.2.2.1.length (st.2.2.2.2.1.map vByte), blk b5 26 [.int .i64 (r1.1 : Int), st.2.2.2.2.2.1, st.2.2.2.2.2.2.1, st.2.2.2.2.2.2.2], blk b10 39 [.int .i64 st.2.1.1, .int .i64 st.2.1.2]]) (.cons rfl (.cons rfl (.cons rfl (.cons rfl (.cons rfl (.cons rfl (.cons rfl (.cons rfl .nil)))))))) (by repeat (first | exact Sub.nil | (apply Sub.cons; (repeat (first | with_reducible exact Sel.here | exact Sel.here | apply Sel.there))))) Ap.nil (by repeat (first | exact Ap.nil | apply Ap.cons)) ?_ ?_
      · refine G.seq ?_
        refine G.region ?_
        refine G.op rfl (G.val rfl rfl (pv_move rfl) ?_)
        refine G.nil ?_
        refine G.nThen ?_
        refine G.block ?_
        refine G.seq ?_
        refine G.region ?_
        refine G.op rfl (G.val rfl rfl (pv_eql rfl rfl) ?_)
        refine G.op rfl (G.val rfl rfl (pv_assign rfl) ?_)
        refine G.nil ?_
        refine G.nThen ?_
        refine G.condP rfl (fun h58 => ?_) (fun h58 => ?_)
        · obtain rfl : part = 0 := by omega
          obtain rfl := hn0 rfl
          obtain rfl := hi0 (by omega)
          obtain rfl := hb0 (by omega)
          refine G.seq ?_
          refine G.seq ?_
          refine G.region ?_
          refine G.op rfl (G.val rfl rfl (pv_move rfl) ?_)
          refine G.op rfl (G.val rfl rfl (pv_move rfl) ?_)
          refine G.op rfl (G.val rfl rfl (pv_nilCheck rfl) ?_)
          refine G.op rfl (G.val rfl rfl (pv_fieldAddrK (sz := 1) (k := 1) Try.underlying71 rfl (by kernel_rfl) rfl rfl) ?_)
          refine G.op rfl (G.val rfl rfl (pv_loadN (cs := [_, _]) Try.underlying69 rfl (by kernel_rfl) rfl (by first | exact blk_range (k := 2) (by (repeat (first | with_reducible exact Sel.here | exact Sel.here | apply Sel.there)); done) (by rfl) | exact rng_range (k := 2) (by (repeat (first | with_reducible exact Sel.here | exact Sel.here | apply Sel.there)); done) (by rfl) | exact ro_range (k := 2) (by assumption) (by rfl) | exact ro_rngR (k := 2) (by assumption) (by rfl))) ?_)
          refine G.op rfl (G.cS rfl rfl rfl rfl Try.func50 rfl rfl (by repeat (first | exact Sub.nil | (apply Sub.cons; (repeat (first | with_reducible exact Sel.here | exact Sel.here | apply Sel.there))))) may0 (cntF _ _ _ _ _ _ ks hb) (by repeat (first | exact Ap.nil | apply Ap.cons)) ?_)
          intro x66 hJ
          try dsimp only at hJ
          try dsimp only
          refine G.op rfl (G.val rfl rfl (pv_move rfl) ?_)
          refine G.op rfl (G.val rfl rfl (pv_extract rfl rfl) ?_)
          refine G.op rfl (G.val rfl rfl (pv_extract rfl rfl) ?_)
          refine G.op rfl (G.val rfl rfl (pv_assign rfl) ?_)
          refine G.op rfl (G.storeN (by kernel_rfl) rfl rfl (by first | exact (all1_cons (by first | rfl | with_reducible assumption) (all1_cons (by first | rfl | with_reducible assumption) all1_nil)) | exact List.all_eq_true.2 (vByte_one _) | rfl) (by repeat (first | with_reducible exact Sel.here | exact Sel.here | apply Sel.there)) (by first | (simp; done) | exact Nat.le_of_ble_eq_true rfl) ?_)
          refine G.nil ?_
          refine G.nThen ?_
          refine G.seq ?_
          refine G.region ?_
          refine G.op rfl (G.val rfl rfl (pv_fieldAddrK (sz := 0) (k := 0) Try.underlying39 rfl (by kernel_rfl) rfl rfl) ?_)
          refine G.op rfl (G.val rfl rfl (pv_load Try.underlying29 rfl rfl (by first | exact blk_cell (by (repeat (first | with_reducible exact Sel.here | exact Sel.here | apply Sel.there)); done) (by rfl) | exact rng_cell (by (repeat (first | with_reducible exact Sel.here | exact Sel.here | apply Sel.there)); done) (by rfl) | exact ro_blk (by assumption) (by rfl) | exact ro_rngC (by assumption) (by rfl) | exact ro_int (by assumption) | exact ro_byte (by assumption) | exact ro_str (by assumption) | with_reducible assumption | assumption)) ?_)
          refine G.op rfl (G.val rfl rfl (pv_neq rfl rfl) ?_)
          refine G.nil ?_
          refine G.nThen ?_
          refine G.condP rfl (fun h71 => ?_) (fun h71 => ?_)
          · obtain ⟨hf1, hf2, hf3, hf4⟩ := (fewS_iff (b := b) (least := sh.n) (most := sh.ns) (s := s)).resolve_right (fun h => h71 (by rw [h.1]))
            refine G.exit ?_
            refine G.eThen ?_
            refine G.eBlock ?_
            exact G.meet ((numS b 0 sh.ns 3 s).2, fewS b sh.n sh.ns s, [], [], [], vN, vI, vB) (by first | exact trivial | ((try dsimp only); exact ⟨numS_ok ks (by decide), fun _ => rfl, fun _ => rfl, .inr ⟨h71, by rw [hf2]; show (0 : Int) ≤ 5; decide, hf3, by rw [hf2]; exact hJr.trans (now0f ⟨hf3, hf4⟩)⟩⟩)) (.cons rfl (.cons rfl (.cons rfl (.cons rfl (.cons rfl (.cons rfl (.cons rfl (.cons rfl .nil)))))))) (by repeat (first | exact Sub.nil | (apply Sub.cons; (repeat (first | with_reducible exact Sel.here | exact Sel.here | apply Sel.there)))))
          · obtain ⟨hf1, hf2⟩ := (fewS_iff (b := b) (least := sh.n) (most := sh.ns) (s := s)).resolve_left (fun h => h.1 (by omega))
            have hnow := hJr.trans (now0 hf2)
            obtain ⟨r2, hr2⟩ : ∃ c, numS b 0 sh.ns 3 s = c := ⟨_, rfl⟩
            rw [hr2] at hnow
            have k2 : okS b r2.2 := by rw [← hr2]; exact numS_ok ks (by decide)
            have z1 : r2.1 ≤ 2147483647 := by rw [← hr2]; exact numS_small
            rw [hf1, hr2]
            refine G.skip ?_
            refine G.nThen ?_
            refine G.seq ?_
            refine G.region ?_
            refine G.op rfl (G.val rfl rfl (pv_move rfl) ?_)
            refine G.op rfl (G.val rfl rfl (pv_move rfl) ?_)
            refine G.nil ?_
            refine G.nThen ?_
            refine G.block ?_
            refine G.loopK (X := Nat × Value) (ts := [2, 3, 4, 5, 6, 7, 10, 26, 72]) (fun st => st.1 ≤ r2.1) (fun st => [(73, .int .i64 (st.1 : Int))]) (fun st => [blk D 96 [.bool true, v, .int .i64 ((numsS b r2.2 st.1).2.a : Int), .int .i64 ((numsS b r2.2 st.1).2.e : Int), .int .i64 (numsS b r2.2 st.1).2.p], own 3 1 st.2 (numsS b r2.2 st.1).1.length ((numsS b r2.2 st.1).1.map vInt), blk b5 26 [.int .i64 (r1.1 : Int), st.2, vI, vB]]) (fun st => r2.1 - st.1) (x0 := (0, vN)) (.cons rfl (.cons rfl (.cons rfl (.cons rfl (.cons rfl (.cons rfl (.cons rfl (.cons rfl (.cons rfl .nil))))))))) (by repeat (first | exact Sub.nil | (apply Sub.cons; (repeat (first | with_reducible exact Sel.here | exact Sel.here | apply Sel.there))))) (.cons .nil) (by repeat (first | exact Ap.nil | apply Ap.cons)) (by first | exact trivial | ((try dsimp only); exact Nat.zero_le _)) (.consE rfl (by first | rfl | exact int_eq (by omega) | exact congrArg _ (by omega)) .nil) (fun st hJ => ?_)
            obtain ⟨j, vn⟩ := st
            try dsimp only at hJ
            try dsimp only
            have hkj := hJ
            have kj := numsS_ok k2 j
            have lj := numsS_len b r2.2 j
            refine G.seq ?_
            refine G.region ?_
            refine G.op rfl (G.val rfl rfl (pv_lss rfl rfl) ?_)
            refine G.nil ?_
            refine G.nThen ?_
            refine G.seq ?_
            refine G.condP rfl (fun h74 => ?_) (fun h74 => ?_)
            · refine G.skip ?_
              refine G.nThen ?_
              refine G.seq ?_
              refine G.block ?_
              refine G.drawT (nn := 8) (p := [blk D _ _, own 3 1 vn _ _, blk b5 _ _]) (rem := 255) [0, 1, 0, 4, 8, 26, 63, 127] [0, 1, 0, 4, 8, 18, 0, 96] (by kernel_rfl) ⟨rfl, by kernel_rfl, by kernel_rfl⟩ (by repeat (first | exact Sub.nil | (apply Sub.cons; (repeat (first | with_reducible exact Sel.here | exact Sel.here | apply Sel.there))))) (by kernel_rfl) (fun hT21 => ?_)
              refine G.takeT hT21 (i := 0) (rem' := 254) rfl rfl rfl (by kernel_rfl) (fun _ _ _ h => h) rfl (pv_fieldAddrK (sz := 0) (k := 1) Try.underlying26 rfl (by kernel_rfl) rfl rfl) (by repeat (first | exact Sub.nil | (apply Sub.cons; (repeat (first | with_reducible exact Sel.here | exact Sel.here | apply Sel.there))))) ?_
              refine G.takeT hT21 (i := 2) (rem' := 250) rfl rfl rfl (by kernel_rfl) (fun _ _ _ h => h) rfl (pv_move rfl) (by repeat (first | exact Sub.nil | (apply Sub.cons; (repeat (first | with_reducible exact Sel.here | exact Sel.here | apply Sel.there))))) ?_
              refine G.twoT hT21 (i := 1) (j := 3) (rem' := 248) (rem'' := 242) (by kernel_rfl) (by kernel_rfl) (by kernel_rfl) ?_ ?_
              · refine G.turnOp rfl rfl (G.val rfl rfl (pv_load Try.underlying22 rfl rfl (by first | exact blk_cell (by (repeat (first | with_reducible exact Sel.here | exact Sel.here | apply Sel.there)); done) (by rfl) | exact rng_cell (by (repeat (first | with_reducible exact Sel.here | exact Sel.here | apply Sel.there)); done) (by rfl) | exact ro_blk (by assumption) (by rfl) | exact ro_rngC (by assumption) (by rfl) | exact ro_int (by assumption) | exact ro_byte (by assumption) | exact ro_str (by assumption) | with_reducible assumption | assumption)) ?_)
                refine G.back (by repeat (first | exact Sub.nil | (apply Sub.cons; (repeat (first | with_reducible exact Sel.here | exact Sel.here | apply Sel.there))))) ?_
                refine G.oneT hT21 (i := 3) (rem' := 240) (by kernel_rfl) (by kernel_rfl) ?_
                refine G.turnOp rfl rfl (G.cS rfl rfl rfl rfl Try.func48 rfl rfl (by repeat (first | exact Sub.nil | (apply Sub.cons; (repeat (first | with_reducible exact Sel.here | exact Sel.here | apply Sel.there))))) may0 (intF _ _ _ _ 0 2147483647 kj hb) (by repeat (first | exact Ap.nil | apply Ap.cons)) ?_)
                intro x78 hJ
                try dsimp only at hJ
                try dsimp only
                refine G.back (by repeat (first | exact Sub.nil | (apply Sub.cons; (repeat (first | with_reducible exact Sel.here | exact Sel.here | apply Sel.there))))) ?_
                refine G.oneT hT21 (i := 4) (rem' := 224) (by kernel_rfl) (by kernel_rfl) ?_
                refine G.turnOp rfl rfl (G.lit1 (vs := [_]) rfl Try.underlying22 (by kernel_rfl) rfl (by decide) (by decide) rfl rfl ?_)
                intro b79
                refine G.back (by repeat (first | exact Sub.nil | (apply Sub.cons; (repeat (first | with_reducible exact Sel.here | exact Sel.here | apply Sel.there))))) ?_
                refine G.oneT hT21 (i := 5) (rem' := 192) (by kernel_rfl) (by kernel_rfl) ?_
                refine G.turnOp rfl rfl (G.append (k := (numsS b r2.2 j).1.length) (j := 1) (cs := (numsS b r2.2 j).1.map vInt) (news := [vInt ((numS b 0 2147483647 5 (numsS b r2.2 j).2).1 : Int)]) (b := b79) (off := 0) rfl Try.underlying22 Try.infoInt' rfl rfl rfl (by repeat (first | with_reducible exact Sel.here | exact Sel.here | apply Sel.there)) (fun _ => rfl) (fun h => by cases h) rfl (blk_news (k := 1) (by repeat (first | with_reducible exact Sel.here | exact Sel.here | apply Sel.there)) rfl) (by intro u hu; obtain rfl : u = _ := (by simpa using hu); rfl) (by rw [lj]; omega) (by rw [lj]; omega) ?_)
                intro vn2
                rw [numsS_app]
                refine G.ownFact (v := vn2) (by repeat (first | with_reducible exact Sel.here | exact Sel.here | apply Sel.there)) (fun hvn2 _ => ?_)
                refine G.back (by repeat (first | exact Sub.nil | (apply Sub.cons; (repeat (first | with_reducible exact Sel.here | exact Sel.here | apply Sel.there))))) ?_
                refine G.takeT hT21 (i := 6) (rem' := 128) rfl rfl rfl (by kernel_rfl) (fun _ _ _ h => h) rfl (pv_fieldAddrK (sz := 0) (k := 1) Try.underlying26 rfl (by kernel_rfl) rfl rfl) (by repeat (first | exact Sub.nil | (apply Sub.cons; (repeat (first | with_reducible exact Sel.here | exact Sel.here | apply Sel.there))))) ?_
                refine G.oneT hT21 (i := 7) (rem' := 0) (by kernel_rfl) (by kernel_rfl) ?_
                refine G.turnOp rfl rfl (G.store (by kernel_rfl) rfl rfl (by first | rfl | with_reducible assumption) (by repeat (first | with_reducible exact Sel.here | exact Sel.here | apply Sel.there)) (by first | (simp; done) | exact Nat.le_of_ble_eq_true rfl) ?_)
                refine G.back (by repeat (first | exact Sub.nil | (apply Sub.cons; (repeat (first | with_reducible exact Sel.here | exact Sel.here | apply Sel.there))))) ?_
                refine G.overT hT21 (by kernel_rfl) ?_
                refine G.nBlock ?_
                refine G.nThen ?_
                refine G.region ?_
                refine G.op rfl (G.val rfl rfl (pv_add64 rfl rfl (by omega)) ?_)
                refine G.op rfl (G.val rfl rfl (pv_move rfl) ?_)
                refine G.nil ?_
                exact G.next ((j + 1, vn2)) (by first | exact trivial | ((try dsimp only); exact by omega)) (by (try dsimp only); omega) (.consE rfl (by first | rfl | exact int_eq (by omega) | exact congrArg _ (by omega)) (.cons rfl (.cons rfl (.cons rfl (.cons rfl (.cons rfl (.cons rfl (.cons rfl (.cons rfl (.cons rfl .nil)))))))))) (by repeat (first | exact Sub.nil | (apply Sub.cons; (repeat (first | with_reducible exact Sel.here | exact Sel.here | apply Sel.there)))))
              · refine G.turnOp rfl rfl (G.cS rfl rfl rfl rfl Try.func48 rfl rfl (by repeat (first | exact Sub.nil | (apply Sub.cons; (repeat (first | with_reducible exact Sel.here | exact Sel.here | apply Sel.there))))) may0 (intF _ _ _ _ 0 2147483647 kj hb) (by repeat (first | exact Ap.nil | apply Ap.cons)) ?_)
                intro x78 hJ
                try dsimp only at hJ
                try dsimp only
                refine G.back (by repeat (first | exact Sub.nil | (apply Sub.cons; (repeat (first | with_reducible exact Sel.here | exact Sel.here | apply Sel.there))))) ?_
                refine G.twoT hT21 (i := 1) (j := 4) (rem' := 240) (rem'' := 226) (by kernel_rfl) (by kernel_rfl) (by kernel_rfl) ?_ ?_
                · refine G.turnOp rfl rfl (G.val rfl rfl (pv_load Try.underlying22 rfl rfl (by first | exact blk_cell (by (repeat (first | with_reducible exact Sel.here | exact Sel.here | apply Sel.there)); done) (by rfl) | exact rng_cell (by (repeat (first | with_reducible exact Sel.here | exact Sel.here | apply Sel.there)); done) (by rfl) | exact ro_blk (by assumption) (by rfl) | exact ro_rngC (by assumption) (by rfl) | exact ro_int (by assumption) | exact ro_byte (by assumption) | exact ro_str (by assumption) | with_reducible assumption | assumption)) ?_)
                  refine G.back (by repeat (first | exact Sub.nil | (apply Sub.cons; (repeat (first | with_reducible exact Sel.here | exact Sel.here | apply Sel.there))))) ?_
                  refine G.oneT hT21 (i := 4) (rem' := 224) (by kernel_rfl) (by kernel_rfl) ?_
                  refine G.turnOp rfl rfl (G.lit1 (vs := [_]) rfl Try.underlying22 (by kernel_rfl) rfl (by decide) (by decide) rfl rfl ?_)
                  intro b79
                  refine G.back (by repeat (first | exact Sub.nil | (apply Sub.cons; (repeat (first | with_reducible exact Sel.here | exact Sel.here | apply Sel.there))))) ?_
                  refine G.oneT hT21 (i := 5) (rem' := 192) (by kernel_rfl) (by kernel_rfl) ?_
                  refine G.turnOp rfl rfl (G.append (k := (numsS b r2.2 j).1.length) (j := 1) (cs := (numsS b r2.2 j).1.map vInt) (news := [vInt ((numS b 0 2147483647 5 (numsS b r2.2 j).2).1 : Int)]) (b := b79) (off := 0) rfl Try.underlying22 Try.infoInt' rfl rfl rfl (by repeat (first | with_reducible exact Sel.here | exact Sel.here | apply Sel.there)) (fun _ => rfl) (fun h => by cases h) rfl (blk_news (k := 1) (by repeat (first | with_reducible exact Sel.here | exact Sel.here | apply Sel.there)) rfl) (by intro u hu; obtain rfl : u = _ := (by simpa using hu); rfl) (by rw [lj]; omega) (by rw [lj]; omega) ?_)
                  intro vn2
                  rw [numsS_app]
                  refine G.ownFact (v := vn2) (by repeat (first | with_reducible exact Sel.here | exact Sel.here | apply Sel.there)) (fun hvn2 _ => ?_)
                  refine G.back (by repeat (first | exact Sub.nil | (apply Sub.cons; (repeat (first | with_reducible exact Sel.here | exact Sel.here | apply Sel.there))))) ?_
                  refine G.takeT hT21 (i := 6) (rem' := 128) rfl rfl rfl (by kernel_rfl) (fun _ _ _ h => h) rfl (pv_fieldAddrK (sz := 0) (k := 1) Try.underlying26 rfl (by kernel_rfl) rfl rfl) (by repeat (first | exact Sub.nil | (apply Sub.cons; (repeat (first | with_reducible exact Sel.here | exact Sel.here | apply Sel.there))))) ?_
                  refine G.oneT hT21 (i := 7) (rem' := 0) (by kernel_rfl) (by kernel_rfl) ?_
                  refine G.turnOp rfl rfl (G.store (by kernel_rfl) rfl rfl (by first | rfl | with_reducible assumption) (by repeat (first | with_reducible exact Sel.here | exact Sel.here | apply Sel.there)) (by first | (simp; done) | exact Nat.le_of_ble_eq_true rfl) ?_)
                  refine G.back (by repeat (first | exact Sub.nil | (apply Sub.cons; (repeat (first | with_reducible exact Sel.here | exact Sel.here | apply Sel.there))))) ?_
                  refine G.overT hT21 (by kernel_rfl) ?_
                  refine G.nBlock ?_
                  refine G.nThen ?_
                  refine G.region ?_
                  refine G.op rfl (G.val rfl rfl (pv_add64 rfl rfl (by omega)) ?_)
                  refine G.op rfl (G.val rfl rfl (pv_move rfl) ?_)
                  refine G.nil ?_
                  exact G.next ((j + 1, vn2)) (by first | exact trivial | ((try dsimp only); exact by omega)) (by (try dsimp only); omega) (.consE rfl (by first | rfl | exact int_eq (by omega) | exact congrArg _ (by omega)) (.cons rfl (.cons rfl (.cons rfl (.cons rfl (.cons rfl (.cons rfl (.cons rfl (.cons rfl (.cons rfl .nil)))))))))) (by repeat (first | exact Sub.nil | (apply Sub.cons; (repeat (first | with_reducible exact Sel.here | exact Sel.here | apply Sel.there)))))
                · refine G.turnOp rfl rfl (G.lit1 (vs := [_]) rfl Try.underlying22 (by kernel_rfl) rfl (by decide) (by decide) rfl rfl ?_)
                  intro b79
                  refine G.back (by repeat (first | exact Sub.nil | (apply Sub.cons; (repeat (first | with_reducible exact Sel.here | exact Sel.here | apply Sel.there))))) ?_
                  refine G.oneT hT21 (i := 1) (rem' := 224) (by kernel_rfl) (by kernel_rfl) ?_
                  refine G.turnOp rfl rfl (G.val rfl rfl (pv_load Try.underlying22 rfl rfl (by first | exact blk_cell (by (repeat (first | with_reducible exact Sel.here | exact Sel.here | apply Sel.there)); done) (by rfl) | exact rng_cell (by (repeat (first | with_reducible exact Sel.here | exact Sel.here | apply Sel.there)); done) (by rfl) | exact ro_blk (by assumption) (by rfl) | exact ro_rngC (by assumption) (by rfl) | exact ro_int (by assumption) | exact ro_byte (by assumption) | exact ro_str (by assumption) | with_reducible assumption | assumption)) ?_)
                  refine G.back (by repeat (first | exact Sub.nil | (apply Sub.cons; (repeat (first | with_reducible exact Sel.here | exact Sel.here | apply Sel.there))))) ?_
                  refine G.oneT hT21 (i := 5) (rem' := 192) (by kernel_rfl) (by kernel_rfl) ?_
                  refine G.turnOp rfl rfl (G.append (k := (numsS b r2.2 j).1.length) (j := 1) (cs := (numsS b r2.2 j).1.map vInt) (news := [vInt ((numS b 0 2147483647 5 (numsS b r2.2 j).2).1 : Int)]) (b := b79) (off := 0) rfl Try.underlying22 Try.infoInt' rfl rfl rfl (by repeat (first | with_reducible exact Sel.here | exact Sel.here | apply Sel.there)) (fun _ => rfl) (fun h => by cases h) rfl (blk_news (k := 1) (by repeat (first | with_reducible exact Sel.here | exact Sel.here | apply Sel.there)) rfl) (by intro u hu; obtain rfl : u = _ := (by simpa using hu); rfl) (by rw [lj]; omega) (by rw [lj]; omega) ?_)
                  intro vn2
                  rw [numsS_app]
                  refine G.ownFact (v := vn2) (by repeat (first | with_reducible exact Sel.here | exact Sel.here | apply Sel.there)) (fun hvn2 _ => ?_)
                  refine G.back (by repeat (first | exact Sub.nil | (apply Sub.cons; (repeat (first | with_reducible exact Sel.here | exact Sel.here | apply Sel.there))))) ?_
                  refine G.takeT hT21 (i := 6) (rem' := 128) rfl rfl rfl (by kernel_rfl) (fun _ _ _ h => h) rfl (pv_fieldAddrK (sz := 0) (k := 1) Try.underlying26 rfl (by kernel_rfl) rfl rfl) (by repeat (first | exact Sub.nil | (apply Sub.cons; (repeat (first | with_reducible exact Sel.here | exact Sel.here | apply Sel.there))))) ?_
                  refine G.oneT hT21 (i := 7) (rem' := 0) (by kernel_rfl) (by kernel_rfl) ?_
                  refine G.turnOp rfl rfl (G.store (by kernel_rfl) rfl rfl (by first | rfl | with_reducible assumption) (by repeat (first | with_reducible exact Sel.here | exact Sel.here | apply Sel.there)) (by first | (simp; done) | exact Nat.le_of_ble_eq_true rfl) ?_)
                  refine G.back (by repeat (first | exact Sub.nil | (apply Sub.cons; (repeat (first | with_reducible exact Sel.here | exact Sel.here | apply Sel.there))))) ?_
                  refine G.overT hT21 (by kernel_rfl) ?_
                  refine G.nBlock ?_
                  refine G.nThen ?_
                  refine G.region ?_
                  refine G.op rfl (G.val rfl rfl (pv_add64 rfl rfl (by omega)) ?_)
                  refine G.op rfl (G.val rfl rfl (pv_move rfl) ?_)
                  refine G.nil ?_
                  exact G.next ((j + 1, vn2)) (by first | exact trivial | ((try dsimp only); exact by omega)) (by (try dsimp only); omega) (.consE rfl (by first | rfl | exact int_eq (by omega) | exact congrArg _ (by omega)) (.cons rfl (.cons rfl (.cons rfl (.cons rfl (.cons rfl (.cons rfl (.cons rfl (.cons rfl (.cons rfl .nil)))))))))) (by repeat (first | exact Sub.nil | (apply Sub.cons; (repeat (first | with_reducible exact Sel.here | exact Sel.here | apply Sel.there)))))
            · obtain rfl : j = r2.1 := by omega
              refine G.exit ?_
              refine G.eThen ?_
              refine G.eThen ?_
              refine G.eBlock ?_
              refine G.nBlock ?_
              exact G.meet ((numsS b r2.2 r2.1).2, (0, 0), (numsS b r2.2 r2.1).1, [], [], vn, vI, vB) (by first | exact trivial | ((try dsimp only); exact ⟨kj, fun _ => rfl, fun _ => rfl, .inl ⟨rfl, hnow⟩⟩)) (.cons rfl (.cons rfl (.cons rfl (.cons rfl (.cons rfl (.cons rfl (.cons rfl (.cons rfl .nil)))))))) (by repeat (first | exact Sub.nil | (apply Sub.cons; (repeat (first | with_reducible exact Sel.here | exact Sel.here | apply Sel.there)))))
        · refine G.seq ?_
          refine G.region ?_
          refine G.op rfl (G.val rfl rfl (pv_eql rfl rfl) ?_)
          refine G.op rfl (G.val rfl rfl (pv_assign rfl) ?_)
          refine G.nil ?_
          refine G.nThen ?_
          refine G.condP rfl (fun h83 => ?_) (fun h83 => ?_)
          · obtain rfl : part = 1 := by omega
            obtain rfl := hi0 (by omega)
            obtain rfl := hb0 (by omega)
            refine G.seq ?_
            refine G.seq ?_
            refine G.region ?_
            refine G.op rfl (G.val rfl rfl (pv_move rfl) ?_)
            refine G.op rfl (G.val rfl rfl (pv_move rfl) ?_)
            refine G.op rfl (G.val rfl rfl (pv_nilCheck rfl) ?_)
            refine G.op rfl (G.val rfl rfl (pv_fieldAddrK (sz := 1) (k := 3) Try.underlying71 rfl (by kernel_rfl) rfl rfl) ?_)
            refine G.op rfl (G.val rfl rfl (pv_loadN (cs := [_, _]) Try.underlying69 rfl (by kernel_rfl) rfl (by first | exact blk_range (k := 2) (by (repeat (first | with_reducible exact Sel.here | exact Sel.here | apply Sel.there)); done) (by rfl) | exact rng_range (k := 2) (by (repeat (first | with_reducible exact Sel.here | exact Sel.here | apply Sel.there)); done) (by rfl) | exact ro_range (k := 2) (by assumption) (by rfl) | exact ro_rngR (k := 2) (by assumption) (by rfl))) ?_)
            refine G.op rfl (G.cS rfl rfl rfl rfl Try.func50 rfl rfl (by repeat (first | exact Sub.nil | (apply Sub.cons; (repeat (first | with_reducible exact Sel.here | exact Sel.here | apply Sel.there))))) may0 (cntF _ _ _ _ _ _ ks hb) (by repeat (first | exact Ap.nil | apply Ap.cons)) ?_)
            intro x91 hJ
            try dsimp only at hJ
            try dsimp only
            refine G.op rfl (G.val rfl rfl (pv_move rfl) ?_)
            refine G.op rfl (G.val rfl rfl (pv_extract rfl rfl) ?_)
            refine G.op rfl (G.val rfl rfl (pv_extract rfl rfl) ?_)
            refine G.op rfl (G.val rfl rfl (pv_assign rfl) ?_)
            refine G.op rfl (G.storeN (by kernel_rfl) rfl rfl (by first | exact (all1_cons (by first | rfl | with_reducible assumption) (all1_cons (by first | rfl | with_reducible assumption) all1_nil)) | exact List.all_eq_true.2 (vByte_one _) | rfl) (by repeat (first | with_reducible exact Sel.here | exact Sel.here | apply Sel.there)) (by first | (simp; done) | exact Nat.le_of_ble_eq_true rfl) ?_)
            refine G.nil ?_
            refine G.nThen ?_
            refine G.seq ?_
            refine G.region ?_
            refine G.op rfl (G.val rfl rfl (pv_fieldAddrK (sz := 0) (k := 0) Try.underlying39 rfl (by kernel_rfl) rfl rfl) ?_)
            refine G.op rfl (G.val rfl rfl (pv_load Try.underlying29 rfl rfl (by first | exact blk_cell (by (repeat (first | with_reducible exact Sel.here | exact Sel.here | apply Sel.there)); done) (by rfl) | exact rng_cell (by (repeat (first | with_reducible exact Sel.here | exact Sel.here | apply Sel.there)); done) (by rfl) | exact ro_blk (by assumption) (by rfl) | exact ro_rngC (by assumption) (by rfl) | exact ro_int (by assumption) | exact ro_byte (by assumption) | exact ro_str (by assumption) | with_reducible assumption | assumption)) ?_)
            refine G.op rfl (G.val rfl rfl (pv_neq rfl rfl) ?_)
            refine G.nil ?_
            refine G.nThen ?_
            refine G.condP rfl (fun h96 => ?_) (fun h96 => ?_)
            · obtain ⟨hf1, hf2, hf3, hf4⟩ := (fewS_iff (b := b) (least := sh.i) (most := sh.is) (s := s)).resolve_right (fun h => h96 (by rw [h.1]))
              refine G.exit ?_
              refine G.eThen ?_
              refine G.eBlock ?_
              exact G.meet ((numS b 0 sh.is 3 s).2, fewS b sh.i sh.is s, ns, [], [], vN, vI, vB) (by first | exact trivial | ((try dsimp only); exact ⟨numS_ok ks (by decide), fun _ => rfl, fun _ => rfl, .inr ⟨h96, by rw [hf2]; show (0 : Int) ≤ 5; decide, hf3, by rw [hf2]; exact hJr.trans (now1f ⟨hf3, hf4⟩)⟩⟩)) (.cons rfl (.cons rfl (.cons rfl (.cons rfl (.cons rfl (.cons rfl (.cons rfl (.cons rfl .nil)))))))) (by repeat (first | exact Sub.nil | (apply Sub.cons; (repeat (first | with_reducible exact Sel.here | exact Sel.here | apply Sel.there)))))
            · obtain ⟨hf1, hf2⟩ := (fewS_iff (b := b) (least := sh.i) (most := sh.is) (s := s)).resolve_left (fun h => h.1 (by omega))
              have hnow := hJr.trans (now1 hf2)
              obtain ⟨r2, hr2⟩ : ∃ c, numS b 0 sh.is 3 s = c := ⟨_, rfl⟩
              rw [hr2] at hnow
              have k2 : okS b r2.2 := by rw [← hr2]; exact numS_ok ks (by decide)
              have z1 : r2.1 ≤ 2147483647 := by rw [← hr2]; exact numS_small
              rw [hf1, hr2]
              refine G.skip ?_
              refine G.nThen ?_
              refine G.seq ?_
              refine G.region ?_
              refine G.op rfl (G.val rfl rfl (pv_move rfl) ?_)
              refine G.op rfl (G.val rfl rfl (pv_move rfl) ?_)
              refine G.nil ?_
              refine G.nThen ?_
              refine G.block ?_
              refine G.loopK (X := Nat × Value) (ts := [2, 3, 4, 5, 6, 7, 10, 26, 97]) (fun st => st.1 ≤ r2.1) (fun st => [(98, .int .i64 (st.1 : Int))]) (fun st => [blk D 96 [.bool true, v, .int .i64 ((idsS b r2.2 st.1).2.a : Int), .int .i64 ((idsS b r2.2 st.1).2.e : Int), .int .i64 (idsS b r2.2 st.1).2.p], own 49 16 st.2 (idsS b r2.2 st.1).1.length (flatI (idsS b r2.2 st.1).1), blk b5 26 [.int .i64 (r1.1 : Int), vN, st.2, vB]]) (fun st => r2.1 - st.1) (x0 := (0, vI)) (.cons rfl (.cons rfl (.cons rfl (.cons rfl (.cons rfl (.cons rfl (.cons rfl (.cons rfl (.cons rfl .nil))))))))) (by repeat (first | exact Sub.nil | (apply Sub.cons; (repeat (first | with_reducible exact Sel.here | exact Sel.here | apply Sel.there))))) (.cons .nil) (by repeat (first | exact Ap.nil | apply Ap.cons)) (by first | exact trivial | ((try dsimp only); exact Nat.zero_le _)) (.consE rfl (by first | rfl | exact int_eq (by omega) | exact congrArg _ (by omega)) .nil) (fun st hJ => ?_)
              obtain ⟨q, vi⟩ := st
              try dsimp only at hJ
              try dsimp only
              have hkq := hJ
              have kq := idsS_ok k2 q
              have lq := idsS_len b r2.2 q
              have lid := idS_len b (idsS b r2.2 q).2
              refine G.seq ?_
              refine G.region ?_
              refine G.op rfl (G.val rfl rfl (pv_lss rfl rfl) ?_)
              refine G.nil ?_
              refine G.nThen ?_
              refine G.seq ?_
              refine G.condP rfl (fun h99 => ?_) (fun h99 => ?_)
              · refine G.skip ?_
                refine G.nThen ?_
                refine G.seq ?_
                refine G.block ?_
                refine G.drawT (nn := 8) (p := [blk D _ _, own 49 16 vi _ _, blk b5 _ _]) (rem := 255) [0, 1, 0, 4, 8, 26, 63, 127] [0, 1, 0, 4, 8, 18, 0, 96] (by kernel_rfl) ⟨rfl, by kernel_rfl, by kernel_rfl⟩ (by repeat (first | exact Sub.nil | (apply Sub.cons; (repeat (first | with_reducible exact Sel.here | exact Sel.here | apply Sel.there))))) (by kernel_rfl) (fun hT28 => ?_)
                refine G.takeT hT28 (i := 0) (rem' := 254) rfl rfl rfl (by kernel_rfl) (fun _ _ _ h => h) rfl (pv_fieldAddrK (sz := 0) (k := 2) Try.underlying26 rfl (by kernel_rfl) rfl rfl) (by repeat (first | exact Sub.nil | (apply Sub.cons; (repeat (first | with_reducible exact Sel.here | exact Sel.here | apply Sel.there))))) ?_
                refine G.takeT hT28 (i := 2) (rem' := 250) rfl rfl rfl (by kernel_rfl) (fun _ _ _ h => h) rfl (pv_move rfl) (by repeat (first | exact Sub.nil | (apply Sub.cons; (repeat (first | with_reducible exact Sel.here | exact Sel.here | apply Sel.there))))) ?_
                refine G.twoT hT28 (i := 1) (j := 3) (rem' := 248) (rem'' := 242) (by kernel_rfl) (by kernel_rfl) (by kernel_rfl) ?_ ?_
                · refine G.turnOp rfl rfl (G.val rfl rfl (pv_load Try.underlying23 rfl rfl (by first | exact blk_cell (by (repeat (first | with_reducible exact Sel.here | exact Sel.here | apply Sel.there)); done) (by rfl) | exact rng_cell (by (repeat (first | with_reducible exact Sel.here | exact Sel.here | apply Sel.there)); done) (by rfl) | exact ro_blk (by assumption) (by rfl) | exact ro_rngC (by assumption) (by rfl) | exact ro_int (by assumption) | exact ro_byte (by assumption) | exact ro_str (by assumption) | with_reducible assumption | assumption)) ?_)
                  refine G.back (by repeat (first | exact Sub.nil | (apply Sub.cons; (repeat (first | with_reducible exact Sel.here | exact Sel.here | apply Sel.there))))) ?_
                  refine G.oneT hT28 (i := 3) (rem' := 240) (by kernel_rfl) (by kernel_rfl) ?_
                  refine G.turnOp rfl rfl (G.cS rfl rfl rfl rfl Try.func51 rfl rfl (by repeat (first | exact Sub.nil | (apply Sub.cons; (repeat (first | with_reducible exact Sel.here | exact Sel.here | apply Sel.there))))) may0 (idF _ _ _ _ kq hb) (by repeat (first | exact Ap.nil | apply Ap.cons)) ?_)
                  intro x103 hJ
                  try dsimp only at hJ
                  try dsimp only
                  refine G.back (by repeat (first | exact Sub.nil | (apply Sub.cons; (repeat (first | with_reducible exact Sel.here | exact Sel.here | apply Sel.there))))) ?_
                  refine G.oneT hT28 (i := 4) (rem' := 224) (by kernel_rfl) (by kernel_rfl) ?_
                  refine G.turnOp rfl rfl (G.buildSlice (sz := 16) (cs := (idS b (idsS b r2.2 q).2).1.map vByte) rfl Try.underlying23 Try.infoIDz (by decide) (by decide) rfl (fill16 _ (by rw [List.length_map, lid])) ?_)
                  intro b104
                  refine G.back (by repeat (first | exact Sub.nil | (apply Sub.cons; (repeat (first | with_reducible exact Sel.here | exact Sel.here | apply Sel.there))))) ?_
                  refine G.oneT hT28 (i := 5) (rem' := 192) (by kernel_rfl) (by kernel_rfl) ?_
                  refine G.turnOp rfl rfl (G.append (k := (idsS b r2.2 q).1.length) (j := 1) (cs := flatI (idsS b r2.2 q).1) (news := (idS b (idsS b r2.2 q).2).1.map vByte) (b := b104) (off := 0) rfl Try.underlying23 Try.infoID' rfl rfl rfl (by repeat (first | with_reducible exact Sel.here | exact Sel.here | apply Sel.there)) (fun _ => rfl) (fun h => by cases h) (by rw [List.length_map, lid]) (blk_news (k := 16) (by repeat (first | with_reducible exact Sel.here | exact Sel.here | apply Sel.there)) (List.take_of_length_le (by rw [List.drop_zero, List.length_map, lid]; exact Nat.le_refl _))) (vByte_one _) (by rw [lq]; omega) (by rw [lq]; omega) ?_)
                  intro vi2
                  rw [idsS_app]
                  refine G.ownFact (v := vi2) (by repeat (first | with_reducible exact Sel.here | exact Sel.here | apply Sel.there)) (fun hvi2 _ => ?_)
                  refine G.back (by repeat (first | exact Sub.nil | (apply Sub.cons; (repeat (first | with_reducible exact Sel.here | exact Sel.here | apply Sel.there))))) ?_
                  refine G.takeT hT28 (i := 6) (rem' := 128) rfl rfl rfl (by kernel_rfl) (fun _ _ _ h => h) rfl (pv_fieldAddrK (sz := 0) (k := 2) Try.underlying26 rfl (by kernel_rfl) rfl rfl) (by repeat (first | exact Sub.nil | (apply Sub.cons; (repeat (first | with_reducible exact Sel.here | exact Sel.here | apply Sel.there))))) ?_
                  refine G.oneT hT28 (i := 7) (rem' := 0) (by kernel_rfl) (by kernel_rfl) ?_
                  refine G.turnOp rfl rfl (G.store (by kernel_rfl) rfl rfl (by first | rfl | with_reducible assumption) (by repeat (first | with_reducible exact Sel.here | exact Sel.here | apply Sel.there)) (by first | (simp; done) | exact Nat.le_of_ble_eq_true rfl) ?_)
                  refine G.back (by repeat (first | exact Sub.nil | (apply Sub.cons; (repeat (first | with_reducible exact Sel.here | exact Sel.here | apply Sel.there))))) ?_
                  refine G.overT hT28 (by kernel_rfl) ?_
                  refine G.nBlock ?_
                  refine G.nThen ?_
                  refine G.region ?_
                  refine G.op rfl (G.val rfl rfl (pv_add64 rfl rfl (by omega)) ?_)
                  refine G.op rfl (G.val rfl rfl (pv_move rfl) ?_)
                  refine G.nil ?_
                  exact G.next ((q + 1, vi2)) (by first | exact trivial | ((try dsimp only); exact by omega)) (by (try dsimp only); omega) (.consE rfl (by first | rfl | exact int_eq (by omega) | exact congrArg _ (by omega)) (.cons rfl (.cons rfl (.cons rfl (.cons rfl (.cons rfl (.cons rfl (.cons rfl (.cons rfl (.cons rfl .nil)))))))))) (by repeat (first | exact Sub.nil | (apply Sub.cons; (repeat (first | with_reducible exact Sel.here | exact Sel.here | apply Sel.there)))))
                · refine G.turnOp rfl rfl (G.cS rfl rfl rfl rfl Try.func51 rfl rfl (by repeat (first | exact Sub.nil | (apply Sub.cons; (repeat (first | with_reducible exact Sel.here | exact Sel.here | apply Sel.there))))) may0 (idF _ _ _ _ kq hb) (by repeat (first | exact Ap.nil | apply Ap.cons)) ?_)
                  intro x103 hJ
                  try dsimp only at hJ
                  try dsimp only
                  refine G.back (by repeat (first | exact Sub.nil | (apply Sub.cons; (repeat (first | with_reducible exact Sel.here | exact Sel.here | apply Sel.there))))) ?_
                  refine G.twoT hT28 (i := 1) (j := 4) (rem' := 240) (rem'' := 226) (by kernel_rfl) (by kernel_rfl) (by kernel_rfl) ?_ ?_
                  · refine G.turnOp rfl rfl (G.val rfl rfl (pv_load Try.underlying23 rfl rfl (by first | exact blk_cell (by (repeat (first | with_reducible exact Sel.here | exact Sel.here | apply Sel.there)); done) (by rfl) | exact rng_cell (by (repeat (first | with_reducible exact Sel.here | exact Sel.here | apply Sel.there)); done) (by rfl) | exact ro_blk (by assumption) (by rfl) | exact ro_rngC (by assumption) (by rfl) | exact ro_int (by assumption) | exact ro_byte (by assumption) | exact ro_str (by assumption) | with_reducible assumption | assumption)) ?_)
                    refine G.back (by repeat (first | exact Sub.nil | (apply Sub.cons; (repeat (first | with_reducible exact Sel.here | exact Sel.here | apply Sel.there))))) ?_
                    refine G.oneT hT28 (i := 4) (rem' := 224) (by kernel_rfl) (by kernel_rfl) ?_
                    refine G.turnOp rfl rfl (G.buildSlice (sz := 16) (cs := (idS b (idsS b r2.2 q).2).1.map vByte) rfl Try.underlying23 Try.infoIDz (by decide) (by decide) rfl (fill16 _ (by rw [List.length_map, lid])) ?_)
                    intro b104
                    refine G.back (by repeat (first | exact Sub.nil | (apply Sub.cons; (repeat (first | with_reducible exact Sel.here | exact Sel.here | apply Sel.there))))) ?_
                    refine G.oneT hT28 (i := 5) (rem' := 192) (by kernel_rfl) (by kernel_rfl) ?_
                    refine G.turnOp rfl rfl (G.append (k := (idsS b r2.2 q).1.length) (j := 1) (cs := flatI (idsS b r2.2 q).1) (news := (idS b (idsS b r2.2 q).2).1.map vByte) (b := b104) (off := 0) rfl Try.underlying23 Try.infoID' rfl rfl rfl (by repeat (first | with_reducible exact Sel.here | exact Sel.here | apply Sel.there)) (fun _ => rfl) (fun h => by cases h) (by rw [List.length_map, lid]) (blk_news (k := 16) (by repeat (first | with_reducible exact Sel.here | exact Sel.here | apply Sel.there)) (List.take_of_length_le (by rw [List.drop_zero, List.length_map, lid]; exact Nat.le_refl _))) (vByte_one _) (by rw [lq]; omega) (by rw [lq]; omega) ?_)
                    intro vi2
                    rw [idsS_app]
                    refine G.ownFact (v := vi2) (by repeat (first | with_reducible exact Sel.here | exact Sel.here | apply Sel.there)) (fun hvi2 _ => ?_)
                    refine G.back (by repeat (first | exact Sub.nil | (apply Sub.cons; (repeat (first | with_reducible exact Sel.here | exact Sel.here | apply Sel.there))))) ?_
                    refine G.takeT hT28 (i := 6) (rem' := 128) rfl rfl rfl (by kernel_rfl) (fun _ _ _ h => h) rfl (pv_fieldAddrK (sz := 0) (k := 2) Try.underlying26 rfl (by kernel_rfl) rfl rfl) (by repeat (first | exact Sub.nil | (apply Sub.cons; (repeat (first | with_reducible exact Sel.here | exact Sel.here | apply Sel.there))))) ?_
                    refine G.oneT hT28 (i := 7) (rem' := 0) (by kernel_rfl) (by kernel_rfl) ?_
                    refine G.turnOp rfl rfl (G.store (by kernel_rfl) rfl rfl (by first | rfl | with_reducible assumption) (by repeat (first | with_reducible exact Sel.here | exact Sel.here | apply Sel.there)) (by first | (simp; done) | exact Nat.le_of_ble_eq_true rfl) ?_)
                    refine G.back (by repeat (first | exact Sub.nil | (apply Sub.cons; (repeat (first | with_reducible exact Sel.here | exact Sel.here | apply Sel.there))))) ?_
                    refine G.overT hT28 (by kernel_rfl) ?_
                    refine G.nBlock ?_
                    refine G.nThen ?_
                    refine G.region ?_
                    refine G.op rfl (G.val rfl rfl (pv_add64 rfl rfl (by omega)) ?_)
                    refine G.op rfl (G.val rfl rfl (pv_move rfl) ?_)
                    refine G.nil ?_
                    exact G.next ((q + 1, vi2)) (by first | exact trivial | ((try dsimp only); exact by omega)) (by (try dsimp only); omega) (.consE rfl (by first | rfl | exact int_eq (by omega) | exact congrArg _ (by omega)) (.cons rfl (.cons rfl (.cons rfl (.cons rfl (.cons rfl (.cons rfl (.cons rfl (.cons rfl (.cons rfl .nil)))))))))) (by repeat (first | exact Sub.nil | (apply Sub.cons; (repeat (first | with_reducible exact Sel.here | exact Sel.here | apply Sel.there)))))
                  · refine G.turnOp rfl rfl (G.buildSlice (sz := 16) (cs := (idS b (idsS b r2.2 q).2).1.map vByte) rfl Try.underlying23 Try.infoIDz (by decide) (by decide) rfl (fill16 _ (by rw [List.length_map, lid])) ?_)
                    intro b104
                    refine G.back (by repeat (first | exact Sub.nil | (apply Sub.cons; (repeat (first | with_reducible exact Sel.here | exact Sel.here | apply Sel.there))))) ?_
                    refine G.oneT hT28 (i := 1) (rem' := 224) (by kernel_rfl) (by kernel_rfl) ?_
                    refine G.turnOp rfl rfl (G.val rfl rfl (pv_load Try.underlying23 rfl rfl (by first | exact blk_cell (by (repeat (first | with_reducible exact Sel.here | exact Sel.here | apply Sel.there)); done) (by rfl) | exact rng_cell (by (repeat (first | with_reducible exact Sel.here | exact Sel.here | apply Sel.there)); done) (by rfl) | exact ro_blk (by assumption) (by rfl) | exact ro_rngC (by assumption) (by rfl) | exact ro_int (by assumption) | exact ro_byte (by assumption) | exact ro_str (by assumption) | with_reducible assumption | assumption)) ?_)
                    refine G.back (by repeat (first | exact Sub.nil | (apply Sub.cons; (repeat (first | with_reducible exact Sel.here | exact Sel.here | apply Sel.there))))) ?_
                    refine G.oneT hT28 (i := 5) (rem' := 192) (by kernel_rfl) (by kernel_rfl) ?_
                    refine G.turnOp rfl rfl (G.append (k := (idsS b r2.2 q).1.length) (j := 1) (cs := flatI (idsS b r2.2 q).1) (news := (idS b (idsS b r2.2 q).2).1.map vByte) (b := b104) (off := 0) rfl Try.underlying23 Try.infoID' rfl rfl rfl (by repeat (first | with_reducible exact Sel.here | exact Sel.here | apply Sel.there)) (fun _ => rfl) (fun h => by cases h) (by rw [List.length_map, lid]) (blk_news (k := 16) (by repeat (first | with_reducible exact Sel.here | exact Sel.here | apply Sel.there)) (List.take_of_length_le (by rw [List.drop_zero, List.length_map, lid]; exact Nat.le_refl _))) (vByte_one _) (by rw [lq]; omega) (by rw [lq]; omega) ?_)
                    intro vi2
                    rw [idsS_app]
                    refine G.ownFact (v := vi2) (by repeat (first | with_reducible exact Sel.here | exact Sel.here | apply Sel.there)) (fun hvi2 _ => ?_)
                    refine G.back (by repeat (first | exact Sub.nil | (apply Sub.cons; (repeat (first | with_reducible exact Sel.here | exact Sel.here | apply Sel.there))))) ?_
                    refine G.takeT hT28 (i := 6) (rem' := 128) rfl rfl rfl (by kernel_rfl) (fun _ _ _ h => h) rfl (pv_fieldAddrK (sz := 0) (k := 2) Try.underlying26 rfl (by kernel_rfl) rfl rfl) (by repeat (first | exact Sub.nil | (apply Sub.cons; (repeat (first | with_reducible exact Sel.here | exact Sel.here | apply Sel.there))))) ?_
                    refine G.oneT hT28 (i := 7) (rem' := 0) (by kernel_rfl) (by kernel_rfl) ?_
                    refine G.turnOp rfl rfl (G.store (by kernel_rfl) rfl rfl (by first | rfl | with_reducible assumption) (by repeat (first | with_reducible exact Sel.here | exact Sel.here | apply Sel.there)) (by first | (simp; done) | exact Nat.le_of_ble_eq_true rfl) ?_)
                    refine G.back (by repeat (first | exact Sub.nil | (apply Sub.cons; (repeat (first | with_reducible exact Sel.here | exact Sel.here | apply Sel.there))))) ?_
                    refine G.overT hT28 (by kernel_rfl) ?_
                    refine G.nBlock ?_
                    refine G.nThen ?_
                    refine G.region ?_
                    refine G.op rfl (G.val rfl rfl (pv_add64 rfl rfl (by omega)) ?_)
                    refine G.op rfl (G.val rfl rfl (pv_move rfl) ?_)
                    refine G.nil ?_
                    exact G.next ((q + 1, vi2)) (by first | exact trivial | ((try dsimp only); exact by omega)) (by (try dsimp only); omega) (.consE rfl (by first | rfl | exact int_eq (by omega) | exact congrArg _ (by omega)) (.cons rfl (.cons rfl (.cons rfl (.cons rfl (.cons rfl (.cons rfl (.cons rfl (.cons rfl (.cons rfl .nil)))))))))) (by repeat (first | exact Sub.nil | (apply Sub.cons; (repeat (first | with_reducible exact Sel.here | exact Sel.here | apply Sel.there)))))
              · obtain rfl : q = r2.1 := by omega
                refine G.exit ?_
                refine G.eThen ?_
                refine G.eThen ?_
                refine G.eBlock ?_
                refine G.nBlock ?_
                exact G.meet ((idsS b r2.2 r2.1).2, (0, 0), ns, (idsS b r2.2 r2.1).1, [], vN, vi, vB) (by first | exact trivial | ((try dsimp only); exact ⟨kq, fun h => absurd h (by decide), fun _ => rfl, .inl ⟨rfl, hnow⟩⟩)) (.cons rfl (.cons rfl (.cons rfl (.cons rfl (.cons rfl (.cons rfl (.cons rfl (.cons rfl .nil)))))))) (by repeat (first | exact Sub.nil | (apply Sub.cons; (repeat (first | with_reducible exact Sel.here | exact Sel.here | apply Sel.there)))))
          · obtain rfl : part = 2 := by omega
            obtain rfl := hb0 (by omega)
            refine G.seq ?_
            refine G.region ?_
            refine G.op rfl (G.val rfl rfl (pv_move rfl) ?_)
            refine G.op rfl (G.cR rfl rfl rfl rfl Try.func52 rfl rfl (may1 (by first | exact .old (by first | with_reducible assumption | assumption) | exact Sel.may (by (repeat (first | with_reducible exact Sel.here | exact Sel.here | apply Sel.there)); done) | exact may_own (by (repeat (first | with_reducible exact Sel.here | exact Sel.here | apply Sel.there)); done) rfl (fun _ _ => trivial) | exact may_ownB (by (repeat (first | with_reducible exact Sel.here | exact Sel.here | apply Sel.there)); done) | exact may_ownI (by (repeat (first | with_reducible exact Sel.here | exact Sel.here | apply Sel.there)); done) (by assumption) | exact may_ownN (by (repeat (first | with_reducible exact Sel.here | exact Sel.here | apply Sel.there)); done) (by assumption))) (atF _ _ _) ?_)
            refine G.op rfl (G.val rfl rfl (pv_assign rfl) ?_)
            refine G.nil ?_
            refine G.nThen ?_
            refine G.seq ?_
            refine G.region ?_
            refine G.op rfl (G.val rfl rfl (pv_move rfl) ?_)
            refine G.op rfl (G.val rfl rfl (pv_move rfl) ?_)
            refine G.op rfl (G.val rfl rfl (pv_nilCheck rfl) ?_)
            refine G.op rfl (G.val rfl rfl (pv_fieldAddrK (sz := 1) (k := 5) Try.underlying71 rfl (by kernel_rfl) rfl rfl) ?_)
            refine G.op rfl (G.val rfl rfl (pv_fieldAddrK (sz := 0) (k := 1) Try.underlying69 rfl (by kernel_rfl) rfl rfl) ?_)
            refine G.op rfl (G.val rfl rfl (pv_load Try.underlying3 rfl rfl (rng_cell (o := oS) (j := 6) (by repeat (first | with_reducible exact Sel.here | exact Sel.here | apply Sel.there)) (by rfl))) ?_)
            refine G.op rfl (G.cS rfl rfl rfl rfl Try.func53 rfl rfl (by repeat (first | exact Sub.nil | (apply Sub.cons; (repeat (first | with_reducible exact Sel.here | exact Sel.here | apply Sel.there))))) may0 (bytesF _ _ _ _ _ ks hb) (by repeat (first | exact Ap.nil | apply Ap.cons)) ?_)
            intro x39 hJ
            try dsimp only at hJ
            try dsimp only
            refine G.ownOpen (v := x39) (by repeat (first | with_reducible exact Sel.here | exact Sel.here | apply Sel.there)) (fun a6 c6 hx6 hc6 hm6 => ?_)
            subst hx6
            refine G.op rfl (G.val rfl rfl (pv_fieldAddrK (sz := 0) (k := 3) Try.underlying26 rfl (by kernel_rfl) rfl rfl) ?_)
            refine G.op rfl (G.store (by kernel_rfl) rfl rfl (by first | rfl | with_reducible assumption) (by repeat (first | with_reducible exact Sel.here | exact Sel.here | apply Sel.there)) (by first | (simp; done) | exact Nat.le_of_ble_eq_true rfl) ?_)
            refine G.nil ?_
            refine G.nThen ?_
            refine G.seq ?_
            refine G.drawT (nn := 15) (p := []) (rem := 32767) [0, 1, 2, 4, 10, 16, 48, 80, 16, 272, 528, 1040, 2064, 4240, 8208] [0, 1, 2, 4, 8, 16, 48, 80, 16, 272, 528, 1040, 2064, 4240, 8208] (by kernel_rfl) ⟨rfl, by kernel_rfl, by kernel_rfl⟩ (by repeat (first | exact Sub.nil | (apply Sub.cons; (repeat (first | with_reducible exact Sel.here | exact Sel.here | apply Sel.there))))) (by kernel_rfl) (fun hT14 => ?_)
            refine G.takeT hT14 (i := 0) (rem' := 32766) rfl rfl rfl (by kernel_rfl) (fun _ _ _ h => h) rfl (pv_move rfl) (by repeat (first | exact Sub.nil | (apply Sub.cons; (repeat (first | with_reducible exact Sel.here | exact Sel.here | apply Sel.there))))) ?_
            refine G.oneT hT14 (i := 1) (rem' := 32764) (by kernel_rfl) (by kernel_rfl) ?_
            refine G.turnOp rfl rfl (G.cR rfl rfl rfl rfl Try.func49 rfl rfl (may1 (by first | exact .old (by first | with_reducible assumption | assumption) | exact Sel.may (by (repeat (first | with_reducible exact Sel.here | exact Sel.here | apply Sel.there)); done) | exact may_own (by (repeat (first | with_reducible exact Sel.here | exact Sel.here | apply Sel.there)); done) rfl (fun _ _ => trivial) | exact may_ownB (by (repeat (first | with_reducible exact Sel.here | exact Sel.here | apply Sel.there)); done) | exact may_ownI (by (repeat (first | with_reducible exact Sel.here | exact Sel.here | apply Sel.there)); done) (by assumption) | exact may_ownN (by (repeat (first | with_reducible exact Sel.here | exact Sel.here | apply Sel.there)); done) (by assumption))) (faultF _ _ _) ?_)
            refine G.back (by repeat (first | exact Sub.nil | (apply Sub.cons; (repeat (first | with_reducible exact Sel.here | exact Sel.here | apply Sel.there))))) ?_
            refine G.takeT hT14 (i := 2) (rem' := 32760) rfl rfl rfl (by kernel_rfl) (fun _ _ _ h => h) rfl (pv_field1 Try.underlying39 rfl Try.underlying29 rfl rfl rfl) (by repeat (first | exact Sub.nil | (apply Sub.cons; (repeat (first | with_reducible exact Sel.here | exact Sel.here | apply Sel.there))))) ?_
            refine G.takeT hT14 (i := 3) (rem' := 32752) rfl rfl rfl (by kernel_rfl) (fun _ _ _ h => h) rfl (pv_eql rfl rfl) (by repeat (first | exact Sub.nil | (apply Sub.cons; (repeat (first | with_reducible exact Sel.here | exact Sel.here | apply Sel.there))))) ?_
            refine G.takeT hT14 (i := 4) (rem' := 32736) rfl rfl rfl (by kernel_rfl) (fun _ _ _ h => h) rfl (pv_move rfl) (by repeat (first | exact Sub.nil | (apply Sub.cons; (repeat (first | with_reducible exact Sel.here | exact Sel.here | apply Sel.there))))) ?_
            refine G.partP (t := 45) rfl (fun h45 => ?_) (fun h45 => ?_)
            · refine G.takeT hT14 (i := 5) (rem' := 32704) rfl rfl rfl (by kernel_rfl) (fun _ _ _ h => h) rfl (pv_fieldAddrK (sz := 0) (k := 3) Try.underlying26 rfl (by kernel_rfl) rfl rfl) (by repeat (first | exact Sub.nil | (apply Sub.cons; (repeat (first | with_reducible exact Sel.here | exact Sel.here | apply Sel.there))))) ?_
              refine G.takeT hT14 (i := 6) (rem' := 32640) rfl rfl rfl (by kernel_rfl) (fun _ _ _ h => h) rfl (pv_load Try.underlying24 rfl rfl (by first | exact blk_cell (by (repeat (first | with_reducible exact Sel.here | exact Sel.here | apply Sel.there)); done) (by rfl) | exact rng_cell (by (repeat (first | with_reducible exact Sel.here | exact Sel.here | apply Sel.there)); done) (by rfl) | exact ro_blk (by assumption) (by rfl) | exact ro_rngC (by assumption) (by rfl) | exact ro_int (by assumption) | exact ro_byte (by assumption) | exact ro_str (by assumption) | with_reducible assumption | assumption)) (by repeat (first | exact Sub.nil | (apply Sub.cons; (repeat (first | with_reducible exact Sel.here | exact Sel.here | apply Sel.there))))) ?_
              refine G.takeT hT14 (i := 7) (rem' := 32512) rfl rfl rfl (by kernel_rfl) (fun _ _ _ h => h) rfl (pv_lenSl Try.underlying24 rfl) (by repeat (first | exact Sub.nil | (apply Sub.cons; (repeat (first | with_reducible exact Sel.here | exact Sel.here | apply Sel.there))))) ?_
              refine G.takeT hT14 (i := 8) (rem' := 32256) rfl rfl rfl (by kernel_rfl) (fun _ _ _ h => h) rfl (pv_move rfl) (by repeat (first | exact Sub.nil | (apply Sub.cons; (repeat (first | with_reducible exact Sel.here | exact Sel.here | apply Sel.there))))) ?_
              refine G.takeT hT14 (i := 9) (rem' := 31744) rfl rfl rfl (by kernel_rfl) (fun _ _ _ h => h) rfl (pv_nilCheck rfl) (by repeat (first | exact Sub.nil | (apply Sub.cons; (repeat (first | with_reducible exact Sel.here | exact Sel.here | apply Sel.there))))) ?_
              refine G.takeT hT14 (i := 10) (rem' := 30720) rfl rfl rfl (by kernel_rfl) (fun _ _ _ h => h) rfl (pv_fieldAddrK (sz := 1) (k := 5) Try.underlying71 rfl (by kernel_rfl) rfl rfl) (by repeat (first | exact Sub.nil | (apply Sub.cons; (repeat (first | with_reducible exact Sel.here | exact Sel.here | apply Sel.there))))) ?_
              refine G.takeT hT14 (i := 11) (rem' := 28672) rfl rfl rfl (by kernel_rfl) (fun _ _ _ h => h) rfl (pv_fieldAddrK (sz := 0) (k := 0) Try.underlying69 rfl (by kernel_rfl) rfl rfl) (by repeat (first | exact Sub.nil | (apply Sub.cons; (repeat (first | with_reducible exact Sel.here | exact Sel.here | apply Sel.there))))) ?_
              refine G.oneT hT14 (i := 12) (rem' := 24576) (by kernel_rfl) (by kernel_rfl) ?_
              refine G.turnOp rfl rfl (G.val rfl rfl (pv_load Try.underlying3 rfl rfl (rng_cell (o := oS) (j := 5) (by repeat (first | with_reducible exact Sel.here | exact Sel.here | apply Sel.there)) (by rfl))) ?_)
              refine G.back (by repeat (first | exact Sub.nil | (apply Sub.cons; (repeat (first | with_reducible exact Sel.here | exact Sel.here | apply Sel.there))))) ?_
              refine G.takeT hT14 (i := 13) (rem' := 16384) rfl rfl rfl (by kernel_rfl) (fun _ _ _ h => h) rfl (pv_lss rfl rfl) (by repeat (first | exact Sub.nil | (apply Sub.cons; (repeat (first | with_reducible exact Sel.here | exact Sel.here | apply Sel.there))))) ?_
              refine G.takeT hT14 (i := 14) (rem' := 0) rfl rfl rfl (by kernel_rfl) (fun _ _ _ h => h) rfl (pv_pick rfl rfl) (by repeat (first | exact Sub.nil | (apply Sub.cons; (repeat (first | with_reducible exact Sel.here | exact Sel.here | apply Sel.there))))) ?_
              refine G.overT hT14 (by kernel_rfl) ?_
              refine G.nThen ?_
              refine G.condP rfl (fun h55 => ?_) (fun h55 => ?_)
              · refine G.region ?_
                refine G.op rfl (G.val rfl rfl (pv_move rfl) ?_)
                refine G.op rfl (G.val rfl rfl (pv_buildSt (z := [.int .i64 0, .int .i64 0]) (pl := [(0, 1), (1, 1)]) Try.underlying39 (by kernel_rfl) (by kernel_rfl) rfl (by repeat (first | exact Fl.nil | (apply Fl.cons; exact rfl; (first | exact cells_of (by first | rfl | with_reducible assumption) | exact rfl); exact rfl; exact rfl; repeat (first | exact Sn.nil | (apply Sn.cons; repeat (first | exact St.zero | apply St.succ))))))) ?_)
                refine G.op rfl (G.storeN (by kernel_rfl) rfl rfl (by first | exact (all1_cons (by first | rfl | with_reducible assumption) (all1_cons (by first | rfl | with_reducible assumption) all1_nil)) | exact List.all_eq_true.2 (vByte_one _) | rfl) (by repeat (first | with_reducible exact Sel.here | exact Sel.here | apply Sel.there)) (by first | (simp; done) | exact Nat.le_of_ble_eq_true rfl) ?_)
                refine G.nil ?_
                refine G.nBlock ?_
                exact G.meet ((bytS b sh.bs s).2, (5, (s.a : Int)), ns, ids, (bytS b sh.bs s).1, vN, vI, .slice a6 (bytS b sh.bs s).1.length c6) (by first | exact trivial | ((try dsimp only); exact ⟨bytS_ok ks, fun h => absurd h (by decide), fun h => absurd h (by decide), .inr ⟨by show (5 : Int) ≠ 0; decide, by show (0 : Int) ≤ 5; decide, by omega, hJr.trans (now2f (by omega))⟩⟩)) (.cons rfl (.cons rfl (.cons rfl (.cons rfl (.cons rfl (.cons rfl (.cons rfl (.cons rfl .nil)))))))) (by repeat (first | exact Sub.nil | (apply Sub.cons; (repeat (first | with_reducible exact Sel.here | exact Sel.here | apply Sel.there)))))
              · refine G.skip ?_
                refine G.nBlock ?_
                exact G.meet ((bytS b sh.bs s).2, (0, 0), ns, ids, (bytS b sh.bs s).1, vN, vI, .slice a6 (bytS b sh.bs s).1.length c6) (by first | exact trivial | ((try dsimp only); exact ⟨bytS_ok ks, fun h => absurd h (by decide), fun h => absurd h (by decide), .inl ⟨rfl, hJr.trans (now2 (by omega))⟩⟩)) (.cons rfl (.cons rfl (.cons rfl (.cons rfl (.cons rfl (.cons rfl (.cons rfl (.cons rfl .nil)))))))) (by repeat (first | exact Sub.nil | (apply Sub.cons; (repeat (first | with_reducible exact Sel.here | exact Sel.here | apply Sel.there)))))
            · refine G.takeFT hT14 (i := 5) (rem' := 32704) rfl rfl rfl (by kernel_rfl) (fun _ _ _ h => h) rfl (by repeat (first | exact Sub.nil | (apply Sub.cons; (repeat (first | with_reducible exact Sel.here | exact Sel.here | apply Sel.there))))) ?_
              refine G.takeFT hT14 (i := 6) (rem' := 32640) rfl rfl rfl (by kernel_rfl) (fun _ _ _ h => h) rfl (by repeat (first | exact Sub.nil | (apply Sub.cons; (repeat (first | with_reducible exact Sel.here | exact Sel.here | apply Sel.there))))) ?_
              refine G.takeFT hT14 (i := 7) (rem' := 32512) rfl rfl rfl (by kernel_rfl) (fun _ _ _ h => h) rfl (by repeat (first | exact Sub.nil | (apply Sub.cons; (repeat (first | with_reducible exact Sel.here | exact Sel.here | apply Sel.there))))) ?_
              refine G.takeFT hT14 (i := 8) (rem' := 32256) rfl rfl rfl (by kernel_rfl) (fun _ _ _ h => h) rfl (by repeat (first | exact Sub.nil | (apply Sub.cons; (repeat (first | with_reducible exact Sel.here | exact Sel.here | apply Sel.there))))) ?_
              refine G.takeFT hT14 (i := 9) (rem' := 31744) rfl rfl rfl (by kernel_rfl) (fun _ _ _ h => h) rfl (by repeat (first | exact Sub.nil | (apply Sub.cons; (repeat (first | with_reducible exact Sel.here | exact Sel.here | apply Sel.there))))) ?_
              refine G.takeFT hT14 (i := 10) (rem' := 30720) rfl rfl rfl (by kernel_rfl) (fun _ _ _ h => h) rfl (by repeat (first | exact Sub.nil | (apply Sub.cons; (repeat (first | with_reducible exact Sel.here | exact Sel.here | apply Sel.there))))) ?_
              refine G.takeFT hT14 (i := 11) (rem' := 28672) rfl rfl rfl (by kernel_rfl) (fun _ _ _ h => h) rfl (by repeat (first | exact Sub.nil | (apply Sub.cons; (repeat (first | with_reducible exact Sel.here | exact Sel.here | apply Sel.there))))) ?_
              refine G.takeFT hT14 (i := 12) (rem' := 24576) rfl rfl rfl (by kernel_rfl) (fun _ _ _ h => h) rfl (by repeat (first | exact Sub.nil | (apply Sub.cons; (repeat (first | with_reducible exact Sel.here | exact Sel.here | apply Sel.there))))) ?_
              refine G.takeFT hT14 (i := 13) (rem' := 16384) rfl rfl rfl (by kernel_rfl) (fun _ _ _ h => h) rfl (by repeat (first | exact Sub.nil | (apply Sub.cons; (repeat (first | with_reducible exact Sel.here | exact Sel.here | apply Sel.there))))) ?_
              refine G.takeT hT14 (i := 14) (rem' := 0) rfl rfl rfl (by kernel_rfl) (fun _ _ _ h => h) rfl (pv_pick rfl rfl) (by repeat (first | exact Sub.nil | (apply Sub.cons; (repeat (first | with_reducible exact Sel.here | exact Sel.here | apply Sel.there))))) ?_
              refine G.overT hT14 (by kernel_rfl) ?_
              refine G.nThen ?_
              refine G.condF rfl (rfl) ?_
              refine G.skip ?_
              refine G.nBlock ?_
              exact G.meet ((bytS b sh.bs s).2, (0, 0), ns, ids, (bytS b sh.bs s).1, vN, vI, .slice a6 (bytS b sh.bs s).1.length c6) (by first | exact trivial | ((try dsimp only); exact ⟨bytS_ok ks, fun h => absurd h (by decide), fun h => absurd h (by decide), .inl ⟨rfl, hJr.trans (now2 (by omega))⟩⟩)) (.cons rfl (.cons rfl (.cons rfl (.cons rfl (.cons rfl (.cons rfl (.cons rfl (.cons rfl .nil)))))))) (by repeat (first | exact Sub.nil | (apply Sub.cons; (repeat (first | with_reducible exact Sel.here | exact Sel.here | apply Sel.there)))))
      · intro st hJ
        obtain ⟨s, few, ns, ids, bs, vN, vI, vB⟩ := st
        try dsimp only at hJ
        try dsimp only
        obtain ⟨ks, hi1, hb1, hSw⟩ := hJ
        refine G.seq ?_
        refine G.seq ?_
        refine G.region ?_
        refine G.op rfl (G.val rfl rfl (pv_move rfl) ?_)
        refine G.op rfl (G.cR rfl rfl rfl rfl Try.func49 rfl rfl (may1 (by first | exact .old (by first | with_reducible assumption | assumption) | exact Sel.may (by (repeat (first | with_reducible exact Sel.here | exact Sel.here | apply Sel.there)); done) | exact may_own (by (repeat (first | with_reducible exact Sel.here | exact Sel.here | apply Sel.there)); done) rfl (fun _ _ => trivial) | exact may_ownB (by (repeat (first | with_reducible exact Sel.here | exact Sel.here | apply Sel.there)); done) | exact may_ownI (by (repeat (first | with_reducible exact Sel.here | exact Sel.here | apply Sel.there)); done) (by assumption) | exact may_ownN (by (repeat (first | with_reducible exact Sel.here | exact Sel.here | apply Sel.there)); done) (by assumption))) (faultF _ _ _) ?_)
        refine G.op rfl (G.storeN (by kernel_rfl) rfl rfl (by first | exact (all1_cons (by first | rfl | with_reducible assumption) (all1_cons (by first | rfl | with_reducible assumption) all1_nil)) | exact List.all_eq_true.2 (vByte_one _) | rfl) (by repeat (first | with_reducible exact Sel.here | exact Sel.here | apply Sel.there)) (by first | (simp; done) | exact Nat.le_of_ble_eq_true rfl) ?_)
        refine G.nil ?_
        refine G.nThen ?_
        refine G.seq ?_
        refine G.region ?_
        refine G.op rfl (G.val rfl rfl (pv_fieldAddrK (sz := 0) (k := 0) Try.underlying39 rfl (by kernel_rfl) rfl rfl) ?_)
        refine G.op rfl (G.val rfl rfl (pv_load Try.underlying29 rfl rfl (by first | exact blk_cell (by (repeat (first | with_reducible exact Sel.here | exact Sel.here | apply Sel.there)); done) (by rfl) | exact rng_cell (by (repeat (first | with_reducible exact Sel.here | exact Sel.here | apply Sel.there)); done) (by rfl) | exact ro_blk (by assumption) (by rfl) | exact ro_rngC (by assumption) (by rfl) | exact ro_int (by assumption) | exact ro_byte (by assumption) | exact ro_str (by assumption) | with_reducible assumption | assumption)) ?_)
        refine G.op rfl (G.val rfl rfl (pv_eql rfl rfl) ?_)
        refine G.nil ?_
        refine G.nThen ?_
        refine G.condP rfl (fun h112 => ?_) (fun h112 => ?_)
        · refine G.region ?_
          refine G.op rfl (G.val rfl rfl (pv_loadN (cs := [_, _]) Try.underlying39 rfl (by kernel_rfl) rfl (by first | exact blk_range (k := 2) (by (repeat (first | with_reducible exact Sel.here | exact Sel.here | apply Sel.there)); done) (by rfl) | exact rng_range (k := 2) (by (repeat (first | with_reducible exact Sel.here | exact Sel.here | apply Sel.there)); done) (by rfl) | exact ro_range (k := 2) (by assumption) (by rfl) | exact ro_rngR (k := 2) (by assumption) (by rfl))) ?_)
          refine G.op rfl (G.storeN (by kernel_rfl) rfl rfl (by first | exact (all1_cons (by first | rfl | with_reducible assumption) (all1_cons (by first | rfl | with_reducible assumption) all1_nil)) | exact List.all_eq_true.2 (vByte_one _) | rfl) (by repeat (first | with_reducible exact Sel.here | exact Sel.here | apply Sel.there)) (by first | (simp; done) | exact Nat.le_of_ble_eq_true rfl) ?_)
          refine G.nil ?_
          refine G.nThen ?_
          refine G.seq ?_
          refine G.region ?_
          refine G.op rfl (G.val rfl rfl (pv_fieldAddrK (sz := 0) (k := 0) Try.underlying39 rfl (by kernel_rfl) rfl rfl) ?_)
          refine G.op rfl (G.val rfl rfl (pv_load Try.underlying29 rfl rfl (by first | exact blk_cell (by (repeat (first | with_reducible exact Sel.here | exact Sel.here | apply Sel.there)); done) (by rfl) | exact rng_cell (by (repeat (first | with_reducible exact Sel.here | exact Sel.here | apply Sel.there)); done) (by rfl) | exact ro_blk (by assumption) (by rfl) | exact ro_rngC (by assumption) (by rfl) | exact ro_int (by assumption) | exact ro_byte (by assumption) | exact ro_str (by assumption) | with_reducible assumption | assumption)) ?_)
          refine G.op rfl (G.val rfl rfl (pv_neq rfl rfl) ?_)
          refine G.nil ?_
          refine G.nThen ?_
          refine G.condP rfl (fun h116 => ?_) (fun h116 => ?_)
          · refine G.exit ?_
            refine G.ePass rfl ?_
            refine G.eThen ?_
            refine G.eThen ?_
            refine G.eBlock ?_
            obtain ⟨h1, h2, h3, h4⟩ := hSw.resolve_left (fun h => h116 (by rw [h.1]))
            exact G.meet (few, s, ns, ids, bs, vN, vI, vB) (by first | exact trivial | ((try dsimp only); exact .inr ⟨h1, h2, h4⟩)) (.cons rfl (.cons rfl (.cons rfl (.cons rfl (.cons rfl .nil))))) (by repeat (first | exact Sub.nil | (apply Sub.cons; (repeat (first | with_reducible exact Sel.here | exact Sel.here | apply Sel.there)))))
          · refine G.skip ?_
            refine G.nBlock ?_
            refine G.nThen ?_
            refine G.region ?_
            refine G.op rfl (G.val rfl rfl (pv_add64 rfl rfl (by omega)) ?_)
            refine G.op rfl (G.val rfl rfl (pv_move rfl) ?_)
            refine G.nil ?_
            obtain ⟨hfew, hgo⟩ := hSw.resolve_right (fun h => h.1 (by omega))
            rw [hfew]
            exact G.next ((part + 1, s, ns, ids, bs, vN, vI, vB)) (by first | exact trivial | ((try dsimp only); exact ⟨by omega, ⟨hgo, by omega, ks, fun h => absurd h (by omega), fun h => hi1 (by omega), fun h => hb1 (by omega)⟩⟩)) (by (try dsimp only); omega) (.consE rfl (by first | rfl | exact int_eq (by omega) | exact congrArg _ (by omega)) (.cons rfl (.cons rfl (.cons rfl (.cons rfl (.cons rfl (.cons rfl .nil))))))) (by repeat (first | exact Sub.nil | (apply Sub.cons; (repeat (first | with_reducible exact Sel.here | exact Sel.here | apply Sel.there)))))
        · refine G.skip ?_
          refine G.nThen ?_
          refine G.seq ?_
          refine G.region ?_
          refine G.op rfl (G.val rfl rfl (pv_fieldAddrK (sz := 0) (k := 0) Try.underlying39 rfl (by kernel_rfl) rfl rfl) ?_)
          refine G.op rfl (G.val rfl rfl (pv_load Try.underlying29 rfl rfl (by first | exact blk_cell (by (repeat (first | with_reducible exact Sel.here | exact Sel.here | apply Sel.there)); done) (by rfl) | exact rng_cell (by (repeat (first | with_reducible exact Sel.here | exact Sel.here | apply Sel.there)); done) (by rfl) | exact ro_blk (by assumption) (by rfl) | exact ro_rngC (by assumption) (by rfl) | exact ro_int (by assumption) | exact ro_byte (by assumption) | exact ro_str (by assumption) | with_reducible assumption | assumption)) ?_)
          refine G.op rfl (G.val rfl rfl (pv_neq rfl rfl) ?_)
          refine G.nil ?_
          refine G.nThen ?_
          refine G.condP rfl (fun h116 => ?_) (fun h116 => ?_)
          · refine G.exit ?_
            refine G.ePass rfl ?_
            refine G.eThen ?_
            refine G.eThen ?_
            refine G.eBlock ?_
            have hse : s.e ≠ 0 := by omega
            have h1 : readM b = (nt0, (s.e, s.p)) := by
              rcases hSw with ⟨_, h1⟩ | ⟨_, _, h1, _⟩
              · exact h1.trans (nowM_stop hse)
              · exact absurd h1 hse
            exact G.meet (((s.e : Int), s.p), s, ns, ids, bs, vN, vI, vB) (by first | exact trivial | ((try dsimp only); exact .inr ⟨h116, Int.natCast_nonneg _, h1⟩)) (.cons rfl (.cons rfl (.cons rfl (.cons rfl (.cons rfl .nil))))) (by repeat (first | exact Sub.nil | (apply Sub.cons; (repeat (first | with_reducible exact Sel.here | exact Sel.here | apply Sel.there)))))
          · refine G.skip ?_
            refine G.nBlock ?_
            refine G.nThen ?_
            refine G.region ?_
            refine G.op rfl (G.val rfl rfl (pv_add64 rfl rfl (by omega)) ?_)
            refine G.op rfl (G.val rfl rfl (pv_move rfl) ?_)
            refine G.nil ?_
            exfalso; omega
    · refine G.exit ?_
      refine G.eThen ?_
      refine G.eThen ?_
      refine G.eBlock ?_
      obtain rfl : part = 3 := by omega
      exact G.meet ((0, 0), s, ns, ids, bs, vN, vI, vB) (by first | exact trivial | ((try dsimp only); exact .inl ⟨rfl, he, ks, hJr⟩)) (.cons rfl (.cons rfl (.cons rfl (.cons rfl (.cons rfl .nil))))) (by repeat (first | exact Sub.nil | (apply Sub.cons; (repeat (first | with_reducible exact Sel.here | exact Sel.here | apply Sel.there)))))
  · intro st hJ
    obtain ⟨f, s, ns, ids, bs, vN, vI, vB⟩ := st
    try dsimp only at hJ
    try dsimp only
    refine G.ownFact (v := vN) (by repeat (first | with_reducible exact Sel.here | exact Sel.here | apply Sel.there)) (fun hvN _ => ?_)
    refine G.ownFact (v := vI) (by repeat (first | with_reducible exact Sel.here | exact Sel.here | apply Sel.there)) (fun hvI _ => ?_)
    refine G.ownFact (v := vB) (by repeat (first | with_reducible exact Sel.here | exact Sel.here | apply Sel.there)) (fun hvB _ => ?_)
    refine G.seq ?_
    refine G.seq ?_
    refine G.region ?_
    refine G.op rfl (G.val rfl rfl (pv_fieldAddrK (sz := 0) (k := 0) Try.underlying39 rfl (by kernel_rfl) rfl rfl) ?_)
    refine G.op rfl (G.val rfl rfl (pv_load Try.underlying29 rfl rfl (by first | exact blk_cell (by (repeat (first | with_reducible exact Sel.here | exact Sel.here | apply Sel.there)); done) (by rfl) | exact rng_cell (by (repeat (first | with_reducible exact Sel.here | exact Sel.here | apply Sel.there)); done) (by rfl) | exact ro_blk (by assumption) (by rfl) | exact ro_rngC (by assumption) (by rfl) | exact ro_int (by assumption) | exact ro_byte (by assumption) | exact ro_str (by assumption) | with_reducible assumption | assumption)) ?_)
    refine G.op rfl (G.val rfl rfl (pv_eql rfl rfl) ?_)
    refine G.nil ?_
    refine G.nThen ?_
    refine G.condP rfl (fun h120 => ?_) (fun h120 => ?_)
    · obtain ⟨hf, he, ks, hr⟩ := hJ.resolve_right (fun h => h.1 h120)
      refine G.region ?_
      refine G.op rfl (G.val rfl rfl (pv_move rfl) ?_)
      refine G.op rfl (G.cR rfl rfl rfl rfl Try.func54 rfl rfl (may2 (by first | exact .old (by first | with_reducible assumption | assumption) | exact Sel.may (by (repeat (first | with_reducible exact Sel.here | exact Sel.here | apply Sel.there)); done) | exact may_own (by (repeat (first | with_reducible exact Sel.here | exact Sel.here | apply Sel.there)); done) rfl (fun _ _ => trivial) | exact may_ownB (by (repeat (first | with_reducible exact Sel.here | exact Sel.here | apply Sel.there)); done) | exact may_ownI (by (repeat (first | with_reducible exact Sel.here | exact Sel.here | apply Sel.there)); done) (by assumption) | exact may_ownN (by (repeat (first | with_reducible exact Sel.here | exact Sel.here | apply Sel.there)); done) (by assumption)) (by first | exact .old (by first | with_reducible assumption | assumption) | exact Sel.may (by (repeat (first | with_reducible exact Sel.here | exact Sel.here | apply Sel.there)); done) | exact may_own (by (repeat (first | with_reducible exact Sel.here | exact Sel.here | apply Sel.there)); done) rfl (fun _ _ => trivial) | exact may_ownB (by (repeat (first | with_reducible exact Sel.here | exact Sel.here | apply Sel.there)); done) | exact may_ownI (by (repeat (first | with_reducible exact Sel.here | exact Sel.here | apply Sel.there)); done) (by assumption) | exact may_ownN (by (repeat (first | with_reducible exact Sel.here | exact Sel.here | apply Sel.there)); done) (by assumption))) (endF _ _ _ _) ?_)
      refine G.op rfl (G.storeN (by kernel_rfl) rfl rfl (by first | exact (all1_cons (by first | rfl | with_reducible assumption) (all1_cons (by first | rfl | with_reducible assumption) all1_nil)) | exact List.all_eq_true.2 (vByte_one _) | rfl) (by repeat (first | with_reducible exact Sel.here | exact Sel.here | apply Sel.there)) (by first | (simp; done) | exact Nat.le_of_ble_eq_true rfl) ?_)
      refine G.nil ?_
      refine G.nThen ?_
      refine G.seq ?_
      refine G.seq ?_
      refine G.region ?_
      refine G.op rfl (G.val rfl rfl (pv_fieldAddrK (sz := 0) (k := 0) Try.underlying39 rfl (by kernel_rfl) rfl rfl) ?_)
      refine G.op rfl (G.val rfl rfl (pv_load Try.underlying29 rfl rfl (by first | exact blk_cell (by (repeat (first | with_reducible exact Sel.here | exact Sel.here | apply Sel.there)); done) (by rfl) | exact rng_cell (by (repeat (first | with_reducible exact Sel.here | exact Sel.here | apply Sel.there)); done) (by rfl) | exact ro_blk (by assumption) (by rfl) | exact ro_rngC (by assumption) (by rfl) | exact ro_int (by assumption) | exact ro_byte (by assumption) | exact ro_str (by assumption) | with_reducible assumption | assumption)) ?_)
      refine G.op rfl (G.val rfl rfl (pv_neq rfl rfl) ?_)
      refine G.nil ?_
      refine G.nThen ?_
      refine G.condP rfl (fun h125 => ?_) (fun h125 => ?_)
      · refine G.seq ?_
        refine G.drawT (nn := 4) (p := [blk b2 _ _, blk b3 _ _]) (rem := 15) [0, 0, 1, 7] [0, 0, 1, 2] (by kernel_rfl) ⟨rfl, by kernel_rfl, by kernel_rfl⟩ (by repeat (first | exact Sub.nil | (apply Sub.cons; (repeat (first | with_reducible exact Sel.here | exact Sel.here | apply Sel.there))))) (by kernel_rfl) (fun hT38 => ?_)
        refine G.takeT hT38 (i := 0) (rem' := 14) rfl rfl rfl (by kernel_rfl) (fun _ _ _ h => h) rfl (pv_buildSt (z := [.int .i64 0, .slice none 0 0, .slice none 0 0, .slice none 0 0]) (pl := [(0, 1), (1, 1), (2, 1), (3, 1)]) Try.underlying26 (by kernel_rfl) (by kernel_rfl) rfl (by repeat (first | exact Fl.nil | (apply Fl.cons; exact rfl; (first | exact cells_of (by first | rfl | with_reducible assumption) | exact rfl); exact rfl; exact rfl; repeat (first | exact Sn.nil | (apply Sn.cons; repeat (first | exact St.zero | apply St.succ))))))) (by repeat (first | exact Sub.nil | (apply Sub.cons; (repeat (first | with_reducible exact Sel.here | exact Sel.here | apply Sel.there))))) ?_
        refine G.takeT hT38 (i := 1) (rem' := 12) rfl rfl rfl (by kernel_rfl) (fun _ _ _ h => h) rfl (pv_loadN (cs := [_, _]) Try.underlying39 rfl (by kernel_rfl) rfl (by first | exact blk_range (k := 2) (by (repeat (first | with_reducible exact Sel.here | exact Sel.here | apply Sel.there)); done) (by rfl) | exact rng_range (k := 2) (by (repeat (first | with_reducible exact Sel.here | exact Sel.here | apply Sel.there)); done) (by rfl) | exact ro_range (k := 2) (by assumption) (by rfl) | exact ro_rngR (k := 2) (by assumption) (by rfl))) (by repeat (first | exact Sub.nil | (apply Sub.cons; (repeat (first | with_reducible exact Sel.here | exact Sel.here | apply Sel.there))))) ?_
        refine G.oneT hT38 (i := 2) (rem' := 8) (by kernel_rfl) (by kernel_rfl) ?_
        refine G.turnOp rfl rfl (G.storeN (by kernel_rfl) rfl rfl (by first | exact (all1_cons (by first | rfl | with_reducible assumption) (all1_cons (by first | rfl | with_reducible assumption) (all1_cons (by first | rfl | with_reducible assumption) (all1_cons (by first | rfl | with_reducible assumption) all1_nil)))) | exact List.all_eq_true.2 (vByte_one _) | rfl) (by repeat (first | with_reducible exact Sel.here | exact Sel.here | apply Sel.there)) (by first | (simp; done) | exact Nat.le_of_ble_eq_true rfl) ?_)
        refine G.back (by repeat (first | exact Sub.nil | (apply Sub.cons; (repeat (first | with_reducible exact Sel.here | exact Sel.here | apply Sel.there))))) ?_
        refine G.oneT hT38 (i := 3) (rem' := 0) (by kernel_rfl) (by kernel_rfl) ?_
        refine G.turnOp rfl rfl (G.storeN (by kernel_rfl) rfl rfl (by first | exact (all1_cons (by first | rfl | with_reducible assumption) (all1_cons (by first | rfl | with_reducible assumption) all1_nil)) | exact List.all_eq_true.2 (vByte_one _) | rfl) (by repeat (first | with_reducible exact Sel.here | exact Sel.here | apply Sel.there)) (by first | (simp; done) | exact Nat.le_of_ble_eq_true rfl) ?_)
        refine G.back (by repeat (first | exact Sub.nil | (apply Sub.cons; (repeat (first | with_reducible exact Sel.here | exact Sel.here | apply Sel.there))))) ?_
        refine G.overT hT38 (by kernel_rfl) ?_
        refine G.nThen ?_
        refine G.ret ?_
        refine G.rThen ?_
        refine G.rScope ?_
        rw [show readM b = (nt0, endS b s) from hr.trans (if_pos (by omega))]
        refine G.ownNil 3 1 ?_
        refine G.ownNil 49 16 ?_
        refine G.ownNil 5 1 ?_
        exact G.doneG ((.slice none 0 0, .slice none 0 0, .slice none 0 0)) (by first | exact trivial | ((try dsimp only); exact trivial)) rfl (Rv.cellN (cs := [_, _, _, _]) rfl Try.underlying26 rfl (by kernel_rfl) (by first | exact blk_range (k := 4) (by (repeat (first | with_reducible exact Sel.here | exact Sel.here | apply Sel.there)); done) (by rfl)) (Rv.cellN (cs := [_, _]) rfl Try.underlying39 rfl (by kernel_rfl) (by first | exact blk_range (k := 2) (by (repeat (first | with_reducible exact Sel.here | exact Sel.here | apply Sel.there)); done) (by rfl)) Rv.nil)) (by first | rfl | exact int_eq (by omega) | (simp; done)) (by repeat (first | exact Sub.nil | (apply Sub.cons; (repeat (first | with_reducible exact Sel.here | exact Sel.here | apply Sel.there)))))
      · refine G.skip ?_
        refine G.nThen ?_
        refine G.seq ?_
        refine G.region ?_
        refine G.op rfl (G.val rfl rfl (pv_loadN (cs := [_, _, _, _]) Try.underlying26 rfl (by kernel_rfl) rfl (by first | exact blk_range (k := 4) (by (repeat (first | with_reducible exact Sel.here | exact Sel.here | apply Sel.there)); done) (by rfl) | exact rng_range (k := 4) (by (repeat (first | with_reducible exact Sel.here | exact Sel.here | apply Sel.there)); done) (by rfl) | exact ro_range (k := 4) (by assumption) (by rfl) | exact ro_rngR (k := 4) (by assumption) (by rfl))) ?_)
        refine G.op rfl (G.val rfl rfl (pv_buildSt (z := [.int .i64 0, .int .i64 0]) (pl := [(0, 1), (1, 1)]) Try.underlying39 (by kernel_rfl) (by kernel_rfl) rfl (by repeat (first | exact Fl.nil | (apply Fl.cons; exact rfl; (first | exact cells_of (by first | rfl | with_reducible assumption) | exact rfl); exact rfl; exact rfl; repeat (first | exact Sn.nil | (apply Sn.cons; repeat (first | exact St.zero | apply St.succ))))))) ?_)
        refine G.op rfl (G.storeN (by kernel_rfl) rfl rfl (by first | exact (all1_cons (by first | rfl | with_reducible assumption) (all1_cons (by first | rfl | with_reducible assumption) (all1_cons (by first | rfl | with_reducible assumption) (all1_cons (by first | rfl | with_reducible assumption) all1_nil)))) | exact List.all_eq_true.2 (vByte_one _) | rfl) (by repeat (first | with_reducible exact Sel.here | exact Sel.here | apply Sel.there)) (by first | (simp; done) | exact Nat.le_of_ble_eq_true rfl) ?_)
        refine G.op rfl (G.storeN (by kernel_rfl) rfl rfl (by first | exact (all1_cons (by first | rfl | with_reducible assumption) (all1_cons (by first | rfl | with_reducible assumption) all1_nil)) | exact List.all_eq_true.2 (vByte_one _) | rfl) (by repeat (first | with_reducible exact Sel.here | exact Sel.here | apply Sel.there)) (by first | (simp; done) | exact Nat.le_of_ble_eq_true rfl) ?_)
        refine G.nil ?_
        refine G.nThen ?_
        refine G.ret ?_
        refine G.rScope ?_
        rw [show readM b = (⟨r1.1, ns, ids, bs⟩, (0, 0)) from (hr.trans (if_neg (by omega))).trans (by rw [endS_zero ks he (by omega)])]
        exact G.doneG ((vN, vI, vB)) (by first | exact trivial | ((try dsimp only); exact trivial)) rfl (Rv.cellN (cs := [_, _, _, _]) rfl Try.underlying26 rfl (by kernel_rfl) (by first | exact blk_range (k := 4) (by (repeat (first | with_reducible exact Sel.here | exact Sel.here | apply Sel.there)); done) (by rfl)) (Rv.cellN (cs := [_, _]) rfl Try.underlying39 rfl (by kernel_rfl) (by first | exact blk_range (k := 2) (by (repeat (first | with_reducible exact Sel.here | exact Sel.here | apply Sel.there)); done) (by rfl)) Rv.nil)) (by first | rfl | exact int_eq (by omega) | (simp; done)) (by repeat (first | exact Sub.nil | (apply Sub.cons; (repeat (first | with_reducible exact Sel.here | exact Sel.here | apply Sel.there)))))
    · obtain ⟨hf1, hf2, hr⟩ := hJ.resolve_left (fun h => h120 (by rw [h.1]))
      refine G.skip ?_
      refine G.nThen ?_
      refine G.seq ?_
      refine G.seq ?_
      refine G.region ?_
      refine G.op rfl (G.val rfl rfl (pv_fieldAddrK (sz := 0) (k := 0) Try.underlying39 rfl (by kernel_rfl) rfl rfl) ?_)
      refine G.op rfl (G.val rfl rfl (pv_load Try.underlying29 rfl rfl (by first | exact blk_cell (by (repeat (first | with_reducible exact Sel.here | exact Sel.here | apply Sel.there)); done) (by rfl) | exact rng_cell (by (repeat (first | with_reducible exact Sel.here | exact Sel.here | apply Sel.there)); done) (by rfl) | exact ro_blk (by assumption) (by rfl) | exact ro_rngC (by assumption) (by rfl) | exact ro_int (by assumption) | exact ro_byte (by assumption) | exact ro_str (by assumption) | with_reducible assumption | assumption)) ?_)
      refine G.op rfl (G.val rfl rfl (pv_neq rfl rfl) ?_)
      refine G.nil ?_
      refine G.nThen ?_
      refine G.condP rfl (fun h125 => ?_) (fun h125 => ?_)
      · refine G.seq ?_
        refine G.drawT (nn := 4) (p := [blk b2 _ _, blk b3 _ _]) (rem := 15) [0, 0, 1, 7] [0, 0, 1, 2] (by kernel_rfl) ⟨rfl, by kernel_rfl, by kernel_rfl⟩ (by repeat (first | exact Sub.nil | (apply Sub.cons; (repeat (first | with_reducible exact Sel.here | exact Sel.here | apply Sel.there))))) (by kernel_rfl) (fun hT38 => ?_)
        refine G.takeT hT38 (i := 0) (rem' := 14) rfl rfl rfl (by kernel_rfl) (fun _ _ _ h => h) rfl (pv_buildSt (z := [.int .i64 0, .slice none 0 0, .slice none 0 0, .slice none 0 0]) (pl := [(0, 1), (1, 1), (2, 1), (3, 1)]) Try.underlying26 (by kernel_rfl) (by kernel_rfl) rfl (by repeat (first | exact Fl.nil | (apply Fl.cons; exact rfl; (first | exact cells_of (by first | rfl | with_reducible assumption) | exact rfl); exact rfl; exact rfl; repeat (first | exact Sn.nil | (apply Sn.cons; repeat (first | exact St.zero | apply St.succ))))))) (by repeat (first | exact Sub.nil | (apply Sub.cons; (repeat (first | with_reducible exact Sel.here | exact Sel.here | apply Sel.there))))) ?_
        refine G.takeT hT38 (i := 1) (rem' := 12) rfl rfl rfl (by kernel_rfl) (fun _ _ _ h => h) rfl (pv_loadN (cs := [_, _]) Try.underlying39 rfl (by kernel_rfl) rfl (by first | exact blk_range (k := 2) (by (repeat (first | with_reducible exact Sel.here | exact Sel.here | apply Sel.there)); done) (by rfl) | exact rng_range (k := 2) (by (repeat (first | with_reducible exact Sel.here | exact Sel.here | apply Sel.there)); done) (by rfl) | exact ro_range (k := 2) (by assumption) (by rfl) | exact ro_rngR (k := 2) (by assumption) (by rfl))) (by repeat (first | exact Sub.nil | (apply Sub.cons; (repeat (first | with_reducible exact Sel.here | exact Sel.here | apply Sel.there))))) ?_
        refine G.oneT hT38 (i := 2) (rem' := 8) (by kernel_rfl) (by kernel_rfl) ?_
        refine G.turnOp rfl rfl (G.storeN (by kernel_rfl) rfl rfl (by first | exact (all1_cons (by first | rfl | with_reducible assumption) (all1_cons (by first | rfl | with_reducible assumption) (all1_cons (by first | rfl | with_reducible assumption) (all1_cons (by first | rfl | with_reducible assumption) all1_nil)))) | exact List.all_eq_true.2 (vByte_one _) | rfl) (by repeat (first | with_reducible exact Sel.here | exact Sel.here | apply Sel.there)) (by first | (simp; done) | exact Nat.le_of_ble_eq_true rfl) ?_)
        refine G.back (by repeat (first | exact Sub.nil | (apply Sub.cons; (repeat (first | with_reducible exact Sel.here | exact Sel.here | apply Sel.there))))) ?_
        refine G.oneT hT38 (i := 3) (rem' := 0) (by kernel_rfl) (by kernel_rfl) ?_
        refine G.turnOp rfl rfl (G.storeN (by kernel_rfl) rfl rfl (by first | exact (all1_cons (by first | rfl | with_reducible assumption) (all1_cons (by first | rfl | with_reducible assumption) all1_nil)) | exact List.all_eq_true.2 (vByte_one _) | rfl) (by repeat (first | with_reducible exact Sel.here | exact Sel.here | apply Sel.there)) (by first | (simp; done) | exact Nat.le_of_ble_eq_true rfl) ?_)
        refine G.back (by repeat (first | exact Sub.nil | (apply Sub.cons; (repeat (first | with_reducible exact Sel.here | exact Sel.here | apply Sel.there))))) ?_
        refine G.overT hT38 (by kernel_rfl) ?_
        refine G.nThen ?_
        refine G.ret ?_
        refine G.rThen ?_
        refine G.rScope ?_
        obtain ⟨fe, hfe⟩ : ∃ fe : Nat, f.1 = (fe : Int) := ⟨f.1.toNat, by omega⟩
        rw [hfe, Int.toNat_natCast] at hr
        rw [hfe, hr]
        refine G.ownNil 3 1 ?_
        refine G.ownNil 49 16 ?_
        refine G.ownNil 5 1 ?_
        exact G.doneG ((.slice none 0 0, .slice none 0 0, .slice none 0 0)) (by first | exact trivial | ((try dsimp only); exact trivial)) rfl (Rv.cellN (cs := [_, _, _, _]) rfl Try.underlying26 rfl (by kernel_rfl) (by first | exact blk_range (k := 4) (by (repeat (first | with_reducible exact Sel.here | exact Sel.here | apply Sel.there)); done) (by rfl)) (Rv.cellN (cs := [_, _]) rfl Try.underlying39 rfl (by kernel_rfl) (by first | exact blk_range (k := 2) (by (repeat (first | with_reducible exact Sel.here | exact Sel.here | apply Sel.there)); done) (by rfl)) Rv.nil)) (by first | rfl | exact int_eq (by omega) | (simp; done)) (by repeat (first | exact Sub.nil | (apply Sub.cons; (repeat (first | with_reducible exact Sel.here | exact Sel.here | apply Sel.there)))))
      · refine G.skip ?_
        refine G.nThen ?_
        refine G.seq ?_
        refine G.region ?_
        refine G.op rfl (G.val rfl rfl (pv_loadN (cs := [_, _, _, _]) Try.underlying26 rfl (by kernel_rfl) rfl (by first | exact blk_range (k := 4) (by (repeat (first | with_reducible exact Sel.here | exact Sel.here | apply Sel.there)); done) (by rfl) | exact rng_range (k := 4) (by (repeat (first | with_reducible exact Sel.here | exact Sel.here | apply Sel.there)); done) (by rfl) | exact ro_range (k := 4) (by assumption) (by rfl) | exact ro_rngR (k := 4) (by assumption) (by rfl))) ?_)
        refine G.op rfl (G.val rfl rfl (pv_buildSt (z := [.int .i64 0, .int .i64 0]) (pl := [(0, 1), (1, 1)]) Try.underlying39 (by kernel_rfl) (by kernel_rfl) rfl (by repeat (first | exact Fl.nil | (apply Fl.cons; exact rfl; (first | exact cells_of (by first | rfl | with_reducible assumption) | exact rfl); exact rfl; exact rfl; repeat (first | exact Sn.nil | (apply Sn.cons; repeat (first | exact St.zero | apply St.succ))))))) ?_)
        refine G.op rfl (G.storeN (by kernel_rfl) rfl rfl (by first | exact (all1_cons (by first | rfl | with_reducible assumption) (all1_cons (by first | rfl | with_reducible assumption) (all1_cons (by first | rfl | with_reducible assumption) (all1_cons (by first | rfl | with_reducible assumption) all1_nil)))) | exact List.all_eq_true.2 (vByte_one _) | rfl) (by repeat (first | with_reducible exact Sel.here | exact Sel.here | apply Sel.there)) (by first | (simp; done) | exact Nat.le_of_ble_eq_true rfl) ?_)
        refine G.op rfl (G.storeN (by kernel_rfl) rfl rfl (by first | exact (all1_cons (by first | rfl | with_reducible assumption) (all1_cons (by first | rfl | with_reducible assumption) all1_nil)) | exact List.all_eq_true.2 (vByte_one _) | rfl) (by repeat (first | with_reducible exact Sel.here | exact Sel.here | apply Sel.there)) (by first | (simp; done) | exact Nat.le_of_ble_eq_true rfl) ?_)
        refine G.nil ?_
        refine G.nThen ?_
        refine G.ret ?_
        refine G.rScope ?_
        exfalso; omega
theorem readF {Pu : Nat → Prop} (u : Value) (b : List UInt8) (hb : b.length ≤ 1000000000) : Tr Try.prog 22 #[u] [slc rByte Pu u b] []
    (TX (fun _ : Value × Value × Value => True) (fun x => .tuple #[.agg #[.int .i64 (readM b).1.k, x.1, x.2.1, x.2.2], .agg #[.int .i64 ((readM b).2.1 : Int), .int .i64 (readM b).2.2]]) (fun x => [own 3 1 x.1 (readM b).1.ns.length ((readM b).1.ns.map vInt), own 49 16 x.2.1 (readM b).1.ids.length (flatI (readM b).1.ids), own 5 1 x.2.2 (readM b).1.bs.length ((readM b).1.bs.map vByte)])) := by
  by_cases h : (numS b 1 24 5 rs0).2.e = 0
  · obtain ⟨sh, hsh⟩ := kind_in h
    exact readFB u b hb sh h hsh
  · exact readFA u b hb h
end Go.Proofs.Ytakcffhknnailaa
