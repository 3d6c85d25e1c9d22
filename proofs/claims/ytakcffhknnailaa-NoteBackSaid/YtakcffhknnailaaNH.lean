/- What reading a note comes to; contracts of layer 10's counts, and of the reference's Read. Conditions: the bytes lie in memory, not more than a thousand million. -/
import Derived.Test.YtakcffhknnailaaNG
set_option linter.unusedVariables false
set_option linter.unusedSimpArgs false
namespace Go.Proofs.Ytakcffhknnailaa
open Go.RowKit

structure Nt where
  k : Int
  ns : List Int
  ids : List (List UInt8)
  bs : List UInt8
def nt0 : Nt := ⟨0, [], [], []⟩
def cntS (b : List UInt8) (least most : Int) (s : Rs) : Nat × Rs := if (numS b 0 most 3 s).2.e = 0 ∧ ((numS b 0 most 3 s).1 : Int) < least then (0, ⟨(numS b 0 most 3 s).2.a, 5, s.a⟩) else numS b 0 most 3 s
def fewS (b : List UInt8) (least most : Int) (s : Rs) : Int × Int := if (numS b 0 most 3 s).2.e = 0 ∧ ((numS b 0 most 3 s).1 : Int) < least then (5, (s.a : Int)) else (0, 0)
def numsS (b : List UInt8) (s : Rs) : Nat → List Int × Rs
  | 0 => ([], s)
  | j + 1 => ((numsS b s j).1 ++ [((numS b 0 2147483647 5 (numsS b s j).2).1 : Int)], (numS b 0 2147483647 5 (numsS b s j).2).2)
def idsS (b : List UInt8) (s : Rs) : Nat → List (List UInt8) × Rs
  | 0 => ([], s)
  | j + 1 => ((idsS b s j).1 ++ [(idS b (idsS b s j).2).1], (idS b (idsS b s j).2).2)
def finM (b : List UInt8) (k : Int) (ns : List Int) (ids : List (List UInt8)) (bs : List UInt8) (s : Rs) : Nt × (Nat × Int) := if (endS b s).1 ≠ 0 then (nt0, endS b s) else (⟨k, ns, ids, bs⟩, endS b s)
def least7 (sh : Sh) (y : List UInt8 × Rs) (s : Rs) : Rs := if y.2.e = 0 ∧ (y.1.length : Int) < sh.b then ⟨y.2.a, 5, s.a⟩ else y.2
def tbM (b : List UInt8) (sh : Sh) (k : Int) (ns : List Int) (ids : List (List UInt8)) (s : Rs) : Nt × (Nat × Int) := finM b k ns ids (bytS b sh.bs s).1 (least7 sh (bytS b sh.bs s) s)
def tiM (b : List UInt8) (sh : Sh) (k : Int) (ns : List Int) (s : Rs) : Nt × (Nat × Int) := tbM b sh k ns (idsS b (cntS b sh.i sh.is s).2 (cntS b sh.i sh.is s).1).1 (idsS b (cntS b sh.i sh.is s).2 (cntS b sh.i sh.is s).1).2
def tnM (b : List UInt8) (sh : Sh) (k : Int) (s : Rs) : Nt × (Nat × Int) := tiM b sh k (numsS b (cntS b sh.n sh.ns s).2 (cntS b sh.n sh.ns s).1).1 (numsS b (cntS b sh.n sh.ns s).2 (cntS b sh.n sh.ns s).1).2
/-- what reading a note comes to -/
def readM (b : List UInt8) : Nt × (Nat × Int) := tnM b (shD (numS b 1 24 5 rs0).1) (numS b 1 24 5 rs0).1 (numS b 1 24 5 rs0).2
theorem cntS_ok {b : List UInt8} {least most : Int} {s : Rs} (h : okS b s) : okS b (cntS b least most s).2 := by
  have hn := numS_ok (low := 0) (high := most) (above := 3) h (by decide)
  unfold cntS
  split
  · exact ⟨hn.1, fun h => by cases h⟩
  · exact hn
theorem numsS_ok {b : List UInt8} {s : Rs} (h : okS b s) : ∀ j, okS b (numsS b s j).2
  | 0 => h
  | j + 1 => numS_ok (numsS_ok h j) (by decide)
theorem idsS_ok {b : List UInt8} {s : Rs} (h : okS b s) : ∀ j, okS b (idsS b s j).2
  | 0 => h
  | j + 1 => idS_ok (idsS_ok h j)
theorem numsS_len (b : List UInt8) (s : Rs) : ∀ j, (numsS b s j).1.length = j
  | 0 => rfl
  | j + 1 => by show ((numsS b s j).1 ++ [_]).length = _; rw [List.length_append, numsS_len b s j]; rfl
theorem idsS_len (b : List UInt8) (s : Rs) : ∀ j, (idsS b s j).1.length = j
  | 0 => rfl
  | j + 1 => by show ((idsS b s j).1 ++ [_]).length = _; rw [List.length_append, idsS_len b s j]; rfl
theorem idsS_16 (b : List UInt8) (s : Rs) : ∀ j, all16 (idsS b s j).1
  | 0 => fun x hx => by cases hx
  | j + 1 => (idsS_16 b s j).snoc (idS_len b _)
theorem cntS_small {b : List UInt8} {least most : Int} {s : Rs} : (cntS b least most s).1 ≤ 2147483647 := by
  unfold cntS
  split
  · exact Nat.zero_le _
  · exact numS_small
theorem numsS_app (b : List UInt8) (s : Rs) (j : Nat) (e : TypeId) (v : Value) : own e 1 v ((numsS b s j).1.length + 1) ((numsS b s j).1.map vInt ++ [vInt ((numS b 0 2147483647 5 (numsS b s j).2).1 : Int)]) = own e 1 v (numsS b s (j + 1)).1.length ((numsS b s (j + 1)).1.map vInt) := by
  have e1 : (numsS b s (j + 1)).1 = (numsS b s j).1 ++ [((numS b 0 2147483647 5 (numsS b s j).2).1 : Int)] := rfl
  rw [e1, List.map_append, List.length_append]
  rfl
theorem idsS_app (b : List UInt8) (s : Rs) (j : Nat) (e : TypeId) (v : Value) : own e 16 v ((idsS b s j).1.length + 1) (flatI (idsS b s j).1 ++ (idS b (idsS b s j).2).1.map vByte) = own e 16 v (idsS b s (j + 1)).1.length (flatI (idsS b s (j + 1)).1) := by
  have e1 : (idsS b s (j + 1)).1 = (idsS b s j).1 ++ [(idS b (idsS b s j).2).1] := rfl
  rw [e1, flatI_app, List.length_append]
  congr 2
  simp [flatI]
theorem fill16 : ∀ xs : List Value, xs.length = 16 → Instr.fill (fun i => some (i * 16, 16)) ((Array.range (1 * 16)).map ((Value.agg #[.int .u8 0, .int .u8 0, .int .u8 0, .int .u8 0, .int .u8 0, .int .u8 0, .int .u8 0, .int .u8 0, .int .u8 0, .int .u8 0, .int .u8 0, .int .u8 0, .int .u8 0, .int .u8 0, .int .u8 0, .int .u8 0]).cells[· % (Value.agg #[.int .u8 0, .int .u8 0, .int .u8 0, .int .u8 0, .int .u8 0, .int .u8 0, .int .u8 0, .int .u8 0, .int .u8 0, .int .u8 0, .int .u8 0, .int .u8 0, .int .u8 0, .int .u8 0, .int .u8 0, .int .u8 0]).cells.size]!)) [(0, .agg xs.toArray)] = some xs.toArray
  | [_, _, _, _, _, _, _, _, _, _, _, _, _, _, _, _], _ => by kernel_rfl
theorem Try.infoIDz : (Try.prog.info? 49).map (fun i => (i.zero, i.size)) = some (some (.agg #[.int .u8 0, .int .u8 0, .int .u8 0, .int .u8 0, .int .u8 0, .int .u8 0, .int .u8 0, .int .u8 0, .int .u8 0, .int .u8 0, .int .u8 0, .int .u8 0, .int .u8 0, .int .u8 0, .int .u8 0, .int .u8 0]), 16) := by kernel_rfl
theorem ofR_tr (k : Int) : Tr Try.prog 29 #[.int .i64 k] [] [] (T0 (.tuple #[.agg (rowS (shD k)).toArray, .bool (shM k).isSome])) := by
  unfold shD
  cases h : shM k with
  | none => exact ofR_none k h
  | some s => exact ofR_some k s h
set_option maxRecDepth 20000 in
set_option maxHeartbeats 4000000 in

theorem cntR (D : Nat) (v : Value) (b : List UInt8) (s : Rs) (least most : Int) (hs : okS b s) (hb : b.length ≤ 1000000000) {Pu : Nat → Prop} : Tr Try.prog 57 #[.pointer (some ⟨D, 0, none⟩), .int .i64 least, .int .i64 most] [slc rByte Pu v b] [blk D 87 [v, .int .i64 (s.a : Int), .int .i64 (s.e : Int), .int .i64 s.p]]
    (TX (fun _ : Unit => True) (fun _ => .int .i64 ((cntS b least most s).1 : Int)) (fun _ => [blk D 87 [v, .int .i64 ((cntS b least most s).2.a : Int), .int .i64 ((cntS b least most s).2.e : Int), .int .i64 (cntS b least most s).2.p]])) := by
  refine Tr.of (l := [(0, .pointer (some ⟨D, 0, none⟩)), (1, .int .i64 least), (2, .int .i64 most)]) Try.func57 rfl (n := 33) rfl (.cons rfl (.cons rfl (.cons rfl .nil))) (fun w0 hro => ?_)
  have hv := ro1 hro
  refine G.seq ?_
  refine G.region ?_
  refine G.op rfl (G.val rfl rfl (pv_assign rfl) ?_)
  refine G.nil ?_
  refine G.nThen ?_
  refine G.seq ?_
  refine G.region ?_
  refine G.op rfl (G.val rfl rfl (pv_move rfl) ?_)
  refine G.op rfl (G.val rfl rfl (pv_nilCheck rfl) ?_)
  refine G.op rfl (G.val rfl rfl (pv_fieldAddrK (sz := 0) (k := 1) Try.underlying87 rfl (by kernel_rfl) rfl rfl) ?_)
  refine G.op rfl (G.val rfl rfl (pv_load Try.underlying3 rfl rfl (by first | exact blk_cell (by (repeat (first | with_reducible exact Sel.here | exact Sel.here | apply Sel.there)); done) (by rfl) | exact rng_cell (by (repeat (first | with_reducible exact Sel.here | exact Sel.here | apply Sel.there)); done) (by rfl) | exact ro_blk (by assumption) (by rfl) | exact ro_rngC (by assumption) (by rfl) | exact ro_int (by assumption) | exact ro_byte (by assumption) | exact ro_str (by assumption) | with_reducible assumption | assumption)) ?_)
  refine G.op rfl (G.val rfl rfl (pv_assign rfl) ?_)
  refine G.nil ?_
  refine G.nThen ?_
  refine G.seq ?_
  refine G.region ?_
  refine G.op rfl (G.val rfl rfl (pv_move rfl) ?_)
  refine G.op rfl (G.val rfl rfl (pv_move rfl) ?_)
  refine G.op rfl (G.cS rfl rfl rfl rfl Try.func73 rfl rfl (by repeat (first | exact Sub.nil | (apply Sub.cons; (repeat (first | with_reducible exact Sel.here | exact Sel.here | apply Sel.there))))) (may1 (by first | exact .old (by first | with_reducible assumption | assumption) | exact Sel.may (by (repeat (first | with_reducible exact Sel.here | exact Sel.here | apply Sel.there)); done) | exact may_own (by (repeat (first | with_reducible exact Sel.here | exact Sel.here | apply Sel.there)); done) rfl (fun _ _ => trivial) | exact may_ownB (by (repeat (first | with_reducible exact Sel.here | exact Sel.here | apply Sel.there)); done) | exact may_ownI (by (repeat (first | with_reducible exact Sel.here | exact Sel.here | apply Sel.there)); done) (by assumption) | exact may_ownN (by (repeat (first | with_reducible exact Sel.here | exact Sel.here | apply Sel.there)); done) (by assumption))) (countR _ _ _ _ _ hs hb) (by repeat (first | exact Ap.nil | apply Ap.cons)) ?_)
  intro x15 hJ
  try dsimp only at hJ
  try dsimp only
  refine G.op rfl (G.val rfl rfl (pv_assign rfl) ?_)
  refine G.nil ?_
  refine G.nThen ?_
  refine G.seq ?_
  refine G.seq ?_
  refine G.region ?_
  refine G.op rfl (G.val rfl rfl (pv_move rfl) ?_)
  refine G.op rfl (G.val rfl rfl (pv_nilCheck rfl) ?_)
  refine G.op rfl (G.val rfl rfl (pv_fieldAddrK (sz := 1) (k := 2) Try.underlying87 rfl (by kernel_rfl) rfl rfl) ?_)
  refine G.op rfl (G.val rfl rfl (pv_fieldAddrK (sz := 0) (k := 0) Try.underlying39 rfl (by kernel_rfl) rfl rfl) ?_)
  refine G.op rfl (G.val rfl rfl (pv_load Try.underlying29 rfl rfl (by first | exact blk_cell (by (repeat (first | with_reducible exact Sel.here | exact Sel.here | apply Sel.there)); done) (by rfl) | exact rng_cell (by (repeat (first | with_reducible exact Sel.here | exact Sel.here | apply Sel.there)); done) (by rfl) | exact ro_blk (by assumption) (by rfl) | exact ro_rngC (by assumption) (by rfl) | exact ro_int (by assumption) | exact ro_byte (by assumption) | exact ro_str (by assumption) | with_reducible assumption | assumption)) ?_)
  refine G.op rfl (G.val rfl rfl (pv_eql rfl rfl) ?_)
  refine G.op rfl (G.val rfl rfl (pv_move rfl) ?_)
  refine G.partP (t := 22) rfl (fun h22 => ?_) (fun h22 => ?_)
  · refine G.want rfl rfl rfl (G.val rfl rfl (pv_move rfl) ?_)
    refine G.want rfl rfl rfl (G.val rfl rfl (pv_move rfl) ?_)
    refine G.want rfl rfl rfl (G.val rfl rfl (pv_lss rfl rfl) ?_)
    refine G.op rfl (G.val rfl rfl (pv_pick rfl rfl) ?_)
    refine G.nil ?_
    refine G.nThen ?_
    refine G.condP rfl (fun h26 => ?_) (fun h26 => ?_)
    · rw [show cntS b least most s = (0, ⟨(numS b 0 most 3 s).2.a, 5, s.a⟩) from if_pos (by omega)]
      refine G.seq ?_
      refine G.region ?_
      refine G.op rfl (G.val rfl rfl (pv_move rfl) ?_)
      refine G.op rfl (G.val rfl rfl (pv_move rfl) ?_)
      refine G.op rfl (G.val rfl rfl (pv_buildSt (z := [.int .i64 0, .int .i64 0]) (pl := [(0, 1), (1, 1)]) Try.underlying39 (by kernel_rfl) (by kernel_rfl) rfl (by repeat (first | exact Fl.nil | (apply Fl.cons; exact rfl; (first | exact cells_of (by first | rfl | with_reducible assumption) | exact rfl); exact rfl; exact rfl; repeat (first | exact Sn.nil | (apply Sn.cons; repeat (first | exact St.zero | apply St.succ))))))) ?_)
      refine G.op rfl (G.val rfl rfl (pv_nilCheck rfl) ?_)
      refine G.op rfl (G.val rfl rfl (pv_fieldAddrK (sz := 1) (k := 2) Try.underlying87 rfl (by kernel_rfl) rfl rfl) ?_)
      refine G.op rfl (G.storeN (by kernel_rfl) rfl rfl (by first | exact (all1_cons (by first | rfl | with_reducible assumption) (all1_cons (by first | rfl | with_reducible assumption) all1_nil)) | exact List.all_eq_true.2 (vByte_one _) | rfl) (by repeat (first | with_reducible exact Sel.here | exact Sel.here | apply Sel.there)) (by first | (simp; done) | exact Nat.le_of_ble_eq_true rfl) ?_)
      refine G.nil ?_
      refine G.nThen ?_
      refine G.seq ?_
      refine G.region ?_
      refine G.op rfl (G.val rfl rfl (pv_assign rfl) ?_)
      refine G.nil ?_
      refine G.nThen ?_
      refine G.ret ?_
      refine G.rThen ?_
      exact G.doneX1 (()) (by first | exact trivial | ((try dsimp only); exact trivial)) rfl rfl (by first | rfl | exact int_eq (by omega) | (simp; done)) (by repeat (first | exact Sub.nil | (apply Sub.cons; (repeat (first | with_reducible exact Sel.here | exact Sel.here | apply Sel.there)))))
    · rw [show cntS b least most s = numS b 0 most 3 s from if_neg (by omega)]
      refine G.skip ?_
      refine G.nThen ?_
      refine G.seq ?_
      refine G.region ?_
      refine G.op rfl (G.val rfl rfl (pv_move rfl) ?_)
      refine G.op rfl (G.val rfl rfl (pv_assign rfl) ?_)
      refine G.nil ?_
      refine G.nThen ?_
      refine G.ret ?_
      exact G.doneX1 (()) (by first | exact trivial | ((try dsimp only); exact trivial)) rfl rfl (by first | rfl | exact int_eq (by omega) | (simp; done)) (by repeat (first | exact Sub.nil | (apply Sub.cons; (repeat (first | with_reducible exact Sel.here | exact Sel.here | apply Sel.there)))))
  · refine G.pass rfl rfl rfl rfl rfl rfl ?_
    refine G.pass rfl rfl rfl rfl rfl rfl ?_
    refine G.pass rfl rfl rfl rfl rfl rfl ?_
    refine G.op rfl (G.val rfl rfl (pv_pick rfl rfl) ?_)
    refine G.nil ?_
    refine G.nThen ?_
    refine G.condF rfl (rfl) ?_
    rw [show cntS b least most s = numS b 0 most 3 s from if_neg (by omega)]
    refine G.skip ?_
    refine G.nThen ?_
    refine G.seq ?_
    refine G.region ?_
    refine G.op rfl (G.val rfl rfl (pv_move rfl) ?_)
    refine G.op rfl (G.val rfl rfl (pv_assign rfl) ?_)
    refine G.nil ?_
    refine G.nThen ?_
    refine G.ret ?_
    exact G.doneX1 (()) (by first | exact trivial | ((try dsimp only); exact trivial)) rfl rfl (by first | rfl | exact int_eq (by omega) | (simp; done)) (by repeat (first | exact Sub.nil | (apply Sub.cons; (repeat (first | with_reducible exact Sel.here | exact Sel.here | apply Sel.there)))))
set_option maxRecDepth 20000 in
set_option maxHeartbeats 4000000 in

theorem cntF (D : Nat) (v : Value) (b : List UInt8) (s : Rs) (lo hi : Int) (hs : okS b s) (hb : b.length ≤ 1000000000) : Tr Try.prog 50 #[.pointer (some ⟨D, 0, none⟩), .agg #[.int .i64 lo, .int .i64 hi]] [] [blk D 96 [.bool true, v, .int .i64 (s.a : Int), .int .i64 (s.e : Int), .int .i64 s.p], own 5 1 v b.length (b.map vByte)]
    (TX (fun _ : Unit => True) (fun _ => .tuple #[.int .i64 ((numS b 0 hi 3 s).1 : Int), .agg #[.int .i64 (fewS b lo hi s).1, .int .i64 (fewS b lo hi s).2]]) (fun _ => [blk D 96 [.bool true, v, .int .i64 ((numS b 0 hi 3 s).2.a : Int), .int .i64 ((numS b 0 hi 3 s).2.e : Int), .int .i64 (numS b 0 hi 3 s).2.p], own 5 1 v b.length (b.map vByte)])) := by
  refine Tr.of (l := [(0, .pointer (some ⟨D, 0, none⟩)), (1, .agg #[.int .i64 lo, .int .i64 hi])]) Try.func50 rfl (n := 27) rfl (.cons rfl (.cons rfl .nil)) (fun w0 hro => ?_)
  refine G.seq ?_
  refine G.region ?_
  refine G.op rfl (G.box rfl rfl (cs := [_, _]) rfl ?_)
  intro b3
  refine G.op rfl (G.val rfl rfl (pv_assign rfl) ?_)
  refine G.op rfl (G.alloc (z := .agg #[.int .i64 0, .int .i64 0]) (cs := [.int .i64 0, .int .i64 0]) rfl (by kernel_rfl) rfl ?_)
  intro b5
  refine G.nil ?_
  refine G.nThen ?_
  refine G.seq ?_
  refine G.region ?_
  refine G.op rfl (G.val rfl rfl (pv_move rfl) ?_)
  refine G.op rfl (G.cR rfl rfl rfl rfl Try.func52 rfl rfl (may1 (by first | exact .old (by first | with_reducible assumption | assumption) | exact Sel.may (by (repeat (first | with_reducible exact Sel.here | exact Sel.here | apply Sel.there)); done) | exact may_own (by (repeat (first | with_reducible exact Sel.here | exact Sel.here | apply Sel.there)); done) rfl (fun _ _ => trivial) | exact may_ownB (by (repeat (first | with_reducible exact Sel.here | exact Sel.here | apply Sel.there)); done) | exact may_ownI (by (repeat (first | with_reducible exact Sel.here | exact Sel.here | apply Sel.there)); done) (by assumption) | exact may_ownN (by (repeat (first | with_reducible exact Sel.here | exact Sel.here | apply Sel.there)); done) (by assumption))) (atF _ _ _) ?_)
  refine G.op rfl (G.val rfl rfl (pv_assign rfl) ?_)
  refine G.nil ?_
  refine G.nThen ?_
  refine G.seq ?_
  refine G.region ?_
  refine G.op rfl (G.val rfl rfl (pv_move rfl) ?_)
  refine G.op rfl (G.val rfl rfl (pv_fieldAddrK (sz := 0) (k := 1) Try.underlying69 rfl (by kernel_rfl) rfl rfl) ?_)
  refine G.op rfl (G.val rfl rfl (pv_load Try.underlying3 rfl rfl (by first | exact blk_cell (by (repeat (first | with_reducible exact Sel.here | exact Sel.here | apply Sel.there)); done) (by rfl) | exact rng_cell (by (repeat (first | with_reducible exact Sel.here | exact Sel.here | apply Sel.there)); done) (by rfl) | exact ro_blk (by assumption) (by rfl) | exact ro_rngC (by assumption) (by rfl) | exact ro_int (by assumption) | exact ro_byte (by assumption) | exact ro_str (by assumption) | with_reducible assumption | assumption)) ?_)
  refine G.op rfl (G.cS rfl rfl rfl rfl Try.func68 rfl rfl (by repeat (first | exact Sub.nil | (apply Sub.cons; (repeat (first | with_reducible exact Sel.here | exact Sel.here | apply Sel.there))))) may0 (countF _ _ _ _ _ hs hb) (by repeat (first | exact Ap.nil | apply Ap.cons)) ?_)
  intro x12 hJ
  try dsimp only at hJ
  try dsimp only
  refine G.op rfl (G.val rfl rfl (pv_assign rfl) ?_)
  refine G.nil ?_
  refine G.nThen ?_
  refine G.seq ?_
  refine G.cutK (X := (Int × Int)) (ts := [4, 5]) (p := [blk b5 _ _]) (fun f => f = fewS b lo hi s) (fun f => []) (fun f => [blk b5 39 [.int .i64 f.1, .int .i64 f.2]]) (.cons rfl (.cons rfl .nil)) (by repeat (first | exact Sub.nil | (apply Sub.cons; (repeat (first | with_reducible exact Sel.here | exact Sel.here | apply Sel.there))))) Ap.nil (by repeat (first | exact Ap.nil | apply Ap.cons)) ?_ ?_
  · refine G.seq ?_
    refine G.region ?_
    refine G.op rfl (G.val rfl rfl (pv_move rfl) ?_)
    refine G.op rfl (G.cR rfl rfl rfl rfl Try.func49 rfl rfl (may1 (by first | exact .old (by first | with_reducible assumption | assumption) | exact Sel.may (by (repeat (first | with_reducible exact Sel.here | exact Sel.here | apply Sel.there)); done) | exact may_own (by (repeat (first | with_reducible exact Sel.here | exact Sel.here | apply Sel.there)); done) rfl (fun _ _ => trivial) | exact may_ownB (by (repeat (first | with_reducible exact Sel.here | exact Sel.here | apply Sel.there)); done) | exact may_ownI (by (repeat (first | with_reducible exact Sel.here | exact Sel.here | apply Sel.there)); done) (by assumption) | exact may_ownN (by (repeat (first | with_reducible exact Sel.here | exact Sel.here | apply Sel.there)); done) (by assumption))) (faultF _ _ _) ?_)
    refine G.op rfl (G.val rfl rfl (pv_field1 Try.underlying39 rfl Try.underlying29 rfl rfl rfl) ?_)
    refine G.op rfl (G.val rfl rfl (pv_eql rfl rfl) ?_)
    refine G.op rfl (G.val rfl rfl (pv_move rfl) ?_)
    refine G.partP (t := 17) rfl (fun h17 => ?_) (fun h17 => ?_)
    · refine G.want rfl rfl rfl (G.val rfl rfl (pv_move rfl) ?_)
      refine G.want rfl rfl rfl (G.val rfl rfl (pv_fieldAddrK (sz := 0) (k := 0) Try.underlying69 rfl (by kernel_rfl) rfl rfl) ?_)
      refine G.want rfl rfl rfl (G.val rfl rfl (pv_load Try.underlying3 rfl rfl (by first | exact blk_cell (by (repeat (first | with_reducible exact Sel.here | exact Sel.here | apply Sel.there)); done) (by rfl) | exact rng_cell (by (repeat (first | with_reducible exact Sel.here | exact Sel.here | apply Sel.there)); done) (by rfl) | exact ro_blk (by assumption) (by rfl) | exact ro_rngC (by assumption) (by rfl) | exact ro_int (by assumption) | exact ro_byte (by assumption) | exact ro_str (by assumption) | with_reducible assumption | assumption)) ?_)
      refine G.want rfl rfl rfl (G.val rfl rfl (pv_lss rfl rfl) ?_)
      refine G.op rfl (G.val rfl rfl (pv_pick rfl rfl) ?_)
      refine G.nil ?_
      refine G.nThen ?_
      refine G.condP rfl (fun h22 => ?_) (fun h22 => ?_)
      · refine G.region ?_
        refine G.op rfl (G.val rfl rfl (pv_move rfl) ?_)
        refine G.op rfl (G.val rfl rfl (pv_buildSt (z := [.int .i64 0, .int .i64 0]) (pl := [(0, 1), (1, 1)]) Try.underlying39 (by kernel_rfl) (by kernel_rfl) rfl (by repeat (first | exact Fl.nil | (apply Fl.cons; exact rfl; (first | exact cells_of (by first | rfl | with_reducible assumption) | exact rfl); exact rfl; exact rfl; repeat (first | exact Sn.nil | (apply Sn.cons; repeat (first | exact St.zero | apply St.succ))))))) ?_)
        refine G.op rfl (G.storeN (by kernel_rfl) rfl rfl (by first | exact (all1_cons (by first | rfl | with_reducible assumption) (all1_cons (by first | rfl | with_reducible assumption) all1_nil)) | exact List.all_eq_true.2 (vByte_one _) | rfl) (by repeat (first | with_reducible exact Sel.here | exact Sel.here | apply Sel.there)) (by first | (simp; done) | exact Nat.le_of_ble_eq_true rfl) ?_)
        refine G.nil ?_
        exact G.meet ((5, (s.a : Int))) (by first | exact trivial | ((try dsimp only); exact (if_pos (by omega)).symm)) (.cons rfl (.cons rfl .nil)) (by repeat (first | exact Sub.nil | (apply Sub.cons; (repeat (first | with_reducible exact Sel.here | exact Sel.here | apply Sel.there)))))
      · refine G.skip ?_
        exact G.meet ((0, 0)) (by first | exact trivial | ((try dsimp only); exact (if_neg (by omega)).symm)) (.cons rfl (.cons rfl .nil)) (by repeat (first | exact Sub.nil | (apply Sub.cons; (repeat (first | with_reducible exact Sel.here | exact Sel.here | apply Sel.there)))))
    · refine G.pass rfl rfl rfl rfl rfl rfl ?_
      refine G.pass rfl rfl rfl rfl rfl rfl ?_
      refine G.pass rfl rfl rfl rfl rfl rfl ?_
      refine G.pass rfl rfl rfl rfl rfl rfl ?_
      refine G.op rfl (G.val rfl rfl (pv_pick rfl rfl) ?_)
      refine G.nil ?_
      refine G.nThen ?_
      refine G.condF rfl (rfl) ?_
      refine G.skip ?_
      exact G.meet ((0, 0)) (by first | exact trivial | ((try dsimp only); exact (if_neg (by omega)).symm)) (.cons rfl (.cons rfl .nil)) (by repeat (first | exact Sub.nil | (apply Sub.cons; (repeat (first | with_reducible exact Sel.here | exact Sel.here | apply Sel.there)))))
  · intro f hJ
    try dsimp only at hJ
    try dsimp only
    refine G.seq ?_
    refine G.drawT (nn := 4) (p := [blk b5 _ _]) (rem := 15) [0, 0, 1, 7] [0, 0, 1, 2] (by kernel_rfl) ⟨rfl, by kernel_rfl, by kernel_rfl⟩ (by repeat (first | exact Sub.nil | (apply Sub.cons; (repeat (first | with_reducible exact Sel.here | exact Sel.here | apply Sel.there))))) (by kernel_rfl) (fun hT5 => ?_)
    refine G.takeT hT5 (i := 0) (rem' := 14) rfl rfl rfl (by kernel_rfl) (fun _ _ _ h => h) rfl (pv_move rfl) (by repeat (first | exact Sub.nil | (apply Sub.cons; (repeat (first | with_reducible exact Sel.here | exact Sel.here | apply Sel.there))))) ?_
    refine G.takeT hT5 (i := 2) (rem' := 10) rfl rfl rfl (by kernel_rfl) (fun _ _ _ h => h) rfl (pv_assign rfl) (by repeat (first | exact Sub.nil | (apply Sub.cons; (repeat (first | with_reducible exact Sel.here | exact Sel.here | apply Sel.there))))) ?_
    refine G.oneT hT5 (i := 1) (rem' := 8) (by kernel_rfl) (by kernel_rfl) ?_
    refine G.turnOp rfl rfl (G.val rfl rfl (pv_loadN (cs := [_, _]) Try.underlying39 rfl (by kernel_rfl) rfl (by first | exact blk_range (k := 2) (by (repeat (first | with_reducible exact Sel.here | exact Sel.here | apply Sel.there)); done) (by rfl) | exact rng_range (k := 2) (by (repeat (first | with_reducible exact Sel.here | exact Sel.here | apply Sel.there)); done) (by rfl) | exact ro_range (k := 2) (by assumption) (by rfl) | exact ro_rngR (k := 2) (by assumption) (by rfl))) ?_)
    refine G.back (by repeat (first | exact Sub.nil | (apply Sub.cons; (repeat (first | with_reducible exact Sel.here | exact Sel.here | apply Sel.there))))) ?_
    refine G.oneT hT5 (i := 3) (rem' := 0) (by kernel_rfl) (by kernel_rfl) ?_
    refine G.turnOp rfl rfl (G.storeN (by kernel_rfl) rfl rfl (by first | exact (all1_cons (by first | rfl | with_reducible assumption) (all1_cons (by first | rfl | with_reducible assumption) all1_nil)) | exact List.all_eq_true.2 (vByte_one _) | rfl) (by repeat (first | with_reducible exact Sel.here | exact Sel.here | apply Sel.there)) (by first | (simp; done) | exact Nat.le_of_ble_eq_true rfl) ?_)
    refine G.back (by repeat (first | exact Sub.nil | (apply Sub.cons; (repeat (first | with_reducible exact Sel.here | exact Sel.here | apply Sel.there))))) ?_
    refine G.overT hT5 (by kernel_rfl) ?_
    refine G.nThen ?_
    refine G.ret ?_
    exact G.doneG (()) (by first | exact trivial | ((try dsimp only); exact trivial)) rfl (Rv.tmp rfl (Rv.cellN (cs := [_, _]) rfl Try.underlying39 rfl (by kernel_rfl) (by first | exact blk_range (k := 2) (by (repeat (first | with_reducible exact Sel.here | exact Sel.here | apply Sel.there)); done) (by rfl)) Rv.nil)) (by rw [← hJ]; rfl) (by repeat (first | exact Sub.nil | (apply Sub.cons; (repeat (first | with_reducible exact Sel.here | exact Sel.here | apply Sel.there)))))
set_option maxRecDepth 20000 in
set_option maxHeartbeats 4000000 in

theorem readR {Pu : Nat → Prop} (v : Value) (b : List UInt8) (hb : b.length ≤ 1000000000) : Tr Try.prog 23 #[v] [slc rByte Pu v b] []
    (TX (fun _ : Value × Value × Value => True) (fun x => .tuple #[.agg #[.int .i64 (readM b).1.k, x.1, x.2.1, x.2.2], .agg #[.int .i64 ((readM b).2.1 : Int), .int .i64 (readM b).2.2]]) (fun x => [own 3 1 x.1 (readM b).1.ns.length ((readM b).1.ns.map vInt), own 49 16 x.2.1 (readM b).1.ids.length (flatI (readM b).1.ids), own 5 1 x.2.2 (readM b).1.bs.length ((readM b).1.bs.map vByte)])) := by
  refine Tr.of (l := [(0, v)]) Try.func23 rfl (n := 97) rfl (.cons rfl .nil) (fun w0 hro => ?_)
  have hv := ro1 hro
  have hv' := hv
  obtain ⟨ad, cap, bb, off, rfl, hcap, hmax, -⟩ := Ro.open hv'
  have h0 := rs0_ok b
  refine G.seq ?_
  refine G.region ?_
  refine G.op rfl (G.alloc (z := .agg #[.int .i64 0, .slice none 0 0, .slice none 0 0, .slice none 0 0]) (cs := [.int .i64 0, .slice none 0 0, .slice none 0 0, .slice none 0 0]) rfl (by kernel_rfl) rfl ?_)
  intro b2
  refine G.op rfl (G.alloc (z := .agg #[.int .i64 0, .int .i64 0]) (cs := [.int .i64 0, .int .i64 0]) rfl (by kernel_rfl) rfl ?_)
  intro b3
  refine G.nil ?_
  refine G.nThen ?_
  refine G.seq ?_
  refine G.region ?_
  refine G.op rfl (G.val rfl rfl (pv_move rfl) ?_)
  refine G.op rfl (G.cS rfl rfl rfl rfl Try.func55 rfl rfl (by repeat (first | exact Sub.nil | (apply Sub.cons; (repeat (first | with_reducible exact Sel.here | exact Sel.here | apply Sel.there))))) may0 (openR _ rfl) (by repeat (first | exact Ap.nil | apply Ap.cons)) ?_)
  intro x14 hJ
  try dsimp only at hJ
  try dsimp only
  refine G.op rfl (G.val rfl rfl (pv_assign rfl) ?_)
  refine G.nil ?_
  refine G.nThen ?_
  refine G.seq ?_
  refine G.region ?_
  refine G.op rfl (G.val rfl rfl (pv_move rfl) ?_)
  refine G.op rfl (G.cS rfl rfl rfl rfl Try.func56 rfl rfl (by repeat (first | exact Sub.nil | (apply Sub.cons; (repeat (first | with_reducible exact Sel.here | exact Sel.here | apply Sel.there))))) (may1 (by first | exact .old (by first | with_reducible assumption | assumption) | exact Sel.may (by (repeat (first | with_reducible exact Sel.here | exact Sel.here | apply Sel.there)); done) | exact may_own (by (repeat (first | with_reducible exact Sel.here | exact Sel.here | apply Sel.there)); done) rfl (fun _ _ => trivial) | exact may_ownB (by (repeat (first | with_reducible exact Sel.here | exact Sel.here | apply Sel.there)); done) | exact may_ownI (by (repeat (first | with_reducible exact Sel.here | exact Sel.here | apply Sel.there)); done) (by assumption) | exact may_ownN (by (repeat (first | with_reducible exact Sel.here | exact Sel.here | apply Sel.there)); done) (by assumption))) (intR _ _ _ rs0 1 24 h0 hb) (by repeat (first | exact Ap.nil | apply Ap.cons)) ?_)
  intro x16 hJ
  try dsimp only at hJ
  try dsimp only
  obtain ⟨r1, hr1⟩ : ∃ c, numS b 1 24 5 rs0 = c := ⟨_, rfl⟩
  rw [hr1]
  have k1 : okS b r1.2 := by rw [← hr1]; exact numS_ok h0 (by decide)
  refine G.op rfl (G.val rfl rfl (pv_buildSt (z := [.int .i64 0, .slice none 0 0, .slice none 0 0, .slice none 0 0]) (pl := [(0, 1), (1, 1), (2, 1), (3, 1)]) Try.underlying26 (by kernel_rfl) (by kernel_rfl) rfl (by repeat (first | exact Fl.nil | (apply Fl.cons; exact rfl; (first | exact cells_of (by first | rfl | with_reducible assumption) | exact rfl); exact rfl; exact rfl; repeat (first | exact Sn.nil | (apply Sn.cons; repeat (first | exact St.zero | apply St.succ))))))) ?_)
  refine G.op rfl (G.alloc (z := .agg #[.int .i64 0, .slice none 0 0, .slice none 0 0, .slice none 0 0]) (cs := [.int .i64 0, .slice none 0 0, .slice none 0 0, .slice none 0 0]) rfl (by kernel_rfl) rfl ?_)
  intro b5
  refine G.op rfl (G.storeN (by kernel_rfl) rfl rfl (by first | exact (all1_cons (by first | rfl | with_reducible assumption) (all1_cons (by first | rfl | with_reducible assumption) (all1_cons (by first | rfl | with_reducible assumption) (all1_cons (by first | rfl | with_reducible assumption) all1_nil)))) | exact List.all_eq_true.2 (vByte_one _) | rfl) (by repeat (first | with_reducible exact Sel.here | exact Sel.here | apply Sel.there)) (by first | (simp; done) | exact Nat.le_of_ble_eq_true rfl) ?_)
  refine G.nil ?_
  refine G.nThen ?_
  refine G.seq ?_
  refine G.region ?_
  refine G.op rfl (G.val rfl rfl (pv_fieldAddrK (sz := 0) (k := 0) Try.underlying26 rfl (by kernel_rfl) rfl rfl) ?_)
  refine G.op rfl (G.val rfl rfl (pv_load Try.underlying3 rfl rfl (by first | exact blk_cell (by (repeat (first | with_reducible exact Sel.here | exact Sel.here | apply Sel.there)); done) (by rfl) | exact rng_cell (by (repeat (first | with_reducible exact Sel.here | exact Sel.here | apply Sel.there)); done) (by rfl) | exact ro_blk (by assumption) (by rfl) | exact ro_rngC (by assumption) (by rfl) | exact ro_int (by assumption) | exact ro_byte (by assumption) | exact ro_str (by assumption) | with_reducible assumption | assumption)) ?_)
  refine G.op rfl (G.cR rfl rfl rfl rfl Try.func29 rfl rfl may0 (ofR_tr _) ?_)
  obtain ⟨sh, hsh⟩ : ∃ c, shD (r1.1 : Int) = c := ⟨_, rfl⟩
  rw [hsh]
  refine G.op rfl (G.val rfl rfl (pv_move rfl) ?_)
  refine G.op rfl (G.val rfl rfl (pv_extract rfl rfl) ?_)
  refine G.op rfl (G.val rfl rfl (pv_extract rfl rfl) ?_)
  refine G.op rfl (G.alloc (z := .agg #[.string ⟨#[]⟩, .int .i64 0, .int .i64 0, .int .i64 0, .int .i64 0, .int .i64 0, .int .i64 0]) (cs := [.string ⟨#[]⟩, .int .i64 0, .int .i64 0, .int .i64 0, .int .i64 0, .int .i64 0, .int .i64 0]) rfl (by kernel_rfl) rfl ?_)
  intro b6
  refine G.op rfl (G.storeN (by kernel_rfl) rfl rfl (by first | exact (all1_cons (by first | rfl | with_reducible assumption) (all1_cons (by first | rfl | with_reducible assumption) (all1_cons (by first | rfl | with_reducible assumption) (all1_cons (by first | rfl | with_reducible assumption) (all1_cons (by first | rfl | with_reducible assumption) (all1_cons (by first | rfl | with_reducible assumption) (all1_cons (by first | rfl | with_reducible assumption) all1_nil))))))) | exact List.all_eq_true.2 (vByte_one _) | rfl) (by repeat (first | with_reducible exact Sel.here | exact Sel.here | apply Sel.there)) (by first | (simp; done) | exact Nat.le_of_ble_eq_true rfl) ?_)
  refine G.op rfl (G.val rfl rfl (pv_assign rfl) ?_)
  refine G.nil ?_
  refine G.nThen ?_
  refine G.seq ?_
  refine G.region ?_
  refine G.op rfl (G.val rfl rfl (pv_move rfl) ?_)
  refine G.op rfl (G.val rfl rfl (pv_fieldAddrK (sz := 0) (k := 1) Try.underlying52 rfl (by kernel_rfl) rfl rfl) ?_)
  refine G.op rfl (G.val rfl rfl (pv_load Try.underlying3 rfl rfl (by first | exact blk_cell (by (repeat (first | with_reducible exact Sel.here | exact Sel.here | apply Sel.there)); done) (by rfl) | exact rng_cell (by (repeat (first | with_reducible exact Sel.here | exact Sel.here | apply Sel.there)); done) (by rfl) | exact ro_blk (by assumption) (by rfl) | exact ro_rngC (by assumption) (by rfl) | exact ro_int (by assumption) | exact ro_byte (by assumption) | exact ro_str (by assumption) | with_reducible assumption | assumption)) ?_)
  refine G.op rfl (G.val rfl rfl (pv_fieldAddrK (sz := 0) (k := 2) Try.underlying52 rfl (by kernel_rfl) rfl rfl) ?_)
  refine G.op rfl (G.val rfl rfl (pv_load Try.underlying3 rfl rfl (by first | exact blk_cell (by (repeat (first | with_reducible exact Sel.here | exact Sel.here | apply Sel.there)); done) (by rfl) | exact rng_cell (by (repeat (first | with_reducible exact Sel.here | exact Sel.here | apply Sel.there)); done) (by rfl) | exact ro_blk (by assumption) (by rfl) | exact ro_rngC (by assumption) (by rfl) | exact ro_int (by assumption) | exact ro_byte (by assumption) | exact ro_str (by assumption) | with_reducible assumption | assumption)) ?_)
  refine G.op rfl (G.cS rfl rfl rfl rfl Try.func57 rfl rfl (by repeat (first | exact Sub.nil | (apply Sub.cons; (repeat (first | with_reducible exact Sel.here | exact Sel.here | apply Sel.there))))) (may1 (by first | exact .old (by first | with_reducible assumption | assumption) | exact Sel.may (by (repeat (first | with_reducible exact Sel.here | exact Sel.here | apply Sel.there)); done) | exact may_own (by (repeat (first | with_reducible exact Sel.here | exact Sel.here | apply Sel.there)); done) rfl (fun _ _ => trivial) | exact may_ownB (by (repeat (first | with_reducible exact Sel.here | exact Sel.here | apply Sel.there)); done) | exact may_ownI (by (repeat (first | with_reducible exact Sel.here | exact Sel.here | apply Sel.there)); done) (by assumption) | exact may_ownN (by (repeat (first | with_reducible exact Sel.here | exact Sel.here | apply Sel.there)); done) (by assumption))) (cntR _ _ _ _ _ _ k1 hb) (by repeat (first | exact Ap.nil | apply Ap.cons)) ?_)
  intro x29 hJ
  try dsimp only at hJ
  try dsimp only
  obtain ⟨c1, hc1⟩ : ∃ c, cntS b sh.n sh.ns r1.2 = c := ⟨_, rfl⟩
  rw [hc1]
  have k2 : okS b c1.2 := by rw [← hc1]; exact cntS_ok k1
  have z1 : c1.1 ≤ 2147483647 := by rw [← hc1]; exact cntS_small
  refine G.op rfl (G.val rfl rfl (pv_assign rfl) ?_)
  refine G.nil ?_
  refine G.nThen ?_
  refine G.seq ?_
  refine G.seq ?_
  refine G.region ?_
  refine G.op rfl (G.val rfl rfl (pv_assign rfl) ?_)
  refine G.nil ?_
  refine G.nThen ?_
  refine G.block ?_
  refine G.ownNil 3 1 ?_
  refine G.loopK (X := Nat × Value) (ts := [2, 3, 4, 5, 6, 8]) (fun st => st.1 ≤ c1.1) (fun st => [(9, .int .i64 (st.1 : Int))]) (fun st => [blk x14 87 [(.slice ad b.length cap), .int .i64 ((numsS b c1.2 st.1).2.a : Int), .int .i64 ((numsS b c1.2 st.1).2.e : Int), .int .i64 (numsS b c1.2 st.1).2.p], own 3 1 st.2 (numsS b c1.2 st.1).1.length ((numsS b c1.2 st.1).1.map vInt), blk b5 26 [.int .i64 (r1.1 : Int), st.2, .slice none 0 0, .slice none 0 0]]) (fun st => c1.1 - st.1) (x0 := (0, .slice none 0 0)) (.cons rfl (.cons rfl (.cons rfl (.cons rfl (.cons rfl (.cons rfl .nil)))))) (by repeat (first | exact Sub.nil | (apply Sub.cons; (repeat (first | with_reducible exact Sel.here | exact Sel.here | apply Sel.there))))) (.cons .nil) (by repeat (first | exact Ap.nil | apply Ap.cons)) (by first | exact trivial | ((try dsimp only); exact Nat.zero_le _)) (.consE rfl (by first | rfl | exact int_eq (by omega) | exact congrArg _ (by omega)) .nil) (fun st hJ => ?_)
  obtain ⟨j, vN⟩ := st
  try dsimp only at hJ
  try dsimp only
  have hkj := hJ
  have kj := numsS_ok k2 j
  have lj := numsS_len b c1.2 j
  refine G.seq ?_
  refine G.seq ?_
  refine G.region ?_
  refine G.op rfl (G.val rfl rfl (pv_move rfl) ?_)
  refine G.op rfl (G.val rfl rfl (pv_move rfl) ?_)
  refine G.op rfl (G.val rfl rfl (pv_lss rfl rfl) ?_)
  refine G.nil ?_
  refine G.nThen ?_
  refine G.condP rfl (fun h32 => ?_) (fun h32 => ?_)
  · refine G.skip ?_
    refine G.nThen ?_
    refine G.seq ?_
    refine G.block ?_
    refine G.drawT (nn := 8) (p := [blk x14 _ _, own 3 1 _ _ _, blk b5 _ _]) (rem := 255) [0, 1, 0, 4, 8, 26, 63, 127] [0, 1, 0, 4, 8, 18, 0, 96] (by kernel_rfl) ⟨rfl, by kernel_rfl, by kernel_rfl⟩ (by repeat (first | exact Sub.nil | (apply Sub.cons; (repeat (first | with_reducible exact Sel.here | exact Sel.here | apply Sel.there))))) (by kernel_rfl) (fun hT8 => ?_)
    refine G.takeT hT8 (i := 0) (rem' := 254) rfl rfl rfl (by kernel_rfl) (fun _ _ _ h => h) rfl (pv_fieldAddrK (sz := 0) (k := 1) Try.underlying26 rfl (by kernel_rfl) rfl rfl) (by repeat (first | exact Sub.nil | (apply Sub.cons; (repeat (first | with_reducible exact Sel.here | exact Sel.here | apply Sel.there))))) ?_
    refine G.takeT hT8 (i := 2) (rem' := 250) rfl rfl rfl (by kernel_rfl) (fun _ _ _ h => h) rfl (pv_move rfl) (by repeat (first | exact Sub.nil | (apply Sub.cons; (repeat (first | with_reducible exact Sel.here | exact Sel.here | apply Sel.there))))) ?_
    refine G.twoT hT8 (i := 1) (j := 3) (rem' := 248) (rem'' := 242) (by kernel_rfl) (by kernel_rfl) (by kernel_rfl) ?_ ?_
    · refine G.turnOp rfl rfl (G.val rfl rfl (pv_load Try.underlying22 rfl rfl (by first | exact blk_cell (by (repeat (first | with_reducible exact Sel.here | exact Sel.here | apply Sel.there)); done) (by rfl) | exact rng_cell (by (repeat (first | with_reducible exact Sel.here | exact Sel.here | apply Sel.there)); done) (by rfl) | exact ro_blk (by assumption) (by rfl) | exact ro_rngC (by assumption) (by rfl) | exact ro_int (by assumption) | exact ro_byte (by assumption) | exact ro_str (by assumption) | with_reducible assumption | assumption)) ?_)
      refine G.back (by repeat (first | exact Sub.nil | (apply Sub.cons; (repeat (first | with_reducible exact Sel.here | exact Sel.here | apply Sel.there))))) ?_
      refine G.oneT hT8 (i := 3) (rem' := 240) (by kernel_rfl) (by kernel_rfl) ?_
      refine G.turnOp rfl rfl (G.cS rfl rfl rfl rfl Try.func56 rfl rfl (by repeat (first | exact Sub.nil | (apply Sub.cons; (repeat (first | with_reducible exact Sel.here | exact Sel.here | apply Sel.there))))) (may1 (by first | exact .old (by first | with_reducible assumption | assumption) | exact Sel.may (by (repeat (first | with_reducible exact Sel.here | exact Sel.here | apply Sel.there)); done) | exact may_own (by (repeat (first | with_reducible exact Sel.here | exact Sel.here | apply Sel.there)); done) rfl (fun _ _ => trivial) | exact may_ownB (by (repeat (first | with_reducible exact Sel.here | exact Sel.here | apply Sel.there)); done) | exact may_ownI (by (repeat (first | with_reducible exact Sel.here | exact Sel.here | apply Sel.there)); done) (by assumption) | exact may_ownN (by (repeat (first | with_reducible exact Sel.here | exact Sel.here | apply Sel.there)); done) (by assumption))) (intR _ _ _ _ 0 2147483647 kj hb) (by repeat (first | exact Ap.nil | apply Ap.cons)) ?_)
      intro x38 hJ
      try dsimp only at hJ
      try dsimp only
      refine G.back (by repeat (first | exact Sub.nil | (apply Sub.cons; (repeat (first | with_reducible exact Sel.here | exact Sel.here | apply Sel.there))))) ?_
      refine G.oneT hT8 (i := 4) (rem' := 224) (by kernel_rfl) (by kernel_rfl) ?_
      refine G.turnOp rfl rfl (G.lit1 (vs := [_]) rfl Try.underlying22 (by kernel_rfl) rfl (by decide) (by decide) rfl rfl ?_)
      intro b39
      refine G.back (by repeat (first | exact Sub.nil | (apply Sub.cons; (repeat (first | with_reducible exact Sel.here | exact Sel.here | apply Sel.there))))) ?_
      refine G.oneT hT8 (i := 5) (rem' := 192) (by kernel_rfl) (by kernel_rfl) ?_
      refine G.turnOp rfl rfl (G.append (k := (numsS b c1.2 j).1.length) (j := 1) (cs := (numsS b c1.2 j).1.map vInt) (news := [vInt ((numS b 0 2147483647 5 (numsS b c1.2 j).2).1 : Int)]) (b := b39) (off := 0) rfl Try.underlying22 Try.infoInt' rfl rfl rfl (by repeat (first | with_reducible exact Sel.here | exact Sel.here | apply Sel.there)) (fun _ => rfl) (fun h => by cases h) rfl (blk_news (k := 1) (by repeat (first | with_reducible exact Sel.here | exact Sel.here | apply Sel.there)) rfl) (by intro u hu; obtain rfl : u = _ := (by simpa using hu); rfl) (by rw [lj]; omega) (by rw [lj]; omega) ?_)
      intro vn
      rw [numsS_app]
      refine G.ownFact (v := vn) (by repeat (first | with_reducible exact Sel.here | exact Sel.here | apply Sel.there)) (fun hvn _ => ?_)
      refine G.back (by repeat (first | exact Sub.nil | (apply Sub.cons; (repeat (first | with_reducible exact Sel.here | exact Sel.here | apply Sel.there))))) ?_
      refine G.takeT hT8 (i := 6) (rem' := 128) rfl rfl rfl (by kernel_rfl) (fun _ _ _ h => h) rfl (pv_fieldAddrK (sz := 0) (k := 1) Try.underlying26 rfl (by kernel_rfl) rfl rfl) (by repeat (first | exact Sub.nil | (apply Sub.cons; (repeat (first | with_reducible exact Sel.here | exact Sel.here | apply Sel.there))))) ?_
      refine G.oneT hT8 (i := 7) (rem' := 0) (by kernel_rfl) (by kernel_rfl) ?_
      refine G.turnOp rfl rfl (G.store (by kernel_rfl) rfl rfl (by first | rfl | with_reducible assumption) (by repeat (first | with_reducible exact Sel.here | exact Sel.here | apply Sel.there)) (by first | (simp; done) | exact Nat.le_of_ble_eq_true rfl) ?_)
      refine G.back (by repeat (first | exact Sub.nil | (apply Sub.cons; (repeat (first | with_reducible exact Sel.here | exact Sel.here | apply Sel.there))))) ?_
      refine G.overT hT8 (by kernel_rfl) ?_
      refine G.nBlock ?_
      refine G.nThen ?_
      refine G.region ?_
      refine G.op rfl (G.val rfl rfl (pv_move rfl) ?_)
      refine G.op rfl (G.val rfl rfl (pv_add64 rfl rfl (by omega)) ?_)
      refine G.op rfl (G.val rfl rfl (pv_assign rfl) ?_)
      refine G.nil ?_
      exact G.next ((j + 1, vn)) (by first | exact trivial | ((try dsimp only); exact by omega)) (by (try dsimp only); omega) (.consE rfl (by first | rfl | exact int_eq (by omega) | exact congrArg _ (by omega)) (.cons rfl (.cons rfl (.cons rfl (.cons rfl (.cons rfl (.cons rfl .nil))))))) (by repeat (first | exact Sub.nil | (apply Sub.cons; (repeat (first | with_reducible exact Sel.here | exact Sel.here | apply Sel.there)))))
    · refine G.turnOp rfl rfl (G.cS rfl rfl rfl rfl Try.func56 rfl rfl (by repeat (first | exact Sub.nil | (apply Sub.cons; (repeat (first | with_reducible exact Sel.here | exact Sel.here | apply Sel.there))))) (may1 (by first | exact .old (by first | with_reducible assumption | assumption) | exact Sel.may (by (repeat (first | with_reducible exact Sel.here | exact Sel.here | apply Sel.there)); done) | exact may_own (by (repeat (first | with_reducible exact Sel.here | exact Sel.here | apply Sel.there)); done) rfl (fun _ _ => trivial) | exact may_ownB (by (repeat (first | with_reducible exact Sel.here | exact Sel.here | apply Sel.there)); done) | exact may_ownI (by (repeat (first | with_reducible exact Sel.here | exact Sel.here | apply Sel.there)); done) (by assumption) | exact may_ownN (by (repeat (first | with_reducible exact Sel.here | exact Sel.here | apply Sel.there)); done) (by assumption))) (intR _ _ _ _ 0 2147483647 kj hb) (by repeat (first | exact Ap.nil | apply Ap.cons)) ?_)
      intro x38 hJ
      try dsimp only at hJ
      try dsimp only
      refine G.back (by repeat (first | exact Sub.nil | (apply Sub.cons; (repeat (first | with_reducible exact Sel.here | exact Sel.here | apply Sel.there))))) ?_
      refine G.twoT hT8 (i := 1) (j := 4) (rem' := 240) (rem'' := 226) (by kernel_rfl) (by kernel_rfl) (by kernel_rfl) ?_ ?_
      · refine G.turnOp rfl rfl (G.val rfl rfl (pv_load Try.underlying22 rfl rfl (by first | exact blk_cell (by (repeat (first | with_reducible exact Sel.here | exact Sel.here | apply Sel.there)); done) (by rfl) | exact rng_cell (by (repeat (first | with_reducible exact Sel.here | exact Sel.here | apply Sel.there)); done) (by rfl) | exact ro_blk (by assumption) (by rfl) | exact ro_rngC (by assumption) (by rfl) | exact ro_int (by assumption) | exact ro_byte (by assumption) | exact ro_str (by assumption) | with_reducible assumption | assumption)) ?_)
        refine G.back (by repeat (first | exact Sub.nil | (apply Sub.cons; (repeat (first | with_reducible exact Sel.here | exact Sel.here | apply Sel.there))))) ?_
        refine G.oneT hT8 (i := 4) (rem' := 224) (by kernel_rfl) (by kernel_rfl) ?_
        refine G.turnOp rfl rfl (G.lit1 (vs := [_]) rfl Try.underlying22 (by kernel_rfl) rfl (by decide) (by decide) rfl rfl ?_)
        intro b39
        refine G.back (by repeat (first | exact Sub.nil | (apply Sub.cons; (repeat (first | with_reducible exact Sel.here | exact Sel.here | apply Sel.there))))) ?_
        refine G.oneT hT8 (i := 5) (rem' := 192) (by kernel_rfl) (by kernel_rfl) ?_
        refine G.turnOp rfl rfl (G.append (k := (numsS b c1.2 j).1.length) (j := 1) (cs := (numsS b c1.2 j).1.map vInt) (news := [vInt ((numS b 0 2147483647 5 (numsS b c1.2 j).2).1 : Int)]) (b := b39) (off := 0) rfl Try.underlying22 Try.infoInt' rfl rfl rfl (by repeat (first | with_reducible exact Sel.here | exact Sel.here | apply Sel.there)) (fun _ => rfl) (fun h => by cases h) rfl (blk_news (k := 1) (by repeat (first | with_reducible exact Sel.here | exact Sel.here | apply Sel.there)) rfl) (by intro u hu; obtain rfl : u = _ := (by simpa using hu); rfl) (by rw [lj]; omega) (by rw [lj]; omega) ?_)
        intro vn
        rw [numsS_app]
        refine G.ownFact (v := vn) (by repeat (first | with_reducible exact Sel.here | exact Sel.here | apply Sel.there)) (fun hvn _ => ?_)
        refine G.back (by repeat (first | exact Sub.nil | (apply Sub.cons; (repeat (first | with_reducible exact Sel.here | exact Sel.here | apply Sel.there))))) ?_
        refine G.takeT hT8 (i := 6) (rem' := 128) rfl rfl rfl (by kernel_rfl) (fun _ _ _ h => h) rfl (pv_fieldAddrK (sz := 0) (k := 1) Try.underlying26 rfl (by kernel_rfl) rfl rfl) (by repeat (first | exact Sub.nil | (apply Sub.cons; (repeat (first | with_reducible exact Sel.here | exact Sel.here | apply Sel.there))))) ?_
        refine G.oneT hT8 (i := 7) (rem' := 0) (by kernel_rfl) (by kernel_rfl) ?_
        refine G.turnOp rfl rfl (G.store (by kernel_rfl) rfl rfl (by first | rfl | with_reducible assumption) (by repeat (first | with_reducible exact Sel.here | exact Sel.here | apply Sel.there)) (by first | (simp; done) | exact Nat.le_of_ble_eq_true rfl) ?_)
        refine G.back (by repeat (first | exact Sub.nil | (apply Sub.cons; (repeat (first | with_reducible exact Sel.here | exact Sel.here | apply Sel.there))))) ?_
        refine G.overT hT8 (by kernel_rfl) ?_
        refine G.nBlock ?_
        refine G.nThen ?_
        refine G.region ?_
        refine G.op rfl (G.val rfl rfl (pv_move rfl) ?_)
        refine G.op rfl (G.val rfl rfl (pv_add64 rfl rfl (by omega)) ?_)
        refine G.op rfl (G.val rfl rfl (pv_assign rfl) ?_)
        refine G.nil ?_
        exact G.next ((j + 1, vn)) (by first | exact trivial | ((try dsimp only); exact by omega)) (by (try dsimp only); omega) (.consE rfl (by first | rfl | exact int_eq (by omega) | exact congrArg _ (by omega)) (.cons rfl (.cons rfl (.cons rfl (.cons rfl (.cons rfl (.cons rfl .nil))))))) (by repeat (first | exact Sub.nil | (apply Sub.cons; (repeat (first | with_reducible exact Sel.here | exact Sel.here | apply Sel.there)))))
      · refine G.turnOp rfl rfl (G.lit1 (vs := [_]) rfl Try.underlying22 (by kernel_rfl) rfl (by decide) (by decide) rfl rfl ?_)
        intro b39
        refine G.back (by repeat (first | exact Sub.nil | (apply Sub.cons; (repeat (first | with_reducible exact Sel.here | exact Sel.here | apply Sel.there))))) ?_
        refine G.oneT hT8 (i := 1) (rem' := 224) (by kernel_rfl) (by kernel_rfl) ?_
        refine G.turnOp rfl rfl (G.val rfl rfl (pv_load Try.underlying22 rfl rfl (by first | exact blk_cell (by (repeat (first | with_reducible exact Sel.here | exact Sel.here | apply Sel.there)); done) (by rfl) | exact rng_cell (by (repeat (first | with_reducible exact Sel.here | exact Sel.here | apply Sel.there)); done) (by rfl) | exact ro_blk (by assumption) (by rfl) | exact ro_rngC (by assumption) (by rfl) | exact ro_int (by assumption) | exact ro_byte (by assumption) | exact ro_str (by assumption) | with_reducible assumption | assumption)) ?_)
        refine G.back (by repeat (first | exact Sub.nil | (apply Sub.cons; (repeat (first | with_reducible exact Sel.here | exact Sel.here | apply Sel.there))))) ?_
        refine G.oneT hT8 (i := 5) (rem' := 192) (by kernel_rfl) (by kernel_rfl) ?_
        refine G.turnOp rfl rfl (G.append (k := (numsS b c1.2 j).1.length) (j := 1) (cs := (numsS b c1.2 j).1.map vInt) (news := [vInt ((numS b 0 2147483647 5 (numsS b c1.2 j).2).1 : Int)]) (b := b39) (off := 0) rfl Try.underlying22 Try.infoInt' rfl rfl rfl (by repeat (first | with_reducible exact Sel.here | exact Sel.here | apply Sel.there)) (fun _ => rfl) (fun h => by cases h) rfl (blk_news (k := 1) (by repeat (first | with_reducible exact Sel.here | exact Sel.here | apply Sel.there)) rfl) (by intro u hu; obtain rfl : u = _ := (by simpa using hu); rfl) (by rw [lj]; omega) (by rw [lj]; omega) ?_)
        intro vn
        rw [numsS_app]
        refine G.ownFact (v := vn) (by repeat (first | with_reducible exact Sel.here | exact Sel.here | apply Sel.there)) (fun hvn _ => ?_)
        refine G.back (by repeat (first | exact Sub.nil | (apply Sub.cons; (repeat (first | with_reducible exact Sel.here | exact Sel.here | apply Sel.there))))) ?_
        refine G.takeT hT8 (i := 6) (rem' := 128) rfl rfl rfl (by kernel_rfl) (fun _ _ _ h => h) rfl (pv_fieldAddrK (sz := 0) (k := 1) Try.underlying26 rfl (by kernel_rfl) rfl rfl) (by repeat (first | exact Sub.nil | (apply Sub.cons; (repeat (first | with_reducible exact Sel.here | exact Sel.here | apply Sel.there))))) ?_
        refine G.oneT hT8 (i := 7) (rem' := 0) (by kernel_rfl) (by kernel_rfl) ?_
        refine G.turnOp rfl rfl (G.store (by kernel_rfl) rfl rfl (by first | rfl | with_reducible assumption) (by repeat (first | with_reducible exact Sel.here | exact Sel.here | apply Sel.there)) (by first | (simp; done) | exact Nat.le_of_ble_eq_true rfl) ?_)
        refine G.back (by repeat (first | exact Sub.nil | (apply Sub.cons; (repeat (first | with_reducible exact Sel.here | exact Sel.here | apply Sel.there))))) ?_
        refine G.overT hT8 (by kernel_rfl) ?_
        refine G.nBlock ?_
        refine G.nThen ?_
        refine G.region ?_
        refine G.op rfl (G.val rfl rfl (pv_move rfl) ?_)
        refine G.op rfl (G.val rfl rfl (pv_add64 rfl rfl (by omega)) ?_)
        refine G.op rfl (G.val rfl rfl (pv_assign rfl) ?_)
        refine G.nil ?_
        exact G.next ((j + 1, vn)) (by first | exact trivial | ((try dsimp only); exact by omega)) (by (try dsimp only); omega) (.consE rfl (by first | rfl | exact int_eq (by omega) | exact congrArg _ (by omega)) (.cons rfl (.cons rfl (.cons rfl (.cons rfl (.cons rfl (.cons rfl .nil))))))) (by repeat (first | exact Sub.nil | (apply Sub.cons; (repeat (first | with_reducible exact Sel.here | exact Sel.here | apply Sel.there)))))
  · refine G.ownFact (v := vN) (by repeat (first | with_reducible exact Sel.here | exact Sel.here | apply Sel.there)) (fun hvN _ => ?_)
    obtain rfl : j = c1.1 := by omega
    obtain ⟨n1, hn1⟩ : ∃ c, numsS b c1.2 c1.1 = c := ⟨_, rfl⟩
    rw [hn1]
    have k3 : okS b n1.2 := by rw [← hn1]; exact kj
    refine G.exit ?_
    refine G.eThen ?_
    refine G.eThen ?_
    refine G.eBlock ?_
    refine G.nThen ?_
    refine G.seq ?_
    refine G.region ?_
    refine G.op rfl (G.val rfl rfl (pv_move rfl) ?_)
    refine G.op rfl (G.val rfl rfl (pv_fieldAddrK (sz := 0) (k := 3) Try.underlying52 rfl (by kernel_rfl) rfl rfl) ?_)
    refine G.op rfl (G.val rfl rfl (pv_load Try.underlying3 rfl rfl (by first | exact blk_cell (by (repeat (first | with_reducible exact Sel.here | exact Sel.here | apply Sel.there)); done) (by rfl) | exact rng_cell (by (repeat (first | with_reducible exact Sel.here | exact Sel.here | apply Sel.there)); done) (by rfl) | exact ro_blk (by assumption) (by rfl) | exact ro_rngC (by assumption) (by rfl) | exact ro_int (by assumption) | exact ro_byte (by assumption) | exact ro_str (by assumption) | with_reducible assumption | assumption)) ?_)
    refine G.op rfl (G.val rfl rfl (pv_fieldAddrK (sz := 0) (k := 4) Try.underlying52 rfl (by kernel_rfl) rfl rfl) ?_)
    refine G.op rfl (G.val rfl rfl (pv_load Try.underlying3 rfl rfl (by first | exact blk_cell (by (repeat (first | with_reducible exact Sel.here | exact Sel.here | apply Sel.there)); done) (by rfl) | exact rng_cell (by (repeat (first | with_reducible exact Sel.here | exact Sel.here | apply Sel.there)); done) (by rfl) | exact ro_blk (by assumption) (by rfl) | exact ro_rngC (by assumption) (by rfl) | exact ro_int (by assumption) | exact ro_byte (by assumption) | exact ro_str (by assumption) | with_reducible assumption | assumption)) ?_)
    refine G.op rfl (G.cS rfl rfl rfl rfl Try.func57 rfl rfl (by repeat (first | exact Sub.nil | (apply Sub.cons; (repeat (first | with_reducible exact Sel.here | exact Sel.here | apply Sel.there))))) (may1 (by first | exact .old (by first | with_reducible assumption | assumption) | exact Sel.may (by (repeat (first | with_reducible exact Sel.here | exact Sel.here | apply Sel.there)); done) | exact may_own (by (repeat (first | with_reducible exact Sel.here | exact Sel.here | apply Sel.there)); done) rfl (fun _ _ => trivial) | exact may_ownB (by (repeat (first | with_reducible exact Sel.here | exact Sel.here | apply Sel.there)); done) | exact may_ownI (by (repeat (first | with_reducible exact Sel.here | exact Sel.here | apply Sel.there)); done) (by assumption) | exact may_ownN (by (repeat (first | with_reducible exact Sel.here | exact Sel.here | apply Sel.there)); done) (by assumption))) (cntR _ _ _ _ _ _ k3 hb) (by repeat (first | exact Ap.nil | apply Ap.cons)) ?_)
    intro x47 hJ
    try dsimp only at hJ
    try dsimp only
    obtain ⟨c2, hc2⟩ : ∃ c, cntS b sh.i sh.is n1.2 = c := ⟨_, rfl⟩
    rw [hc2]
    have k4 : okS b c2.2 := by rw [← hc2]; exact cntS_ok k3
    have z2 : c2.1 ≤ 2147483647 := by rw [← hc2]; exact cntS_small
    refine G.op rfl (G.val rfl rfl (pv_assign rfl) ?_)
    refine G.nil ?_
    refine G.nThen ?_
    refine G.seq ?_
    refine G.seq ?_
    refine G.region ?_
    refine G.op rfl (G.val rfl rfl (pv_assign rfl) ?_)
    refine G.nil ?_
    refine G.nThen ?_
    refine G.block ?_
    refine G.ownNil 49 16 ?_
    refine G.loopK (X := Nat × Value) (ts := [2, 3, 4, 5, 6, 8]) (fun st => st.1 ≤ c2.1) (fun st => [(10, .int .i64 (st.1 : Int))]) (fun st => [blk x14 87 [(.slice ad b.length cap), .int .i64 ((idsS b c2.2 st.1).2.a : Int), .int .i64 ((idsS b c2.2 st.1).2.e : Int), .int .i64 (idsS b c2.2 st.1).2.p], own 49 16 st.2 (idsS b c2.2 st.1).1.length (flatI (idsS b c2.2 st.1).1), blk b5 26 [.int .i64 (r1.1 : Int), vN, st.2, .slice none 0 0]]) (fun st => c2.1 - st.1) (x0 := (0, .slice none 0 0)) (.cons rfl (.cons rfl (.cons rfl (.cons rfl (.cons rfl (.cons rfl .nil)))))) (by repeat (first | exact Sub.nil | (apply Sub.cons; (repeat (first | with_reducible exact Sel.here | exact Sel.here | apply Sel.there))))) (.cons .nil) (by repeat (first | exact Ap.nil | apply Ap.cons)) (by first | exact trivial | ((try dsimp only); exact Nat.zero_le _)) (.consE rfl (by first | rfl | exact int_eq (by omega) | exact congrArg _ (by omega)) .nil) (fun st hJ => ?_)
    obtain ⟨q, vI⟩ := st
    try dsimp only at hJ
    try dsimp only
    have hkq := hJ
    have kq := idsS_ok k4 q
    have lq := idsS_len b c2.2 q
    have lid := idS_len b (idsS b c2.2 q).2
    refine G.seq ?_
    refine G.seq ?_
    refine G.region ?_
    refine G.op rfl (G.val rfl rfl (pv_move rfl) ?_)
    refine G.op rfl (G.val rfl rfl (pv_move rfl) ?_)
    refine G.op rfl (G.val rfl rfl (pv_lss rfl rfl) ?_)
    refine G.nil ?_
    refine G.nThen ?_
    refine G.condP rfl (fun h50 => ?_) (fun h50 => ?_)
    · refine G.skip ?_
      refine G.nThen ?_
      refine G.seq ?_
      refine G.block ?_
      refine G.drawT (nn := 8) (p := [blk x14 _ _, own 49 16 _ _ _, blk b5 _ _]) (rem := 255) [0, 1, 0, 4, 8, 26, 63, 127] [0, 1, 0, 4, 8, 18, 0, 96] (by kernel_rfl) ⟨rfl, by kernel_rfl, by kernel_rfl⟩ (by repeat (first | exact Sub.nil | (apply Sub.cons; (repeat (first | with_reducible exact Sel.here | exact Sel.here | apply Sel.there))))) (by kernel_rfl) (fun hT13 => ?_)
      refine G.takeT hT13 (i := 0) (rem' := 254) rfl rfl rfl (by kernel_rfl) (fun _ _ _ h => h) rfl (pv_fieldAddrK (sz := 0) (k := 2) Try.underlying26 rfl (by kernel_rfl) rfl rfl) (by repeat (first | exact Sub.nil | (apply Sub.cons; (repeat (first | with_reducible exact Sel.here | exact Sel.here | apply Sel.there))))) ?_
      refine G.takeT hT13 (i := 2) (rem' := 250) rfl rfl rfl (by kernel_rfl) (fun _ _ _ h => h) rfl (pv_move rfl) (by repeat (first | exact Sub.nil | (apply Sub.cons; (repeat (first | with_reducible exact Sel.here | exact Sel.here | apply Sel.there))))) ?_
      refine G.twoT hT13 (i := 1) (j := 3) (rem' := 248) (rem'' := 242) (by kernel_rfl) (by kernel_rfl) (by kernel_rfl) ?_ ?_
      · refine G.turnOp rfl rfl (G.val rfl rfl (pv_load Try.underlying23 rfl rfl (by first | exact blk_cell (by (repeat (first | with_reducible exact Sel.here | exact Sel.here | apply Sel.there)); done) (by rfl) | exact rng_cell (by (repeat (first | with_reducible exact Sel.here | exact Sel.here | apply Sel.there)); done) (by rfl) | exact ro_blk (by assumption) (by rfl) | exact ro_rngC (by assumption) (by rfl) | exact ro_int (by assumption) | exact ro_byte (by assumption) | exact ro_str (by assumption) | with_reducible assumption | assumption)) ?_)
        refine G.back (by repeat (first | exact Sub.nil | (apply Sub.cons; (repeat (first | with_reducible exact Sel.here | exact Sel.here | apply Sel.there))))) ?_
        refine G.oneT hT13 (i := 3) (rem' := 240) (by kernel_rfl) (by kernel_rfl) ?_
        refine G.turnOp rfl rfl (G.cS rfl rfl rfl rfl Try.func58 rfl rfl (by repeat (first | exact Sub.nil | (apply Sub.cons; (repeat (first | with_reducible exact Sel.here | exact Sel.here | apply Sel.there))))) (may1 (by first | exact .old (by first | with_reducible assumption | assumption) | exact Sel.may (by (repeat (first | with_reducible exact Sel.here | exact Sel.here | apply Sel.there)); done) | exact may_own (by (repeat (first | with_reducible exact Sel.here | exact Sel.here | apply Sel.there)); done) rfl (fun _ _ => trivial) | exact may_ownB (by (repeat (first | with_reducible exact Sel.here | exact Sel.here | apply Sel.there)); done) | exact may_ownI (by (repeat (first | with_reducible exact Sel.here | exact Sel.here | apply Sel.there)); done) (by assumption) | exact may_ownN (by (repeat (first | with_reducible exact Sel.here | exact Sel.here | apply Sel.there)); done) (by assumption))) (idRR _ _ _ _ kq hb) (by repeat (first | exact Ap.nil | apply Ap.cons)) ?_)
        intro x56 hJ
        try dsimp only at hJ
        try dsimp only
        refine G.back (by repeat (first | exact Sub.nil | (apply Sub.cons; (repeat (first | with_reducible exact Sel.here | exact Sel.here | apply Sel.there))))) ?_
        refine G.oneT hT13 (i := 4) (rem' := 224) (by kernel_rfl) (by kernel_rfl) ?_
        refine G.turnOp rfl rfl (G.buildSlice (sz := 16) (cs := (idS b (idsS b c2.2 q).2).1.map vByte) rfl Try.underlying23 Try.infoIDz (by decide) (by decide) rfl (fill16 _ (by rw [List.length_map, lid])) ?_)
        intro b57
        refine G.back (by repeat (first | exact Sub.nil | (apply Sub.cons; (repeat (first | with_reducible exact Sel.here | exact Sel.here | apply Sel.there))))) ?_
        refine G.oneT hT13 (i := 5) (rem' := 192) (by kernel_rfl) (by kernel_rfl) ?_
        refine G.turnOp rfl rfl (G.append (k := (idsS b c2.2 q).1.length) (j := 1) (cs := flatI (idsS b c2.2 q).1) (news := (idS b (idsS b c2.2 q).2).1.map vByte) (b := b57) (off := 0) rfl Try.underlying23 Try.infoID' rfl rfl rfl (by repeat (first | with_reducible exact Sel.here | exact Sel.here | apply Sel.there)) (fun _ => rfl) (fun h => by cases h) (by rw [List.length_map, lid]) (blk_news (k := 16) (by repeat (first | with_reducible exact Sel.here | exact Sel.here | apply Sel.there)) (List.take_of_length_le (by rw [List.drop_zero, List.length_map, lid]; exact Nat.le_refl _))) (vByte_one _) (by rw [lq]; omega) (by rw [lq]; omega) ?_)
        intro vi
        rw [idsS_app]
        refine G.ownFact (v := vi) (by repeat (first | with_reducible exact Sel.here | exact Sel.here | apply Sel.there)) (fun hvi _ => ?_)
        refine G.back (by repeat (first | exact Sub.nil | (apply Sub.cons; (repeat (first | with_reducible exact Sel.here | exact Sel.here | apply Sel.there))))) ?_
        refine G.takeT hT13 (i := 6) (rem' := 128) rfl rfl rfl (by kernel_rfl) (fun _ _ _ h => h) rfl (pv_fieldAddrK (sz := 0) (k := 2) Try.underlying26 rfl (by kernel_rfl) rfl rfl) (by repeat (first | exact Sub.nil | (apply Sub.cons; (repeat (first | with_reducible exact Sel.here | exact Sel.here | apply Sel.there))))) ?_
        refine G.oneT hT13 (i := 7) (rem' := 0) (by kernel_rfl) (by kernel_rfl) ?_
        refine G.turnOp rfl rfl (G.store (by kernel_rfl) rfl rfl (by first | rfl | with_reducible assumption) (by repeat (first | with_reducible exact Sel.here | exact Sel.here | apply Sel.there)) (by first | (simp; done) | exact Nat.le_of_ble_eq_true rfl) ?_)
        refine G.back (by repeat (first | exact Sub.nil | (apply Sub.cons; (repeat (first | with_reducible exact Sel.here | exact Sel.here | apply Sel.there))))) ?_
        refine G.overT hT13 (by kernel_rfl) ?_
        refine G.nBlock ?_
        refine G.nThen ?_
        refine G.region ?_
        refine G.op rfl (G.val rfl rfl (pv_move rfl) ?_)
        refine G.op rfl (G.val rfl rfl (pv_add64 rfl rfl (by omega)) ?_)
        refine G.op rfl (G.val rfl rfl (pv_assign rfl) ?_)
        refine G.nil ?_
        exact G.next ((q + 1, vi)) (by first | exact trivial | ((try dsimp only); exact by omega)) (by (try dsimp only); omega) (.consE rfl (by first | rfl | exact int_eq (by omega) | exact congrArg _ (by omega)) (.cons rfl (.cons rfl (.cons rfl (.cons rfl (.cons rfl (.cons rfl .nil))))))) (by repeat (first | exact Sub.nil | (apply Sub.cons; (repeat (first | with_reducible exact Sel.here | exact Sel.here | apply Sel.there)))))
      · refine G.turnOp rfl rfl (G.cS rfl rfl rfl rfl Try.func58 rfl rfl (by repeat (first | exact Sub.nil | (apply Sub.cons; (repeat (first | with_reducible exact Sel.here | exact Sel.here | apply Sel.there))))) (may1 (by first | exact .old (by first | with_reducible assumption | assumption) | exact Sel.may (by (repeat (first | with_reducible exact Sel.here | exact Sel.here | apply Sel.there)); done) | exact may_own (by (repeat (first | with_reducible exact Sel.here | exact Sel.here | apply Sel.there)); done) rfl (fun _ _ => trivial) | exact may_ownB (by (repeat (first | with_reducible exact Sel.here | exact Sel.here | apply Sel.there)); done) | exact may_ownI (by (repeat (first | with_reducible exact Sel.here | exact Sel.here | apply Sel.there)); done) (by assumption) | exact may_ownN (by (repeat (first | with_reducible exact Sel.here | exact Sel.here | apply Sel.there)); done) (by assumption))) (idRR _ _ _ _ kq hb) (by repeat (first | exact Ap.nil | apply Ap.cons)) ?_)
        intro x56 hJ
        try dsimp only at hJ
        try dsimp only
        refine G.back (by repeat (first | exact Sub.nil | (apply Sub.cons; (repeat (first | with_reducible exact Sel.here | exact Sel.here | apply Sel.there))))) ?_
        refine G.twoT hT13 (i := 1) (j := 4) (rem' := 240) (rem'' := 226) (by kernel_rfl) (by kernel_rfl) (by kernel_rfl) ?_ ?_
        · refine G.turnOp rfl rfl (G.val rfl rfl (pv_load Try.underlying23 rfl rfl (by first | exact blk_cell (by (repeat (first | with_reducible exact Sel.here | exact Sel.here | apply Sel.there)); done) (by rfl) | exact rng_cell (by (repeat (first | with_reducible exact Sel.here | exact Sel.here | apply Sel.there)); done) (by rfl) | exact ro_blk (by assumption) (by rfl) | exact ro_rngC (by assumption) (by rfl) | exact ro_int (by assumption) | exact ro_byte (by assumption) | exact ro_str (by assumption) | with_reducible assumption | assumption)) ?_)
          refine G.back (by repeat (first | exact Sub.nil | (apply Sub.cons; (repeat (first | with_reducible exact Sel.here | exact Sel.here | apply Sel.there))))) ?_
          refine G.oneT hT13 (i := 4) (rem' := 224) (by kernel_rfl) (by kernel_rfl) ?_
          refine G.turnOp rfl rfl (G.buildSlice (sz := 16) (cs := (idS b (idsS b c2.2 q).2).1.map vByte) rfl Try.underlying23 Try.infoIDz (by decide) (by decide) rfl (fill16 _ (by rw [List.length_map, lid])) ?_)
          intro b57
          refine G.back (by repeat (first | exact Sub.nil | (apply Sub.cons; (repeat (first | with_reducible exact Sel.here | exact Sel.here | apply Sel.there))))) ?_
          refine G.oneT hT13 (i := 5) (rem' := 192) (by kernel_rfl) (by kernel_rfl) ?_
          refine G.turnOp rfl rfl (G.append (k := (idsS b c2.2 q).1.length) (j := 1) (cs := flatI (idsS b c2.2 q).1) (news := (idS b (idsS b c2.2 q).2).1.map vByte) (b := b57) (off := 0) rfl Try.underlying23 Try.infoID' rfl rfl rfl (by repeat (first | with_reducible exact Sel.here | exact Sel.here | apply Sel.there)) (fun _ => rfl) (fun h => by cases h) (by rw [List.length_map, lid]) (blk_news (k := 16) (by repeat (first | with_reducible exact Sel.here | exact Sel.here | apply Sel.there)) (List.take_of_length_le (by rw [List.drop_zero, List.length_map, lid]; exact Nat.le_refl _))) (vByte_one _) (by rw [lq]; omega) (by rw [lq]; omega) ?_)
          intro vi
          rw [idsS_app]
          refine G.ownFact (v := vi) (by repeat (first | with_reducible exact Sel.here | exact Sel.here | apply Sel.there)) (fun hvi _ => ?_)
          refine G.back (by repeat (first | exact Sub.nil | (apply Sub.cons; (repeat (first | with_reducible exact Sel.here | exact Sel.here | apply Sel.there))))) ?_
          refine G.takeT hT13 (i := 6) (rem' := 128) rfl rfl rfl (by kernel_rfl) (fun _ _ _ h => h) rfl (pv_fieldAddrK (sz := 0) (k := 2) Try.underlying26 rfl (by kernel_rfl) rfl rfl) (by repeat (first | exact Sub.nil | (apply Sub.cons; (repeat (first | with_reducible exact Sel.here | exact Sel.here | apply Sel.there))))) ?_
          refine G.oneT hT13 (i := 7) (rem' := 0) (by kernel_rfl) (by kernel_rfl) ?_
          refine G.turnOp rfl rfl (G.store (by kernel_rfl) rfl rfl (by first | rfl | with_reducible assumption) (by repeat (first | with_reducible exact Sel.here | exact Sel.here | apply Sel.there)) (by first | (simp; done) | exact Nat.le_of_ble_eq_true rfl) ?_)
          refine G.back (by repeat (first | exact Sub.nil | (apply Sub.cons; (repeat (first | with_reducible exact Sel.here | exact Sel.here | apply Sel.there))))) ?_
          refine G.overT hT13 (by kernel_rfl) ?_
          refine G.nBlock ?_
          refine G.nThen ?_
          refine G.region ?_
          refine G.op rfl (G.val rfl rfl (pv_move rfl) ?_)
          refine G.op rfl (G.val rfl rfl (pv_add64 rfl rfl (by omega)) ?_)
          refine G.op rfl (G.val rfl rfl (pv_assign rfl) ?_)
          refine G.nil ?_
          exact G.next ((q + 1, vi)) (by first | exact trivial | ((try dsimp only); exact by omega)) (by (try dsimp only); omega) (.consE rfl (by first | rfl | exact int_eq (by omega) | exact congrArg _ (by omega)) (.cons rfl (.cons rfl (.cons rfl (.cons rfl (.cons rfl (.cons rfl .nil))))))) (by repeat (first | exact Sub.nil | (apply Sub.cons; (repeat (first | with_reducible exact Sel.here | exact Sel.here | apply Sel.there)))))
        · refine G.turnOp rfl rfl (G.buildSlice (sz := 16) (cs := (idS b (idsS b c2.2 q).2).1.map vByte) rfl Try.underlying23 Try.infoIDz (by decide) (by decide) rfl (fill16 _ (by rw [List.length_map, lid])) ?_)
          intro b57
          refine G.back (by repeat (first | exact Sub.nil | (apply Sub.cons; (repeat (first | with_reducible exact Sel.here | exact Sel.here | apply Sel.there))))) ?_
          refine G.oneT hT13 (i := 1) (rem' := 224) (by kernel_rfl) (by kernel_rfl) ?_
          refine G.turnOp rfl rfl (G.val rfl rfl (pv_load Try.underlying23 rfl rfl (by first | exact blk_cell (by (repeat (first | with_reducible exact Sel.here | exact Sel.here | apply Sel.there)); done) (by rfl) | exact rng_cell (by (repeat (first | with_reducible exact Sel.here | exact Sel.here | apply Sel.there)); done) (by rfl) | exact ro_blk (by assumption) (by rfl) | exact ro_rngC (by assumption) (by rfl) | exact ro_int (by assumption) | exact ro_byte (by assumption) | exact ro_str (by assumption) | with_reducible assumption | assumption)) ?_)
          refine G.back (by repeat (first | exact Sub.nil | (apply Sub.cons; (repeat (first | with_reducible exact Sel.here | exact Sel.here | apply Sel.there))))) ?_
          refine G.oneT hT13 (i := 5) (rem' := 192) (by kernel_rfl) (by kernel_rfl) ?_
          refine G.turnOp rfl rfl (G.append (k := (idsS b c2.2 q).1.length) (j := 1) (cs := flatI (idsS b c2.2 q).1) (news := (idS b (idsS b c2.2 q).2).1.map vByte) (b := b57) (off := 0) rfl Try.underlying23 Try.infoID' rfl rfl rfl (by repeat (first | with_reducible exact Sel.here | exact Sel.here | apply Sel.there)) (fun _ => rfl) (fun h => by cases h) (by rw [List.length_map, lid]) (blk_news (k := 16) (by repeat (first | with_reducible exact Sel.here | exact Sel.here | apply Sel.there)) (List.take_of_length_le (by rw [List.drop_zero, List.length_map, lid]; exact Nat.le_refl _))) (vByte_one _) (by rw [lq]; omega) (by rw [lq]; omega) ?_)
          intro vi
          rw [idsS_app]
          refine G.ownFact (v := vi) (by repeat (first | with_reducible exact Sel.here | exact Sel.here | apply Sel.there)) (fun hvi _ => ?_)
          refine G.back (by repeat (first | exact Sub.nil | (apply Sub.cons; (repeat (first | with_reducible exact Sel.here | exact Sel.here | apply Sel.there))))) ?_
          refine G.takeT hT13 (i := 6) (rem' := 128) rfl rfl rfl (by kernel_rfl) (fun _ _ _ h => h) rfl (pv_fieldAddrK (sz := 0) (k := 2) Try.underlying26 rfl (by kernel_rfl) rfl rfl) (by repeat (first | exact Sub.nil | (apply Sub.cons; (repeat (first | with_reducible exact Sel.here | exact Sel.here | apply Sel.there))))) ?_
          refine G.oneT hT13 (i := 7) (rem' := 0) (by kernel_rfl) (by kernel_rfl) ?_
          refine G.turnOp rfl rfl (G.store (by kernel_rfl) rfl rfl (by first | rfl | with_reducible assumption) (by repeat (first | with_reducible exact Sel.here | exact Sel.here | apply Sel.there)) (by first | (simp; done) | exact Nat.le_of_ble_eq_true rfl) ?_)
          refine G.back (by repeat (first | exact Sub.nil | (apply Sub.cons; (repeat (first | with_reducible exact Sel.here | exact Sel.here | apply Sel.there))))) ?_
          refine G.overT hT13 (by kernel_rfl) ?_
          refine G.nBlock ?_
          refine G.nThen ?_
          refine G.region ?_
          refine G.op rfl (G.val rfl rfl (pv_move rfl) ?_)
          refine G.op rfl (G.val rfl rfl (pv_add64 rfl rfl (by omega)) ?_)
          refine G.op rfl (G.val rfl rfl (pv_assign rfl) ?_)
          refine G.nil ?_
          exact G.next ((q + 1, vi)) (by first | exact trivial | ((try dsimp only); exact by omega)) (by (try dsimp only); omega) (.consE rfl (by first | rfl | exact int_eq (by omega) | exact congrArg _ (by omega)) (.cons rfl (.cons rfl (.cons rfl (.cons rfl (.cons rfl (.cons rfl .nil))))))) (by repeat (first | exact Sub.nil | (apply Sub.cons; (repeat (first | with_reducible exact Sel.here | exact Sel.here | apply Sel.there)))))
    · refine G.ownFact (v := vI) (by repeat (first | with_reducible exact Sel.here | exact Sel.here | apply Sel.there)) (fun hvI _ => ?_)
      obtain rfl : q = c2.1 := by omega
      obtain ⟨n2, hn2⟩ : ∃ c, idsS b c2.2 c2.1 = c := ⟨_, rfl⟩
      rw [hn2]
      have k5 : okS b n2.2 := by rw [← hn2]; exact kq
      refine G.exit ?_
      refine G.eThen ?_
      refine G.eThen ?_
      refine G.eBlock ?_
      refine G.nThen ?_
      refine G.seq ?_
      refine G.region ?_
      refine G.op rfl (G.val rfl rfl (pv_move rfl) ?_)
      refine G.op rfl (G.val rfl rfl (pv_nilCheck rfl) ?_)
      refine G.op rfl (G.val rfl rfl (pv_fieldAddrK (sz := 0) (k := 1) Try.underlying87 rfl (by kernel_rfl) rfl rfl) ?_)
      refine G.op rfl (G.val rfl rfl (pv_load Try.underlying3 rfl rfl (by first | exact blk_cell (by (repeat (first | with_reducible exact Sel.here | exact Sel.here | apply Sel.there)); done) (by rfl) | exact rng_cell (by (repeat (first | with_reducible exact Sel.here | exact Sel.here | apply Sel.there)); done) (by rfl) | exact ro_blk (by assumption) (by rfl) | exact ro_rngC (by assumption) (by rfl) | exact ro_int (by assumption) | exact ro_byte (by assumption) | exact ro_str (by assumption) | with_reducible assumption | assumption)) ?_)
      refine G.op rfl (G.val rfl rfl (pv_assign rfl) ?_)
      refine G.nil ?_
      refine G.nThen ?_
      refine G.seq ?_
      refine G.region ?_
      refine G.op rfl (G.val rfl rfl (pv_move rfl) ?_)
      refine G.op rfl (G.val rfl rfl (pv_fieldAddrK (sz := 0) (k := 6) Try.underlying52 rfl (by kernel_rfl) rfl rfl) ?_)
      refine G.op rfl (G.val rfl rfl (pv_load Try.underlying3 rfl rfl (by first | exact blk_cell (by (repeat (first | with_reducible exact Sel.here | exact Sel.here | apply Sel.there)); done) (by rfl) | exact rng_cell (by (repeat (first | with_reducible exact Sel.here | exact Sel.here | apply Sel.there)); done) (by rfl) | exact ro_blk (by assumption) (by rfl) | exact ro_rngC (by assumption) (by rfl) | exact ro_int (by assumption) | exact ro_byte (by assumption) | exact ro_str (by assumption) | with_reducible assumption | assumption)) ?_)
      refine G.op rfl (G.cS rfl rfl rfl rfl Try.func59 rfl rfl (by repeat (first | exact Sub.nil | (apply Sub.cons; (repeat (first | with_reducible exact Sel.here | exact Sel.here | apply Sel.there))))) (may1 (by first | exact .old (by first | with_reducible assumption | assumption) | exact Sel.may (by (repeat (first | with_reducible exact Sel.here | exact Sel.here | apply Sel.there)); done) | exact may_own (by (repeat (first | with_reducible exact Sel.here | exact Sel.here | apply Sel.there)); done) rfl (fun _ _ => trivial) | exact may_ownB (by (repeat (first | with_reducible exact Sel.here | exact Sel.here | apply Sel.there)); done) | exact may_ownI (by (repeat (first | with_reducible exact Sel.here | exact Sel.here | apply Sel.there)); done) (by assumption) | exact may_ownN (by (repeat (first | with_reducible exact Sel.here | exact Sel.here | apply Sel.there)); done) (by assumption))) (bytesR _ _ _ _ _ k5 hb) (by repeat (first | exact Ap.nil | apply Ap.cons)) ?_)
      intro x67 hJ
      try dsimp only at hJ
      try dsimp only
      obtain ⟨y, hy⟩ : ∃ c, bytS b sh.bs n2.2 = c := ⟨_, rfl⟩
      rw [hy]
      refine G.ownOpen (v := x67) (by repeat (first | with_reducible exact Sel.here | exact Sel.here | apply Sel.there)) (fun a6 c6 hx6 hc6 hm6 => ?_)
      subst hx6
      have hread : readM b = finM b r1.1 n1.1 n2.1 y.1 (least7 sh y n2.2) := by unfold readM tnM tiM tbM; rw [hr1, hsh, hc1, hn1, hc2, hn2, hy]
      refine G.op rfl (G.val rfl rfl (pv_fieldAddrK (sz := 0) (k := 3) Try.underlying26 rfl (by kernel_rfl) rfl rfl) ?_)
      refine G.op rfl (G.store (by kernel_rfl) rfl rfl (by first | rfl | with_reducible assumption) (by repeat (first | with_reducible exact Sel.here | exact Sel.here | apply Sel.there)) (by first | (simp; done) | exact Nat.le_of_ble_eq_true rfl) ?_)
      refine G.nil ?_
      refine G.nThen ?_
      refine G.seq ?_
      refine G.cutK (X := Rs) (ts := [2, 3, 4, 5]) (p := [blk x14 _ _]) (fun s7 => s7 = least7 sh y n2.2) (fun s7 => []) (fun s7 => [blk x14 87 [(.slice ad b.length cap), .int .i64 (s7.a : Int), .int .i64 (s7.e : Int), .int .i64 s7.p]]) (.cons rfl (.cons rfl (.cons rfl (.cons rfl .nil)))) (by repeat (first | exact Sub.nil | (apply Sub.cons; (repeat (first | with_reducible exact Sel.here | exact Sel.here | apply Sel.there))))) Ap.nil (by repeat (first | exact Ap.nil | apply Ap.cons)) ?_ ?_
      · refine G.seq ?_
        refine G.region ?_
        refine G.op rfl (G.val rfl rfl (pv_move rfl) ?_)
        refine G.op rfl (G.val rfl rfl (pv_nilCheck rfl) ?_)
        refine G.op rfl (G.val rfl rfl (pv_fieldAddrK (sz := 1) (k := 2) Try.underlying87 rfl (by kernel_rfl) rfl rfl) ?_)
        refine G.op rfl (G.val rfl rfl (pv_fieldAddrK (sz := 0) (k := 0) Try.underlying39 rfl (by kernel_rfl) rfl rfl) ?_)
        refine G.op rfl (G.val rfl rfl (pv_load Try.underlying29 rfl rfl (by first | exact blk_cell (by (repeat (first | with_reducible exact Sel.here | exact Sel.here | apply Sel.there)); done) (by rfl) | exact rng_cell (by (repeat (first | with_reducible exact Sel.here | exact Sel.here | apply Sel.there)); done) (by rfl) | exact ro_blk (by assumption) (by rfl) | exact ro_rngC (by assumption) (by rfl) | exact ro_int (by assumption) | exact ro_byte (by assumption) | exact ro_str (by assumption) | with_reducible assumption | assumption)) ?_)
        refine G.op rfl (G.val rfl rfl (pv_eql rfl rfl) ?_)
        refine G.op rfl (G.val rfl rfl (pv_move rfl) ?_)
        refine G.partP (t := 75) rfl (fun h75 => ?_) (fun h75 => ?_)
        · refine G.want rfl rfl rfl (G.val rfl rfl (pv_fieldAddrK (sz := 0) (k := 3) Try.underlying26 rfl (by kernel_rfl) rfl rfl) ?_)
          refine G.want rfl rfl rfl (G.val rfl rfl (pv_load Try.underlying24 rfl rfl (by first | exact blk_cell (by (repeat (first | with_reducible exact Sel.here | exact Sel.here | apply Sel.there)); done) (by rfl) | exact rng_cell (by (repeat (first | with_reducible exact Sel.here | exact Sel.here | apply Sel.there)); done) (by rfl) | exact ro_blk (by assumption) (by rfl) | exact ro_rngC (by assumption) (by rfl) | exact ro_int (by assumption) | exact ro_byte (by assumption) | exact ro_str (by assumption) | with_reducible assumption | assumption)) ?_)
          refine G.want rfl rfl rfl (G.val rfl rfl (pv_lenSl Try.underlying24 rfl) ?_)
          refine G.want rfl rfl rfl (G.val rfl rfl (pv_fieldAddrK (sz := 0) (k := 5) Try.underlying52 rfl (by kernel_rfl) rfl rfl) ?_)
          refine G.want rfl rfl rfl (G.val rfl rfl (pv_load Try.underlying3 rfl rfl (by first | exact blk_cell (by (repeat (first | with_reducible exact Sel.here | exact Sel.here | apply Sel.there)); done) (by rfl) | exact rng_cell (by (repeat (first | with_reducible exact Sel.here | exact Sel.here | apply Sel.there)); done) (by rfl) | exact ro_blk (by assumption) (by rfl) | exact ro_rngC (by assumption) (by rfl) | exact ro_int (by assumption) | exact ro_byte (by assumption) | exact ro_str (by assumption) | with_reducible assumption | assumption)) ?_)
          refine G.want rfl rfl rfl (G.val rfl rfl (pv_lss rfl rfl) ?_)
          refine G.op rfl (G.val rfl rfl (pv_pick rfl rfl) ?_)
          refine G.nil ?_
          refine G.nThen ?_
          refine G.condP rfl (fun h82 => ?_) (fun h82 => ?_)
          · refine G.region ?_
            refine G.op rfl (G.val rfl rfl (pv_move rfl) ?_)
            refine G.op rfl (G.val rfl rfl (pv_move rfl) ?_)
            refine G.op rfl (G.val rfl rfl (pv_buildSt (z := [.int .i64 0, .int .i64 0]) (pl := [(0, 1), (1, 1)]) Try.underlying39 (by kernel_rfl) (by kernel_rfl) rfl (by repeat (first | exact Fl.nil | (apply Fl.cons; exact rfl; (first | exact cells_of (by first | rfl | with_reducible assumption) | exact rfl); exact rfl; exact rfl; repeat (first | exact Sn.nil | (apply Sn.cons; repeat (first | exact St.zero | apply St.succ))))))) ?_)
            refine G.op rfl (G.val rfl rfl (pv_nilCheck rfl) ?_)
            refine G.op rfl (G.val rfl rfl (pv_fieldAddrK (sz := 1) (k := 2) Try.underlying87 rfl (by kernel_rfl) rfl rfl) ?_)
            refine G.op rfl (G.storeN (by kernel_rfl) rfl rfl (by first | exact (all1_cons (by first | rfl | with_reducible assumption) (all1_cons (by first | rfl | with_reducible assumption) all1_nil)) | exact List.all_eq_true.2 (vByte_one _) | rfl) (by repeat (first | with_reducible exact Sel.here | exact Sel.here | apply Sel.there)) (by first | (simp; done) | exact Nat.le_of_ble_eq_true rfl) ?_)
            refine G.nil ?_
            exact G.meet (⟨y.2.a, 5, n2.2.a⟩) (by first | exact trivial | ((try dsimp only); exact (if_pos (by omega)).symm)) (.cons rfl (.cons rfl (.cons rfl (.cons rfl .nil)))) (by repeat (first | exact Sub.nil | (apply Sub.cons; (repeat (first | with_reducible exact Sel.here | exact Sel.here | apply Sel.there)))))
          · refine G.skip ?_
            exact G.meet (y.2) (by first | exact trivial | ((try dsimp only); exact (if_neg (by omega)).symm)) (.cons rfl (.cons rfl (.cons rfl (.cons rfl .nil)))) (by repeat (first | exact Sub.nil | (apply Sub.cons; (repeat (first | with_reducible exact Sel.here | exact Sel.here | apply Sel.there)))))
        · refine G.pass rfl rfl rfl rfl rfl rfl ?_
          refine G.pass rfl rfl rfl rfl rfl rfl ?_
          refine G.pass rfl rfl rfl rfl rfl rfl ?_
          refine G.pass rfl rfl rfl rfl rfl rfl ?_
          refine G.pass rfl rfl rfl rfl rfl rfl ?_
          refine G.pass rfl rfl rfl rfl rfl rfl ?_
          refine G.op rfl (G.val rfl rfl (pv_pick rfl rfl) ?_)
          refine G.nil ?_
          refine G.nThen ?_
          refine G.condF rfl (rfl) ?_
          refine G.skip ?_
          exact G.meet (y.2) (by first | exact trivial | ((try dsimp only); exact (if_neg (by omega)).symm)) (.cons rfl (.cons rfl (.cons rfl (.cons rfl .nil)))) (by repeat (first | exact Sub.nil | (apply Sub.cons; (repeat (first | with_reducible exact Sel.here | exact Sel.here | apply Sel.there)))))
      · intro s7 hJ
        try dsimp only at hJ
        try dsimp only
        rw [← hJ] at hread
        refine G.seq ?_
        refine G.region ?_
        refine G.op rfl (G.val rfl rfl (pv_move rfl) ?_)
        refine G.op rfl (G.cR rfl rfl rfl rfl Try.func60 rfl rfl (may2 (by first | exact .old (by first | with_reducible assumption | assumption) | exact Sel.may (by (repeat (first | with_reducible exact Sel.here | exact Sel.here | apply Sel.there)); done) | exact may_own (by (repeat (first | with_reducible exact Sel.here | exact Sel.here | apply Sel.there)); done) rfl (fun _ _ => trivial) | exact may_ownB (by (repeat (first | with_reducible exact Sel.here | exact Sel.here | apply Sel.there)); done) | exact may_ownI (by (repeat (first | with_reducible exact Sel.here | exact Sel.here | apply Sel.there)); done) (by assumption) | exact may_ownN (by (repeat (first | with_reducible exact Sel.here | exact Sel.here | apply Sel.there)); done) (by assumption)) (by first | exact .old (by first | with_reducible assumption | assumption) | exact Sel.may (by (repeat (first | with_reducible exact Sel.here | exact Sel.here | apply Sel.there)); done) | exact may_own (by (repeat (first | with_reducible exact Sel.here | exact Sel.here | apply Sel.there)); done) rfl (fun _ _ => trivial) | exact may_ownB (by (repeat (first | with_reducible exact Sel.here | exact Sel.here | apply Sel.there)); done) | exact may_ownI (by (repeat (first | with_reducible exact Sel.here | exact Sel.here | apply Sel.there)); done) (by assumption) | exact may_ownN (by (repeat (first | with_reducible exact Sel.here | exact Sel.here | apply Sel.there)); done) (by assumption))) (endR _ _ _ _) ?_)
        refine G.op rfl (G.alloc (z := .agg #[.int .i64 0, .int .i64 0]) (cs := [.int .i64 0, .int .i64 0]) rfl (by kernel_rfl) rfl ?_)
        intro b12
        refine G.op rfl (G.storeN (by kernel_rfl) rfl rfl (by first | exact (all1_cons (by first | rfl | with_reducible assumption) (all1_cons (by first | rfl | with_reducible assumption) all1_nil)) | exact List.all_eq_true.2 (vByte_one _) | rfl) (by repeat (first | with_reducible exact Sel.here | exact Sel.here | apply Sel.there)) (by first | (simp; done) | exact Nat.le_of_ble_eq_true rfl) ?_)
        refine G.nil ?_
        refine G.nThen ?_
        refine G.seq ?_
        refine G.seq ?_
        refine G.region ?_
        refine G.op rfl (G.val rfl rfl (pv_fieldAddrK (sz := 0) (k := 0) Try.underlying39 rfl (by kernel_rfl) rfl rfl) ?_)
        refine G.op rfl (G.val rfl rfl (pv_load Try.underlying29 rfl rfl (by first | exact blk_cell (by (repeat (first | with_reducible exact Sel.here | exact Sel.here | apply Sel.there)); done) (by rfl) | exact rng_cell (by (repeat (first | with_reducible exact Sel.here | exact Sel.here | apply Sel.there)); done) (by rfl) | exact ro_blk (by assumption) (by rfl) | exact ro_rngC (by assumption) (by rfl) | exact ro_int (by assumption) | exact ro_byte (by assumption) | exact ro_str (by assumption) | with_reducible assumption | assumption)) ?_)
        refine G.op rfl (G.val rfl rfl (pv_neq rfl rfl) ?_)
        refine G.nil ?_
        refine G.nThen ?_
        refine G.condP rfl (fun h92 => ?_) (fun h92 => ?_)
        · have hz : readM b = (nt0, endS b s7) := hread.trans (if_pos (by omega))
          refine G.seq ?_
          refine G.drawT (nn := 4) (p := [blk b2 _ _, blk b3 _ _]) (rem := 15) [0, 0, 1, 7] [0, 0, 1, 2] (by kernel_rfl) ⟨rfl, by kernel_rfl, by kernel_rfl⟩ (by repeat (first | exact Sub.nil | (apply Sub.cons; (repeat (first | with_reducible exact Sel.here | exact Sel.here | apply Sel.there))))) (by kernel_rfl) (fun hT20 => ?_)
          refine G.takeT hT20 (i := 0) (rem' := 14) rfl rfl rfl (by kernel_rfl) (fun _ _ _ h => h) rfl (pv_buildSt (z := [.int .i64 0, .slice none 0 0, .slice none 0 0, .slice none 0 0]) (pl := [(0, 1), (1, 1), (2, 1), (3, 1)]) Try.underlying26 (by kernel_rfl) (by kernel_rfl) rfl (by repeat (first | exact Fl.nil | (apply Fl.cons; exact rfl; (first | exact cells_of (by first | rfl | with_reducible assumption) | exact rfl); exact rfl; exact rfl; repeat (first | exact Sn.nil | (apply Sn.cons; repeat (first | exact St.zero | apply St.succ))))))) (by repeat (first | exact Sub.nil | (apply Sub.cons; (repeat (first | with_reducible exact Sel.here | exact Sel.here | apply Sel.there))))) ?_
          refine G.takeT hT20 (i := 1) (rem' := 12) rfl rfl rfl (by kernel_rfl) (fun _ _ _ h => h) rfl (pv_loadN (cs := [_, _]) Try.underlying39 rfl (by kernel_rfl) rfl (by first | exact blk_range (k := 2) (by (repeat (first | with_reducible exact Sel.here | exact Sel.here | apply Sel.there)); done) (by rfl) | exact rng_range (k := 2) (by (repeat (first | with_reducible exact Sel.here | exact Sel.here | apply Sel.there)); done) (by rfl) | exact ro_range (k := 2) (by assumption) (by rfl) | exact ro_rngR (k := 2) (by assumption) (by rfl))) (by repeat (first | exact Sub.nil | (apply Sub.cons; (repeat (first | with_reducible exact Sel.here | exact Sel.here | apply Sel.there))))) ?_
          refine G.oneT hT20 (i := 2) (rem' := 8) (by kernel_rfl) (by kernel_rfl) ?_
          refine G.turnOp rfl rfl (G.storeN (by kernel_rfl) rfl rfl (by first | exact (all1_cons (by first | rfl | with_reducible assumption) (all1_cons (by first | rfl | with_reducible assumption) (all1_cons (by first | rfl | with_reducible assumption) (all1_cons (by first | rfl | with_reducible assumption) all1_nil)))) | exact List.all_eq_true.2 (vByte_one _) | rfl) (by repeat (first | with_reducible exact Sel.here | exact Sel.here | apply Sel.there)) (by first | (simp; done) | exact Nat.le_of_ble_eq_true rfl) ?_)
          refine G.back (by repeat (first | exact Sub.nil | (apply Sub.cons; (repeat (first | with_reducible exact Sel.here | exact Sel.here | apply Sel.there))))) ?_
          refine G.oneT hT20 (i := 3) (rem' := 0) (by kernel_rfl) (by kernel_rfl) ?_
          refine G.turnOp rfl rfl (G.storeN (by kernel_rfl) rfl rfl (by first | exact (all1_cons (by first | rfl | with_reducible assumption) (all1_cons (by first | rfl | with_reducible assumption) all1_nil)) | exact List.all_eq_true.2 (vByte_one _) | rfl) (by repeat (first | with_reducible exact Sel.here | exact Sel.here | apply Sel.there)) (by first | (simp; done) | exact Nat.le_of_ble_eq_true rfl) ?_)
          refine G.back (by repeat (first | exact Sub.nil | (apply Sub.cons; (repeat (first | with_reducible exact Sel.here | exact Sel.here | apply Sel.there))))) ?_
          refine G.overT hT20 (by kernel_rfl) ?_
          refine G.nThen ?_
          refine G.ret ?_
          refine G.rThen ?_
          rw [hz]
          refine G.ownNil 3 1 ?_
          refine G.ownNil 49 16 ?_
          refine G.ownNil 5 1 ?_
          exact G.doneG ((.slice none 0 0, .slice none 0 0, .slice none 0 0)) (by first | exact trivial | ((try dsimp only); exact trivial)) rfl (Rv.cellN (cs := [_, _, _, _]) rfl Try.underlying26 rfl (by kernel_rfl) (by first | exact blk_range (k := 4) (by (repeat (first | with_reducible exact Sel.here | exact Sel.here | apply Sel.there)); done) (by rfl)) (Rv.cellN (cs := [_, _]) rfl Try.underlying39 rfl (by kernel_rfl) (by first | exact blk_range (k := 2) (by (repeat (first | with_reducible exact Sel.here | exact Sel.here | apply Sel.there)); done) (by rfl)) Rv.nil)) (by first | rfl | exact int_eq (by omega) | (simp; done)) (by repeat (first | exact Sub.nil | (apply Sub.cons; (repeat (first | with_reducible exact Sel.here | exact Sel.here | apply Sel.there)))))
        · have hz : readM b = (⟨r1.1, n1.1, n2.1, y.1⟩, endS b s7) := hread.trans (if_neg (by omega))
          refine G.skip ?_
          refine G.nThen ?_
          refine G.seq ?_
          refine G.drawT (nn := 4) (p := [blk b2 _ _, blk b3 _ _]) (rem := 15) [0, 0, 1, 7] [0, 0, 1, 2] (by kernel_rfl) ⟨rfl, by kernel_rfl, by kernel_rfl⟩ (by repeat (first | exact Sub.nil | (apply Sub.cons; (repeat (first | with_reducible exact Sel.here | exact Sel.here | apply Sel.there))))) (by kernel_rfl) (fun hT21 => ?_)
          refine G.takeT hT21 (i := 0) (rem' := 14) rfl rfl rfl (by kernel_rfl) (fun _ _ _ h => h) rfl (pv_loadN (cs := [_, _, _, _]) Try.underlying26 rfl (by kernel_rfl) rfl (by first | exact blk_range (k := 4) (by (repeat (first | with_reducible exact Sel.here | exact Sel.here | apply Sel.there)); done) (by rfl) | exact rng_range (k := 4) (by (repeat (first | with_reducible exact Sel.here | exact Sel.here | apply Sel.there)); done) (by rfl) | exact ro_range (k := 4) (by assumption) (by rfl) | exact ro_rngR (k := 4) (by assumption) (by rfl))) (by repeat (first | exact Sub.nil | (apply Sub.cons; (repeat (first | with_reducible exact Sel.here | exact Sel.here | apply Sel.there))))) ?_
          refine G.takeT hT21 (i := 1) (rem' := 12) rfl rfl rfl (by kernel_rfl) (fun _ _ _ h => h) rfl (pv_loadN (cs := [_, _]) Try.underlying39 rfl (by kernel_rfl) rfl (by first | exact blk_range (k := 2) (by (repeat (first | with_reducible exact Sel.here | exact Sel.here | apply Sel.there)); done) (by rfl) | exact rng_range (k := 2) (by (repeat (first | with_reducible exact Sel.here | exact Sel.here | apply Sel.there)); done) (by rfl) | exact ro_range (k := 2) (by assumption) (by rfl) | exact ro_rngR (k := 2) (by assumption) (by rfl))) (by repeat (first | exact Sub.nil | (apply Sub.cons; (repeat (first | with_reducible exact Sel.here | exact Sel.here | apply Sel.there))))) ?_
          refine G.oneT hT21 (i := 2) (rem' := 8) (by kernel_rfl) (by kernel_rfl) ?_
          refine G.turnOp rfl rfl (G.storeN (by kernel_rfl) rfl rfl (by first | exact (all1_cons (by first | rfl | with_reducible assumption) (all1_cons (by first | rfl | with_reducible assumption) (all1_cons (by first | rfl | with_reducible assumption) (all1_cons (by first | rfl | with_reducible assumption) all1_nil)))) | exact List.all_eq_true.2 (vByte_one _) | rfl) (by repeat (first | with_reducible exact Sel.here | exact Sel.here | apply Sel.there)) (by first | (simp; done) | exact Nat.le_of_ble_eq_true rfl) ?_)
          refine G.back (by repeat (first | exact Sub.nil | (apply Sub.cons; (repeat (first | with_reducible exact Sel.here | exact Sel.here | apply Sel.there))))) ?_
          refine G.oneT hT21 (i := 3) (rem' := 0) (by kernel_rfl) (by kernel_rfl) ?_
          refine G.turnOp rfl rfl (G.storeN (by kernel_rfl) rfl rfl (by first | exact (all1_cons (by first | rfl | with_reducible assumption) (all1_cons (by first | rfl | with_reducible assumption) all1_nil)) | exact List.all_eq_true.2 (vByte_one _) | rfl) (by repeat (first | with_reducible exact Sel.here | exact Sel.here | apply Sel.there)) (by first | (simp; done) | exact Nat.le_of_ble_eq_true rfl) ?_)
          refine G.back (by repeat (first | exact Sub.nil | (apply Sub.cons; (repeat (first | with_reducible exact Sel.here | exact Sel.here | apply Sel.there))))) ?_
          refine G.overT hT21 (by kernel_rfl) ?_
          refine G.nThen ?_
          refine G.ret ?_
          rw [hz]
          exact G.doneG ((vN, vI, .slice a6 y.1.length c6)) (by first | exact trivial | ((try dsimp only); exact trivial)) rfl (Rv.cellN (cs := [_, _, _, _]) rfl Try.underlying26 rfl (by kernel_rfl) (by first | exact blk_range (k := 4) (by (repeat (first | with_reducible exact Sel.here | exact Sel.here | apply Sel.there)); done) (by rfl)) (Rv.cellN (cs := [_, _]) rfl Try.underlying39 rfl (by kernel_rfl) (by first | exact blk_range (k := 2) (by (repeat (first | with_reducible exact Sel.here | exact Sel.here | apply Sel.there)); done) (by rfl)) Rv.nil)) (by first | rfl | exact int_eq (by omega) | (simp; done)) (by repeat (first | exact Sub.nil | (apply Sub.cons; (repeat (first | with_reducible exact Sel.here | exact Sel.here | apply Sel.there)))))
end Go.Proofs.Ytakcffhknnailaa
