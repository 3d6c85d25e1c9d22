/- Contracts of layer 10: what is wrong with a note, and its bytes, of the program and of the reference. Conditions: lists lie in memory. -/
import Derived.Test.YtakcffhknnailaaNE
import Derived.Test.YtakcffhknnailaaFQ
set_option linter.unusedVariables false
set_option linter.unusedSimpArgs false
namespace Go.Proofs.Ytakcffhknnailaa
open Go.RowKit

def okN (x : Int) : Bool := decide (0 ≤ x ∧ x ≤ 2147483647)
def checkS (s : Sh) (ns : List Int) (il bl : Nat) : Int := if (¬ (s.n ≤ (ns.length : Int) ∧ (ns.length : Int) ≤ s.ns) ∨ ¬ (s.i ≤ (il : Int) ∧ (il : Int) ≤ s.is)) ∨ ¬ (s.b ≤ (bl : Int) ∧ (bl : Int) ≤ s.bs) then 5 else if ns.all okN = true then 0 else 5
def checkM (k : Int) (ns : List Int) (il bl : Nat) : Int := match shM k with
  | none => 2
  | some s => checkS s ns il bl
theorem checkS_bad {s : Sh} {ns : List Int} {il bl : Nat} (h : (¬ (s.n ≤ (ns.length : Int) ∧ (ns.length : Int) ≤ s.ns) ∨ ¬ (s.i ≤ (il : Int) ∧ (il : Int) ≤ s.is)) ∨ ¬ (s.b ≤ (bl : Int) ∧ (bl : Int) ≤ s.bs)) : Value.int .i64 5 = .int .i64 (checkS s ns il bl) := congrArg _ (if_pos h).symm
theorem checkS_num {s : Sh} {ns : List Int} {il bl : Nat} (h : ¬ ((¬ (s.n ≤ (ns.length : Int) ∧ (ns.length : Int) ≤ s.ns) ∨ ¬ (s.i ≤ (il : Int) ∧ (il : Int) ≤ s.is)) ∨ ¬ (s.b ≤ (bl : Int) ∧ (bl : Int) ≤ s.bs))) {k : Nat} (hk : k < ns.length) (hb : ns[k] < 0 ∨ 2147483647 < ns[k]) : Value.int .i64 5 = .int .i64 (checkS s ns il bl) := by
  unfold checkS
  rw [if_neg h, if_neg]
  intro ha
  have := List.all_eq_true.1 ha ns[k] (List.getElem_mem hk)
  have := of_decide_eq_true this
  omega
theorem checkS_ok {s : Sh} {ns : List Int} {il bl : Nat} (h : ¬ ((¬ (s.n ≤ (ns.length : Int) ∧ (ns.length : Int) ≤ s.ns) ∨ ¬ (s.i ≤ (il : Int) ∧ (il : Int) ≤ s.is)) ∨ ¬ (s.b ≤ (bl : Int) ∧ (bl : Int) ≤ s.bs))) {k : Nat} (ha : (ns.take k).all okN = true) (hk : ns.length ≤ k) : Value.int .i64 0 = .int .i64 (checkS s ns il bl) := by
  unfold checkS
  rw [List.take_of_length_le hk] at ha
  rw [if_neg h, if_pos ha]
theorem all_next {ns : List Int} {k : Nat} (ha : (ns.take k).all okN = true) (hk : k < ns.length) (h0 : ¬ ns[k] < 0) (h1 : ¬ 2147483647 < ns[k]) : (ns.take (k + 1)).all okN = true := by
  rw [List.take_succ_eq_append_getElem hk, List.all_append, ha]
  have : okN ns[k] = true := decide_eq_true ⟨by omega, by omega⟩
  simp [this]
theorem checkM_ok {k : Int} {ns : List Int} {il bl : Nat} (h : checkM k ns il bl = 0) : 1 ≤ k ∧ k ≤ 24 ∧ (∀ x ∈ ns, 0 ≤ x ∧ x ≤ 2147483647) ∧ ns.length ≤ 128 ∧ il ≤ 16 ∧ bl ≤ 1024 := by
  unfold checkM at h
  split at h
  · cases h
  · rename_i s hs
    obtain ⟨h1, h2, h3⟩ := shM_in hs
    have hok := shOk h3
    unfold checkS at h
    split at h
    · cases h
    · rename_i hn
      split at h
      · rename_i ha
        refine ⟨h1, h2, fun x hx => of_decide_eq_true (List.all_eq_true.1 ha x hx), ?_, ?_, ?_⟩ <;> omega
      · cases h
/-- a note's bytes -/
def fN (ns : List Int) (k : Nat) : List UInt8 := (ns.take k).flatMap putM
def fI (ids : List (List UInt8)) (k : Nat) : List UInt8 := (ids.take k).flatten
def hdN (k : Int) (ns : List Int) : List UInt8 := [] ++ putM k ++ putM (ns.length : Int)
def hdI (k : Int) (ns : List Int) (ids : List (List UInt8)) : List UInt8 := hdN k ns ++ fN ns ns.length ++ putM (ids.length : Int)
def noteB (k : Int) (ns : List Int) (ids : List (List UInt8)) (bs : List UInt8) : List UInt8 := hdI k ns ids ++ fI ids ids.length ++ bytesM bs
theorem fN_zero (h : List UInt8) (ns : List Int) : h ++ fN ns 0 = h := by simp [fN]
theorem fI_zero (h : List UInt8) (ids : List (List UInt8)) : h ++ fI ids 0 = h := by simp [fI]
theorem fN_app (h : List UInt8) {ns : List Int} {k : Nat} (hk : k < ns.length) : h ++ fN ns k ++ putM ns[k] = h ++ fN ns (k + 1) := by
  unfold fN
  rw [List.take_succ_eq_append_getElem hk, List.flatMap_append, List.append_assoc]
  simp
theorem fI_app (h : List UInt8) {ids : List (List UInt8)} {k : Nat} (hk : k < ids.length) : h ++ fI ids k ++ ids[k] = h ++ fI ids (k + 1) := by
  unfold fI
  rw [List.take_succ_eq_append_getElem hk, List.flatten_append, List.append_assoc]
  simp
theorem fN_len (ns : List Int) (k : Nat) : (fN ns k).length ≤ 5 * k := by
  unfold fN
  have : ∀ l : List Int, (l.flatMap putM).length ≤ 5 * l.length := by
    intro l
    induction l with
    | nil => exact Nat.zero_le _
    | cons x l ih =>
      rw [List.flatMap_cons, List.length_append, putM_length, List.length_cons]
      have := sizeM_le x
      omega
  have h1 := this (ns.take k)
  rw [List.length_take] at h1
  omega
theorem fI_len {ids : List (List UInt8)} (h : all16 ids) (k : Nat) : (fI ids k).length ≤ 16 * k := by
  unfold fI
  have : ∀ l : List (List UInt8), all16 l → l.flatten.length ≤ 16 * l.length := by
    intro l
    induction l with
    | nil => intro _; exact Nat.zero_le _
    | cons x l ih =>
      intro hl
      rw [List.flatten_cons, List.length_append, hl.cons.1, List.length_cons]
      have := ih hl.cons.2
      omega
  have h1 := this (ids.take k) fun x hx => h x (List.mem_of_mem_take hx)
  rw [List.length_take] at h1
  omega
theorem hdN_len (k : Int) (ns : List Int) : (hdN k ns).length ≤ 10 := by
  unfold hdN
  have h1 := sizeM_le k
  have h2 := sizeM_le (ns.length : Int)
  simp only [List.length_append, List.length_nil, putM_length]
  omega
theorem hdI_len (k : Int) (ns : List Int) (ids : List (List UInt8)) : (hdI k ns ids).length ≤ 15 + 5 * ns.length := by
  unfold hdI
  have h1 := hdN_len k ns
  have h2 := fN_len ns ns.length
  have h3 := sizeM_le (ids.length : Int)
  simp only [List.length_append, putM_length]
  omega
theorem bytesM_len (bs : List UInt8) : (bytesM bs).length ≤ 5 + bs.length := by
  unfold bytesM
  have := sizeM_le (bs.length : Int)
  simp only [List.length_append, putM_length]
  omega
theorem noteB_len {k : Int} {ns : List Int} {ids : List (List UInt8)} {bs : List UInt8} (h : all16 ids) : (noteB k ns ids bs).length ≤ 20 + 5 * ns.length + 16 * ids.length + bs.length := by
  unfold noteB
  have h1 := hdI_len k ns ids
  have h2 := fI_len h ids.length
  have h3 := bytesM_len bs
  simp only [List.length_append]
  omega
theorem good0 {x : Int} (h : 0 ≤ x ∧ x ≤ 2147483647) : (false || decide (sizeM x = 0)) = false := by
  have := sizeM_ok h.1 h.2
  rw [Bool.false_or]
  exact decide_eq_false (by omega)
theorem wintF (D : Nat) (v : Value) (bs : List UInt8) (x : Int) (hx : 0 ≤ x ∧ x ≤ 2147483647) (hb : bs.length ≤ 1000000000) : Tr Try.prog 34 #[.pointer (some ⟨D, 0, none⟩), .int .i64 x] [] [blk D 90 [.bool true, .bool false, v], own 5 1 v bs.length (bs.map vByte)]
    (TX (fun _ : Value => True) (fun _ => .tuple #[]) (fun v => [blk D 90 [.bool true, .bool false, v], own 5 1 v (bs ++ putM x).length ((bs ++ putM x).map vByte)])) := by
  have := wint_any D false v bs x hb
  rwa [good0 hx] at this
theorem wbytesF (D : Nat) (v u : Value) (bs b : List UInt8) {Pu : Nat → Prop} (hb : bs.length ≤ 900000000) (hl : b.length ≤ 10000000) : Tr Try.prog 36 #[.pointer (some ⟨D, 0, none⟩), u] [slc rByte Pu u b] [blk D 90 [.bool true, .bool false, v], own 5 1 v bs.length (bs.map vByte)]
    (TX (fun _ : Value => True) (fun _ => .tuple #[]) (fun v => [blk D 90 [.bool true, .bool false, v], own 5 1 v (bs ++ bytesM b).length ((bs ++ bytesM b).map vByte)])) := by
  have := wbytes_tr D false v u bs b (Pu := Pu) hb hl
  rwa [good0 ⟨by omega, by omega⟩] at this
theorem wintR (D : Nat) (v : Value) (bs : List UInt8) (x : Int) (hx : 0 ≤ x ∧ x ≤ 2147483647) (hb : bs.length ≤ 1000000000) : Tr Try.prog 38 #[.pointer (some ⟨D, 0, none⟩), .int .i64 x] [] [blk D 65 [v, .bool false], own 5 1 v bs.length (bs.map vByte)]
    (TX (fun _ : Value => True) (fun _ => .tuple #[]) (fun v => [blk D 65 [v, .bool false], own 5 1 v (bs ++ putM x).length ((bs ++ putM x).map vByte)])) := by
  have := wintR_any D false v bs x hb
  rwa [good0 hx] at this
theorem wbytesR (D : Nat) (v u : Value) (bs b : List UInt8) {Pu : Nat → Prop} (hb : bs.length ≤ 900000000) (hl : b.length ≤ 10000000) : Tr Try.prog 40 #[.pointer (some ⟨D, 0, none⟩), u] [slc rByte Pu u b] [blk D 65 [v, .bool false], own 5 1 v bs.length (bs.map vByte)]
    (TX (fun _ : Value => True) (fun _ => .tuple #[]) (fun v => [blk D 65 [v, .bool false], own 5 1 v (bs ++ bytesM b).length ((bs ++ bytesM b).map vByte)])) := by
  have := wbytesR_tr D false v u bs b (Pu := Pu) hb hl
  rwa [good0 ⟨by omega, by omega⟩] at this
set_option maxRecDepth 20000 in

theorem checkNF {Pv1 Pv2 Pv3 : Nat → Prop} (k : Int) (v1 v2 v3 : Value) (ns : List Int) (ids : List (List UInt8)) (bs : List UInt8) (h : shM k = none) : Tr Try.prog 16 #[.agg #[.int .i64 k, v1, v2, v3]] [slc rInt Pv1 v1 ns, slc rID Pv2 v2 ids, slc rByte Pv3 v3 bs] [] (T0 (.int .i64 2)) := by
  refine Tr.of (l := [(0, .agg #[.int .i64 k, v1, v2, v3])]) Try.func16 rfl (n := 56) rfl (.cons rfl .nil) (fun w0 hro => ?_)
  obtain ⟨hA, hB, hC⟩ := ro3 hro
  have oa := Ro.open hA
  have ob := Ro.open hB
  have oc := Ro.open hC
  obtain ⟨aa, ca, qa, oa', rfl, hca, hma, -, had, hel⟩ := oa
  obtain ⟨ab, cb, qb, ob', rfl, hcb, hmb, -, hbd, hbl⟩ := ob
  obtain ⟨ac, cc, qc, oc', rfl, -⟩ := oc
  refine G.seq ?_
  refine G.region ?_
  refine G.op rfl (G.box rfl rfl (cs := [_, _, _, _]) rfl ?_)
  intro b1
  refine G.op rfl (G.val rfl rfl (pv_assign rfl) ?_)
  refine G.nil ?_
  refine G.nThen ?_
  refine G.seq ?_
  refine G.region ?_
  refine G.op rfl (G.val rfl rfl (pv_fieldAddrK (sz := 0) (k := 0) Try.underlying26 rfl (by kernel_rfl) rfl rfl) ?_)
  refine G.op rfl (G.val rfl rfl (pv_load Try.underlying3 rfl rfl (by first | exact blk_cell (by (repeat (first | with_reducible exact Sel.here | exact Sel.here | apply Sel.there)); done) (by rfl) | exact rng_cell (by (repeat (first | with_reducible exact Sel.here | exact Sel.here | apply Sel.there)); done) (by rfl) | exact ro_blk (by assumption) (by rfl) | exact ro_rngC (by assumption) (by rfl) | exact ro_int (by assumption) | exact ro_byte (by assumption) | exact ro_str (by assumption) | assumption)) ?_)
  refine G.op rfl (G.cR rfl rfl rfl rfl Try.func42 rfl rfl may0 (shaped_none _ h) ?_)
  refine G.op rfl (G.val rfl rfl (pv_assign rfl) ?_)
  refine G.nil ?_
  refine G.nThen ?_
  refine G.seq ?_
  refine G.seq ?_
  refine G.region ?_
  refine G.op rfl (G.val rfl rfl (pv_move rfl) ?_)
  refine G.op rfl (G.val rfl rfl (pv_eqlP0 Try.underlying66 rfl rfl) ?_)
  refine G.nil ?_
  refine G.nThen ?_
  refine G.condT rfl (rfl) ?_
  refine G.seq ?_
  refine G.region ?_
  refine G.op rfl (G.val rfl rfl (pv_assign rfl) ?_)
  refine G.nil ?_
  refine G.nThen ?_
  refine G.ret ?_
  refine G.rThen ?_
  exact G.done0G rfl (Rv.tmp rfl Rv.nil) (by first | rfl | exact int_eq (by omega) | (simp; done))
set_option maxRecDepth 20000 in

theorem checkNR {Pv1 Pv2 Pv3 : Nat → Prop} (k : Int) (v1 v2 v3 : Value) (ns : List Int) (ids : List (List UInt8)) (bs : List UInt8) (h : shM k = none) : Tr Try.prog 17 #[.agg #[.int .i64 k, v1, v2, v3]] [slc rInt Pv1 v1 ns, slc rID Pv2 v2 ids, slc rByte Pv3 v3 bs] [] (T0 (.int .i64 2)) := by
  refine Tr.of (l := [(0, .agg #[.int .i64 k, v1, v2, v3])]) Try.func17 rfl (n := 59) rfl (.cons rfl .nil) (fun w0 hro => ?_)
  obtain ⟨hA, hB, hC⟩ := ro3 hro
  have oa := Ro.open hA
  have ob := Ro.open hB
  have oc := Ro.open hC
  obtain ⟨aa, ca, qa, oa', rfl, hca, hma, -, had, hel⟩ := oa
  obtain ⟨ab, cb, qb, ob', rfl, hcb, hmb, -, hbd, hbl⟩ := ob
  obtain ⟨ac, cc, qc, oc', rfl, -⟩ := oc
  refine G.seq ?_
  refine G.region ?_
  refine G.op rfl (G.box rfl rfl (cs := [_, _, _, _]) rfl ?_)
  intro b1
  refine G.op rfl (G.val rfl rfl (pv_assign rfl) ?_)
  refine G.nil ?_
  refine G.nThen ?_
  refine G.seq ?_
  refine G.region ?_
  refine G.op rfl (G.val rfl rfl (pv_fieldAddrK (sz := 0) (k := 0) Try.underlying26 rfl (by kernel_rfl) rfl rfl) ?_)
  refine G.op rfl (G.val rfl rfl (pv_load Try.underlying3 rfl rfl (by first | exact blk_cell (by (repeat (first | with_reducible exact Sel.here | exact Sel.here | apply Sel.there)); done) (by rfl) | exact rng_cell (by (repeat (first | with_reducible exact Sel.here | exact Sel.here | apply Sel.there)); done) (by rfl) | exact ro_blk (by assumption) (by rfl) | exact ro_rngC (by assumption) (by rfl) | exact ro_int (by assumption) | exact ro_byte (by assumption) | exact ro_str (by assumption) | assumption)) ?_)
  refine G.op rfl (G.cR rfl rfl rfl rfl Try.func29 rfl rfl may0 (ofR_none _ h) ?_)
  refine G.op rfl (G.val rfl rfl (pv_move rfl) ?_)
  refine G.op rfl (G.val rfl rfl (pv_extract rfl rfl) ?_)
  refine G.op rfl (G.val rfl rfl (pv_extract rfl rfl) ?_)
  refine G.op rfl (G.alloc (z := .agg #[.string ⟨#[]⟩, .int .i64 0, .int .i64 0, .int .i64 0, .int .i64 0, .int .i64 0, .int .i64 0]) (cs := [.string ⟨#[]⟩, .int .i64 0, .int .i64 0, .int .i64 0, .int .i64 0, .int .i64 0, .int .i64 0]) rfl (by kernel_rfl) rfl ?_)
  intro b3
  refine G.op rfl (G.storeN (by kernel_rfl) rfl rfl (by first | rfl | exact List.all_eq_true.2 (vByte_one _) | (repeat (first | exact all1_nil | (apply all1_cons; first | rfl | assumption)))) (by repeat (first | with_reducible exact Sel.here | exact Sel.here | apply Sel.there)) (by first | (simp; done) | exact Nat.le_of_ble_eq_true rfl) ?_)
  refine G.op rfl (G.val rfl rfl (pv_assign rfl) ?_)
  refine G.nil ?_
  refine G.nThen ?_
  refine G.seq ?_
  refine G.seq ?_
  refine G.region ?_
  refine G.op rfl (G.val rfl rfl (pv_move rfl) ?_)
  refine G.op rfl (G.val rfl rfl (pv_not rfl) ?_)
  refine G.nil ?_
  refine G.nThen ?_
  refine G.condT rfl (rfl) ?_
  refine G.seq ?_
  refine G.region ?_
  refine G.op rfl (G.val rfl rfl (pv_assign rfl) ?_)
  refine G.nil ?_
  refine G.nThen ?_
  refine G.ret ?_
  refine G.rThen ?_
  exact G.done0G rfl (Rv.tmp rfl Rv.nil) (by first | rfl | exact int_eq (by omega) | (simp; done))
set_option maxRecDepth 20000 in

theorem checkSF {Pv1 Pv2 Pv3 : Nat → Prop} (k : Int) (v1 v2 v3 : Value) (ns : List Int) (ids : List (List UInt8)) (bs : List UInt8) (s : Sh) (h : shM k = some s) : Tr Try.prog 16 #[.agg #[.int .i64 k, v1, v2, v3]] [slc rInt Pv1 v1 ns, slc rID Pv2 v2 ids, slc rByte Pv3 v3 bs] [] (T0 (.int .i64 (checkS s ns ids.length bs.length))) := by
  refine Tr.of (l := [(0, .agg #[.int .i64 k, v1, v2, v3])]) Try.func16 rfl (n := 56) rfl (.cons rfl .nil) (fun w0 hro => ?_)
  obtain ⟨hA, hB, hC⟩ := ro3 hro
  have oa := Ro.open hA
  have ob := Ro.open hB
  have oc := Ro.open hC
  obtain ⟨aa, ca, qa, oa', rfl, hca, hma, -, had, hel⟩ := oa
  obtain ⟨ab, cb, qb, ob', rfl, hcb, hmb, -, hbd, hbl⟩ := ob
  obtain ⟨ac, cc, qc, oc', rfl, -⟩ := oc
  refine G.seq ?_
  refine G.region ?_
  refine G.op rfl (G.box rfl rfl (cs := [_, _, _, _]) rfl ?_)
  intro b1
  refine G.op rfl (G.val rfl rfl (pv_assign rfl) ?_)
  refine G.nil ?_
  refine G.nThen ?_
  refine G.seq ?_
  refine G.region ?_
  refine G.op rfl (G.val rfl rfl (pv_fieldAddrK (sz := 0) (k := 0) Try.underlying26 rfl (by kernel_rfl) rfl rfl) ?_)
  refine G.op rfl (G.val rfl rfl (pv_load Try.underlying3 rfl rfl (by first | exact blk_cell (by (repeat (first | with_reducible exact Sel.here | exact Sel.here | apply Sel.there)); done) (by rfl) | exact rng_cell (by (repeat (first | with_reducible exact Sel.here | exact Sel.here | apply Sel.there)); done) (by rfl) | exact ro_blk (by assumption) (by rfl) | exact ro_rngC (by assumption) (by rfl) | exact ro_int (by assumption) | exact ro_byte (by assumption) | exact ro_str (by assumption) | assumption)) ?_)
  refine G.op rfl (G.cS rfl rfl rfl rfl Try.func42 rfl rfl (by repeat (first | exact Sub.nil | (apply Sub.cons; (repeat (first | with_reducible exact Sel.here | exact Sel.here | apply Sel.there))))) may0 (shaped_some _ _ h) (by repeat (first | exact Ap.nil | apply Ap.cons)) ?_)
  intro x8 hJ
  obtain ⟨bS, oS⟩ := x8
  try dsimp only at hJ
  try dsimp only
  refine G.op rfl (G.val rfl rfl (pv_assign rfl) ?_)
  refine G.nil ?_
  refine G.nThen ?_
  refine G.seq ?_
  refine G.seq ?_
  refine G.region ?_
  refine G.op rfl (G.val rfl rfl (pv_move rfl) ?_)
  refine G.op rfl (G.val rfl rfl (pv_eqlP0 Try.underlying66 rfl rfl) ?_)
  refine G.nil ?_
  refine G.nThen ?_
  refine G.condF rfl (rfl) ?_
  refine G.skip ?_
  refine G.nThen ?_
  refine G.seq ?_
  refine G.seq ?_
  refine G.drawT (nn := 31) (p := []) (rem := 2147483647) [0, 1, 2, 4, 0, 16, 32, 72, 128, 384, 512, 1536, 2560, 4608, 512, 16896, 33280, 74240, 131584, 262656, 655360, 1048576, 3145728, 5242880, 9437184, 1048576, 34603008, 68157440, 152043520, 269484032, 537919488] [0, 1, 2, 4, 0, 16, 32, 72, 128, 256, 512, 1536, 2560, 4608, 512, 16896, 33280, 74240, 131584, 262656, 524288, 1048576, 3145728, 5242880, 9437184, 1048576, 34603008, 68157440, 152043520, 269484032, 537919488] (by kernel_rfl) ⟨rfl, by kernel_rfl, by kernel_rfl⟩ (by repeat (first | exact Sub.nil | (apply Sub.cons; (repeat (first | with_reducible exact Sel.here | exact Sel.here | apply Sel.there))))) (by kernel_rfl) (fun hT4 => ?_)
  refine G.takeT hT4 (i := 0) (rem' := 2147483646) rfl rfl rfl (by kernel_rfl) (fun _ _ _ h => h) rfl (pv_move rfl) (by repeat (first | exact Sub.nil | (apply Sub.cons; (repeat (first | with_reducible exact Sel.here | exact Sel.here | apply Sel.there))))) ?_
  refine G.takeT hT4 (i := 1) (rem' := 2147483644) rfl rfl rfl (by kernel_rfl) (fun _ _ _ h => h) rfl (pv_nilCheck rfl) (by repeat (first | exact Sub.nil | (apply Sub.cons; (repeat (first | with_reducible exact Sel.here | exact Sel.here | apply Sel.there))))) ?_
  refine G.takeT hT4 (i := 2) (rem' := 2147483640) rfl rfl rfl (by kernel_rfl) (fun _ _ _ h => h) rfl (pv_fieldAddrK (sz := 1) (k := 1) Try.underlying71 rfl (by kernel_rfl) rfl rfl) (by repeat (first | exact Sub.nil | (apply Sub.cons; (repeat (first | with_reducible exact Sel.here | exact Sel.here | apply Sel.there))))) ?_
  refine G.takeT hT4 (i := 4) (rem' := 2147483624) rfl rfl rfl (by kernel_rfl) (fun _ _ _ h => h) rfl (pv_fieldAddrK (sz := 0) (k := 1) Try.underlying26 rfl (by kernel_rfl) rfl rfl) (by repeat (first | exact Sub.nil | (apply Sub.cons; (repeat (first | with_reducible exact Sel.here | exact Sel.here | apply Sel.there))))) ?_
  refine G.takeT hT4 (i := 3) (rem' := 2147483616) rfl rfl rfl (by kernel_rfl) (fun _ _ _ h => h) rfl (pv_loadN (cs := [_, _]) Try.underlying69 rfl (by kernel_rfl) rfl (by first | exact blk_range (k := 2) (by (repeat (first | with_reducible exact Sel.here | exact Sel.here | apply Sel.there)); done) (by rfl) | exact rng_range (k := 2) (by (repeat (first | with_reducible exact Sel.here | exact Sel.here | apply Sel.there)); done) (by rfl) | exact ro_range (k := 2) (by assumption) (by rfl) | exact ro_rngR (k := 2) (by assumption) (by rfl))) (by repeat (first | exact Sub.nil | (apply Sub.cons; (repeat (first | with_reducible exact Sel.here | exact Sel.here | apply Sel.there))))) ?_
  refine G.oneT hT4 (i := 5) (rem' := 2147483584) (by kernel_rfl) (by kernel_rfl) ?_
  refine G.turnOp rfl rfl (G.val rfl rfl (pv_load Try.underlying22 rfl rfl (by first | exact blk_cell (by (repeat (first | with_reducible exact Sel.here | exact Sel.here | apply Sel.there)); done) (by rfl) | exact rng_cell (by (repeat (first | with_reducible exact Sel.here | exact Sel.here | apply Sel.there)); done) (by rfl) | exact ro_blk (by assumption) (by rfl) | exact ro_rngC (by assumption) (by rfl) | exact ro_int (by assumption) | exact ro_byte (by assumption) | exact ro_str (by assumption) | assumption)) ?_)
  refine G.back (by repeat (first | exact Sub.nil | (apply Sub.cons; (repeat (first | with_reducible exact Sel.here | exact Sel.here | apply Sel.there))))) ?_
  refine G.takeT hT4 (i := 6) (rem' := 2147483520) rfl rfl rfl (by kernel_rfl) (fun _ _ _ h => h) rfl (pv_lenSl Try.underlying22 rfl) (by repeat (first | exact Sub.nil | (apply Sub.cons; (repeat (first | with_reducible exact Sel.here | exact Sel.here | apply Sel.there))))) ?_
  refine G.oneT hT4 (i := 7) (rem' := 2147483392) (by kernel_rfl) (by kernel_rfl) ?_
  refine G.turnOp rfl rfl (G.cR rfl rfl rfl rfl Try.func43 rfl rfl may0 (has_tr _ _ _) ?_)
  refine G.back (by repeat (first | exact Sub.nil | (apply Sub.cons; (repeat (first | with_reducible exact Sel.here | exact Sel.here | apply Sel.there))))) ?_
  refine G.takeT hT4 (i := 8) (rem' := 2147483136) rfl rfl rfl (by kernel_rfl) (fun _ _ _ h => h) rfl (pv_notP rfl) (by repeat (first | exact Sub.nil | (apply Sub.cons; (repeat (first | with_reducible exact Sel.here | exact Sel.here | apply Sel.there))))) ?_
  refine G.takeT hT4 (i := 9) (rem' := 2147482624) rfl rfl rfl (by kernel_rfl) (fun _ _ _ h => h) rfl (pv_move rfl) (by repeat (first | exact Sub.nil | (apply Sub.cons; (repeat (first | with_reducible exact Sel.here | exact Sel.here | apply Sel.there))))) ?_
  refine G.partP (t := 20) rfl (fun h20 => ?_) (fun h20 => ?_)
  · refine G.takeFT hT4 (i := 10) (rem' := 2147481600) rfl rfl rfl (by kernel_rfl) (fun _ _ _ h => h) rfl (by repeat (first | exact Sub.nil | (apply Sub.cons; (repeat (first | with_reducible exact Sel.here | exact Sel.here | apply Sel.there))))) ?_
    refine G.takeFT hT4 (i := 11) (rem' := 2147479552) rfl rfl rfl (by kernel_rfl) (fun _ _ _ h => h) rfl (by repeat (first | exact Sub.nil | (apply Sub.cons; (repeat (first | with_reducible exact Sel.here | exact Sel.here | apply Sel.there))))) ?_
    refine G.takeFT hT4 (i := 12) (rem' := 2147475456) rfl rfl rfl (by kernel_rfl) (fun _ _ _ h => h) rfl (by repeat (first | exact Sub.nil | (apply Sub.cons; (repeat (first | with_reducible exact Sel.here | exact Sel.here | apply Sel.there))))) ?_
    refine G.takeFT hT4 (i := 13) (rem' := 2147467264) rfl rfl rfl (by kernel_rfl) (fun _ _ _ h => h) rfl (by repeat (first | exact Sub.nil | (apply Sub.cons; (repeat (first | with_reducible exact Sel.here | exact Sel.here | apply Sel.there))))) ?_
    refine G.takeFT hT4 (i := 14) (rem' := 2147450880) rfl rfl rfl (by kernel_rfl) (fun _ _ _ h => h) rfl (by repeat (first | exact Sub.nil | (apply Sub.cons; (repeat (first | with_reducible exact Sel.here | exact Sel.here | apply Sel.there))))) ?_
    refine G.takeFT hT4 (i := 15) (rem' := 2147418112) rfl rfl rfl (by kernel_rfl) (fun _ _ _ h => h) rfl (by repeat (first | exact Sub.nil | (apply Sub.cons; (repeat (first | with_reducible exact Sel.here | exact Sel.here | apply Sel.there))))) ?_
    refine G.takeFT hT4 (i := 16) (rem' := 2147352576) rfl rfl rfl (by kernel_rfl) (fun _ _ _ h => h) rfl (by repeat (first | exact Sub.nil | (apply Sub.cons; (repeat (first | with_reducible exact Sel.here | exact Sel.here | apply Sel.there))))) ?_
    refine G.takeFT hT4 (i := 17) (rem' := 2147221504) rfl rfl rfl (by kernel_rfl) (fun _ _ _ h => h) rfl (by repeat (first | exact Sub.nil | (apply Sub.cons; (repeat (first | with_reducible exact Sel.here | exact Sel.here | apply Sel.there))))) ?_
    refine G.takeFT hT4 (i := 18) (rem' := 2146959360) rfl rfl rfl (by kernel_rfl) (fun _ _ _ h => h) rfl (by repeat (first | exact Sub.nil | (apply Sub.cons; (repeat (first | with_reducible exact Sel.here | exact Sel.here | apply Sel.there))))) ?_
    refine G.takeT hT4 (i := 19) (rem' := 2146435072) rfl rfl rfl (by kernel_rfl) (fun _ _ _ h => h) rfl (pv_pick rfl rfl) (by repeat (first | exact Sub.nil | (apply Sub.cons; (repeat (first | with_reducible exact Sel.here | exact Sel.here | apply Sel.there))))) ?_
    refine G.takeT hT4 (i := 20) (rem' := 2145386496) rfl rfl rfl (by kernel_rfl) (fun _ _ _ h => h) rfl (pv_move rfl) (by repeat (first | exact Sub.nil | (apply Sub.cons; (repeat (first | with_reducible exact Sel.here | exact Sel.here | apply Sel.there))))) ?_
    refine G.takeFT hT4 (i := 21) (rem' := 2143289344) rfl rfl rfl (by kernel_rfl) (fun _ _ _ h => h) rfl (by repeat (first | exact Sub.nil | (apply Sub.cons; (repeat (first | with_reducible exact Sel.here | exact Sel.here | apply Sel.there))))) ?_
    refine G.takeFT hT4 (i := 22) (rem' := 2139095040) rfl rfl rfl (by kernel_rfl) (fun _ _ _ h => h) rfl (by repeat (first | exact Sub.nil | (apply Sub.cons; (repeat (first | with_reducible exact Sel.here | exact Sel.here | apply Sel.there))))) ?_
    refine G.takeFT hT4 (i := 23) (rem' := 2130706432) rfl rfl rfl (by kernel_rfl) (fun _ _ _ h => h) rfl (by repeat (first | exact Sub.nil | (apply Sub.cons; (repeat (first | with_reducible exact Sel.here | exact Sel.here | apply Sel.there))))) ?_
    refine G.takeFT hT4 (i := 24) (rem' := 2113929216) rfl rfl rfl (by kernel_rfl) (fun _ _ _ h => h) rfl (by repeat (first | exact Sub.nil | (apply Sub.cons; (repeat (first | with_reducible exact Sel.here | exact Sel.here | apply Sel.there))))) ?_
    refine G.takeFT hT4 (i := 25) (rem' := 2080374784) rfl rfl rfl (by kernel_rfl) (fun _ _ _ h => h) rfl (by repeat (first | exact Sub.nil | (apply Sub.cons; (repeat (first | with_reducible exact Sel.here | exact Sel.here | apply Sel.there))))) ?_
    refine G.takeFT hT4 (i := 26) (rem' := 2013265920) rfl rfl rfl (by kernel_rfl) (fun _ _ _ h => h) rfl (by repeat (first | exact Sub.nil | (apply Sub.cons; (repeat (first | with_reducible exact Sel.here | exact Sel.here | apply Sel.there))))) ?_
    refine G.takeFT hT4 (i := 27) (rem' := 1879048192) rfl rfl rfl (by kernel_rfl) (fun _ _ _ h => h) rfl (by repeat (first | exact Sub.nil | (apply Sub.cons; (repeat (first | with_reducible exact Sel.here | exact Sel.here | apply Sel.there))))) ?_
    refine G.takeFT hT4 (i := 28) (rem' := 1610612736) rfl rfl rfl (by kernel_rfl) (fun _ _ _ h => h) rfl (by repeat (first | exact Sub.nil | (apply Sub.cons; (repeat (first | with_reducible exact Sel.here | exact Sel.here | apply Sel.there))))) ?_
    refine G.takeFT hT4 (i := 29) (rem' := 1073741824) rfl rfl rfl (by kernel_rfl) (fun _ _ _ h => h) rfl (by repeat (first | exact Sub.nil | (apply Sub.cons; (repeat (first | with_reducible exact Sel.here | exact Sel.here | apply Sel.there))))) ?_
    refine G.takeT hT4 (i := 30) (rem' := 0) rfl rfl rfl (by kernel_rfl) (fun _ _ _ h => h) rfl (pv_pick rfl rfl) (by repeat (first | exact Sub.nil | (apply Sub.cons; (repeat (first | with_reducible exact Sel.here | exact Sel.here | apply Sel.there))))) ?_
    refine G.overT hT4 (by kernel_rfl) ?_
    refine G.nThen ?_
    refine G.condT rfl (rfl) ?_
    refine G.seq ?_
    refine G.region ?_
    refine G.op rfl (G.val rfl rfl (pv_assign rfl) ?_)
    refine G.nil ?_
    refine G.nThen ?_
    refine G.ret ?_
    refine G.rThen ?_
    exact G.done0G rfl (Rv.tmp rfl Rv.nil) (checkS_bad (by omega))
  · refine G.takeT hT4 (i := 10) (rem' := 2147481600) rfl rfl rfl (by kernel_rfl) (fun _ _ _ h => h) rfl (pv_move rfl) (by repeat (first | exact Sub.nil | (apply Sub.cons; (repeat (first | with_reducible exact Sel.here | exact Sel.here | apply Sel.there))))) ?_
    refine G.takeT hT4 (i := 11) (rem' := 2147479552) rfl rfl rfl (by kernel_rfl) (fun _ _ _ h => h) rfl (pv_nilCheck rfl) (by repeat (first | exact Sub.nil | (apply Sub.cons; (repeat (first | with_reducible exact Sel.here | exact Sel.here | apply Sel.there))))) ?_
    refine G.takeT hT4 (i := 12) (rem' := 2147475456) rfl rfl rfl (by kernel_rfl) (fun _ _ _ h => h) rfl (pv_fieldAddrK (sz := 1) (k := 3) Try.underlying71 rfl (by kernel_rfl) rfl rfl) (by repeat (first | exact Sub.nil | (apply Sub.cons; (repeat (first | with_reducible exact Sel.here | exact Sel.here | apply Sel.there))))) ?_
    refine G.takeT hT4 (i := 13) (rem' := 2147467264) rfl rfl rfl (by kernel_rfl) (fun _ _ _ h => h) rfl (pv_loadN (cs := [_, _]) Try.underlying69 rfl (by kernel_rfl) rfl (by first | exact blk_range (k := 2) (by (repeat (first | with_reducible exact Sel.here | exact Sel.here | apply Sel.there)); done) (by rfl) | exact rng_range (k := 2) (by (repeat (first | with_reducible exact Sel.here | exact Sel.here | apply Sel.there)); done) (by rfl) | exact ro_range (k := 2) (by assumption) (by rfl) | exact ro_rngR (k := 2) (by assumption) (by rfl))) (by repeat (first | exact Sub.nil | (apply Sub.cons; (repeat (first | with_reducible exact Sel.here | exact Sel.here | apply Sel.there))))) ?_
    refine G.takeT hT4 (i := 14) (rem' := 2147450880) rfl rfl rfl (by kernel_rfl) (fun _ _ _ h => h) rfl (pv_fieldAddrK (sz := 0) (k := 2) Try.underlying26 rfl (by kernel_rfl) rfl rfl) (by repeat (first | exact Sub.nil | (apply Sub.cons; (repeat (first | with_reducible exact Sel.here | exact Sel.here | apply Sel.there))))) ?_
    refine G.oneT hT4 (i := 15) (rem' := 2147418112) (by kernel_rfl) (by kernel_rfl) ?_
    refine G.turnOp rfl rfl (G.val rfl rfl (pv_load Try.underlying23 rfl rfl (by first | exact blk_cell (by (repeat (first | with_reducible exact Sel.here | exact Sel.here | apply Sel.there)); done) (by rfl) | exact rng_cell (by (repeat (first | with_reducible exact Sel.here | exact Sel.here | apply Sel.there)); done) (by rfl) | exact ro_blk (by assumption) (by rfl) | exact ro_rngC (by assumption) (by rfl) | exact ro_int (by assumption) | exact ro_byte (by assumption) | exact ro_str (by assumption) | assumption)) ?_)
    refine G.back (by repeat (first | exact Sub.nil | (apply Sub.cons; (repeat (first | with_reducible exact Sel.here | exact Sel.here | apply Sel.there))))) ?_
    refine G.takeT hT4 (i := 16) (rem' := 2147352576) rfl rfl rfl (by kernel_rfl) (fun _ _ _ h => h) rfl (pv_lenSl Try.underlying23 rfl) (by repeat (first | exact Sub.nil | (apply Sub.cons; (repeat (first | with_reducible exact Sel.here | exact Sel.here | apply Sel.there))))) ?_
    refine G.oneT hT4 (i := 17) (rem' := 2147221504) (by kernel_rfl) (by kernel_rfl) ?_
    refine G.turnOp rfl rfl (G.cR rfl rfl rfl rfl Try.func43 rfl rfl may0 (has_tr _ _ _) ?_)
    refine G.back (by repeat (first | exact Sub.nil | (apply Sub.cons; (repeat (first | with_reducible exact Sel.here | exact Sel.here | apply Sel.there))))) ?_
    refine G.takeT hT4 (i := 18) (rem' := 2146959360) rfl rfl rfl (by kernel_rfl) (fun _ _ _ h => h) rfl (pv_notP rfl) (by repeat (first | exact Sub.nil | (apply Sub.cons; (repeat (first | with_reducible exact Sel.here | exact Sel.here | apply Sel.there))))) ?_
    refine G.takeT hT4 (i := 19) (rem' := 2146435072) rfl rfl rfl (by kernel_rfl) (fun _ _ _ h => h) rfl (pv_pick rfl rfl) (by repeat (first | exact Sub.nil | (apply Sub.cons; (repeat (first | with_reducible exact Sel.here | exact Sel.here | apply Sel.there))))) ?_
    refine G.takeT hT4 (i := 20) (rem' := 2145386496) rfl rfl rfl (by kernel_rfl) (fun _ _ _ h => h) rfl (pv_move rfl) (by repeat (first | exact Sub.nil | (apply Sub.cons; (repeat (first | with_reducible exact Sel.here | exact Sel.here | apply Sel.there))))) ?_
    refine G.partP (t := 31) rfl (fun h31 => ?_) (fun h31 => ?_)
    · refine G.takeFT hT4 (i := 21) (rem' := 2143289344) rfl rfl rfl (by kernel_rfl) (fun _ _ _ h => h) rfl (by repeat (first | exact Sub.nil | (apply Sub.cons; (repeat (first | with_reducible exact Sel.here | exact Sel.here | apply Sel.there))))) ?_
      refine G.takeFT hT4 (i := 22) (rem' := 2139095040) rfl rfl rfl (by kernel_rfl) (fun _ _ _ h => h) rfl (by repeat (first | exact Sub.nil | (apply Sub.cons; (repeat (first | with_reducible exact Sel.here | exact Sel.here | apply Sel.there))))) ?_
      refine G.takeFT hT4 (i := 23) (rem' := 2130706432) rfl rfl rfl (by kernel_rfl) (fun _ _ _ h => h) rfl (by repeat (first | exact Sub.nil | (apply Sub.cons; (repeat (first | with_reducible exact Sel.here | exact Sel.here | apply Sel.there))))) ?_
      refine G.takeFT hT4 (i := 24) (rem' := 2113929216) rfl rfl rfl (by kernel_rfl) (fun _ _ _ h => h) rfl (by repeat (first | exact Sub.nil | (apply Sub.cons; (repeat (first | with_reducible exact Sel.here | exact Sel.here | apply Sel.there))))) ?_
      refine G.takeFT hT4 (i := 25) (rem' := 2080374784) rfl rfl rfl (by kernel_rfl) (fun _ _ _ h => h) rfl (by repeat (first | exact Sub.nil | (apply Sub.cons; (repeat (first | with_reducible exact Sel.here | exact Sel.here | apply Sel.there))))) ?_
      refine G.takeFT hT4 (i := 26) (rem' := 2013265920) rfl rfl rfl (by kernel_rfl) (fun _ _ _ h => h) rfl (by repeat (first | exact Sub.nil | (apply Sub.cons; (repeat (first | with_reducible exact Sel.here | exact Sel.here | apply Sel.there))))) ?_
      refine G.takeFT hT4 (i := 27) (rem' := 1879048192) rfl rfl rfl (by kernel_rfl) (fun _ _ _ h => h) rfl (by repeat (first | exact Sub.nil | (apply Sub.cons; (repeat (first | with_reducible exact Sel.here | exact Sel.here | apply Sel.there))))) ?_
      refine G.takeFT hT4 (i := 28) (rem' := 1610612736) rfl rfl rfl (by kernel_rfl) (fun _ _ _ h => h) rfl (by repeat (first | exact Sub.nil | (apply Sub.cons; (repeat (first | with_reducible exact Sel.here | exact Sel.here | apply Sel.there))))) ?_
      refine G.takeFT hT4 (i := 29) (rem' := 1073741824) rfl rfl rfl (by kernel_rfl) (fun _ _ _ h => h) rfl (by repeat (first | exact Sub.nil | (apply Sub.cons; (repeat (first | with_reducible exact Sel.here | exact Sel.here | apply Sel.there))))) ?_
      refine G.takeT hT4 (i := 30) (rem' := 0) rfl rfl rfl (by kernel_rfl) (fun _ _ _ h => h) rfl (pv_pick rfl rfl) (by repeat (first | exact Sub.nil | (apply Sub.cons; (repeat (first | with_reducible exact Sel.here | exact Sel.here | apply Sel.there))))) ?_
      refine G.overT hT4 (by kernel_rfl) ?_
      refine G.nThen ?_
      refine G.condT rfl (rfl) ?_
      refine G.seq ?_
      refine G.region ?_
      refine G.op rfl (G.val rfl rfl (pv_assign rfl) ?_)
      refine G.nil ?_
      refine G.nThen ?_
      refine G.ret ?_
      refine G.rThen ?_
      exact G.done0G rfl (Rv.tmp rfl Rv.nil) (checkS_bad (by omega))
    · refine G.takeT hT4 (i := 21) (rem' := 2143289344) rfl rfl rfl (by kernel_rfl) (fun _ _ _ h => h) rfl (pv_move rfl) (by repeat (first | exact Sub.nil | (apply Sub.cons; (repeat (first | with_reducible exact Sel.here | exact Sel.here | apply Sel.there))))) ?_
      refine G.takeT hT4 (i := 22) (rem' := 2139095040) rfl rfl rfl (by kernel_rfl) (fun _ _ _ h => h) rfl (pv_nilCheck rfl) (by repeat (first | exact Sub.nil | (apply Sub.cons; (repeat (first | with_reducible exact Sel.here | exact Sel.here | apply Sel.there))))) ?_
      refine G.takeT hT4 (i := 23) (rem' := 2130706432) rfl rfl rfl (by kernel_rfl) (fun _ _ _ h => h) rfl (pv_fieldAddrK (sz := 1) (k := 5) Try.underlying71 rfl (by kernel_rfl) rfl rfl) (by repeat (first | exact Sub.nil | (apply Sub.cons; (repeat (first | with_reducible exact Sel.here | exact Sel.here | apply Sel.there))))) ?_
      refine G.takeT hT4 (i := 24) (rem' := 2113929216) rfl rfl rfl (by kernel_rfl) (fun _ _ _ h => h) rfl (pv_loadN (cs := [_, _]) Try.underlying69 rfl (by kernel_rfl) rfl (by first | exact blk_range (k := 2) (by (repeat (first | with_reducible exact Sel.here | exact Sel.here | apply Sel.there)); done) (by rfl) | exact rng_range (k := 2) (by (repeat (first | with_reducible exact Sel.here | exact Sel.here | apply Sel.there)); done) (by rfl) | exact ro_range (k := 2) (by assumption) (by rfl) | exact ro_rngR (k := 2) (by assumption) (by rfl))) (by repeat (first | exact Sub.nil | (apply Sub.cons; (repeat (first | with_reducible exact Sel.here | exact Sel.here | apply Sel.there))))) ?_
      refine G.takeT hT4 (i := 25) (rem' := 2080374784) rfl rfl rfl (by kernel_rfl) (fun _ _ _ h => h) rfl (pv_fieldAddrK (sz := 0) (k := 3) Try.underlying26 rfl (by kernel_rfl) rfl rfl) (by repeat (first | exact Sub.nil | (apply Sub.cons; (repeat (first | with_reducible exact Sel.here | exact Sel.here | apply Sel.there))))) ?_
      refine G.oneT hT4 (i := 26) (rem' := 2013265920) (by kernel_rfl) (by kernel_rfl) ?_
      refine G.turnOp rfl rfl (G.val rfl rfl (pv_load Try.underlying24 rfl rfl (by first | exact blk_cell (by (repeat (first | with_reducible exact Sel.here | exact Sel.here | apply Sel.there)); done) (by rfl) | exact rng_cell (by (repeat (first | with_reducible exact Sel.here | exact Sel.here | apply Sel.there)); done) (by rfl) | exact ro_blk (by assumption) (by rfl) | exact ro_rngC (by assumption) (by rfl) | exact ro_int (by assumption) | exact ro_byte (by assumption) | exact ro_str (by assumption) | assumption)) ?_)
      refine G.back (by repeat (first | exact Sub.nil | (apply Sub.cons; (repeat (first | with_reducible exact Sel.here | exact Sel.here | apply Sel.there))))) ?_
      refine G.takeT hT4 (i := 27) (rem' := 1879048192) rfl rfl rfl (by kernel_rfl) (fun _ _ _ h => h) rfl (pv_lenSl Try.underlying24 rfl) (by repeat (first | exact Sub.nil | (apply Sub.cons; (repeat (first | with_reducible exact Sel.here | exact Sel.here | apply Sel.there))))) ?_
      refine G.oneT hT4 (i := 28) (rem' := 1610612736) (by kernel_rfl) (by kernel_rfl) ?_
      refine G.turnOp rfl rfl (G.cR rfl rfl rfl rfl Try.func43 rfl rfl may0 (has_tr _ _ _) ?_)
      refine G.back (by repeat (first | exact Sub.nil | (apply Sub.cons; (repeat (first | with_reducible exact Sel.here | exact Sel.here | apply Sel.there))))) ?_
      refine G.takeT hT4 (i := 29) (rem' := 1073741824) rfl rfl rfl (by kernel_rfl) (fun _ _ _ h => h) rfl (pv_notP rfl) (by repeat (first | exact Sub.nil | (apply Sub.cons; (repeat (first | with_reducible exact Sel.here | exact Sel.here | apply Sel.there))))) ?_
      refine G.takeT hT4 (i := 30) (rem' := 0) rfl rfl rfl (by kernel_rfl) (fun _ _ _ h => h) rfl (pv_pick rfl rfl) (by repeat (first | exact Sub.nil | (apply Sub.cons; (repeat (first | with_reducible exact Sel.here | exact Sel.here | apply Sel.there))))) ?_
      refine G.overT hT4 (by kernel_rfl) ?_
      refine G.nThen ?_
      refine G.condP rfl (fun h41 => ?_) (fun h41 => ?_)
      · refine G.seq ?_
        refine G.region ?_
        refine G.op rfl (G.val rfl rfl (pv_assign rfl) ?_)
        refine G.nil ?_
        refine G.nThen ?_
        refine G.ret ?_
        refine G.rThen ?_
        exact G.done0G rfl (Rv.tmp rfl Rv.nil) (checkS_bad (by omega))
      · refine G.skip ?_
        refine G.nThen ?_
        refine G.seq ?_
        refine G.seq ?_
        refine G.region ?_
        refine G.op rfl (G.val rfl rfl (pv_fieldAddrK (sz := 0) (k := 1) Try.underlying26 rfl (by kernel_rfl) rfl rfl) ?_)
        refine G.op rfl (G.val rfl rfl (pv_load Try.underlying22 rfl rfl (by first | exact blk_cell (by (repeat (first | with_reducible exact Sel.here | exact Sel.here | apply Sel.there)); done) (by rfl) | exact rng_cell (by (repeat (first | with_reducible exact Sel.here | exact Sel.here | apply Sel.there)); done) (by rfl) | exact ro_blk (by assumption) (by rfl) | exact ro_rngC (by assumption) (by rfl) | exact ro_int (by assumption) | exact ro_byte (by assumption) | exact ro_str (by assumption) | assumption)) ?_)
        refine G.op rfl (G.val rfl rfl (pv_lenSl Try.underlying22 rfl) ?_)
        refine G.op rfl (G.val rfl rfl (pv_move rfl) ?_)
        refine G.nil ?_
        refine G.nThen ?_
        refine G.block ?_
        refine G.loopK (X := Nat) (ts := [43, 44]) (fun j => j ≤ ns.length ∧ ((ns.take j).all okN = true)) (fun j => [(45, .int .i64 (j : Int))]) (fun j => []) (fun j => ns.length - j) (x0 := 0) (.cons rfl (.cons rfl .nil)) (by repeat (first | exact Sub.nil | (apply Sub.cons; (repeat (first | with_reducible exact Sel.here | exact Sel.here | apply Sel.there))))) (.cons .nil) Ap.nil (by first | exact trivial | ((try dsimp only); exact ⟨Nat.zero_le _, rfl⟩)) (.consE rfl (by first | rfl | exact int_eq (by omega) | exact congrArg _ (by omega)) .nil) (fun j hJ => ?_)
        try dsimp only at hJ
        try dsimp only
        obtain ⟨hkj, hJ⟩ := hJ
        refine G.seq ?_
        refine G.region ?_
        refine G.op rfl (G.val rfl rfl (pv_lss rfl rfl) ?_)
        refine G.nil ?_
        refine G.nThen ?_
        refine G.seq ?_
        refine G.condP rfl (fun h46 => ?_) (fun h46 => ?_)
        · have hlt : j < ns.length := by omega
          have hE := hel j hlt
          refine G.skip ?_
          refine G.nThen ?_
          refine G.seq ?_
          refine G.block ?_
          refine G.seq ?_
          refine G.region ?_
          refine G.op rfl (G.val rfl rfl (pv_ixSl (sz := 1) Try.underlying22 (by kernel_rfl) rfl rfl (by first | assumption | exact fun _ => rfl) rfl (by omega)) ?_)
          refine G.op rfl (G.val rfl rfl (pv_load Try.underlying3 rfl rfl (by first | exact blk_cell (by (repeat (first | with_reducible exact Sel.here | exact Sel.here | apply Sel.there)); done) (by rfl) | exact rng_cell (by (repeat (first | with_reducible exact Sel.here | exact Sel.here | apply Sel.there)); done) (by rfl) | exact ro_blk (by assumption) (by rfl) | exact ro_rngC (by assumption) (by rfl) | exact ro_int (by assumption) | exact ro_byte (by assumption) | exact ro_str (by assumption) | assumption)) ?_)
          refine G.op rfl (G.val rfl rfl (pv_assign rfl) ?_)
          refine G.nil ?_
          refine G.nThen ?_
          refine G.seq ?_
          refine G.region ?_
          refine G.op rfl (G.val rfl rfl (pv_move rfl) ?_)
          refine G.op rfl (G.val rfl rfl (pv_lss rfl rfl) ?_)
          refine G.op rfl (G.val rfl rfl (pv_move rfl) ?_)
          refine G.partP (t := 51) rfl (fun h51 => ?_) (fun h51 => ?_)
          · refine G.pass rfl rfl rfl rfl rfl rfl ?_
            refine G.pass rfl rfl rfl rfl rfl rfl ?_
            refine G.op rfl (G.val rfl rfl (pv_pick rfl rfl) ?_)
            refine G.nil ?_
            refine G.nThen ?_
            refine G.condT rfl (rfl) ?_
            refine G.seq ?_
            refine G.region ?_
            refine G.op rfl (G.val rfl rfl (pv_assign rfl) ?_)
            refine G.nil ?_
            refine G.nThen ?_
            refine G.ret ?_
            refine G.rBlock ?_
            refine G.rThen ?_
            refine G.rThen ?_
            refine G.rBlock ?_
            refine G.rThen ?_
            exact G.done0G rfl (Rv.tmp rfl Rv.nil) (checkS_num (by omega) hlt (by omega))
          · refine G.want rfl rfl rfl (G.val rfl rfl (pv_move rfl) ?_)
            refine G.want rfl rfl rfl (G.val rfl rfl (pv_gtr rfl rfl) ?_)
            refine G.op rfl (G.val rfl rfl (pv_pick rfl rfl) ?_)
            refine G.nil ?_
            refine G.nThen ?_
            refine G.condP rfl (fun h54 => ?_) (fun h54 => ?_)
            · refine G.seq ?_
              refine G.region ?_
              refine G.op rfl (G.val rfl rfl (pv_assign rfl) ?_)
              refine G.nil ?_
              refine G.nThen ?_
              refine G.ret ?_
              refine G.rBlock ?_
              refine G.rThen ?_
              refine G.rThen ?_
              refine G.rBlock ?_
              refine G.rThen ?_
              exact G.done0G rfl (Rv.tmp rfl Rv.nil) (checkS_num (by omega) hlt (by omega))
            · refine G.skip ?_
              refine G.nBlock ?_
              refine G.nThen ?_
              refine G.region ?_
              refine G.op rfl (G.val rfl rfl (pv_add64 rfl rfl (by omega)) ?_)
              refine G.op rfl (G.val rfl rfl (pv_move rfl) ?_)
              refine G.nil ?_
              exact G.next (j + 1) (by first | exact trivial | ((try dsimp only); exact ⟨by omega, all_next hJ hlt (by omega) (by omega)⟩)) (by (try dsimp only); omega) (.consE rfl (by first | rfl | exact int_eq (by omega) | exact congrArg _ (by omega)) (.cons rfl (.cons rfl .nil))) (by repeat (first | exact Sub.nil | (apply Sub.cons; (repeat (first | with_reducible exact Sel.here | exact Sel.here | apply Sel.there)))))
        · refine G.exit ?_
          refine G.eThen ?_
          refine G.eThen ?_
          refine G.eBlock ?_
          refine G.nThen ?_
          refine G.seq ?_
          refine G.region ?_
          refine G.op rfl (G.val rfl rfl (pv_assign rfl) ?_)
          refine G.nil ?_
          refine G.nThen ?_
          refine G.ret ?_
          exact G.done0G rfl (Rv.tmp rfl Rv.nil) (checkS_ok (by omega) hJ (by omega))
set_option maxRecDepth 20000 in

theorem checkSR {Pv1 Pv2 Pv3 : Nat → Prop} (k : Int) (v1 v2 v3 : Value) (ns : List Int) (ids : List (List UInt8)) (bs : List UInt8) (s : Sh) (h : shM k = some s) : Tr Try.prog 17 #[.agg #[.int .i64 k, v1, v2, v3]] [slc rInt Pv1 v1 ns, slc rID Pv2 v2 ids, slc rByte Pv3 v3 bs] [] (T0 (.int .i64 (checkS s ns ids.length bs.length))) := by
  refine Tr.of (l := [(0, .agg #[.int .i64 k, v1, v2, v3])]) Try.func17 rfl (n := 59) rfl (.cons rfl .nil) (fun w0 hro => ?_)
  obtain ⟨hA, hB, hC⟩ := ro3 hro
  have oa := Ro.open hA
  have ob := Ro.open hB
  have oc := Ro.open hC
  obtain ⟨aa, ca, qa, oa', rfl, hca, hma, -, had, hel⟩ := oa
  obtain ⟨ab, cb, qb, ob', rfl, hcb, hmb, -, hbd, hbl⟩ := ob
  obtain ⟨ac, cc, qc, oc', rfl, -⟩ := oc
  refine G.seq ?_
  refine G.region ?_
  refine G.op rfl (G.box rfl rfl (cs := [_, _, _, _]) rfl ?_)
  intro b1
  refine G.op rfl (G.val rfl rfl (pv_assign rfl) ?_)
  refine G.nil ?_
  refine G.nThen ?_
  refine G.seq ?_
  refine G.region ?_
  refine G.op rfl (G.val rfl rfl (pv_fieldAddrK (sz := 0) (k := 0) Try.underlying26 rfl (by kernel_rfl) rfl rfl) ?_)
  refine G.op rfl (G.val rfl rfl (pv_load Try.underlying3 rfl rfl (by first | exact blk_cell (by (repeat (first | with_reducible exact Sel.here | exact Sel.here | apply Sel.there)); done) (by rfl) | exact rng_cell (by (repeat (first | with_reducible exact Sel.here | exact Sel.here | apply Sel.there)); done) (by rfl) | exact ro_blk (by assumption) (by rfl) | exact ro_rngC (by assumption) (by rfl) | exact ro_int (by assumption) | exact ro_byte (by assumption) | exact ro_str (by assumption) | assumption)) ?_)
  refine G.op rfl (G.cR rfl rfl rfl rfl Try.func29 rfl rfl may0 (ofR_some _ _ h) ?_)
  refine G.op rfl (G.val rfl rfl (pv_move rfl) ?_)
  refine G.op rfl (G.val rfl rfl (pv_extract rfl rfl) ?_)
  refine G.op rfl (G.val rfl rfl (pv_extract rfl rfl) ?_)
  refine G.op rfl (G.alloc (z := .agg #[.string ⟨#[]⟩, .int .i64 0, .int .i64 0, .int .i64 0, .int .i64 0, .int .i64 0, .int .i64 0]) (cs := [.string ⟨#[]⟩, .int .i64 0, .int .i64 0, .int .i64 0, .int .i64 0, .int .i64 0, .int .i64 0]) rfl (by kernel_rfl) rfl ?_)
  intro b3
  refine G.op rfl (G.storeN (by kernel_rfl) rfl rfl (by first | rfl | exact List.all_eq_true.2 (vByte_one _) | (repeat (first | exact all1_nil | (apply all1_cons; first | rfl | assumption)))) (by repeat (first | with_reducible exact Sel.here | exact Sel.here | apply Sel.there)) (by first | (simp; done) | exact Nat.le_of_ble_eq_true rfl) ?_)
  refine G.op rfl (G.val rfl rfl (pv_assign rfl) ?_)
  refine G.nil ?_
  refine G.nThen ?_
  refine G.seq ?_
  refine G.seq ?_
  refine G.region ?_
  refine G.op rfl (G.val rfl rfl (pv_move rfl) ?_)
  refine G.op rfl (G.val rfl rfl (pv_not rfl) ?_)
  refine G.nil ?_
  refine G.nThen ?_
  refine G.condF rfl (rfl) ?_
  refine G.skip ?_
  refine G.nThen ?_
  refine G.seq ?_
  refine G.seq ?_
  refine G.region ?_
  refine G.op rfl (G.val rfl rfl (pv_fieldAddrK (sz := 0) (k := 1) Try.underlying26 rfl (by kernel_rfl) rfl rfl) ?_)
  refine G.op rfl (G.val rfl rfl (pv_load Try.underlying22 rfl rfl (by first | exact blk_cell (by (repeat (first | with_reducible exact Sel.here | exact Sel.here | apply Sel.there)); done) (by rfl) | exact rng_cell (by (repeat (first | with_reducible exact Sel.here | exact Sel.here | apply Sel.there)); done) (by rfl) | exact ro_blk (by assumption) (by rfl) | exact ro_rngC (by assumption) (by rfl) | exact ro_int (by assumption) | exact ro_byte (by assumption) | exact ro_str (by assumption) | assumption)) ?_)
  refine G.op rfl (G.val rfl rfl (pv_lenSl Try.underlying22 rfl) ?_)
  refine G.op rfl (G.val rfl rfl (pv_fieldAddrK (sz := 0) (k := 1) Try.underlying52 rfl (by kernel_rfl) rfl rfl) ?_)
  refine G.op rfl (G.val rfl rfl (pv_load Try.underlying3 rfl rfl (by first | exact blk_cell (by (repeat (first | with_reducible exact Sel.here | exact Sel.here | apply Sel.there)); done) (by rfl) | exact rng_cell (by (repeat (first | with_reducible exact Sel.here | exact Sel.here | apply Sel.there)); done) (by rfl) | exact ro_blk (by assumption) (by rfl) | exact ro_rngC (by assumption) (by rfl) | exact ro_int (by assumption) | exact ro_byte (by assumption) | exact ro_str (by assumption) | assumption)) ?_)
  refine G.op rfl (G.val rfl rfl (pv_fieldAddrK (sz := 0) (k := 2) Try.underlying52 rfl (by kernel_rfl) rfl rfl) ?_)
  refine G.op rfl (G.val rfl rfl (pv_load Try.underlying3 rfl rfl (by first | exact blk_cell (by (repeat (first | with_reducible exact Sel.here | exact Sel.here | apply Sel.there)); done) (by rfl) | exact rng_cell (by (repeat (first | with_reducible exact Sel.here | exact Sel.here | apply Sel.there)); done) (by rfl) | exact ro_blk (by assumption) (by rfl) | exact ro_rngC (by assumption) (by rfl) | exact ro_int (by assumption) | exact ro_byte (by assumption) | exact ro_str (by assumption) | assumption)) ?_)
  refine G.op rfl (G.cR rfl rfl rfl rfl Try.func44 rfl rfl may0 (within_tr _ _ _) ?_)
  refine G.op rfl (G.val rfl rfl (pv_notP rfl) ?_)
  refine G.op rfl (G.val rfl rfl (pv_move rfl) ?_)
  refine G.partP (t := 23) rfl (fun h23 => ?_) (fun h23 => ?_)
  · refine G.pass rfl rfl rfl rfl rfl rfl ?_
    refine G.pass rfl rfl rfl rfl rfl rfl ?_
    refine G.pass rfl rfl rfl rfl rfl rfl ?_
    refine G.pass rfl rfl rfl rfl rfl rfl ?_
    refine G.pass rfl rfl rfl rfl rfl rfl ?_
    refine G.pass rfl rfl rfl rfl rfl rfl ?_
    refine G.pass rfl rfl rfl rfl rfl rfl ?_
    refine G.pass rfl rfl rfl rfl rfl rfl ?_
    refine G.pass rfl rfl rfl rfl rfl rfl ?_
    refine G.op rfl (G.val rfl rfl (pv_pick rfl rfl) ?_)
    refine G.op rfl (G.val rfl rfl (pv_move rfl) ?_)
    refine G.pass rfl rfl rfl rfl rfl rfl ?_
    refine G.pass rfl rfl rfl rfl rfl rfl ?_
    refine G.pass rfl rfl rfl rfl rfl rfl ?_
    refine G.pass rfl rfl rfl rfl rfl rfl ?_
    refine G.pass rfl rfl rfl rfl rfl rfl ?_
    refine G.pass rfl rfl rfl rfl rfl rfl ?_
    refine G.pass rfl rfl rfl rfl rfl rfl ?_
    refine G.pass rfl rfl rfl rfl rfl rfl ?_
    refine G.pass rfl rfl rfl rfl rfl rfl ?_
    refine G.op rfl (G.val rfl rfl (pv_pick rfl rfl) ?_)
    refine G.nil ?_
    refine G.nThen ?_
    refine G.condT rfl (rfl) ?_
    refine G.seq ?_
    refine G.region ?_
    refine G.op rfl (G.val rfl rfl (pv_assign rfl) ?_)
    refine G.nil ?_
    refine G.nThen ?_
    refine G.ret ?_
    refine G.rThen ?_
    exact G.done0G rfl (Rv.tmp rfl Rv.nil) (checkS_bad (by omega))
  · refine G.want rfl rfl rfl (G.val rfl rfl (pv_fieldAddrK (sz := 0) (k := 2) Try.underlying26 rfl (by kernel_rfl) rfl rfl) ?_)
    refine G.want rfl rfl rfl (G.val rfl rfl (pv_load Try.underlying23 rfl rfl (by first | exact blk_cell (by (repeat (first | with_reducible exact Sel.here | exact Sel.here | apply Sel.there)); done) (by rfl) | exact rng_cell (by (repeat (first | with_reducible exact Sel.here | exact Sel.here | apply Sel.there)); done) (by rfl) | exact ro_blk (by assumption) (by rfl) | exact ro_rngC (by assumption) (by rfl) | exact ro_int (by assumption) | exact ro_byte (by assumption) | exact ro_str (by assumption) | assumption)) ?_)
    refine G.want rfl rfl rfl (G.val rfl rfl (pv_lenSl Try.underlying23 rfl) ?_)
    refine G.want rfl rfl rfl (G.val rfl rfl (pv_fieldAddrK (sz := 0) (k := 3) Try.underlying52 rfl (by kernel_rfl) rfl rfl) ?_)
    refine G.want rfl rfl rfl (G.val rfl rfl (pv_load Try.underlying3 rfl rfl (by first | exact blk_cell (by (repeat (first | with_reducible exact Sel.here | exact Sel.here | apply Sel.there)); done) (by rfl) | exact rng_cell (by (repeat (first | with_reducible exact Sel.here | exact Sel.here | apply Sel.there)); done) (by rfl) | exact ro_blk (by assumption) (by rfl) | exact ro_rngC (by assumption) (by rfl) | exact ro_int (by assumption) | exact ro_byte (by assumption) | exact ro_str (by assumption) | assumption)) ?_)
    refine G.want rfl rfl rfl (G.val rfl rfl (pv_fieldAddrK (sz := 0) (k := 4) Try.underlying52 rfl (by kernel_rfl) rfl rfl) ?_)
    refine G.want rfl rfl rfl (G.val rfl rfl (pv_load Try.underlying3 rfl rfl (by first | exact blk_cell (by (repeat (first | with_reducible exact Sel.here | exact Sel.here | apply Sel.there)); done) (by rfl) | exact rng_cell (by (repeat (first | with_reducible exact Sel.here | exact Sel.here | apply Sel.there)); done) (by rfl) | exact ro_blk (by assumption) (by rfl) | exact ro_rngC (by assumption) (by rfl) | exact ro_int (by assumption) | exact ro_byte (by assumption) | exact ro_str (by assumption) | assumption)) ?_)
    refine G.want rfl rfl rfl (G.cR rfl rfl rfl rfl Try.func44 rfl rfl may0 (within_tr _ _ _) ?_)
    refine G.want rfl rfl rfl (G.val rfl rfl (pv_notP rfl) ?_)
    refine G.op rfl (G.val rfl rfl (pv_pick rfl rfl) ?_)
    refine G.op rfl (G.val rfl rfl (pv_move rfl) ?_)
    refine G.partP (t := 34) rfl (fun h34 => ?_) (fun h34 => ?_)
    · refine G.pass rfl rfl rfl rfl rfl rfl ?_
      refine G.pass rfl rfl rfl rfl rfl rfl ?_
      refine G.pass rfl rfl rfl rfl rfl rfl ?_
      refine G.pass rfl rfl rfl rfl rfl rfl ?_
      refine G.pass rfl rfl rfl rfl rfl rfl ?_
      refine G.pass rfl rfl rfl rfl rfl rfl ?_
      refine G.pass rfl rfl rfl rfl rfl rfl ?_
      refine G.pass rfl rfl rfl rfl rfl rfl ?_
      refine G.pass rfl rfl rfl rfl rfl rfl ?_
      refine G.op rfl (G.val rfl rfl (pv_pick rfl rfl) ?_)
      refine G.nil ?_
      refine G.nThen ?_
      refine G.condT rfl (rfl) ?_
      refine G.seq ?_
      refine G.region ?_
      refine G.op rfl (G.val rfl rfl (pv_assign rfl) ?_)
      refine G.nil ?_
      refine G.nThen ?_
      refine G.ret ?_
      refine G.rThen ?_
      exact G.done0G rfl (Rv.tmp rfl Rv.nil) (checkS_bad (by omega))
    · refine G.want rfl rfl rfl (G.val rfl rfl (pv_fieldAddrK (sz := 0) (k := 3) Try.underlying26 rfl (by kernel_rfl) rfl rfl) ?_)
      refine G.want rfl rfl rfl (G.val rfl rfl (pv_load Try.underlying24 rfl rfl (by first | exact blk_cell (by (repeat (first | with_reducible exact Sel.here | exact Sel.here | apply Sel.there)); done) (by rfl) | exact rng_cell (by (repeat (first | with_reducible exact Sel.here | exact Sel.here | apply Sel.there)); done) (by rfl) | exact ro_blk (by assumption) (by rfl) | exact ro_rngC (by assumption) (by rfl) | exact ro_int (by assumption) | exact ro_byte (by assumption) | exact ro_str (by assumption) | assumption)) ?_)
      refine G.want rfl rfl rfl (G.val rfl rfl (pv_lenSl Try.underlying24 rfl) ?_)
      refine G.want rfl rfl rfl (G.val rfl rfl (pv_fieldAddrK (sz := 0) (k := 5) Try.underlying52 rfl (by kernel_rfl) rfl rfl) ?_)
      refine G.want rfl rfl rfl (G.val rfl rfl (pv_load Try.underlying3 rfl rfl (by first | exact blk_cell (by (repeat (first | with_reducible exact Sel.here | exact Sel.here | apply Sel.there)); done) (by rfl) | exact rng_cell (by (repeat (first | with_reducible exact Sel.here | exact Sel.here | apply Sel.there)); done) (by rfl) | exact ro_blk (by assumption) (by rfl) | exact ro_rngC (by assumption) (by rfl) | exact ro_int (by assumption) | exact ro_byte (by assumption) | exact ro_str (by assumption) | assumption)) ?_)
      refine G.want rfl rfl rfl (G.val rfl rfl (pv_fieldAddrK (sz := 0) (k := 6) Try.underlying52 rfl (by kernel_rfl) rfl rfl) ?_)
      refine G.want rfl rfl rfl (G.val rfl rfl (pv_load Try.underlying3 rfl rfl (by first | exact blk_cell (by (repeat (first | with_reducible exact Sel.here | exact Sel.here | apply Sel.there)); done) (by rfl) | exact rng_cell (by (repeat (first | with_reducible exact Sel.here | exact Sel.here | apply Sel.there)); done) (by rfl) | exact ro_blk (by assumption) (by rfl) | exact ro_rngC (by assumption) (by rfl) | exact ro_int (by assumption) | exact ro_byte (by assumption) | exact ro_str (by assumption) | assumption)) ?_)
      refine G.want rfl rfl rfl (G.cR rfl rfl rfl rfl Try.func44 rfl rfl may0 (within_tr _ _ _) ?_)
      refine G.want rfl rfl rfl (G.val rfl rfl (pv_notP rfl) ?_)
      refine G.op rfl (G.val rfl rfl (pv_pick rfl rfl) ?_)
      refine G.nil ?_
      refine G.nThen ?_
      refine G.condP rfl (fun h44 => ?_) (fun h44 => ?_)
      · refine G.seq ?_
        refine G.region ?_
        refine G.op rfl (G.val rfl rfl (pv_assign rfl) ?_)
        refine G.nil ?_
        refine G.nThen ?_
        refine G.ret ?_
        refine G.rThen ?_
        exact G.done0G rfl (Rv.tmp rfl Rv.nil) (checkS_bad (by omega))
      · refine G.skip ?_
        refine G.nThen ?_
        refine G.seq ?_
        refine G.seq ?_
        refine G.region ?_
        refine G.op rfl (G.val rfl rfl (pv_assign rfl) ?_)
        refine G.nil ?_
        refine G.nThen ?_
        refine G.block ?_
        refine G.loopK (X := Nat) (ts := [1]) (fun j => j ≤ ns.length ∧ ((ns.take j).all okN = true)) (fun j => [(5, .int .i64 (j : Int))]) (fun j => []) (fun j => ns.length - j) (x0 := 0) (.cons rfl .nil) (by repeat (first | exact Sub.nil | (apply Sub.cons; (repeat (first | with_reducible exact Sel.here | exact Sel.here | apply Sel.there))))) (.cons .nil) Ap.nil (by first | exact trivial | ((try dsimp only); exact ⟨Nat.zero_le _, rfl⟩)) (.consE rfl (by first | rfl | exact int_eq (by omega) | exact congrArg _ (by omega)) .nil) (fun j hJ => ?_)
        try dsimp only at hJ
        try dsimp only
        obtain ⟨hkj, hJ⟩ := hJ
        refine G.seq ?_
        refine G.seq ?_
        refine G.region ?_
        refine G.op rfl (G.val rfl rfl (pv_move rfl) ?_)
        refine G.op rfl (G.val rfl rfl (pv_fieldAddrK (sz := 0) (k := 1) Try.underlying26 rfl (by kernel_rfl) rfl rfl) ?_)
        refine G.op rfl (G.val rfl rfl (pv_load Try.underlying22 rfl rfl (by first | exact blk_cell (by (repeat (first | with_reducible exact Sel.here | exact Sel.here | apply Sel.there)); done) (by rfl) | exact rng_cell (by (repeat (first | with_reducible exact Sel.here | exact Sel.here | apply Sel.there)); done) (by rfl) | exact ro_blk (by assumption) (by rfl) | exact ro_rngC (by assumption) (by rfl) | exact ro_int (by assumption) | exact ro_byte (by assumption) | exact ro_str (by assumption) | assumption)) ?_)
        refine G.op rfl (G.val rfl rfl (pv_lenSl Try.underlying22 rfl) ?_)
        refine G.op rfl (G.val rfl rfl (pv_lss rfl rfl) ?_)
        refine G.nil ?_
        refine G.nThen ?_
        refine G.condP rfl (fun h49 => ?_) (fun h49 => ?_)
        · have hlt : j < ns.length := by omega
          have hE := hel j hlt
          refine G.skip ?_
          refine G.nThen ?_
          refine G.seq ?_
          refine G.block ?_
          refine G.seq ?_
          refine G.region ?_
          refine G.op rfl (G.val rfl rfl (pv_fieldAddrK (sz := 0) (k := 1) Try.underlying26 rfl (by kernel_rfl) rfl rfl) ?_)
          refine G.op rfl (G.val rfl rfl (pv_load Try.underlying22 rfl rfl (by first | exact blk_cell (by (repeat (first | with_reducible exact Sel.here | exact Sel.here | apply Sel.there)); done) (by rfl) | exact rng_cell (by (repeat (first | with_reducible exact Sel.here | exact Sel.here | apply Sel.there)); done) (by rfl) | exact ro_blk (by assumption) (by rfl) | exact ro_rngC (by assumption) (by rfl) | exact ro_int (by assumption) | exact ro_byte (by assumption) | exact ro_str (by assumption) | assumption)) ?_)
          refine G.op rfl (G.val rfl rfl (pv_move rfl) ?_)
          refine G.op rfl (G.val rfl rfl (pv_ixSl (sz := 1) Try.underlying22 (by kernel_rfl) rfl rfl (by first | assumption | exact fun _ => rfl) rfl (by omega)) ?_)
          refine G.op rfl (G.val rfl rfl (pv_load Try.underlying3 rfl rfl (by first | exact blk_cell (by (repeat (first | with_reducible exact Sel.here | exact Sel.here | apply Sel.there)); done) (by rfl) | exact rng_cell (by (repeat (first | with_reducible exact Sel.here | exact Sel.here | apply Sel.there)); done) (by rfl) | exact ro_blk (by assumption) (by rfl) | exact ro_rngC (by assumption) (by rfl) | exact ro_int (by assumption) | exact ro_byte (by assumption) | exact ro_str (by assumption) | assumption)) ?_)
          refine G.op rfl (G.cR rfl rfl rfl rfl Try.func44 rfl rfl may0 (within_tr _ _ _) ?_)
          refine G.op rfl (G.val rfl rfl (pv_notP rfl) ?_)
          refine G.nil ?_
          refine G.nThen ?_
          refine G.condP rfl (fun h58 => ?_) (fun h58 => ?_)
          · refine G.seq ?_
            refine G.region ?_
            refine G.op rfl (G.val rfl rfl (pv_assign rfl) ?_)
            refine G.nil ?_
            refine G.nThen ?_
            refine G.ret ?_
            refine G.rBlock ?_
            refine G.rThen ?_
            refine G.rThen ?_
            refine G.rBlock ?_
            refine G.rThen ?_
            exact G.done0G rfl (Rv.tmp rfl Rv.nil) (checkS_num (by omega) hlt (by omega))
          · refine G.skip ?_
            refine G.nBlock ?_
            refine G.nThen ?_
            refine G.region ?_
            refine G.op rfl (G.val rfl rfl (pv_move rfl) ?_)
            refine G.op rfl (G.val rfl rfl (pv_add64 rfl rfl (by omega)) ?_)
            refine G.op rfl (G.val rfl rfl (pv_assign rfl) ?_)
            refine G.nil ?_
            exact G.next (j + 1) (by first | exact trivial | ((try dsimp only); exact ⟨by omega, all_next hJ hlt (by omega) (by omega)⟩)) (by (try dsimp only); omega) (.consE rfl (by first | rfl | exact int_eq (by omega) | exact congrArg _ (by omega)) (.cons rfl .nil)) (by repeat (first | exact Sub.nil | (apply Sub.cons; (repeat (first | with_reducible exact Sel.here | exact Sel.here | apply Sel.there)))))
        · refine G.exit ?_
          refine G.eThen ?_
          refine G.eThen ?_
          refine G.eBlock ?_
          refine G.nThen ?_
          refine G.seq ?_
          refine G.region ?_
          refine G.op rfl (G.val rfl rfl (pv_assign rfl) ?_)
          refine G.nil ?_
          refine G.nThen ?_
          refine G.ret ?_
          exact G.done0G rfl (Rv.tmp rfl Rv.nil) (checkS_ok (by omega) hJ (by omega))
theorem checkF {Pv1 Pv2 Pv3 : Nat → Prop} (k : Int) (v1 v2 v3 : Value) (ns : List Int) (ids : List (List UInt8)) (bs : List UInt8) : Tr Try.prog 16 #[.agg #[.int .i64 k, v1, v2, v3]] [slc rInt Pv1 v1 ns, slc rID Pv2 v2 ids, slc rByte Pv3 v3 bs] [] (T0 (.int .i64 (checkM k ns ids.length bs.length))) := by
  cases h : shM k with
  | none =>
    have := checkNF (Pv1 := Pv1) (Pv2 := Pv2) (Pv3 := Pv3) k v1 v2 v3 ns ids bs h
    rwa [show checkM k ns ids.length bs.length = 2 by unfold checkM; rw [h]]
  | some s =>
    have := checkSF (Pv1 := Pv1) (Pv2 := Pv2) (Pv3 := Pv3) k v1 v2 v3 ns ids bs s h
    rwa [show checkM k ns ids.length bs.length = checkS s ns ids.length bs.length by unfold checkM; rw [h]]
theorem checkR {Pv1 Pv2 Pv3 : Nat → Prop} (k : Int) (v1 v2 v3 : Value) (ns : List Int) (ids : List (List UInt8)) (bs : List UInt8) : Tr Try.prog 17 #[.agg #[.int .i64 k, v1, v2, v3]] [slc rInt Pv1 v1 ns, slc rID Pv2 v2 ids, slc rByte Pv3 v3 bs] [] (T0 (.int .i64 (checkM k ns ids.length bs.length))) := by
  cases h : shM k with
  | none =>
    have := checkNR (Pv1 := Pv1) (Pv2 := Pv2) (Pv3 := Pv3) k v1 v2 v3 ns ids bs h
    rwa [show checkM k ns ids.length bs.length = 2 by unfold checkM; rw [h]]
  | some s =>
    have := checkSR (Pv1 := Pv1) (Pv2 := Pv2) (Pv3 := Pv3) k v1 v2 v3 ns ids bs s h
    rwa [show checkM k ns ids.length bs.length = checkS s ns ids.length bs.length by unfold checkM; rw [h]]
end Go.Proofs.Ytakcffhknnailaa
