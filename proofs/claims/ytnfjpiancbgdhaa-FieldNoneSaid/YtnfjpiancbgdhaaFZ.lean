/- The statement FieldNone. Conditions: none. -/
import Derived.Test.YtnfjpiancbgdhaaFA
set_option linter.unusedVariables false
set_option linter.unusedSimpArgs false
namespace Go.Proofs.Ytnfjpiancbgdhaa
open Go.RowKit

set_option maxRecDepth 20000 in

theorem wint_offn (x : Int) : Tr Try.prog 15 #[.pointer none, .int .i64 x] [] [] (T0 (.tuple #[])) := by
  refine Tr.of (l := [(0, .pointer none), (1, .int .i64 x)]) Try.func15 rfl (n := 61) rfl (.cons rfl (.cons rfl .nil)) (fun w0 hro => ?_)
  refine G.seq ?_
  refine G.seq ?_
  refine G.region ?_
  refine G.op rfl (G.val rfl rfl (pv_move rfl) ?_)
  refine G.op rfl (G.val rfl rfl (pv_eqlP0 Try.underlying29 rfl rfl) ?_)
  refine G.op rfl (G.val rfl rfl (pv_move rfl) ?_)
  refine G.pass rfl rfl rfl rfl rfl rfl ?_
  refine G.pass rfl rfl rfl rfl rfl rfl ?_
  refine G.pass rfl rfl rfl rfl rfl rfl ?_
  refine G.pass rfl rfl rfl rfl rfl rfl ?_
  refine G.pass rfl rfl rfl rfl rfl rfl ?_
  refine G.op rfl (G.val rfl rfl (pv_pick rfl rfl) ?_)
  refine G.nil ?_
  refine G.nThen ?_
  refine G.condT rfl (rfl) ?_
  refine G.ret ?_
  refine G.rThen ?_
  exact G.done0 rfl .nil ⟨rfl, rfl⟩
set_option maxRecDepth 20000 in

theorem wbytes_offn (u : Value) : Tr Try.prog 17 #[.pointer none, u] [] [] (T0 (.tuple #[])) := by
  refine Tr.of (l := [(0, .pointer none), (1, u)]) Try.func17 rfl (n := 26) rfl (.cons rfl (.cons rfl .nil)) (fun w0 hro => ?_)
  refine G.seq ?_
  refine G.seq ?_
  refine G.region ?_
  refine G.op rfl (G.val rfl rfl (pv_move rfl) ?_)
  refine G.op rfl (G.val rfl rfl (pv_eqlP0 Try.underlying29 rfl rfl) ?_)
  refine G.op rfl (G.val rfl rfl (pv_move rfl) ?_)
  refine G.pass rfl rfl rfl rfl rfl rfl ?_
  refine G.pass rfl rfl rfl rfl rfl rfl ?_
  refine G.pass rfl rfl rfl rfl rfl rfl ?_
  refine G.pass rfl rfl rfl rfl rfl rfl ?_
  refine G.pass rfl rfl rfl rfl rfl rfl ?_
  refine G.op rfl (G.val rfl rfl (pv_pick rfl rfl) ?_)
  refine G.nil ?_
  refine G.nThen ?_
  refine G.condT rfl (rfl) ?_
  refine G.ret ?_
  refine G.rThen ?_
  exact G.done0 rfl .nil ⟨rfl, rfl⟩
set_option maxRecDepth 20000 in

theorem wtext_offn (b : List UInt8) (hb : b.length ≤ 1000000000) : Tr Try.prog 19 #[.pointer none, .string (sB b)] [] [] (T0 (.tuple #[])) := by
  refine Tr.of (l := [(0, .pointer none), (1, .string (sB b))]) Try.func19 rfl (n := 8) rfl (.cons rfl (.cons rfl .nil)) (fun w0 hro => ?_)
  refine G.region ?_
  refine G.op rfl (G.val rfl rfl (pv_move rfl) ?_)
  refine G.op rfl (G.val rfl rfl (pv_move rfl) ?_)
  refine G.op rfl (G.toBytes rfl Try.underlying9 Try.underlying23 Try.underlying5 rfl (by omega) ?_)
  intro b6 u
  refine G.op rfl (G.call0 rfl rfl rfl rfl Try.func17 rfl rfl (wbytes_offn u) (fun c hc => .old (hro c hc)) ?_)
  refine G.nil ?_
  exact G.doneE rfl .nil ⟨rfl, rfl⟩
set_option maxRecDepth 20000 in

theorem wid_offn : Tr Try.prog 21 #[.pointer none, vID (List.replicate 16 0)] [] [] (T0 (.tuple #[])) := by
  refine Tr.of (l := [(0, .pointer none), (1, vID (List.replicate 16 0))]) Try.func21 rfl (n := 21) rfl (.cons rfl (.cons rfl .nil)) (fun w0 hro => ?_)
  refine G.seq ?_
  refine G.region ?_
  refine G.op rfl (G.box (cs := (List.replicate 16 (0 : UInt8)).map vByte) rfl rfl rfl ?_)
  intro b3
  refine G.nil ?_
  refine G.nThen ?_
  refine G.seq ?_
  refine G.region ?_
  refine G.op rfl (G.val rfl rfl (pv_move rfl) ?_)
  refine G.op rfl (G.val rfl rfl (pv_neqP0 Try.underlying29 rfl rfl) ?_)
  refine G.op rfl (G.val rfl rfl (pv_move rfl) ?_)
  refine G.pass rfl rfl rfl rfl rfl rfl ?_
  refine G.pass rfl rfl rfl rfl rfl rfl ?_
  refine G.pass rfl rfl rfl rfl rfl rfl ?_
  refine G.pass rfl rfl rfl rfl rfl rfl ?_
  refine G.op rfl (G.val rfl rfl (pv_pick rfl rfl) ?_)
  refine G.nil ?_
  refine G.nThen ?_
  refine G.condF rfl (rfl) ?_
  refine G.skip ?_
  exact G.doneE rfl .nil ⟨rfl, rfl⟩
set_option maxRecDepth 20000 in

theorem wint_offb (D : Nat) (x : Int) : Tr Try.prog 15 #[.pointer (some ⟨D, 0, none⟩), .int .i64 x] [blk D 60 [.bool false, .bool false, .slice none 0 0]] [] (T0 (.tuple #[])) := by
  refine Tr.of (l := [(0, .pointer (some ⟨D, 0, none⟩)), (1, .int .i64 x)]) Try.func15 rfl (n := 61) rfl (.cons rfl (.cons rfl .nil)) (fun w0 hro => ?_)
  refine G.seq ?_
  refine G.seq ?_
  refine G.region ?_
  refine G.op rfl (G.val rfl rfl (pv_move rfl) ?_)
  refine G.op rfl (G.val rfl rfl (pv_eqlP0 Try.underlying29 rfl rfl) ?_)
  refine G.op rfl (G.val rfl rfl (pv_move rfl) ?_)
  refine G.want rfl rfl rfl (G.val rfl rfl (pv_move rfl) ?_)
  refine G.want rfl rfl rfl (G.val rfl rfl (pv_nilCheck rfl) ?_)
  refine G.want rfl rfl rfl (G.val rfl rfl (pv_fieldAddr (sz := 0) Try.underlying60 rfl (by kernel_rfl) rfl) ?_)
  refine G.want rfl rfl rfl (G.val rfl rfl (pv_load Try.underlying4 rfl rfl (ro_blk (v := .bool false) (ro1 hro) rfl)) ?_)
  refine G.want rfl rfl rfl (G.val rfl rfl (pv_not rfl) ?_)
  refine G.op rfl (G.val rfl rfl (pv_pick rfl rfl) ?_)
  refine G.nil ?_
  refine G.nThen ?_
  refine G.condT rfl (rfl) ?_
  refine G.ret ?_
  refine G.rThen ?_
  exact G.done0 rfl .nil ⟨rfl, rfl⟩
set_option maxRecDepth 20000 in

theorem wbytes_offb (D : Nat) (u : Value) : Tr Try.prog 17 #[.pointer (some ⟨D, 0, none⟩), u] [blk D 60 [.bool false, .bool false, .slice none 0 0]] [] (T0 (.tuple #[])) := by
  refine Tr.of (l := [(0, .pointer (some ⟨D, 0, none⟩)), (1, u)]) Try.func17 rfl (n := 26) rfl (.cons rfl (.cons rfl .nil)) (fun w0 hro => ?_)
  refine G.seq ?_
  refine G.seq ?_
  refine G.region ?_
  refine G.op rfl (G.val rfl rfl (pv_move rfl) ?_)
  refine G.op rfl (G.val rfl rfl (pv_eqlP0 Try.underlying29 rfl rfl) ?_)
  refine G.op rfl (G.val rfl rfl (pv_move rfl) ?_)
  refine G.want rfl rfl rfl (G.val rfl rfl (pv_move rfl) ?_)
  refine G.want rfl rfl rfl (G.val rfl rfl (pv_nilCheck rfl) ?_)
  refine G.want rfl rfl rfl (G.val rfl rfl (pv_fieldAddr (sz := 0) Try.underlying60 rfl (by kernel_rfl) rfl) ?_)
  refine G.want rfl rfl rfl (G.val rfl rfl (pv_load Try.underlying4 rfl rfl (ro_blk (v := .bool false) (ro1 hro) rfl)) ?_)
  refine G.want rfl rfl rfl (G.val rfl rfl (pv_not rfl) ?_)
  refine G.op rfl (G.val rfl rfl (pv_pick rfl rfl) ?_)
  refine G.nil ?_
  refine G.nThen ?_
  refine G.condT rfl (rfl) ?_
  refine G.ret ?_
  refine G.rThen ?_
  exact G.done0 rfl .nil ⟨rfl, rfl⟩
set_option maxRecDepth 20000 in

theorem wtext_offb (D : Nat) (b : List UInt8) (hb : b.length ≤ 1000000000) : Tr Try.prog 19 #[.pointer (some ⟨D, 0, none⟩), .string (sB b)] [blk D 60 [.bool false, .bool false, .slice none 0 0]] [] (T0 (.tuple #[])) := by
  refine Tr.of (l := [(0, .pointer (some ⟨D, 0, none⟩)), (1, .string (sB b))]) Try.func19 rfl (n := 8) rfl (.cons rfl (.cons rfl .nil)) (fun w0 hro => ?_)
  refine G.region ?_
  refine G.op rfl (G.val rfl rfl (pv_move rfl) ?_)
  refine G.op rfl (G.val rfl rfl (pv_move rfl) ?_)
  refine G.op rfl (G.toBytes rfl Try.underlying9 Try.underlying23 Try.underlying5 rfl (by omega) ?_)
  intro b6 u
  refine G.op rfl (G.call0 rfl rfl rfl rfl Try.func17 rfl rfl (wbytes_offb D u) (fun c hc => .old (hro c hc)) ?_)
  refine G.nil ?_
  exact G.doneE rfl .nil ⟨rfl, rfl⟩
set_option maxRecDepth 20000 in

theorem wid_offb (D : Nat) : Tr Try.prog 21 #[.pointer (some ⟨D, 0, none⟩), vID (List.replicate 16 0)] [blk D 60 [.bool false, .bool false, .slice none 0 0]] [] (T0 (.tuple #[])) := by
  refine Tr.of (l := [(0, .pointer (some ⟨D, 0, none⟩)), (1, vID (List.replicate 16 0))]) Try.func21 rfl (n := 21) rfl (.cons rfl (.cons rfl .nil)) (fun w0 hro => ?_)
  refine G.seq ?_
  refine G.region ?_
  refine G.op rfl (G.box (cs := (List.replicate 16 (0 : UInt8)).map vByte) rfl rfl rfl ?_)
  intro b3
  refine G.nil ?_
  refine G.nThen ?_
  refine G.seq ?_
  refine G.region ?_
  refine G.op rfl (G.val rfl rfl (pv_move rfl) ?_)
  refine G.op rfl (G.val rfl rfl (pv_neqP0 Try.underlying29 rfl rfl) ?_)
  refine G.op rfl (G.val rfl rfl (pv_move rfl) ?_)
  refine G.want rfl rfl rfl (G.val rfl rfl (pv_move rfl) ?_)
  refine G.want rfl rfl rfl (G.val rfl rfl (pv_nilCheck rfl) ?_)
  refine G.want rfl rfl rfl (G.val rfl rfl (pv_fieldAddr (sz := 0) Try.underlying60 rfl (by kernel_rfl) rfl) ?_)
  refine G.want rfl rfl rfl (G.val rfl rfl (pv_load Try.underlying4 rfl rfl (ro_blk (v := .bool false) (ro1 hro) rfl)) ?_)
  refine G.op rfl (G.val rfl rfl (pv_pick rfl rfl) ?_)
  refine G.nil ?_
  refine G.nThen ?_
  refine G.condF rfl (rfl) ?_
  refine G.skip ?_
  exact G.doneE rfl .nil ⟨rfl, rfl⟩
set_option maxRecDepth 20000 in

theorem end_off {pv : Value} {ro : List Ck} (hf : Tr Try.prog 31 #[pv] ro [] (T0 (.agg #[.int .i64 1, .int .i64 0]))) : Tr Try.prog 40 #[pv] ro [] (T0 (.agg #[.int .i64 1, .int .i64 0])) := by
  refine Tr.of (l := [(0, pv)]) Try.func40 rfl (n := 27) rfl (.cons rfl .nil) (fun w0 hro => ?_)
  refine G.seq ?_
  refine G.region ?_
  refine G.op rfl (G.alloc (z := .agg #[.int .i64 0, .int .i64 0]) (cs := [.int .i64 0, .int .i64 0]) rfl (by kernel_rfl) rfl ?_)
  intro b2
  refine G.nil ?_
  refine G.nThen ?_
  refine G.seq ?_
  refine G.region ?_
  refine G.op rfl (G.val rfl rfl (pv_move rfl) ?_)
  refine G.op rfl (G.call0 rfl rfl rfl rfl Try.func31 rfl rfl hf (fun c hc => .old (hro c hc)) ?_)
  refine G.op rfl (G.alloc (z := .agg #[.int .i64 0, .int .i64 0]) (cs := [.int .i64 0, .int .i64 0]) rfl (by kernel_rfl) rfl ?_)
  intro b3
  refine G.op rfl (G.storeN (vs := [.int .i64 1, .int .i64 0]) (by kernel_rfl) rfl rfl rfl (by repeat (first | with_reducible exact Sel.here | exact Sel.here | apply Sel.there)) (by simp) ?_)
  refine G.nil ?_
  refine G.nThen ?_
  refine G.seq ?_
  refine G.seq ?_
  refine G.drawn (by kernel_rfl) (k := 15) rfl [blk b3 51 [.int .i64 1, .int .i64 0]] ?_
  refine G.take (i := 0) rfl rfl rfl (by kernel_rfl) (by kernel_rfl) (by kernel_rfl) (fun _ _ _ h => h) rfl (pv_fieldAddr (sz := 0) Try.underlying51 rfl (by kernel_rfl) rfl) (.cons (by repeat (first | with_reducible exact Sel.here | exact Sel.here | apply Sel.there)) .nil) ?_
  refine G.one (i := 1) (by kernel_rfl) ?_
  refine G.turnOp rfl rfl (G.val rfl rfl (pv_load Try.underlying44 rfl rfl (blk_cell (v := .int .i64 1) (by repeat (first | with_reducible exact Sel.here | exact Sel.here | apply Sel.there)) rfl)) ?_)
  refine G.back (.cons (by repeat (first | with_reducible exact Sel.here | exact Sel.here | apply Sel.there)) .nil) ?_
  refine G.take (i := 2) rfl rfl rfl (by kernel_rfl) (by kernel_rfl) (by kernel_rfl) (fun _ _ _ h => h) rfl ((pv_eql rfl rfl).cast (v' := .bool false) (congrArg Value.bool (by rfl))) (.cons (by repeat (first | with_reducible exact Sel.here | exact Sel.here | apply Sel.there)) .nil) ?_
  refine G.take (i := 3) rfl rfl rfl (by kernel_rfl) (by kernel_rfl) (by kernel_rfl) (fun _ _ _ h => h) rfl (pv_move rfl) (.cons (by repeat (first | with_reducible exact Sel.here | exact Sel.here | apply Sel.there)) .nil) ?_
  refine G.takeF (i := 4) rfl rfl rfl (by kernel_rfl) (by kernel_rfl) (by kernel_rfl) (fun _ _ _ h => h) rfl (.cons (by repeat (first | with_reducible exact Sel.here | exact Sel.here | apply Sel.there)) .nil) ?_
  refine G.takeF (i := 5) rfl rfl rfl (by kernel_rfl) (by kernel_rfl) (by kernel_rfl) (fun _ _ _ h => h) rfl (.cons (by repeat (first | with_reducible exact Sel.here | exact Sel.here | apply Sel.there)) .nil) ?_
  refine G.takeF (i := 6) rfl rfl rfl (by kernel_rfl) (by kernel_rfl) (by kernel_rfl) (fun _ _ _ h => h) rfl (.cons (by repeat (first | with_reducible exact Sel.here | exact Sel.here | apply Sel.there)) .nil) ?_
  refine G.takeF (i := 7) rfl rfl rfl (by kernel_rfl) (by kernel_rfl) (by kernel_rfl) (fun _ _ _ h => h) rfl (.cons (by repeat (first | with_reducible exact Sel.here | exact Sel.here | apply Sel.there)) .nil) ?_
  refine G.takeF (i := 8) rfl rfl rfl (by kernel_rfl) (by kernel_rfl) (by kernel_rfl) (fun _ _ _ h => h) rfl (.cons (by repeat (first | with_reducible exact Sel.here | exact Sel.here | apply Sel.there)) .nil) ?_
  refine G.takeF (i := 9) rfl rfl rfl (by kernel_rfl) (by kernel_rfl) (by kernel_rfl) (fun _ _ _ h => h) rfl (.cons (by repeat (first | with_reducible exact Sel.here | exact Sel.here | apply Sel.there)) .nil) ?_
  refine G.takeF (i := 10) rfl rfl rfl (by kernel_rfl) (by kernel_rfl) (by kernel_rfl) (fun _ _ _ h => h) rfl (.cons (by repeat (first | with_reducible exact Sel.here | exact Sel.here | apply Sel.there)) .nil) ?_
  refine G.takeF (i := 11) rfl rfl rfl (by kernel_rfl) (by kernel_rfl) (by kernel_rfl) (fun _ _ _ h => h) rfl (.cons (by repeat (first | with_reducible exact Sel.here | exact Sel.here | apply Sel.there)) .nil) ?_
  refine G.takeF (i := 12) rfl rfl rfl (by kernel_rfl) (by kernel_rfl) (by kernel_rfl) (fun _ _ _ h => h) rfl (.cons (by repeat (first | with_reducible exact Sel.here | exact Sel.here | apply Sel.there)) .nil) ?_
  refine G.takeF (i := 13) rfl rfl rfl (by kernel_rfl) (by kernel_rfl) (by kernel_rfl) (fun _ _ _ h => h) rfl (.cons (by repeat (first | with_reducible exact Sel.here | exact Sel.here | apply Sel.there)) .nil) ?_
  refine G.take (i := 14) rfl rfl rfl (by kernel_rfl) (by kernel_rfl) (by kernel_rfl) (fun _ _ _ h => h) rfl (pv_pick rfl rfl) (.cons (by repeat (first | with_reducible exact Sel.here | exact Sel.here | apply Sel.there)) .nil) ?_
  refine G.over (by kernel_rfl) ?_
  refine G.nThen ?_
  refine G.condF rfl (rfl) ?_
  refine G.skip ?_
  refine G.nThen ?_
  refine G.seq ?_
  refine G.region ?_
  refine G.op rfl (G.val rfl rfl (pv_loadN (cs := [.int .i64 1, .int .i64 0]) Try.underlying51 rfl (by kernel_rfl) rfl (blk_range (k := 2) (by repeat (first | with_reducible exact Sel.here | exact Sel.here | apply Sel.there)) rfl)) ?_)
  refine G.op rfl (G.storeN (vs := [.int .i64 1, .int .i64 0]) (by kernel_rfl) rfl rfl rfl (by repeat (first | with_reducible exact Sel.here | exact Sel.here | apply Sel.there)) (by simp) ?_)
  refine G.nil ?_
  refine G.nThen ?_
  refine G.ret ?_
  exact G.doneCN (cs := [.int .i64 1, .int .i64 0]) rfl rfl Try.underlying51 rfl (by kernel_rfl) (blk_range (k := 2) (by repeat (first | with_reducible exact Sel.here | exact Sel.here | apply Sel.there)) rfl) .nil ⟨rfl, rfl⟩
def pK (D k : Nat) : Value := if k = 0 then .pointer none else .pointer (some ⟨D, 0, none⟩)
theorem pK_get {D k : Nat} (h : k < 2) : [Value.pointer none, .pointer (some ⟨D, 0, none⟩)][0 + k * 1]? = some (pK D k) := by
  have : k = 0 ∨ k = 1 := by omega
  rcases this with rfl | rfl <;> rfl
theorem pK_one (D k : Nat) : (pK D k).oneCell' = true := by unfold pK; split <;> rfl
theorem Tr.weaken {P : Program} {f : FuncId} {args : Array Value} {ro ro' pre : List Ck} {post : Value → List Ck → Prop} (h : Tr P f args ro pre post) (hs : ∀ c ∈ ro, c ∈ ro') : Tr P f args ro' pre post := fun w hro hp => h w (fun c hc => hro c (hs c hc)) hp

theorem wintK (D k : Nat) (x : Int) : Tr Try.prog 15 #[pK D k, .int .i64 x] [blk D 60 [.bool false, .bool false, .slice none 0 0]] [] (T0 (.tuple #[])) := by
  unfold pK
  split
  · exact (wint_offn x).weaken (by simp)
  · exact wint_offb D x
theorem wbytesK (D k : Nat) (u : Value) : Tr Try.prog 17 #[pK D k, u] [blk D 60 [.bool false, .bool false, .slice none 0 0]] [] (T0 (.tuple #[])) := by
  unfold pK
  split
  · exact (wbytes_offn u).weaken (by simp)
  · exact wbytes_offb D u
theorem wtextK (D k : Nat) (b : List UInt8) (hb : b.length ≤ 1000000000) : Tr Try.prog 19 #[pK D k, .string (sB b)] [blk D 60 [.bool false, .bool false, .slice none 0 0]] [] (T0 (.tuple #[])) := by
  unfold pK
  split
  · exact (wtext_offn b hb).weaken (by simp)
  · exact wtext_offb D b hb
theorem widK (D k : Nat) : Tr Try.prog 21 #[pK D k, vID (List.replicate 16 0)] [blk D 60 [.bool false, .bool false, .slice none 0 0]] [] (T0 (.tuple #[])) := by
  unfold pK
  split
  · exact (wid_offn).weaken (by simp)
  · exact wid_offb D
theorem woutK (D k : Nat) : Tr Try.prog 25 #[pK D k] [blk D 60 [.bool false, .bool false, .slice none 0 0]] [] (T0 (.tuple #[.slice none 0 0, .int .i64 1])) := by
  unfold pK
  split
  · exact (wout_none).weaken (by simp)
  · exact wout_bare D false (.slice none 0 0)
theorem atK (D k : Nat) : Tr Try.prog 34 #[pK D k] [blk D 63 [.bool false, .slice none 0 0, .int .i64 0, .int .i64 0, .int .i64 0]] [] (T0 (.int .i64 0)) := by
  unfold pK
  split
  · exact (at0_tr).weaken (by simp)
  · exact at_tr D _ false 0 0 0
theorem leftK (D k : Nat) : Tr Try.prog 38 #[pK D k] [blk D 63 [.bool false, .slice none 0 0, .int .i64 0, .int .i64 0, .int .i64 0]] [] (T0 (.int .i64 0)) := by
  unfold pK
  split
  · exact (left0_tr).weaken (by simp)
  · exact left_tr D 0 0 none false 0 0 0 (by decide) (by decide)
theorem faultK (D k : Nat) : Tr Try.prog 31 #[pK D k] [blk D 63 [.bool false, .slice none 0 0, .int .i64 0, .int .i64 0, .int .i64 0]] [] (T0 (.agg #[.int .i64 1, .int .i64 0])) := by
  unfold pK
  split
  · exact (fault0_tr).weaken (by simp)
  · exact fault_tr D _ false 0 0 0
theorem offK (D k : Nat) : Off (pK D k) [blk D 63 [.bool false, .slice none 0 0, .int .i64 0, .int .i64 0, .int .i64 0]] := by
  unfold pK
  split
  · exact fun cl => (off_none cl).weaken (by simp)
  · exact off_rd D _ false 0 0 0 (.inl rfl)
set_option maxRecDepth 20000 in

theorem fnone_tr (n : Int) (u : Value) (b : List UInt8) {Pu : Nat → Prop} : Tr Try.prog 7 #[.int .i64 n, u] [slc rByte Pu u b] [] (T0 (.bool true)) := by
  refine Tr.of (l := [(0, .int .i64 n), (1, u)]) Try.func7 rfl (n := 145) rfl (.cons rfl (.cons rfl .nil)) (fun w0 hro => ?_)
  have hu := ro1 hro
  obtain ⟨au, cu, bu, ou, rfl, -⟩ := Ro.open hu
  refine G.seq ?_
  refine G.region ?_
  refine G.op rfl (G.val rfl rfl (pv_assign rfl) ?_)
  refine G.nil ?_
  refine G.nThen ?_
  refine G.seq ?_
  refine G.seq ?_
  refine G.region ?_
  refine G.op rfl (G.val rfl rfl (pv_move rfl) ?_)
  refine G.op rfl (G.val rfl rfl (pv_lenSl Try.underlying23 rfl) ?_)
  refine G.op rfl (G.val rfl rfl (pv_gtr rfl rfl) ?_)
  refine G.nil ?_
  refine G.nThen ?_
  refine G.condP rfl (fun h14 => ?_) (fun h14 => ?_)
  · refine G.seq ?_
    refine G.region ?_
    refine G.op rfl (G.call0 rfl rfl rfl rfl Try.func8 rfl rfl (awake_tr) may0 ?_)
    refine G.op rfl (G.val rfl rfl (pv_assign rfl) ?_)
    refine G.nil ?_
    refine G.nThen ?_
    refine G.ret ?_
    refine G.rThen ?_
    exact G.done1 rfl rfl .nil ⟨rfl, rfl⟩
  · refine G.skip ?_
    refine G.nThen ?_
    refine G.seq ?_
    refine G.region ?_
    refine G.op rfl (G.val rfl rfl (pv_assign rfl) ?_)
    refine G.nil ?_
    refine G.nThen ?_
    refine G.seq ?_
    refine G.region ?_
    refine G.op rfl (G.val rfl rfl (pv_assign rfl) ?_)
    refine G.nil ?_
    refine G.nThen ?_
    refine G.seq ?_
    refine G.region ?_
    refine G.op rfl (G.val rfl rfl (pv_move rfl) ?_)
    refine G.op rfl (G.val rfl rfl (pv_build (cells := #[.bool false, .bool false, .slice none 0 0]) (fun a ha => ha.pevs rfl) (by kernel_rfl)) ?_)
    refine G.op rfl (G.box rfl rfl (cs := [.bool false, .bool false, .slice none 0 0]) rfl ?_)
    intro b18
    refine G.op rfl (G.lit1 (vs := [_, _]) rfl Try.underlying61 (by kernel_rfl) rfl (by decide) (by decide) rfl rfl ?_)
    intro b19
    refine G.op rfl (G.val rfl rfl (pv_move rfl) ?_)
    refine G.op rfl (G.val rfl rfl (pv_build (cells := #[.bool false, .slice none 0 0, .int .i64 0, .int .i64 0, .int .i64 0]) (fun a ha => ha.pevs rfl) (by kernel_rfl)) ?_)
    refine G.op rfl (G.box rfl rfl (cs := [.bool false, .slice none 0 0, .int .i64 0, .int .i64 0, .int .i64 0]) rfl ?_)
    intro b22
    refine G.op rfl (G.lit1 (vs := [_, _]) rfl Try.underlying64 (by kernel_rfl) rfl (by decide) (by decide) rfl rfl ?_)
    intro b23
    refine G.op rfl (G.val rfl rfl (pv_assign rfl) ?_)
    refine G.op rfl (G.val rfl rfl (pv_assign rfl) ?_)
    refine G.nil ?_
    refine G.nThen ?_
    refine G.seq ?_
    refine G.seq ?_
    refine G.region ?_
    refine G.op rfl (G.val rfl rfl (pv_assign rfl) ?_)
    refine G.nil ?_
    refine G.nThen ?_
    refine G.block ?_
    refine G.loop (X := Nat) (fun k => k ≤ 2) (fun k => [(9, .int .i64 (k : Int)), (7, .slice (some ⟨b19, 0, none⟩) 2 2), (8, .slice (some ⟨b23, 0, none⟩) 2 2), (0, .int .i64 n), (1, .slice au b.length cu)]) (fun k => [blk b18 60 [.bool false, .bool false, .slice none 0 0], blk b19 29 [.pointer none, .pointer (some ⟨b18, 0, none⟩)], blk b22 63 [.bool false, .slice none 0 0, .int .i64 0, .int .i64 0, .int .i64 0], blk b23 48 [.pointer none, .pointer (some ⟨b22, 0, none⟩)]]) (fun k => 2 - k) (x0 := 0) (by omega) (.consE rfl (by first | rfl | exact int_eq (by omega) | exact congrArg _ (by omega)) (.consE rfl (by first | rfl | exact int_eq (by omega) | exact congrArg _ (by omega)) (.consE rfl (by first | rfl | exact int_eq (by omega) | exact congrArg _ (by omega)) (.consE rfl (by first | rfl | exact int_eq (by omega) | exact congrArg _ (by omega)) (.consE rfl (by first | rfl | exact int_eq (by omega) | exact congrArg _ (by omega)) .nil))))) (.cons (by repeat (first | with_reducible exact Sel.here | exact Sel.here | apply Sel.there)) (.cons (by repeat (first | with_reducible exact Sel.here | exact Sel.here | apply Sel.there)) (.cons (by repeat (first | with_reducible exact Sel.here | exact Sel.here | apply Sel.there)) (.cons (by repeat (first | with_reducible exact Sel.here | exact Sel.here | apply Sel.there)) .nil)))) (fun k hJ => ?_)
    show G _ _ _ [(9, .int .i64 (k : Int)), (7, .slice (some ⟨b19, 0, none⟩) 2 2), (8, .slice (some ⟨b23, 0, none⟩) 2 2), (0, .int .i64 n), (1, .slice au b.length cu)] [blk b18 60 [.bool false, .bool false, .slice none 0 0], blk b19 29 [.pointer none, .pointer (some ⟨b18, 0, none⟩)], blk b22 63 [.bool false, .slice none 0 0, .int .i64 0, .int .i64 0, .int .i64 0], blk b23 48 [.pointer none, .pointer (some ⟨b22, 0, none⟩)]] _
    have hk : k ≤ 2 := hJ
    refine G.seq ?_
    refine G.seq ?_
    refine G.region ?_
    refine G.op rfl (G.val rfl rfl (pv_move rfl) ?_)
    refine G.op rfl (G.val rfl rfl (pv_lss rfl rfl) ?_)
    refine G.nil ?_
    refine G.nThen ?_
    refine G.condP rfl (fun h25 => ?_) (fun h25 => ?_)
    · have hk2 : k < 2 := by omega
      refine G.skip ?_
      refine G.nThen ?_
      refine G.seq ?_
      refine G.block ?_
      refine G.seq ?_
      refine G.region ?_
      refine G.op rfl (G.val rfl rfl (pv_move rfl) ?_)
      refine G.op rfl (G.val rfl rfl (pv_move rfl) ?_)
      refine G.op rfl (G.val rfl rfl (pv_ixSl (sz := 1) (k := k) Try.underlying61 (by kernel_rfl) rfl rfl (fun _ => rfl) rfl (by omega)) ?_)
      refine G.op rfl (G.val rfl rfl (pv_load Try.underlying29 rfl rfl (blk_cell (v := pK b18 k) (by repeat (first | with_reducible exact Sel.here | exact Sel.here | apply Sel.there)) (pK_get hk2))) ?_)
      refine G.op rfl (G.val rfl rfl (pv_move rfl) ?_)
      refine G.op rfl (G.call0 rfl rfl rfl rfl Try.func15 rfl rfl (wintK b18 k n) (may1 (Sel.may (by repeat (first | with_reducible exact Sel.here | exact Sel.here | apply Sel.there)))) ?_)
      refine G.nil ?_
      refine G.nThen ?_
      refine G.seq ?_
      refine G.region ?_
      refine G.op rfl (G.val rfl rfl (pv_move rfl) ?_)
      refine G.op rfl (G.val rfl rfl (pv_move rfl) ?_)
      refine G.op rfl (G.val rfl rfl (pv_ixSl (sz := 1) (k := k) Try.underlying61 (by kernel_rfl) rfl rfl (fun _ => rfl) rfl (by omega)) ?_)
      refine G.op rfl (G.val rfl rfl (pv_load Try.underlying29 rfl rfl (blk_cell (v := pK b18 k) (by repeat (first | with_reducible exact Sel.here | exact Sel.here | apply Sel.there)) (pK_get hk2))) ?_)
      refine G.op rfl (G.val rfl rfl (pv_move rfl) ?_)
      refine G.op rfl (G.call0 rfl rfl rfl rfl Try.func17 rfl rfl (wbytesK b18 k _) (may1 (Sel.may (by repeat (first | with_reducible exact Sel.here | exact Sel.here | apply Sel.there)))) ?_)
      refine G.nil ?_
      refine G.nThen ?_
      refine G.seq ?_
      refine G.drawn (by kernel_rfl) (k := 7) rfl [blk b19 29 [.pointer none, .pointer (some ⟨b18, 0, none⟩)]] ?_
      refine G.take (i := 0) rfl rfl rfl (by kernel_rfl) (by kernel_rfl) (by kernel_rfl) (fun _ _ _ h => h) rfl (pv_move rfl) (.cons (by repeat (first | with_reducible exact Sel.here | exact Sel.here | apply Sel.there)) .nil) ?_
      refine G.take (i := 1) rfl rfl rfl (by kernel_rfl) (by kernel_rfl) (by kernel_rfl) (fun _ _ _ h => h) rfl (pv_move rfl) (.cons (by repeat (first | with_reducible exact Sel.here | exact Sel.here | apply Sel.there)) .nil) ?_
      refine G.take (i := 2) rfl rfl rfl (by kernel_rfl) (by kernel_rfl) (by kernel_rfl) (fun _ _ _ h => h) rfl (pv_ixSl (sz := 1) (k := k) Try.underlying61 (by kernel_rfl) rfl rfl (fun _ => rfl) rfl (by omega)) (.cons (by repeat (first | with_reducible exact Sel.here | exact Sel.here | apply Sel.there)) .nil) ?_
      refine G.take (i := 4) rfl rfl rfl (by kernel_rfl) (by kernel_rfl) (by kernel_rfl) (fun _ _ _ h => h) rfl (pv_move rfl) (.cons (by repeat (first | with_reducible exact Sel.here | exact Sel.here | apply Sel.there)) .nil) ?_
      refine G.take (i := 3) rfl rfl rfl (by kernel_rfl) (by kernel_rfl) (by kernel_rfl) (fun _ _ _ h => h) rfl (pv_load Try.underlying29 rfl rfl (blk_cell (v := pK b18 k) (by repeat (first | with_reducible exact Sel.here | exact Sel.here | apply Sel.there)) (pK_get hk2))) (.cons (by repeat (first | with_reducible exact Sel.here | exact Sel.here | apply Sel.there)) .nil) ?_
      refine G.one (i := 5) (by kernel_rfl) ?_
      refine G.turnOp rfl rfl (G.val rfl rfl (pv_toStr (xs := b) Try.underlying23 Try.underlying5 Try.underlying9 rfl (ro_sl hu)) ?_)
      refine G.back (.cons (by repeat (first | with_reducible exact Sel.here | exact Sel.here | apply Sel.there)) .nil) ?_
      refine G.one (i := 6) (by kernel_rfl) ?_
      refine G.turnOp rfl rfl (G.call0 rfl rfl rfl rfl Try.func19 rfl rfl (wtextK b18 k b (by omega)) (may1 (Sel.may (by repeat (first | with_reducible exact Sel.here | exact Sel.here | apply Sel.there)))) ?_)
      refine G.back (.cons (by repeat (first | with_reducible exact Sel.here | exact Sel.here | apply Sel.there)) .nil) ?_
      refine G.over (by kernel_rfl) ?_
      refine G.nThen ?_
      refine G.seq ?_
      refine G.region ?_
      refine G.op rfl (G.val rfl rfl (pv_move rfl) ?_)
      refine G.op rfl (G.val rfl rfl (pv_move rfl) ?_)
      refine G.op rfl (G.val rfl rfl (pv_ixSl (sz := 1) (k := k) Try.underlying61 (by kernel_rfl) rfl rfl (fun _ => rfl) rfl (by omega)) ?_)
      refine G.op rfl (G.val rfl rfl (pv_load Try.underlying29 rfl rfl (blk_cell (v := pK b18 k) (by repeat (first | with_reducible exact Sel.here | exact Sel.here | apply Sel.there)) (pK_get hk2))) ?_)
      refine G.op rfl (G.val rfl rfl (pv_build (cells := ((List.replicate 16 (0 : UInt8)).map vByte).toArray) (fun a ha => ha.pevs rfl) (by kernel_rfl)) ?_)
      refine G.op rfl (G.call0 rfl rfl rfl rfl Try.func21 rfl rfl (widK b18 k) (may1 (Sel.may (by repeat (first | with_reducible exact Sel.here | exact Sel.here | apply Sel.there)))) ?_)
      refine G.nil ?_
      refine G.nThen ?_
      refine G.seq ?_
      refine G.region ?_
      refine G.op rfl (G.val rfl rfl (pv_move rfl) ?_)
      refine G.op rfl (G.val rfl rfl (pv_move rfl) ?_)
      refine G.op rfl (G.val rfl rfl (pv_ixSl (sz := 1) (k := k) Try.underlying61 (by kernel_rfl) rfl rfl (fun _ => rfl) rfl (by omega)) ?_)
      refine G.op rfl (G.val rfl rfl (pv_load Try.underlying29 rfl rfl (blk_cell (v := pK b18 k) (by repeat (first | with_reducible exact Sel.here | exact Sel.here | apply Sel.there)) (pK_get hk2))) ?_)
      refine G.op rfl (G.call0 rfl rfl rfl rfl Try.func25 rfl rfl (woutK b18 k) (may1 (Sel.may (by repeat (first | with_reducible exact Sel.here | exact Sel.here | apply Sel.there)))) ?_)
      refine G.op rfl (G.val rfl rfl (pv_move rfl) ?_)
      refine G.op rfl (G.val rfl rfl (pv_extract rfl rfl) ?_)
      refine G.op rfl (G.val rfl rfl (pv_extract rfl rfl) ?_)
      refine G.op rfl (G.val rfl rfl (pv_assign rfl) ?_)
      refine G.op rfl (G.val rfl rfl (pv_assign rfl) ?_)
      refine G.nil ?_
      refine G.nThen ?_
      refine G.seq ?_
      refine G.seq ?_
      refine G.region ?_
      refine G.op rfl (G.val rfl rfl (pv_move rfl) ?_)
      refine G.op rfl (G.val rfl rfl (pv_lenSl Try.underlying23 rfl) ?_)
      refine G.op rfl (G.val rfl rfl ((pv_neq rfl rfl).cast (v' := .bool false) (congrArg Value.bool (by rfl))) ?_)
      refine G.op rfl (G.val rfl rfl (pv_move rfl) ?_)
      refine G.want rfl rfl rfl (G.val rfl rfl (pv_move rfl) ?_)
      refine G.want rfl rfl rfl (G.val rfl rfl ((pv_neq rfl rfl).cast (v' := .bool false) (congrArg Value.bool (by rfl))) ?_)
      refine G.op rfl (G.val rfl rfl (pv_pick rfl rfl) ?_)
      refine G.nil ?_
      refine G.nThen ?_
      refine G.condF rfl (rfl) ?_
      refine G.skip ?_
      refine G.nThen ?_
      refine G.seq ?_
      refine G.seq ?_
      refine G.region ?_
      refine G.op rfl (G.val rfl rfl (pv_move rfl) ?_)
      refine G.op rfl (G.val rfl rfl (pv_move rfl) ?_)
      refine G.op rfl (G.val rfl rfl (pv_ixSl (sz := 1) (k := k) Try.underlying64 (by kernel_rfl) rfl rfl (fun _ => rfl) rfl (by omega)) ?_)
      refine G.op rfl (G.val rfl rfl (pv_load Try.underlying48 rfl rfl (blk_cell (v := pK b22 k) (by repeat (first | with_reducible exact Sel.here | exact Sel.here | apply Sel.there)) (pK_get hk2))) ?_)
      refine G.op rfl (G.val rfl rfl (pv_move rfl) ?_)
      refine G.op rfl (G.call0 rfl rfl rfl rfl Try.func30 rfl rfl (int_off (offK b22 k) (pK_one b22 k) 0 n) (may1 (Sel.may (by repeat (first | with_reducible exact Sel.here | exact Sel.here | apply Sel.there)))) ?_)
      refine G.op rfl (G.val rfl rfl ((pv_neq rfl rfl).cast (v' := .bool false) (congrArg Value.bool (by rfl))) ?_)
      refine G.op rfl (G.val rfl rfl (pv_move rfl) ?_)
      refine G.want rfl rfl rfl (G.val rfl rfl (pv_move rfl) ?_)
      refine G.want rfl rfl rfl (G.val rfl rfl (pv_move rfl) ?_)
      refine G.want rfl rfl rfl (G.val rfl rfl (pv_ixSl (sz := 1) (k := k) Try.underlying64 (by kernel_rfl) rfl rfl (fun _ => rfl) rfl (by omega)) ?_)
      refine G.want rfl rfl rfl (G.val rfl rfl (pv_load Try.underlying48 rfl rfl (blk_cell (v := pK b22 k) (by repeat (first | with_reducible exact Sel.here | exact Sel.here | apply Sel.there)) (pK_get hk2))) ?_)
      refine G.want rfl rfl rfl (G.val rfl rfl (pv_move rfl) ?_)
      refine G.want rfl rfl rfl (G.call0 rfl rfl rfl rfl Try.func39 rfl rfl (count_off (offK b22 k) (pK_one b22 k) n) (may1 (Sel.may (by repeat (first | with_reducible exact Sel.here | exact Sel.here | apply Sel.there)))) ?_)
      refine G.want rfl rfl rfl (G.val rfl rfl ((pv_neq rfl rfl).cast (v' := .bool false) (congrArg Value.bool (by rfl))) ?_)
      refine G.op rfl (G.val rfl rfl (pv_pick rfl rfl) ?_)
      refine G.op rfl (G.val rfl rfl (pv_move rfl) ?_)
      refine G.want rfl rfl rfl (G.val rfl rfl (pv_move rfl) ?_)
      refine G.want rfl rfl rfl (G.val rfl rfl (pv_move rfl) ?_)
      refine G.want rfl rfl rfl (G.val rfl rfl (pv_ixSl (sz := 1) (k := k) Try.underlying64 (by kernel_rfl) rfl rfl (fun _ => rfl) rfl (by omega)) ?_)
      refine G.want rfl rfl rfl (G.val rfl rfl (pv_load Try.underlying48 rfl rfl (blk_cell (v := pK b22 k) (by repeat (first | with_reducible exact Sel.here | exact Sel.here | apply Sel.there)) (pK_get hk2))) ?_)
      refine G.want rfl rfl rfl (G.val rfl rfl (pv_move rfl) ?_)
      refine G.want rfl rfl rfl (G.call0 rfl rfl rfl rfl Try.func33 rfl rfl (bytes_off (offK b22 k) (pK_one b22 k) n) (may1 (Sel.may (by repeat (first | with_reducible exact Sel.here | exact Sel.here | apply Sel.there)))) ?_)
      refine G.want rfl rfl rfl (G.val rfl rfl (pv_lenSl Try.underlying23 rfl) ?_)
      refine G.want rfl rfl rfl (G.val rfl rfl ((pv_neq rfl rfl).cast (v' := .bool false) (congrArg Value.bool (by rfl))) ?_)
      refine G.op rfl (G.val rfl rfl (pv_pick rfl rfl) ?_)
      refine G.op rfl (G.val rfl rfl (pv_move rfl) ?_)
      refine G.want rfl rfl rfl (G.val rfl rfl (pv_move rfl) ?_)
      refine G.want rfl rfl rfl (G.val rfl rfl (pv_move rfl) ?_)
      refine G.want rfl rfl rfl (G.val rfl rfl (pv_ixSl (sz := 1) (k := k) Try.underlying64 (by kernel_rfl) rfl rfl (fun _ => rfl) rfl (by omega)) ?_)
      refine G.want rfl rfl rfl (G.val rfl rfl (pv_load Try.underlying48 rfl rfl (blk_cell (v := pK b22 k) (by repeat (first | with_reducible exact Sel.here | exact Sel.here | apply Sel.there)) (pK_get hk2))) ?_)
      refine G.want rfl rfl rfl (G.val rfl rfl (pv_move rfl) ?_)
      refine G.want rfl rfl rfl (G.call0 rfl rfl rfl rfl Try.func32 rfl rfl (text_off (offK b22 k) (pK_one b22 k) n) (may1 (Sel.may (by repeat (first | with_reducible exact Sel.here | exact Sel.here | apply Sel.there)))) ?_)
      refine G.want rfl rfl rfl (G.val rfl rfl ((pv_neqS (a := []) (b := []) rfl rfl).cast (v' := .bool false) (congrArg Value.bool (by rfl))) ?_)
      refine G.op rfl (G.val rfl rfl (pv_pick rfl rfl) ?_)
      refine G.op rfl (G.val rfl rfl (pv_move rfl) ?_)
      refine G.want rfl rfl rfl (G.val rfl rfl (pv_move rfl) ?_)
      refine G.want rfl rfl rfl (G.val rfl rfl (pv_move rfl) ?_)
      refine G.want rfl rfl rfl (G.val rfl rfl (pv_ixSl (sz := 1) (k := k) Try.underlying64 (by kernel_rfl) rfl rfl (fun _ => rfl) rfl (by omega)) ?_)
      refine G.want rfl rfl rfl (G.val rfl rfl (pv_load Try.underlying48 rfl rfl (blk_cell (v := pK b22 k) (by repeat (first | with_reducible exact Sel.here | exact Sel.here | apply Sel.there)) (pK_get hk2))) ?_)
      refine G.want rfl rfl rfl (G.call0 rfl rfl rfl rfl Try.func35 rfl rfl (id_off (offK b22 k) (pK_one b22 k)) (may1 (Sel.may (by repeat (first | with_reducible exact Sel.here | exact Sel.here | apply Sel.there)))) ?_)
      refine G.want rfl rfl rfl (G.val rfl rfl (pv_build (cells := ((List.replicate 16 (0 : UInt8)).map vByte).toArray) (fun a ha => ha.pevs rfl) (by kernel_rfl)) ?_)
      refine G.want rfl rfl rfl (G.val rfl rfl ((pv_neqAr8 (a := List.replicate 16 0) (b := List.replicate 16 0) Try.underlying37 rfl (by kernel_rfl) Try.underlying5 (by kernel_rfl) rfl rfl rfl rfl).cast (v' := .bool false) (congrArg Value.bool (by rfl))) ?_)
      refine G.op rfl (G.val rfl rfl (pv_pick rfl rfl) ?_)
      refine G.op rfl (G.val rfl rfl (pv_move rfl) ?_)
      refine G.want rfl rfl rfl (G.val rfl rfl (pv_move rfl) ?_)
      refine G.want rfl rfl rfl (G.val rfl rfl (pv_move rfl) ?_)
      refine G.want rfl rfl rfl (G.val rfl rfl (pv_ixSl (sz := 1) (k := k) Try.underlying64 (by kernel_rfl) rfl rfl (fun _ => rfl) rfl (by omega)) ?_)
      refine G.want rfl rfl rfl (G.val rfl rfl (pv_load Try.underlying48 rfl rfl (blk_cell (v := pK b22 k) (by repeat (first | with_reducible exact Sel.here | exact Sel.here | apply Sel.there)) (pK_get hk2))) ?_)
      refine G.want rfl rfl rfl (G.call0 rfl rfl rfl rfl Try.func34 rfl rfl (atK b22 k) (may1 (Sel.may (by repeat (first | with_reducible exact Sel.here | exact Sel.here | apply Sel.there)))) ?_)
      refine G.want rfl rfl rfl (G.val rfl rfl ((pv_neq rfl rfl).cast (v' := .bool false) (congrArg Value.bool (by rfl))) ?_)
      refine G.op rfl (G.val rfl rfl (pv_pick rfl rfl) ?_)
      refine G.op rfl (G.val rfl rfl (pv_move rfl) ?_)
      refine G.want rfl rfl rfl (G.val rfl rfl (pv_move rfl) ?_)
      refine G.want rfl rfl rfl (G.val rfl rfl (pv_move rfl) ?_)
      refine G.want rfl rfl rfl (G.val rfl rfl (pv_ixSl (sz := 1) (k := k) Try.underlying64 (by kernel_rfl) rfl rfl (fun _ => rfl) rfl (by omega)) ?_)
      refine G.want rfl rfl rfl (G.val rfl rfl (pv_load Try.underlying48 rfl rfl (blk_cell (v := pK b22 k) (by repeat (first | with_reducible exact Sel.here | exact Sel.here | apply Sel.there)) (pK_get hk2))) ?_)
      refine G.want rfl rfl rfl (G.call0 rfl rfl rfl rfl Try.func38 rfl rfl (leftK b22 k) (may1 (Sel.may (by repeat (first | with_reducible exact Sel.here | exact Sel.here | apply Sel.there)))) ?_)
      refine G.want rfl rfl rfl (G.val rfl rfl ((pv_neq rfl rfl).cast (v' := .bool false) (congrArg Value.bool (by rfl))) ?_)
      refine G.op rfl (G.val rfl rfl (pv_pick rfl rfl) ?_)
      refine G.nil ?_
      refine G.nThen ?_
      refine G.condF rfl (rfl) ?_
      refine G.skip ?_
      refine G.nThen ?_
      refine G.seq ?_
      refine G.region ?_
      refine G.op rfl (G.val rfl rfl (pv_move rfl) ?_)
      refine G.op rfl (G.val rfl rfl (pv_move rfl) ?_)
      refine G.op rfl (G.val rfl rfl (pv_ixSl (sz := 1) (k := k) Try.underlying64 (by kernel_rfl) rfl rfl (fun _ => rfl) rfl (by omega)) ?_)
      refine G.op rfl (G.val rfl rfl (pv_load Try.underlying48 rfl rfl (blk_cell (v := pK b22 k) (by repeat (first | with_reducible exact Sel.here | exact Sel.here | apply Sel.there)) (pK_get hk2))) ?_)
      refine G.op rfl (G.call0 rfl rfl rfl rfl Try.func31 rfl rfl (faultK b22 k) (may1 (Sel.may (by repeat (first | with_reducible exact Sel.here | exact Sel.here | apply Sel.there)))) ?_)
      refine G.op rfl (G.val rfl rfl (pv_build (cells := #[.int .i64 1, .int .i64 0]) (fun a ha => ha.pevs rfl) (by kernel_rfl)) ?_)
      refine G.op rfl (G.val rfl rfl ((pv_neqSt (xs := [.int .i64 1, .int .i64 0]) (ys := [.int .i64 1, .int .i64 0]) (r := true) Try.underlying51 (by kernel_rfl) (by kernel_rfl) rfl rfl (by kernel_rfl)).cast (v' := .bool false) (congrArg Value.bool (by rfl))) ?_)
      refine G.op rfl (G.val rfl rfl (pv_move rfl) ?_)
      refine G.want rfl rfl rfl (G.val rfl rfl (pv_move rfl) ?_)
      refine G.want rfl rfl rfl (G.val rfl rfl (pv_move rfl) ?_)
      refine G.want rfl rfl rfl (G.val rfl rfl (pv_ixSl (sz := 1) (k := k) Try.underlying64 (by kernel_rfl) rfl rfl (fun _ => rfl) rfl (by omega)) ?_)
      refine G.want rfl rfl rfl (G.val rfl rfl (pv_load Try.underlying48 rfl rfl (blk_cell (v := pK b22 k) (by repeat (first | with_reducible exact Sel.here | exact Sel.here | apply Sel.there)) (pK_get hk2))) ?_)
      refine G.want rfl rfl rfl (G.call0 rfl rfl rfl rfl Try.func40 rfl rfl (end_off (faultK b22 k)) (may1 (Sel.may (by repeat (first | with_reducible exact Sel.here | exact Sel.here | apply Sel.there)))) ?_)
      refine G.want rfl rfl rfl (G.val rfl rfl (pv_build (cells := #[.int .i64 1, .int .i64 0]) (fun a ha => ha.pevs rfl) (by kernel_rfl)) ?_)
      refine G.want rfl rfl rfl (G.val rfl rfl ((pv_neqSt (xs := [.int .i64 1, .int .i64 0]) (ys := [.int .i64 1, .int .i64 0]) (r := true) Try.underlying51 (by kernel_rfl) (by kernel_rfl) rfl rfl (by kernel_rfl)).cast (v' := .bool false) (congrArg Value.bool (by rfl))) ?_)
      refine G.op rfl (G.val rfl rfl (pv_pick rfl rfl) ?_)
      refine G.nil ?_
      refine G.nThen ?_
      refine G.condF rfl (rfl) ?_
      refine G.skip ?_
      refine G.nBlock ?_
      refine G.nThen ?_
      refine G.region ?_
      refine G.op rfl (G.val rfl rfl (pv_move rfl) ?_)
      refine G.op rfl (G.val rfl rfl (pv_add64 rfl rfl (by omega)) ?_)
      refine G.op rfl (G.val rfl rfl (pv_assign rfl) ?_)
      refine G.nil ?_
      exact G.next (k + 1) (by omega) (by omega) (.consE rfl (by first | rfl | exact int_eq (by omega) | exact congrArg _ (by omega)) (.consE rfl (by first | rfl | exact int_eq (by omega) | exact congrArg _ (by omega)) (.consE rfl (by first | rfl | exact int_eq (by omega) | exact congrArg _ (by omega)) (.consE rfl (by first | rfl | exact int_eq (by omega) | exact congrArg _ (by omega)) (.consE rfl (by first | rfl | exact int_eq (by omega) | exact congrArg _ (by omega)) .nil))))) (.cons (by repeat (first | with_reducible exact Sel.here | exact Sel.here | apply Sel.there)) (.cons (by repeat (first | with_reducible exact Sel.here | exact Sel.here | apply Sel.there)) (.cons (by repeat (first | with_reducible exact Sel.here | exact Sel.here | apply Sel.there)) (.cons (by repeat (first | with_reducible exact Sel.here | exact Sel.here | apply Sel.there)) .nil))))
    · refine G.exit ?_
      refine G.eThen ?_
      refine G.eThen ?_
      refine G.eBlock ?_
      refine G.nThen ?_
      refine G.seq ?_
      refine G.region ?_
      refine G.op rfl (G.call0 rfl rfl rfl rfl Try.func8 rfl rfl (awake_tr) may0 ?_)
      refine G.op rfl (G.val rfl rfl (pv_assign rfl) ?_)
      refine G.nil ?_
      refine G.nThen ?_
      refine G.ret ?_
      exact G.done1 rfl rfl .nil ⟨rfl, rfl⟩
end Go.Proofs.Ytnfjpiancbgdhaa
