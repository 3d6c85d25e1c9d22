/- What PathParts computes. Conditions: none. -/
import Derived.Test.YtkhffndeomihhaaDoorPT
set_option linter.unusedVariables false
set_option linter.unusedSimpArgs false
namespace Go.Proofs.YtkhffndeomihhaaDoor
open Go.RowKit

theorem partsM_mem {s p : List UInt8} (h : p ∈ partsM s) : p.length ≤ s.length := by
  unfold partsM at h
  split at h
  · exact mem_len h
  · cases h
set_option maxRecDepth 20000 in
set_option maxHeartbeats 4000000 in

theorem pparts (s : List UInt8) (hs : s.length ≤ 9223372036854775807) : Tr Tryd.prog 3 #[.string (sB s)] [] [] (T0 (.bool true)) := by
  refine Tr.of (l := [(0, .string (sB s))]) Tryd.func3 rfl (n := 66) rfl (.cons rfl .nil) (fun w0 hro => ?_)
  refine G.seq ?_
  refine G.region ?_
  refine G.op rfl (G.val rfl rfl (pv_assign rfl) ?_)
  refine G.nil ?_
  refine G.nThen ?_
  refine G.seq ?_
  refine G.seq ?_
  refine G.region ?_
  refine G.op rfl (G.val rfl rfl (pv_move rfl) ?_)
  refine G.op rfl (G.val rfl rfl (pv_lenS Tryd.underlying9 rfl) ?_)
  refine G.op rfl (G.val rfl rfl (pv_gtr rfl rfl) ?_)
  refine G.nil ?_
  refine G.nThen ?_
  refine G.condP rfl (fun h11 => ?_) (fun h11 => ?_)
  · refine G.seq ?_
    refine G.region ?_
    refine G.op rfl (G.cR rfl rfl rfl rfl Tryd.func5 rfl rfl may0 (awake_tr) ?_)
    refine G.op rfl (G.val rfl rfl (pv_assign rfl) ?_)
    refine G.nil ?_
    refine G.nThen ?_
    refine G.ret ?_
    refine G.rThen ?_
    exact G.done0G rfl (Rv.tmp rfl Rv.nil) (by first | rfl | exact int_eq (by omega) | (simp; done))
  · refine G.skip ?_
    refine G.nThen ?_
    refine G.seq ?_
    refine G.region ?_
    refine G.op rfl (G.val rfl rfl (pv_move rfl) ?_)
    refine G.op rfl (G.cR rfl rfl rfl rfl Tryd.func6 rfl rfl may0 (parent_tr _ (by omega)) ?_)
    refine G.op rfl (G.val rfl rfl (pv_move rfl) ?_)
    refine G.op rfl (G.val rfl rfl (pv_extract rfl rfl) ?_)
    refine G.op rfl (G.val rfl rfl (pv_extract rfl rfl) ?_)
    refine G.op rfl (G.val rfl rfl (pv_assign rfl) ?_)
    refine G.op rfl (G.val rfl rfl (pv_assign rfl) ?_)
    refine G.nil ?_
    refine G.nThen ?_
    refine G.seq ?_
    refine G.region ?_
    refine G.op rfl (G.val rfl rfl (pv_move rfl) ?_)
    refine G.op rfl (G.cR rfl rfl rfl rfl Tryd.func7 rfl rfl may0 (parentR_tr _ (by omega)) ?_)
    refine G.op rfl (G.val rfl rfl (pv_move rfl) ?_)
    refine G.op rfl (G.val rfl rfl (pv_extract rfl rfl) ?_)
    refine G.op rfl (G.val rfl rfl (pv_extract rfl rfl) ?_)
    refine G.op rfl (G.val rfl rfl (pv_assign rfl) ?_)
    refine G.op rfl (G.val rfl rfl (pv_assign rfl) ?_)
    refine G.nil ?_
    refine G.nThen ?_
    refine G.seq ?_
    refine G.region ?_
    refine G.op rfl (G.val rfl rfl (pv_move rfl) ?_)
    refine G.op rfl (G.cS rfl rfl rfl rfl Tryd.func8 rfl rfl (by repeat (first | exact Sub.nil | (apply Sub.cons; (repeat (first | with_reducible exact Sel.here | exact Sel.here | apply Sel.there))))) may0 (parts_tr _ (by omega)) (by repeat (first | exact Ap.nil | apply Ap.cons)) ?_)
    intro x24 hJ
    try dsimp only at hJ
    try dsimp only
    have hJ24 := hJ
    refine G.op rfl (G.val rfl rfl (pv_assign rfl) ?_)
    refine G.nil ?_
    refine G.nThen ?_
    refine G.seq ?_
    refine G.region ?_
    refine G.op rfl (G.val rfl rfl (pv_move rfl) ?_)
    refine G.op rfl (G.cR rfl rfl rfl rfl Tryd.func9 rfl rfl may0 (check_tr _ (by omega)) ?_)
    refine G.op rfl (G.val rfl rfl (pv_move rfl) ?_)
    refine G.op rfl (G.cR rfl rfl rfl rfl Tryd.func10 rfl rfl may0 (checkR_tr _ (by omega)) ?_)
    refine G.op rfl (G.val rfl rfl ((pv_eqlSt (xs := [.int .i64 (checkM s).1, .int .i64 (checkM s).2]) (ys := [.int .i64 (checkM s).1, .int .i64 (checkM s).2]) (r := decide (((checkM s).1 : Int) = (checkM s).1) && (decide (((checkM s).2 : Int) = (checkM s).2) && true)) Tryd.underlying29 (by kernel_rfl) (by kernel_rfl) rfl rfl (by kernel_rfl)).cast (v' := .bool true) (congrArg Value.bool (by simp))) ?_)
    refine G.op rfl (G.val rfl rfl (pv_move rfl) ?_)
    refine G.want rfl rfl rfl (G.val rfl rfl (pv_move rfl) ?_)
    refine G.want rfl rfl rfl (G.val rfl rfl (pv_move rfl) ?_)
    refine G.want rfl rfl rfl (G.cS rfl rfl rfl rfl Tryd.func12 rfl rfl (by repeat (first | exact Sub.nil | (apply Sub.cons; (repeat (first | with_reducible exact Sel.here | exact Sel.here | apply Sel.there))))) may0 (partsR_tr _ (by omega)) (by repeat (first | exact Ap.nil | apply Ap.cons)) ?_)
    intro x33 hJ
    try dsimp only at hJ
    try dsimp only
    refine G.want rfl rfl rfl (G.cR rfl rfl rfl rfl Tryd.func11 rfl rfl (may2 (may_own (f := vStr) (p := fun _ => True) (xs := partsM s) (by repeat (first | with_reducible exact Sel.here | exact Sel.here | apply Sel.there)) rfl (fun _ _ => trivial)) (may_own (f := vStr) (p := fun _ => True) (xs := partsM s) (by repeat (first | with_reducible exact Sel.here | exact Sel.here | apply Sel.there)) rfl (fun _ _ => trivial))) (sameTexts_self _ _ (partsM s) (partsM s) rfl) ?_)
    refine G.op rfl (G.val rfl rfl (pv_pick rfl rfl) ?_)
    refine G.op rfl (G.val rfl rfl (pv_move rfl) ?_)
    refine G.want rfl rfl rfl (G.val rfl rfl (pv_move rfl) ?_)
    refine G.want rfl rfl rfl (G.val rfl rfl (pv_move rfl) ?_)
    refine G.want rfl rfl rfl (G.val rfl rfl ((pv_eqlS rfl rfl).cast (v' := .bool true) (congrArg Value.bool (by simp))) ?_)
    refine G.op rfl (G.val rfl rfl (pv_pick rfl rfl) ?_)
    refine G.op rfl (G.val rfl rfl (pv_move rfl) ?_)
    refine G.want rfl rfl rfl (G.val rfl rfl (pv_move rfl) ?_)
    refine G.want rfl rfl rfl (G.val rfl rfl (pv_move rfl) ?_)
    refine G.want rfl rfl rfl (G.val rfl rfl ((pv_eqlB Tryd.underlying4 rfl rfl).cast (v' := .bool true) (congrArg Value.bool (by simp))) ?_)
    refine G.op rfl (G.val rfl rfl (pv_pick rfl rfl) ?_)
    refine G.op rfl (G.val rfl rfl (pv_move rfl) ?_)
    refine G.want rfl rfl rfl (G.val rfl rfl (pv_move rfl) ?_)
    refine G.want rfl rfl rfl (G.cR rfl rfl rfl rfl Tryd.func13 rfl rfl may0 (base_tr _ (by omega)) ?_)
    refine G.want rfl rfl rfl (G.val rfl rfl (pv_move rfl) ?_)
    refine G.want rfl rfl rfl (G.cR rfl rfl rfl rfl Tryd.func14 rfl rfl may0 (baseR_tr _ (by omega)) ?_)
    refine G.want rfl rfl rfl (G.val rfl rfl ((pv_eqlS rfl rfl).cast (v' := .bool true) (congrArg Value.bool (by simp))) ?_)
    refine G.op rfl (G.val rfl rfl (pv_pick rfl rfl) ?_)
    refine G.op rfl (G.val rfl rfl (pv_assign rfl) ?_)
    refine G.nil ?_
    refine G.nThen ?_
    refine G.seq ?_
    refine G.region ?_
    refine G.op rfl (G.val rfl rfl (pv_move rfl) ?_)
    refine G.op rfl (G.cS rfl rfl rfl rfl Tryd.func15 rfl rfl (by repeat (first | exact Sub.nil | (apply Sub.cons; (repeat (first | with_reducible exact Sel.here | exact Sel.here | apply Sel.there))))) may0 (overTexts_tr x24 (partsM s) hJ24 (fun p hp => by have := partsM_mem hp; omega)) (by repeat (first | exact Ap.nil | apply Ap.cons)) ?_)
    intro x54 hJ
    try dsimp only at hJ
    try dsimp only
    refine G.nil ?_
    refine G.nThen ?_
    refine G.seq ?_
    refine G.region ?_
    refine G.op rfl (G.val rfl rfl (pv_move rfl) ?_)
    refine G.op rfl (G.val rfl rfl (pv_move rfl) ?_)
    refine G.want rfl rfl rfl (G.val rfl rfl (pv_move rfl) ?_)
    refine G.want rfl rfl rfl (G.cS rfl rfl rfl rfl Tryd.func8 rfl rfl (by repeat (first | exact Sub.nil | (apply Sub.cons; (repeat (first | with_reducible exact Sel.here | exact Sel.here | apply Sel.there))))) may0 (parts_tr _ (by omega)) (by repeat (first | exact Ap.nil | apply Ap.cons)) ?_)
    intro x58 hJ
    try dsimp only at hJ
    try dsimp only
    refine G.want rfl rfl rfl (G.val rfl rfl (pv_move rfl) ?_)
    refine G.want rfl rfl rfl (G.cS rfl rfl rfl rfl Tryd.func12 rfl rfl (by repeat (first | exact Sub.nil | (apply Sub.cons; (repeat (first | with_reducible exact Sel.here | exact Sel.here | apply Sel.there))))) may0 (partsR_tr _ (by omega)) (by repeat (first | exact Ap.nil | apply Ap.cons)) ?_)
    intro x60 hJ
    try dsimp only at hJ
    try dsimp only
    refine G.want rfl rfl rfl (G.cR rfl rfl rfl rfl Tryd.func11 rfl rfl (may2 (may_own (f := vStr) (p := fun _ => True) (xs := partsM s) (by repeat (first | with_reducible exact Sel.here | exact Sel.here | apply Sel.there)) rfl (fun _ _ => trivial)) (may_own (f := vStr) (p := fun _ => True) (xs := partsM s) (by repeat (first | with_reducible exact Sel.here | exact Sel.here | apply Sel.there)) rfl (fun _ _ => trivial))) (sameTexts_self _ _ (partsM s) (partsM s) rfl) ?_)
    refine G.op rfl (G.val rfl rfl (pv_pick rfl rfl) ?_)
    refine G.op rfl (G.val rfl rfl (pv_move rfl) ?_)
    refine G.want rfl rfl rfl (G.cR rfl rfl rfl rfl Tryd.func5 rfl rfl may0 (awake_tr) ?_)
    refine G.op rfl (G.val rfl rfl (pv_pick rfl rfl) ?_)
    refine G.op rfl (G.val rfl rfl (pv_assign rfl) ?_)
    refine G.nil ?_
    refine G.nThen ?_
    refine G.ret ?_
    exact G.done0G rfl (Rv.tmp rfl Rv.nil) (by first | rfl | exact int_eq (by omega) | (simp; done))
end Go.Proofs.YtkhffndeomihhaaDoor
