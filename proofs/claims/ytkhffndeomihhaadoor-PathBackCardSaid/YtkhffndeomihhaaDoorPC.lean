/- Contracts: which of two texts is ahead. Conditions: none. -/
import Derived.Test.YtkhffndeomihhaaDoorPB
set_option linter.unusedVariables false
set_option linter.unusedSimpArgs false
namespace Go.Proofs.YtkhffndeomihhaaDoor
open Go.RowKit

set_option maxRecDepth 20000 in
set_option maxHeartbeats 4000000 in

theorem isNaN_tr (s : List UInt8) : Tr Tryd.prog 43 #[.string (sB s)] [] [] (T0 (.bool false)) := by
  refine Tr.of (l := [(0, .string (sB s))]) Tryd.func43 rfl (n := 6) rfl (.cons rfl .nil) (fun w0 hro => ?_)
  refine G.seq ?_
  refine G.region ?_
  refine G.op rfl (G.val rfl rfl (pv_assign rfl) ?_)
  refine G.nil ?_
  refine G.nThen ?_
  refine G.seq ?_
  refine G.region ?_
  refine G.op rfl (G.val rfl rfl (pv_move rfl) ?_)
  refine G.op rfl (G.val rfl rfl (pv_move rfl) ?_)
  refine G.op rfl (G.val rfl rfl (pv_neqS rfl rfl) ?_)
  refine G.op rfl (G.val rfl rfl (pv_assign rfl) ?_)
  refine G.nil ?_
  refine G.nThen ?_
  refine G.ret ?_
  exact G.done0G rfl (Rv.tmp rfl Rv.nil) (by simp; rfl)
/-- which of two texts is ahead, as bytes -/
def bytesC (a b : List UInt8) : Int := if Op.bytesLess a b then -1 else if !(Op.bytesLess a b || decide (a = b)) then 1 else 0
theorem bytes_lt {a b : List UInt8} (h : Op.bytesLess a b = true) : bytesC a b = -1 := if_pos h
theorem bytes_gt {a b : List UInt8} (h : Op.bytesLess a b = false) (h2 : (!(Op.bytesLess a b || decide (a = b))) = true) : bytesC a b = 1 := by
  unfold bytesC
  rw [if_neg (by rw [h]; decide), if_pos h2]
theorem bytes_eq {a b : List UInt8} (h : Op.bytesLess a b = false) (h2 : (!(Op.bytesLess a b || decide (a = b))) = false) : bytesC a b = 0 := by
  unfold bytesC
  rw [if_neg (by rw [h]; decide), if_neg (by rw [h2]; decide)]
set_option maxRecDepth 20000 in
set_option maxHeartbeats 4000000 in

theorem cmp_tr (a b : List UInt8) : Tr Tryd.prog 35 #[.string (sB a), .string (sB b)] [] [] (T0 (.int .i64 (bytesC a b))) := by
  refine Tr.of (l := [(0, .string (sB a)), (1, .string (sB b))]) Tryd.func35 rfl (n := 20) rfl (.cons rfl (.cons rfl .nil)) (fun w0 hro => ?_)
  refine G.seq ?_
  refine G.region ?_
  refine G.op rfl (G.val rfl rfl (pv_assign rfl) ?_)
  refine G.nil ?_
  refine G.nThen ?_
  refine G.seq ?_
  refine G.region ?_
  refine G.op rfl (G.val rfl rfl (pv_move rfl) ?_)
  refine G.op rfl (G.cR rfl rfl rfl rfl Tryd.func43 rfl rfl may0 (isNaN_tr a) ?_)
  refine G.op rfl (G.val rfl rfl (pv_assign rfl) ?_)
  refine G.nil ?_
  refine G.nThen ?_
  refine G.seq ?_
  refine G.region ?_
  refine G.op rfl (G.val rfl rfl (pv_move rfl) ?_)
  refine G.op rfl (G.cR rfl rfl rfl rfl Tryd.func43 rfl rfl may0 (isNaN_tr b) ?_)
  refine G.op rfl (G.val rfl rfl (pv_assign rfl) ?_)
  refine G.nil ?_
  refine G.nThen ?_
  refine G.seq ?_
  refine G.seq ?_
  refine G.region ?_
  refine G.op rfl (G.val rfl rfl (pv_move rfl) ?_)
  refine G.nil ?_
  refine G.nThen ?_
  refine G.condF rfl (rfl) ?_
  refine G.skip ?_
  refine G.nThen ?_
  refine G.seq ?_
  refine G.seq ?_
  refine G.region ?_
  refine G.op rfl (G.val rfl rfl (pv_move rfl) ?_)
  refine G.nil ?_
  refine G.nThen ?_
  refine G.condF rfl (rfl) ?_
  refine G.skip ?_
  refine G.nThen ?_
  refine G.seq ?_
  refine G.seq ?_
  refine G.region ?_
  refine G.op rfl (G.val rfl rfl (pv_move rfl) ?_)
  refine G.op rfl (G.val rfl rfl (pv_move rfl) ?_)
  refine G.op rfl (G.val rfl rfl (pv_lssS rfl rfl) ?_)
  refine G.nil ?_
  refine G.nThen ?_
  refine G.cond rfl (fun h16 => ?_) (fun h16 => ?_)
  · refine G.seq ?_
    refine G.region ?_
    refine G.op rfl (G.val rfl rfl (pv_assign rfl) ?_)
    refine G.nil ?_
    refine G.nThen ?_
    refine G.ret ?_
    refine G.rThen ?_
    exact G.done0G rfl (Rv.tmp rfl Rv.nil) (by rw [bytes_lt (by assumption)]; rfl)
  · refine G.skip ?_
    refine G.nThen ?_
    refine G.seq ?_
    refine G.seq ?_
    refine G.region ?_
    refine G.op rfl (G.val rfl rfl (pv_move rfl) ?_)
    refine G.op rfl (G.val rfl rfl (pv_move rfl) ?_)
    refine G.op rfl (G.val rfl rfl (pv_gtrS rfl rfl) ?_)
    refine G.nil ?_
    refine G.nThen ?_
    refine G.cond rfl (fun h19 => ?_) (fun h19 => ?_)
    · refine G.seq ?_
      refine G.region ?_
      refine G.op rfl (G.val rfl rfl (pv_assign rfl) ?_)
      refine G.nil ?_
      refine G.nThen ?_
      refine G.ret ?_
      refine G.rThen ?_
      exact G.done0G rfl (Rv.tmp rfl Rv.nil) (by rw [bytes_gt (by assumption) (by assumption)]; rfl)
    · refine G.skip ?_
      refine G.nThen ?_
      refine G.seq ?_
      refine G.region ?_
      refine G.op rfl (G.val rfl rfl (pv_assign rfl) ?_)
      refine G.nil ?_
      refine G.nThen ?_
      refine G.ret ?_
      exact G.done0G rfl (Rv.tmp rfl Rv.nil) (by rw [bytes_eq (by assumption) (by assumption)]; rfl)
end Go.Proofs.YtkhffndeomihhaaDoor
