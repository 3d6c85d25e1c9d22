/- Layer 7's statements: their small functions; PathCompares, PathJoins. Conditions: none. -/
import Derived.Test.YtkhffndeomihhaaDoorPJ
set_option linter.unusedVariables false
set_option linter.unusedSimpArgs false
namespace Go.Proofs.YtkhffndeomihhaaDoor
open Go.RowKit

set_option maxRecDepth 20000 in
set_option maxHeartbeats 4000000 in

theorem lfails_tr (s : List UInt8) (e k : Int) (hs : s.length ≤ 1000000) : Tr Tryd.prog 20 #[.string (sB s), .int .i64 e, .int .i64 k] [] [] (T0 (.bool (decide ((checkM s).1 = e) && (decide ((checkM s).2 = k) && true)))) := by
  refine Tr.of (l := [(0, .string (sB s)), (1, .int .i64 e), (2, .int .i64 k)]) Tryd.func20 rfl (n := 13) rfl (.cons rfl (.cons rfl (.cons rfl .nil))) (fun w0 hro => ?_)
  refine G.seq ?_
  refine G.region ?_
  refine G.op rfl (G.val rfl rfl (pv_assign rfl) ?_)
  refine G.nil ?_
  refine G.nThen ?_
  refine G.seq ?_
  refine G.region ?_
  refine G.op rfl (G.val rfl rfl (pv_move rfl) ?_)
  refine G.op rfl (G.cR rfl rfl rfl rfl Tryd.func9 rfl rfl may0 (check_tr _ (by omega)) ?_)
  refine G.op rfl (G.val rfl rfl (pv_move rfl) ?_)
  refine G.op rfl (G.val rfl rfl (pv_move rfl) ?_)
  refine G.op rfl (G.val rfl rfl (pv_buildSt (z := [.int .i64 0, .int .i64 0]) (pl := [(0, 1), (1, 1)]) Tryd.underlying29 (by kernel_rfl) (by kernel_rfl) rfl (by repeat (first | exact Fl.nil | (apply Fl.cons; exact rfl; (first | exact cells_of (by first | rfl | with_reducible assumption) | exact rfl); exact rfl; exact rfl; repeat (first | exact Sn.nil | (apply Sn.cons; repeat (first | exact St.zero | apply St.succ))))))) ?_)
  refine G.op rfl (G.val rfl rfl (pv_eqlSt (xs := [.int .i64 (checkM s).1, .int .i64 (checkM s).2]) (ys := [.int .i64 e, .int .i64 k]) (r := decide ((checkM s).1 = e) && (decide ((checkM s).2 = k) && true)) Tryd.underlying29 (by kernel_rfl) (by kernel_rfl) rfl rfl (by kernel_rfl)) ?_)
  refine G.op rfl (G.val rfl rfl (pv_assign rfl) ?_)
  refine G.nil ?_
  refine G.nThen ?_
  refine G.ret ?_
  exact G.done0G rfl (Rv.tmp rfl Rv.nil) (by first | rfl | exact int_eq (by omega) | (simp; done))
set_option maxRecDepth 20000 in
set_option maxHeartbeats 4000000 in

theorem lvalid_tr (s : List UInt8) (hs : s.length ≤ 1000000) : Tr Tryd.prog 17 #[.string (sB s)] [] [] (T0 (.bool (decide ((checkM s).1 = 0)))) := by
  refine Tr.of (l := [(0, .string (sB s))]) Tryd.func17 rfl (n := 7) rfl (.cons rfl .nil) (fun w0 hro => ?_)
  refine G.seq ?_
  refine G.region ?_
  refine G.op rfl (G.val rfl rfl (pv_assign rfl) ?_)
  refine G.nil ?_
  refine G.nThen ?_
  refine G.seq ?_
  refine G.region ?_
  refine G.op rfl (G.val rfl rfl (pv_move rfl) ?_)
  refine G.op rfl (G.cR rfl rfl rfl rfl Tryd.func9 rfl rfl may0 (check_tr _ (by omega)) ?_)
  refine G.op rfl (G.val rfl rfl (pv_field1 Tryd.underlying29 rfl Tryd.underlying27 rfl rfl rfl) ?_)
  refine G.op rfl (G.val rfl rfl (pv_eql rfl rfl) ?_)
  refine G.op rfl (G.val rfl rfl (pv_assign rfl) ?_)
  refine G.nil ?_
  refine G.nThen ?_
  refine G.ret ?_
  exact G.done0G rfl (Rv.tmp rfl Rv.nil) (by first | rfl | exact int_eq (by omega) | (simp; done))
set_option maxRecDepth 20000 in
set_option maxHeartbeats 4000000 in

theorem ljoins_tr (d p w : List UInt8) (hd : d.length ≤ 100000) (hp : p.length ≤ 100000) : Tr Tryd.prog 18 #[.string (sB d), .string (sB p), .string (sB w)] [] [] (T0 (.bool (decide (joinM d p = (w, 0))))) := by
  refine Tr.of (l := [(0, .string (sB d)), (1, .string (sB p)), (2, .string (sB w))]) Tryd.func18 rfl (n := 22) rfl (.cons rfl (.cons rfl (.cons rfl .nil))) (fun w0 hro => ?_)
  refine G.seq ?_
  refine G.region ?_
  refine G.op rfl (G.val rfl rfl (pv_assign rfl) ?_)
  refine G.nil ?_
  refine G.nThen ?_
  refine G.seq ?_
  refine G.region ?_
  refine G.op rfl (G.val rfl rfl (pv_move rfl) ?_)
  refine G.op rfl (G.val rfl rfl (pv_move rfl) ?_)
  refine G.op rfl (G.cR rfl rfl rfl rfl Tryd.func16 rfl rfl may0 (join_tr _ _ (by omega) (by omega)) ?_)
  refine G.op rfl (G.val rfl rfl (pv_move rfl) ?_)
  refine G.op rfl (G.val rfl rfl (pv_extract rfl rfl) ?_)
  refine G.op rfl (G.val rfl rfl (pv_extract rfl rfl) ?_)
  refine G.op rfl (G.val rfl rfl (pv_assign rfl) ?_)
  refine G.op rfl (G.val rfl rfl (pv_assign rfl) ?_)
  refine G.nil ?_
  refine G.nThen ?_
  refine G.seq ?_
  refine G.region ?_
  refine G.op rfl (G.val rfl rfl (pv_move rfl) ?_)
  refine G.op rfl (G.val rfl rfl (pv_move rfl) ?_)
  refine G.op rfl (G.val rfl rfl (pv_eqlS rfl rfl) ?_)
  refine G.op rfl (G.val rfl rfl (pv_move rfl) ?_)
  refine G.partP (t := 18) rfl (fun h18 => ?_) (fun h18 => ?_)
  · refine G.want rfl rfl rfl (G.val rfl rfl (pv_move rfl) ?_)
    refine G.want rfl rfl rfl (G.val rfl rfl (pv_eql rfl rfl) ?_)
    refine G.op rfl (G.val rfl rfl (pv_pick rfl rfl) ?_)
    refine G.op rfl (G.val rfl rfl (pv_assign rfl) ?_)
    refine G.nil ?_
    refine G.nThen ?_
    refine G.ret ?_
    exact G.done0G rfl (Rv.tmp rfl Rv.nil) (by simp_all [retV1, Prod.ext_iff])
  · refine G.pass rfl rfl rfl rfl rfl rfl ?_
    refine G.pass rfl rfl rfl rfl rfl rfl ?_
    refine G.op rfl (G.val rfl rfl (pv_pick rfl rfl) ?_)
    refine G.op rfl (G.val rfl rfl (pv_assign rfl) ?_)
    refine G.nil ?_
    refine G.nThen ?_
    refine G.ret ?_
    exact G.done0G rfl (Rv.tmp rfl Rv.nil) (by simp_all [retV1, Prod.ext_iff])
theorem lvalid_yes (s : List UInt8) (hs : s.length ≤ 1000000) (h : (checkM s).1 = 0) : Tr Tryd.prog 17 #[.string (sB s)] [] [] (T0 (.bool true)) := by
  have := lvalid_tr s hs
  rwa [decide_eq_true h] at this
theorem lfails_yes (s : List UInt8) (e k : Int) (hs : s.length ≤ 1000000) (h : checkM s = (e, k)) : Tr Tryd.prog 20 #[.string (sB s), .int .i64 e, .int .i64 k] [] [] (T0 (.bool true)) := by
  have := lfails_tr s e k hs
  rw [h] at this
  simpa using this
theorem compare_at (a b : List UInt8) (c : Int) (ha : a.length ≤ 1000000) (hb : b.length ≤ 1000000) (h : compareM a b = c) : Tr Tryd.prog 21 #[.string (sB a), .string (sB b)] [] [] (T0 (.int .i64 c)) := by
  have := compare_tr a b (by omega) (by omega)
  rwa [h] at this
theorem under_yes (s d : List UInt8) (hs : s.length ≤ 1000000) (hd : d.length ≤ 1000000) (h : decide (underM s d) = true) : Tr Tryd.prog 22 #[.string (sB s), .string (sB d)] [] [] (T0 (.bool true)) := by
  have := under_tr s d (by omega) (by omega)
  rwa [h] at this
theorem under_no (s d : List UInt8) (hs : s.length ≤ 1000000) (hd : d.length ≤ 1000000) (h : decide (underM s d) = false) : Tr Tryd.prog 22 #[.string (sB s), .string (sB d)] [] [] (T0 (.bool false)) := by
  have := under_tr s d (by omega) (by omega)
  rwa [h] at this
theorem ljoins_yes (d p w : List UInt8) (hd : d.length ≤ 100000) (hp : p.length ≤ 100000) (h : joinM d p = (w, 0)) : Tr Tryd.prog 18 #[.string (sB d), .string (sB p), .string (sB w)] [] [] (T0 (.bool true)) := by
  have := ljoins_tr d p w hd hp
  rwa [decide_eq_true h] at this
set_option maxRecDepth 20000 in
set_option maxHeartbeats 4000000 in

theorem awake_tr : Tr Tryd.prog 5 #[] [] [] (T0 (.bool true)) := by
  refine Tr.of (l := []) Tryd.func5 rfl (n := 15) rfl Fa.nil (fun w0 hro => ?_)
  refine G.seq ?_
  refine G.region ?_
  refine G.op rfl (G.val rfl rfl (pv_assign rfl) ?_)
  refine G.nil ?_
  refine G.nThen ?_
  refine G.seq ?_
  refine G.region ?_
  refine G.op rfl (G.cR rfl rfl rfl rfl Tryd.func17 rfl rfl may0 (lvalid_yes [97, 47, 98, 46, 99] (by decide) (by kernel_rfl)) ?_)
  refine G.op rfl (G.val rfl rfl (pv_move rfl) ?_)
  refine G.want rfl rfl rfl (G.cR rfl rfl rfl rfl Tryd.func20 rfl rfl may0 (lfails_yes [97, 47, 47, 98] 2 2 (by decide) (by kernel_rfl)) ?_)
  refine G.op rfl (G.val rfl rfl (pv_pick rfl rfl) ?_)
  refine G.op rfl (G.val rfl rfl (pv_move rfl) ?_)
  refine G.want rfl rfl rfl (G.cR rfl rfl rfl rfl Tryd.func21 rfl rfl may0 (compare_at [97, 47, 98] [97, 33] (-1) (by decide) (by decide) (by kernel_rfl)) ?_)
  refine G.want rfl rfl rfl (G.val rfl rfl ((pv_eql rfl rfl).cast (v' := .bool true) (congrArg Value.bool (decide_eq_true rfl))) ?_)
  refine G.op rfl (G.val rfl rfl (pv_pick rfl rfl) ?_)
  refine G.op rfl (G.val rfl rfl (pv_move rfl) ?_)
  refine G.want rfl rfl rfl (G.cR rfl rfl rfl rfl Tryd.func22 rfl rfl may0 (under_yes [97, 47, 98, 47, 99] [97] (by decide) (by decide) (by kernel_rfl)) ?_)
  refine G.op rfl (G.val rfl rfl (pv_pick rfl rfl) ?_)
  refine G.op rfl (G.val rfl rfl (pv_move rfl) ?_)
  refine G.want rfl rfl rfl (G.cR rfl rfl rfl rfl Tryd.func18 rfl rfl may0 (ljoins_yes [97] [98] [97, 47, 98] (by decide) (by decide) (by kernel_rfl)) ?_)
  refine G.op rfl (G.val rfl rfl (pv_pick rfl rfl) ?_)
  refine G.op rfl (G.val rfl rfl (pv_assign rfl) ?_)
  refine G.nil ?_
  refine G.nThen ?_
  refine G.ret ?_
  exact G.done0G rfl (Rv.tmp rfl Rv.nil) (by first | rfl | exact int_eq (by omega) | (simp; done))
end Go.Proofs.YtkhffndeomihhaaDoor
