/- PathUnder: what lies under a path stands right behind it. Conditions: none. -/
import Derived.Test.YtfbihljphjpnkaaPK
import Derived.Test.YtfbihljphjpnkaaPL
set_option linter.unusedVariables false
set_option linter.unusedSimpArgs false
namespace Go.Proofs.Ytfbihljphjpnkaa
open Go.RowKit

theorem under_is {s d : List UInt8} {b : Bool} (hs : s.length ≤ 1000000) (hd : d.length ≤ 1000000) (h : decide (underM s d) = b) : Tr Try.prog 11 #[.string (sB s), .string (sB d)] [] [] (T0 (.bool b)) := by
  have := under_tr s d hs hd
  rwa [h] at this
theorem compare_is {a b : List UInt8} {c : Int} (ha : a.length ≤ 1000000) (hb : b.length ≤ 1000000) (h : compareM a b = c) : Tr Try.prog 9 #[.string (sB a), .string (sB b)] [] [] (T0 (.int .i64 c)) := by
  have := compare_tr a b ha hb
  rwa [h] at this
set_option maxRecDepth 20000 in
set_option maxHeartbeats 4000000 in

theorem punder (s d o : List UInt8) (hs : s.length ≤ 9223372036854775807) (hd : d.length ≤ 9223372036854775807) (ho : o.length ≤ 9223372036854775807) : Tr Try.prog 5 #[.string (sB s), .string (sB d), .string (sB o)] [] [] (T0 (.bool true)) := by
  refine Tr.of (l := [(0, .string (sB s)), (1, .string (sB d)), (2, .string (sB o))]) Try.func5 rfl (n := 106) rfl (.cons rfl (.cons rfl (.cons rfl .nil))) (fun w0 hro => ?_)
  have hpl := parentM_len s
  refine G.seq ?_
  refine G.region ?_
  refine G.op rfl (G.val rfl rfl (pv_assign rfl) ?_)
  refine G.nil ?_
  refine G.nThen ?_
  refine G.seq ?_
  refine G.region ?_
  refine G.op rfl (G.cR rfl rfl rfl rfl Try.func8 rfl rfl may0 (awake_tr) ?_)
  refine G.op rfl (G.val rfl rfl (pv_assign rfl) ?_)
  refine G.nil ?_
  refine G.nThen ?_
  refine G.seq ?_
  refine G.seq ?_
  refine G.region ?_
  refine G.op rfl (G.val rfl rfl (pv_move rfl) ?_)
  refine G.op rfl (G.val rfl rfl (pv_lenS Try.underlying9 rfl) ?_)
  refine G.op rfl (G.val rfl rfl (pv_gtr rfl rfl) ?_)
  refine G.op rfl (G.val rfl rfl (pv_move rfl) ?_)
  refine G.partP (t := 14) rfl (fun h14 => ?_) (fun h14 => ?_)
  · refine G.pass rfl rfl rfl rfl rfl rfl ?_
    refine G.pass rfl rfl rfl rfl rfl rfl ?_
    refine G.pass rfl rfl rfl rfl rfl rfl ?_
    refine G.op rfl (G.val rfl rfl (pv_pick rfl rfl) ?_)
    refine G.op rfl (G.val rfl rfl (pv_move rfl) ?_)
    refine G.pass rfl rfl rfl rfl rfl rfl ?_
    refine G.pass rfl rfl rfl rfl rfl rfl ?_
    refine G.pass rfl rfl rfl rfl rfl rfl ?_
    refine G.op rfl (G.val rfl rfl (pv_pick rfl rfl) ?_)
    refine G.nil ?_
    refine G.nThen ?_
    refine G.condT rfl (rfl) ?_
    refine G.seq ?_
    refine G.region ?_
    refine G.op rfl (G.val rfl rfl (pv_move rfl) ?_)
    refine G.op rfl (G.val rfl rfl (pv_assign rfl) ?_)
    refine G.nil ?_
    refine G.nThen ?_
    refine G.ret ?_
    refine G.rThen ?_
    exact G.done0G rfl (Rv.tmp rfl Rv.nil) (by first | rfl | exact int_eq (by omega) | (simp; done))
  · refine G.want rfl rfl rfl (G.val rfl rfl (pv_move rfl) ?_)
    refine G.want rfl rfl rfl (G.val rfl rfl (pv_lenS Try.underlying9 rfl) ?_)
    refine G.want rfl rfl rfl (G.val rfl rfl (pv_gtr rfl rfl) ?_)
    refine G.op rfl (G.val rfl rfl (pv_pick rfl rfl) ?_)
    refine G.op rfl (G.val rfl rfl (pv_move rfl) ?_)
    refine G.partP (t := 19) rfl (fun h19 => ?_) (fun h19 => ?_)
    · refine G.pass rfl rfl rfl rfl rfl rfl ?_
      refine G.pass rfl rfl rfl rfl rfl rfl ?_
      refine G.pass rfl rfl rfl rfl rfl rfl ?_
      refine G.op rfl (G.val rfl rfl (pv_pick rfl rfl) ?_)
      refine G.nil ?_
      refine G.nThen ?_
      refine G.condT rfl (rfl) ?_
      refine G.seq ?_
      refine G.region ?_
      refine G.op rfl (G.val rfl rfl (pv_move rfl) ?_)
      refine G.op rfl (G.val rfl rfl (pv_assign rfl) ?_)
      refine G.nil ?_
      refine G.nThen ?_
      refine G.ret ?_
      refine G.rThen ?_
      exact G.done0G rfl (Rv.tmp rfl Rv.nil) (by first | rfl | exact int_eq (by omega) | (simp; done))
    · refine G.want rfl rfl rfl (G.val rfl rfl (pv_move rfl) ?_)
      refine G.want rfl rfl rfl (G.val rfl rfl (pv_lenS Try.underlying9 rfl) ?_)
      refine G.want rfl rfl rfl (G.val rfl rfl (pv_gtr rfl rfl) ?_)
      refine G.op rfl (G.val rfl rfl (pv_pick rfl rfl) ?_)
      refine G.nil ?_
      refine G.nThen ?_
      refine G.condP rfl (fun h23 => ?_) (fun h23 => ?_)
      · refine G.seq ?_
        refine G.region ?_
        refine G.op rfl (G.val rfl rfl (pv_move rfl) ?_)
        refine G.op rfl (G.val rfl rfl (pv_assign rfl) ?_)
        refine G.nil ?_
        refine G.nThen ?_
        refine G.ret ?_
        refine G.rThen ?_
        exact G.done0G rfl (Rv.tmp rfl Rv.nil) (by first | rfl | exact int_eq (by omega) | (simp; done))
      · refine G.skip ?_
        refine G.nThen ?_
        refine G.seq ?_
        refine G.region ?_
        refine G.op rfl (G.val rfl rfl (pv_move rfl) ?_)
        refine G.op rfl (G.cR rfl rfl rfl rfl Try.func15 rfl rfl may0 (parent_tr _ (by omega)) ?_)
        refine G.op rfl (G.val rfl rfl (pv_move rfl) ?_)
        refine G.op rfl (G.val rfl rfl (pv_extract rfl rfl) ?_)
        refine G.op rfl (G.val rfl rfl (pv_extract rfl rfl) ?_)
        refine G.op rfl (G.val rfl rfl (pv_assign rfl) ?_)
        refine G.op rfl (G.val rfl rfl (pv_assign rfl) ?_)
        refine G.nil ?_
        refine G.nThen ?_
        refine G.seq ?_
        refine G.seq ?_
        refine G.cutK (X := Unit) (ts := [0, 1, 2, 6, 8, 9]) (p := []) (fun _ => True) (fun _ => [(53, .bool false), (7, .bool true)]) (fun _ => []) (.cons rfl (.cons rfl (.cons rfl (.cons rfl (.cons rfl (.cons rfl .nil)))))) (by repeat (first | exact Sub.nil | (apply Sub.cons; (repeat (first | with_reducible exact Sel.here | exact Sel.here | apply Sel.there))))) (.cons (.cons .nil)) (by repeat (first | exact Ap.nil | apply Ap.cons)) ?_ ?_
        · refine G.region ?_
          refine G.op rfl (G.val rfl rfl (pv_move rfl) ?_)
          refine G.op rfl (G.val rfl rfl (pv_move rfl) ?_)
          refine G.part (t := 31) rfl (fun h31 => ?_) (fun h31 => ?_)
          · refine G.want rfl rfl rfl (G.val rfl rfl (pv_move rfl) ?_)
            refine G.want rfl rfl rfl (G.val rfl rfl (pv_move rfl) ?_)
            refine G.want rfl rfl rfl (G.cR rfl rfl rfl rfl Try.func11 rfl rfl may0 (under_is (b := true) (by omega) (by omega) (decide_eq_true (parent_under (by assumption)))) ?_)
            refine G.want rfl rfl rfl (G.val rfl rfl (pv_not rfl) ?_)
            refine G.want rfl rfl rfl (G.val rfl rfl (pv_move rfl) ?_)
            refine G.want rfl rfl rfl (G.val rfl rfl (pv_move rfl) ?_)
            refine G.want rfl rfl rfl (G.val rfl rfl (pv_move rfl) ?_)
            refine G.want rfl rfl rfl (G.cR rfl rfl rfl rfl Try.func9 rfl rfl may0 (compare_is (c := -1) (by omega) (by omega) (under_ahead (parent_under (by assumption)))) ?_)
            refine G.want rfl rfl rfl (G.val rfl rfl ((pv_neq rfl rfl).cast (v' := .bool false) (congrArg Value.bool (by simp))) ?_)
            refine G.want rfl rfl rfl (G.val rfl rfl (pv_pick rfl rfl) ?_)
            refine G.want rfl rfl rfl (G.val rfl rfl (pv_move rfl) ?_)
            refine G.want rfl rfl rfl (G.val rfl rfl (pv_move rfl) ?_)
            refine G.want rfl rfl rfl (G.val rfl rfl (pv_move rfl) ?_)
            refine G.want rfl rfl rfl (G.cR rfl rfl rfl rfl Try.func11 rfl rfl may0 (under_tr _ _ (by omega) (by omega)) ?_)
            refine G.want rfl rfl rfl (G.val rfl rfl (pv_move rfl) ?_)
            refine G.partP (t := 46) rfl (fun h46 => ?_) (fun h46 => ?_)
            · refine G.want rfl rfl rfl (G.val rfl rfl (pv_move rfl) ?_)
              refine G.want rfl rfl rfl (G.val rfl rfl (pv_move rfl) ?_)
              refine G.want rfl rfl rfl (G.cR rfl rfl rfl rfl Try.func11 rfl rfl may0 (under_is (b := true) (by omega) (by omega) (decide_eq_true (under_trans (parent_under (by assumption)) (by assumption)))) ?_)
              refine G.want rfl rfl rfl (G.val rfl rfl (pv_not rfl) ?_)
              refine G.want rfl rfl rfl (G.val rfl rfl (pv_pick rfl rfl) ?_)
              refine G.want rfl rfl rfl (G.val rfl rfl (pv_pick rfl rfl) ?_)
              refine G.op rfl (G.val rfl rfl (pv_pick rfl rfl) ?_)
              refine G.nil ?_
              exact G.meet (()) (by first | exact trivial | ((try dsimp only); exact trivial)) (.consE rfl (by first | rfl | exact int_eq (by first | omega | (dsimp only; omega)) | exact congrArg _ (by omega)) (.consE rfl (by first | rfl | exact int_eq (by first | omega | (dsimp only; omega)) | exact congrArg _ (by omega)) (.cons rfl (.cons rfl (.cons rfl (.cons rfl (.cons rfl (.cons rfl .nil)))))))) (by repeat (first | exact Sub.nil | (apply Sub.cons; (repeat (first | with_reducible exact Sel.here | exact Sel.here | apply Sel.there)))))
            · refine G.pass rfl rfl rfl rfl rfl rfl ?_
              refine G.pass rfl rfl rfl rfl rfl rfl ?_
              refine G.pass rfl rfl rfl rfl rfl rfl ?_
              refine G.pass rfl rfl rfl rfl rfl rfl ?_
              refine G.want rfl rfl rfl (G.val rfl rfl (pv_pick rfl rfl) ?_)
              refine G.want rfl rfl rfl (G.val rfl rfl (pv_pick rfl rfl) ?_)
              refine G.op rfl (G.val rfl rfl (pv_pick rfl rfl) ?_)
              refine G.nil ?_
              exact G.meet (()) (by first | exact trivial | ((try dsimp only); exact trivial)) (.consE rfl (by first | rfl | exact int_eq (by first | omega | (dsimp only; omega)) | exact congrArg _ (by omega)) (.consE rfl (by first | rfl | exact int_eq (by first | omega | (dsimp only; omega)) | exact congrArg _ (by omega)) (.cons rfl (.cons rfl (.cons rfl (.cons rfl (.cons rfl (.cons rfl .nil)))))))) (by repeat (first | exact Sub.nil | (apply Sub.cons; (repeat (first | with_reducible exact Sel.here | exact Sel.here | apply Sel.there)))))
          · refine G.pass rfl rfl rfl rfl rfl rfl ?_
            refine G.pass rfl rfl rfl rfl rfl rfl ?_
            refine G.pass rfl rfl rfl rfl rfl rfl ?_
            refine G.pass rfl rfl rfl rfl rfl rfl ?_
            refine G.pass rfl rfl rfl rfl rfl rfl ?_
            refine G.passU rfl rfl rfl rfl rfl ?_
            refine G.passU rfl rfl rfl rfl rfl ?_
            refine G.passU rfl rfl rfl rfl rfl ?_
            refine G.passU rfl rfl rfl rfl rfl ?_
            refine G.pass rfl rfl rfl rfl rfl rfl ?_
            refine G.pass rfl rfl rfl rfl rfl rfl ?_
            refine G.passU rfl rfl rfl rfl rfl ?_
            refine G.passU rfl rfl rfl rfl rfl ?_
            refine G.passU rfl rfl rfl rfl rfl ?_
            refine G.passU rfl rfl rfl rfl rfl ?_
            refine G.passU rfl rfl rfl rfl rfl ?_
            refine G.passU rfl rfl rfl rfl rfl ?_
            refine G.passU rfl rfl rfl rfl rfl ?_
            refine G.passU rfl rfl rfl rfl rfl ?_
            refine G.passU rfl rfl rfl rfl rfl ?_
            refine G.pass rfl rfl rfl rfl rfl rfl ?_
            refine G.op rfl (G.val rfl rfl (pv_pick rfl rfl) ?_)
            refine G.nil ?_
            exact G.meet (()) (by first | exact trivial | ((try dsimp only); exact trivial)) (.consE rfl (by first | rfl | exact int_eq (by first | omega | (dsimp only; omega)) | exact congrArg _ (by omega)) (.consE rfl (by first | rfl | exact int_eq (by first | omega | (dsimp only; omega)) | exact congrArg _ (by omega)) (.cons rfl (.cons rfl (.cons rfl (.cons rfl (.cons rfl (.cons rfl .nil)))))))) (by repeat (first | exact Sub.nil | (apply Sub.cons; (repeat (first | with_reducible exact Sel.here | exact Sel.here | apply Sel.there)))))
        · intro _ hJ
          try dsimp only at hJ
          try dsimp only
          refine G.condF rfl (rfl) ?_
          refine G.skip ?_
          refine G.nThen ?_
          refine G.seq ?_
          refine G.seq ?_
          refine G.region ?_
          refine G.op rfl (G.val rfl rfl (pv_move rfl) ?_)
          refine G.op rfl (G.val rfl rfl (pv_move rfl) ?_)
          refine G.op rfl (G.cR rfl rfl rfl rfl Try.func11 rfl rfl may0 (under_tr _ _ (by omega) (by omega)) ?_)
          refine G.op rfl (G.val rfl rfl (pv_notP rfl) ?_)
          refine G.nil ?_
          refine G.nThen ?_
          refine G.condP rfl (fun h57 => ?_) (fun h57 => ?_)
          · refine G.seq ?_
            refine G.region ?_
            refine G.op rfl (G.val rfl rfl (pv_move rfl) ?_)
            refine G.op rfl (G.val rfl rfl (pv_assign rfl) ?_)
            refine G.nil ?_
            refine G.nThen ?_
            refine G.ret ?_
            refine G.rThen ?_
            exact G.done0G rfl (Rv.tmp rfl Rv.nil) (by first | rfl | exact int_eq (by omega) | (simp; done))
          · have hu : underM s d := Decidable.of_not_not (by assumption)
            obtain ⟨hpt, hpu⟩ := under_parent hu
            rw [hpt]
            refine G.skip ?_
            refine G.nThen ?_
            refine G.seq ?_
            refine G.seq ?_
            refine G.cutK (X := Unit) (ts := [0, 1, 2, 6]) (p := []) (fun _ => True) (fun _ => [(82, .bool false), (7, .bool true)]) (fun _ => []) (.cons rfl (.cons rfl (.cons rfl (.cons rfl .nil)))) (by repeat (first | exact Sub.nil | (apply Sub.cons; (repeat (first | with_reducible exact Sel.here | exact Sel.here | apply Sel.there))))) (.cons (.cons .nil)) (by repeat (first | exact Ap.nil | apply Ap.cons)) ?_ ?_
            · refine G.region ?_
              refine G.op rfl (G.val rfl rfl (pv_move rfl) ?_)
              refine G.op rfl (G.val rfl rfl (pv_move rfl) ?_)
              refine G.op rfl (G.cR rfl rfl rfl rfl Try.func9 rfl rfl may0 (compare_is (c := -1) (by omega) (by omega) (under_ahead hu)) ?_)
              refine G.op rfl (G.val rfl rfl ((pv_neq rfl rfl).cast (v' := .bool false) (congrArg Value.bool (by simp))) ?_)
              refine G.op rfl (G.val rfl rfl (pv_move rfl) ?_)
              refine G.want rfl rfl rfl (G.val rfl rfl (pv_move rfl) ?_)
              refine G.want rfl rfl rfl (G.val rfl rfl (pv_move rfl) ?_)
              refine G.want rfl rfl rfl (G.cR rfl rfl rfl rfl Try.func11 rfl rfl may0 (under_is (b := false) (by omega) (by omega) (decide_eq_false (under_asymm hu))) ?_)
              refine G.op rfl (G.val rfl rfl (pv_pick rfl rfl) ?_)
              refine G.op rfl (G.val rfl rfl (pv_move rfl) ?_)
              refine G.want rfl rfl rfl (G.val rfl rfl (pv_move rfl) ?_)
              refine G.want rfl rfl rfl (G.val rfl rfl ((pv_not rfl).cast (v' := .bool false) rfl) ?_)
              refine G.op rfl (G.val rfl rfl (pv_pick rfl rfl) ?_)
              refine G.op rfl (G.val rfl rfl (pv_move rfl) ?_)
              refine G.want rfl rfl rfl (G.val rfl rfl (pv_move rfl) ?_)
              refine G.want rfl rfl rfl (G.val rfl rfl (pv_move rfl) ?_)
              refine G.want rfl rfl rfl (G.val rfl rfl (pv_neqS rfl rfl) ?_)
              refine G.want rfl rfl rfl (G.val rfl rfl (pv_move rfl) ?_)
              refine G.partP (t := 76) rfl (fun h76 => ?_) (fun h76 => ?_)
              · refine G.want rfl rfl rfl (G.val rfl rfl (pv_move rfl) ?_)
                refine G.want rfl rfl rfl (G.val rfl rfl (pv_move rfl) ?_)
                refine G.want rfl rfl rfl (G.cR rfl rfl rfl rfl Try.func11 rfl rfl may0 (under_is (b := true) (by omega) (by omega) (decide_eq_true (hpu (by assumption)))) ?_)
                refine G.want rfl rfl rfl (G.val rfl rfl (pv_not rfl) ?_)
                refine G.want rfl rfl rfl (G.val rfl rfl (pv_pick rfl rfl) ?_)
                refine G.op rfl (G.val rfl rfl (pv_pick rfl rfl) ?_)
                refine G.nil ?_
                exact G.meet (()) (by first | exact trivial | ((try dsimp only); exact trivial)) (.consE rfl (by first | rfl | exact int_eq (by first | omega | (dsimp only; omega)) | exact congrArg _ (by omega)) (.consE rfl (by first | rfl | exact int_eq (by first | omega | (dsimp only; omega)) | exact congrArg _ (by omega)) (.cons rfl (.cons rfl (.cons rfl (.cons rfl .nil)))))) (by repeat (first | exact Sub.nil | (apply Sub.cons; (repeat (first | with_reducible exact Sel.here | exact Sel.here | apply Sel.there)))))
              · refine G.pass rfl rfl rfl rfl rfl rfl ?_
                refine G.pass rfl rfl rfl rfl rfl rfl ?_
                refine G.pass rfl rfl rfl rfl rfl rfl ?_
                refine G.pass rfl rfl rfl rfl rfl rfl ?_
                refine G.want rfl rfl rfl (G.val rfl rfl (pv_pick rfl rfl) ?_)
                refine G.op rfl (G.val rfl rfl (pv_pick rfl rfl) ?_)
                refine G.nil ?_
                exact G.meet (()) (by first | exact trivial | ((try dsimp only); exact trivial)) (.consE rfl (by first | rfl | exact int_eq (by first | omega | (dsimp only; omega)) | exact congrArg _ (by omega)) (.consE rfl (by first | rfl | exact int_eq (by first | omega | (dsimp only; omega)) | exact congrArg _ (by omega)) (.cons rfl (.cons rfl (.cons rfl (.cons rfl .nil)))))) (by repeat (first | exact Sub.nil | (apply Sub.cons; (repeat (first | with_reducible exact Sel.here | exact Sel.here | apply Sel.there)))))
            · intro _ hJ
              try dsimp only at hJ
              try dsimp only
              refine G.condF rfl (rfl) ?_
              refine G.skip ?_
              refine G.nThen ?_
              refine G.seq ?_
              refine G.region ?_
              refine G.op rfl (G.val rfl rfl (pv_move rfl) ?_)
              refine G.op rfl (G.val rfl rfl (pv_move rfl) ?_)
              refine G.want rfl rfl rfl (G.val rfl rfl (pv_move rfl) ?_)
              refine G.want rfl rfl rfl (G.cR rfl rfl rfl rfl Try.func16 rfl rfl may0 (lvalid_tr _ (by omega)) ?_)
              refine G.want rfl rfl rfl (G.val rfl rfl (pv_notP rfl) ?_)
              refine G.want rfl rfl rfl (G.val rfl rfl (pv_move rfl) ?_)
              refine G.partP (t := 88) rfl (fun h88 => ?_) (fun h88 => ?_)
              · refine G.pass rfl rfl rfl rfl rfl rfl ?_
                refine G.pass rfl rfl rfl rfl rfl rfl ?_
                refine G.pass rfl rfl rfl rfl rfl rfl ?_
                refine G.want rfl rfl rfl (G.val rfl rfl (pv_pick rfl rfl) ?_)
                refine G.want rfl rfl rfl (G.val rfl rfl (pv_move rfl) ?_)
                refine G.pass rfl rfl rfl rfl rfl rfl ?_
                refine G.pass rfl rfl rfl rfl rfl rfl ?_
                refine G.pass rfl rfl rfl rfl rfl rfl ?_
                refine G.pass rfl rfl rfl rfl rfl rfl ?_
                refine G.want rfl rfl rfl (G.val rfl rfl (pv_pick rfl rfl) ?_)
                refine G.want rfl rfl rfl (G.val rfl rfl (pv_move rfl) ?_)
                refine G.pass rfl rfl rfl rfl rfl rfl ?_
                refine G.pass rfl rfl rfl rfl rfl rfl ?_
                refine G.pass rfl rfl rfl rfl rfl rfl ?_
                refine G.pass rfl rfl rfl rfl rfl rfl ?_
                refine G.want rfl rfl rfl (G.val rfl rfl (pv_pick rfl rfl) ?_)
                refine G.op rfl (G.val rfl rfl (pv_pick rfl rfl) ?_)
                refine G.op rfl (G.val rfl rfl (pv_assign rfl) ?_)
                refine G.nil ?_
                refine G.nThen ?_
                refine G.ret ?_
                exact G.done0G rfl (Rv.tmp rfl Rv.nil) (by first | rfl | exact int_eq (by omega) | (simp; done))
              · refine G.want rfl rfl rfl (G.val rfl rfl (pv_move rfl) ?_)
                refine G.want rfl rfl rfl (G.val rfl rfl (pv_move rfl) ?_)
                refine G.want rfl rfl rfl (G.cR rfl rfl rfl rfl Try.func11 rfl rfl may0 (under_tr _ _ (by omega) (by omega)) ?_)
                refine G.want rfl rfl rfl (G.val rfl rfl (pv_pick rfl rfl) ?_)
                refine G.want rfl rfl rfl (G.val rfl rfl (pv_move rfl) ?_)
                refine G.partP (t := 93) rfl (fun h93 => ?_) (fun h93 => ?_)
                · refine G.pass rfl rfl rfl rfl rfl rfl ?_
                  refine G.pass rfl rfl rfl rfl rfl rfl ?_
                  refine G.pass rfl rfl rfl rfl rfl rfl ?_
                  refine G.pass rfl rfl rfl rfl rfl rfl ?_
                  refine G.want rfl rfl rfl (G.val rfl rfl (pv_pick rfl rfl) ?_)
                  refine G.want rfl rfl rfl (G.val rfl rfl (pv_move rfl) ?_)
                  refine G.pass rfl rfl rfl rfl rfl rfl ?_
                  refine G.pass rfl rfl rfl rfl rfl rfl ?_
                  refine G.pass rfl rfl rfl rfl rfl rfl ?_
                  refine G.pass rfl rfl rfl rfl rfl rfl ?_
                  refine G.want rfl rfl rfl (G.val rfl rfl (pv_pick rfl rfl) ?_)
                  refine G.op rfl (G.val rfl rfl (pv_pick rfl rfl) ?_)
                  refine G.op rfl (G.val rfl rfl (pv_assign rfl) ?_)
                  refine G.nil ?_
                  refine G.nThen ?_
                  refine G.ret ?_
                  exact G.done0G rfl (Rv.tmp rfl Rv.nil) (by first | rfl | exact int_eq (by omega) | (simp; done))
                · refine G.want rfl rfl rfl (G.val rfl rfl (pv_move rfl) ?_)
                  refine G.want rfl rfl rfl (G.val rfl rfl (pv_move rfl) ?_)
                  refine G.want rfl rfl rfl (G.cR rfl rfl rfl rfl Try.func9 rfl rfl may0 (compare_tr _ _ (by omega) (by omega)) ?_)
                  refine G.want rfl rfl rfl (G.val rfl rfl (pv_leq rfl rfl) ?_)
                  refine G.want rfl rfl rfl (G.val rfl rfl (pv_pick rfl rfl) ?_)
                  refine G.want rfl rfl rfl (G.val rfl rfl (pv_move rfl) ?_)
                  refine G.partP (t := 99) rfl (fun h99 => ?_) (fun h99 => ?_)
                  · refine G.pass rfl rfl rfl rfl rfl rfl ?_
                    refine G.pass rfl rfl rfl rfl rfl rfl ?_
                    refine G.pass rfl rfl rfl rfl rfl rfl ?_
                    refine G.pass rfl rfl rfl rfl rfl rfl ?_
                    refine G.want rfl rfl rfl (G.val rfl rfl (pv_pick rfl rfl) ?_)
                    refine G.op rfl (G.val rfl rfl (pv_pick rfl rfl) ?_)
                    refine G.op rfl (G.val rfl rfl (pv_assign rfl) ?_)
                    refine G.nil ?_
                    refine G.nThen ?_
                    refine G.ret ?_
                    exact G.done0G rfl (Rv.tmp rfl Rv.nil) (by first | rfl | exact int_eq (by omega) | (simp; done))
                  · refine G.want rfl rfl rfl (G.val rfl rfl (pv_move rfl) ?_)
                    refine G.want rfl rfl rfl (G.val rfl rfl (pv_move rfl) ?_)
                    refine G.want rfl rfl rfl (G.cR rfl rfl rfl rfl Try.func9 rfl rfl may0 (compare_is (c := 1) (by omega) (by omega) (under_behind hu (by first | assumption | exact Decidable.of_not_not (by assumption)) (by assumption) (by assumption))) ?_)
                    refine G.want rfl rfl rfl (G.val rfl rfl ((pv_eql rfl rfl).cast (v' := .bool true) (congrArg Value.bool (by simp))) ?_)
                    refine G.want rfl rfl rfl (G.val rfl rfl (pv_pick rfl rfl) ?_)
                    refine G.op rfl (G.val rfl rfl (pv_pick rfl rfl) ?_)
                    refine G.op rfl (G.val rfl rfl (pv_assign rfl) ?_)
                    refine G.nil ?_
                    refine G.nThen ?_
                    refine G.ret ?_
                    exact G.done0G rfl (Rv.tmp rfl Rv.nil) (by first | rfl | exact int_eq (by omega) | (simp; done))
end Go.Proofs.Ytfbihljphjpnkaa
