/- The statements NoteKinds, NoteNames, NoteKnown. Conditions: none. -/
import Derived.Test.YtakcffhknnailaaNJ
set_option linter.unusedVariables false
set_option linter.unusedSimpArgs false
namespace Go.Proofs.Ytakcffhknnailaa
open Go.RowKit

theorem nameM_none {k : Int} (h : shM k = none) : nameM k = [] := by unfold nameM shD; rw [h]; rfl
theorem nameM_some {k : Int} {s : Sh} (h : shM k = some s) : nameM k = s.name := by unfold nameM shD; rw [h]; rfl
theorem nameM_az (k : Int) : ∀ c ∈ nameM k, 97 ≤ c.toNat ∧ c.toNat ≤ 122 := by
  cases h : shM k with
  | none => rw [nameM_none h]; intro c hc; cases hc
  | some s =>
    rw [nameM_some h]
    have key : shTab.all (fun s => s.name.all fun c => Nat.ble 97 c.toNat && Nat.ble c.toNat 122) = true := by kernel_rfl
    have hm : s ∈ shTab := List.mem_of_getElem? (shM_in h).2.2
    intro c hc
    have := List.all_eq_true.1 (List.all_eq_true.1 key s hm) c hc
    rw [Bool.and_eq_true] at this
    exact ⟨Nat.le_of_ble_eq_true this.1, Nat.le_of_ble_eq_true this.2⟩
theorem nameM_inj {q k : Int} (hq : 1 ≤ q) (hq2 : q ≤ 24) (hk : 1 ≤ k) (hk2 : k ≤ 24) (h : nameM q = nameM k) : q = k := by
  obtain ⟨s, hs⟩ := shM_near hq hq2
  obtain ⟨t, ht⟩ := shM_near hk hk2
  rw [nameM_some hs, nameM_some ht] at h
  have e1 := (shM_in hs).2.2
  have e2 := (shM_in ht).2.2
  have key : (shTab.map (·.name)).Nodup := by decide +kernel
  have f1 : (shTab.map (·.name))[(q - 1).toNat]? = some s.name := by rw [List.getElem?_map, e1]; rfl
  have f2 : (shTab.map (·.name))[(k - 1).toNat]? = some t.name := by rw [List.getElem?_map, e2]; rfl
  have := (List.getElem?_inj (List.getElem?_eq_some_iff.1 f1).1 key).1 (f1.trans (by rw [f2, h]))
  omega
theorem nameM_ne {k : Int} (hk : 1 ≤ k) (hk2 : k ≤ 24) : nameM k ≠ [] := by
  obtain ⟨t, ht⟩ := shM_near hk hk2
  rw [nameM_some ht]
  exact (shOk (shM_in ht).2.2).2.2.2.2.2.2.2.2.2
set_option maxRecDepth 20000 in
set_option maxHeartbeats 4000000 in

theorem nkindsN (k : Int) (h : shM k = none) : Tr Try.prog 8 #[.int .i64 k] [] [] (T0 (.bool true)) := by
  refine Tr.of (l := [(0, .int .i64 k)]) Try.func8 rfl (n := 28) rfl (.cons rfl .nil) (fun w0 hro => ?_)
  have hkk := shM_out h
  refine G.seq ?_
  refine G.region ?_
  refine G.op rfl (G.val rfl rfl (pv_assign rfl) ?_)
  refine G.nil ?_
  refine G.nThen ?_
  refine G.seq ?_
  refine G.region ?_
  refine G.op rfl (G.val rfl rfl (pv_move rfl) ?_)
  refine G.op rfl (G.cR rfl rfl rfl rfl Try.func29 rfl rfl may0 (ofR_none _ h) ?_)
  refine G.op rfl (G.val rfl rfl (pv_move rfl) ?_)
  refine G.op rfl (G.val rfl rfl (pv_extract rfl rfl) ?_)
  refine G.op rfl (G.val rfl rfl (pv_extract rfl rfl) ?_)
  refine G.op rfl (G.alloc (z := .agg #[.string ⟨#[]⟩, .int .i64 0, .int .i64 0, .int .i64 0, .int .i64 0, .int .i64 0, .int .i64 0]) (cs := [.string ⟨#[]⟩, .int .i64 0, .int .i64 0, .int .i64 0, .int .i64 0, .int .i64 0, .int .i64 0]) rfl (by kernel_rfl) rfl ?_)
  intro b3
  refine G.op rfl (G.storeN (by kernel_rfl) rfl rfl (by first | exact (all1_cons (by first | rfl | with_reducible assumption) (all1_cons (by first | rfl | with_reducible assumption) (all1_cons (by first | rfl | with_reducible assumption) (all1_cons (by first | rfl | with_reducible assumption) (all1_cons (by first | rfl | with_reducible assumption) (all1_cons (by first | rfl | with_reducible assumption) (all1_cons (by first | rfl | with_reducible assumption) all1_nil))))))) | exact List.all_eq_true.2 (vByte_one _) | rfl) (by repeat (first | with_reducible exact Sel.here | exact Sel.here | apply Sel.there)) (by first | (simp; done) | exact Nat.le_of_ble_eq_true rfl) ?_)
  refine G.op rfl (G.val rfl rfl (pv_assign rfl) ?_)
  refine G.nil ?_
  refine G.nThen ?_
  refine G.seq ?_
  refine G.drawT (nn := 19) (p := []) (rem := 524287) [0, 1, 0, 6, 8, 24, 40, 66, 136, 256, 768, 256, 2304, 5376, 8448, 17408, 32768, 98304, 262143] [0, 1, 0, 4, 8, 24, 40, 66, 128, 256, 768, 256, 2304, 5376, 8448, 16384, 32768, 98304, 131072] (by kernel_rfl) ⟨rfl, by kernel_rfl, by kernel_rfl⟩ (by repeat (first | exact Sub.nil | (apply Sub.cons; (repeat (first | with_reducible exact Sel.here | exact Sel.here | apply Sel.there))))) (by kernel_rfl) (fun hT2 => ?_)
  refine G.takeT hT2 (i := 0) (rem' := 524286) rfl rfl rfl (by kernel_rfl) (fun _ _ _ h => h) rfl (pv_move rfl) (by repeat (first | exact Sub.nil | (apply Sub.cons; (repeat (first | with_reducible exact Sel.here | exact Sel.here | apply Sel.there))))) ?_
  refine G.takeT hT2 (i := 2) (rem' := 524282) rfl rfl rfl (by kernel_rfl) (fun _ _ _ h => h) rfl (pv_move rfl) (by repeat (first | exact Sub.nil | (apply Sub.cons; (repeat (first | with_reducible exact Sel.here | exact Sel.here | apply Sel.there))))) ?_
  refine G.oneT hT2 (i := 1) (rem' := 524280) (by kernel_rfl) (by kernel_rfl) ?_
  refine G.turnOp rfl rfl (G.cR rfl rfl rfl rfl Try.func30 rfl rfl may0 (agentsF _) ?_)
  refine G.back (by repeat (first | exact Sub.nil | (apply Sub.cons; (repeat (first | with_reducible exact Sel.here | exact Sel.here | apply Sel.there))))) ?_
  refine G.takeT hT2 (i := 3) (rem' := 524272) rfl rfl rfl (by kernel_rfl) (fun _ _ _ h => h) rfl (pv_move rfl) (by repeat (first | exact Sub.nil | (apply Sub.cons; (repeat (first | with_reducible exact Sel.here | exact Sel.here | apply Sel.there))))) ?_
  refine G.takeFT hT2 (i := 4) (rem' := 524256) rfl rfl rfl (by kernel_rfl) (fun _ _ _ h => h) rfl (by repeat (first | exact Sub.nil | (apply Sub.cons; (repeat (first | with_reducible exact Sel.here | exact Sel.here | apply Sel.there))))) ?_
  refine G.takeFT hT2 (i := 5) (rem' := 524224) rfl rfl rfl (by kernel_rfl) (fun _ _ _ h => h) rfl (by repeat (first | exact Sub.nil | (apply Sub.cons; (repeat (first | with_reducible exact Sel.here | exact Sel.here | apply Sel.there))))) ?_
  refine G.takeT hT2 (i := 6) (rem' := 524160) rfl rfl rfl (by kernel_rfl) (fun _ _ _ h => h) rfl (pv_pick rfl rfl) (by repeat (first | exact Sub.nil | (apply Sub.cons; (repeat (first | with_reducible exact Sel.here | exact Sel.here | apply Sel.there))))) ?_
  refine G.takeT hT2 (i := 7) (rem' := 524032) rfl rfl rfl (by kernel_rfl) (fun _ _ _ h => h) rfl ((pv_eqlB Try.underlying4 rfl rfl).cast (v' := .bool true) (congrArg Value.bool (by rw [beq_iff_eq, decide_eq_false_iff_not]; omega))) (by repeat (first | exact Sub.nil | (apply Sub.cons; (repeat (first | with_reducible exact Sel.here | exact Sel.here | apply Sel.there))))) ?_
  refine G.takeT hT2 (i := 8) (rem' := 523776) rfl rfl rfl (by kernel_rfl) (fun _ _ _ h => h) rfl (pv_move rfl) (by repeat (first | exact Sub.nil | (apply Sub.cons; (repeat (first | with_reducible exact Sel.here | exact Sel.here | apply Sel.there))))) ?_
  refine G.takeT hT2 (i := 9) (rem' := 523264) rfl rfl rfl (by kernel_rfl) (fun _ _ _ h => h) rfl (pv_move rfl) (by repeat (first | exact Sub.nil | (apply Sub.cons; (repeat (first | with_reducible exact Sel.here | exact Sel.here | apply Sel.there))))) ?_
  refine G.takeT hT2 (i := 11) (rem' := 521216) rfl rfl rfl (by kernel_rfl) (fun _ _ _ h => h) rfl (pv_fieldAddrK (sz := 0) (k := 0) Try.underlying52 rfl (by kernel_rfl) rfl rfl) (by repeat (first | exact Sub.nil | (apply Sub.cons; (repeat (first | with_reducible exact Sel.here | exact Sel.here | apply Sel.there))))) ?_
  refine G.takeT hT2 (i := 12) (rem' := 517120) rfl rfl rfl (by kernel_rfl) (fun _ _ _ h => h) rfl (pv_load Try.underlying9 rfl rfl (blk_cell (v := .string (sB sh0.name)) (by repeat (first | with_reducible exact Sel.here | exact Sel.here | apply Sel.there)) (by rfl))) (by repeat (first | exact Sub.nil | (apply Sub.cons; (repeat (first | with_reducible exact Sel.here | exact Sel.here | apply Sel.there))))) ?_
  refine G.oneT hT2 (i := 10) (rem' := 516096) (by kernel_rfl) (by kernel_rfl) ?_
  refine G.turnOp rfl rfl (G.cR rfl rfl rfl rfl Try.func31 rfl rfl may0 (nameF _) ?_)
  refine G.back (by repeat (first | exact Sub.nil | (apply Sub.cons; (repeat (first | with_reducible exact Sel.here | exact Sel.here | apply Sel.there))))) ?_
  refine G.takeT hT2 (i := 13) (rem' := 507904) rfl rfl rfl (by kernel_rfl) (fun _ _ _ h => h) rfl ((pv_eqlS (a := nameM k) (b := sh0.name) rfl rfl).cast (v' := .bool true) (congrArg Value.bool (by rw [decide_eq_true_iff, nameM_none h]; rfl))) (by repeat (first | exact Sub.nil | (apply Sub.cons; (repeat (first | with_reducible exact Sel.here | exact Sel.here | apply Sel.there))))) ?_
  refine G.takeT hT2 (i := 14) (rem' := 491520) rfl rfl rfl (by kernel_rfl) (fun _ _ _ h => h) rfl (pv_pick rfl rfl) (by repeat (first | exact Sub.nil | (apply Sub.cons; (repeat (first | with_reducible exact Sel.here | exact Sel.here | apply Sel.there))))) ?_
  refine G.takeT hT2 (i := 15) (rem' := 458752) rfl rfl rfl (by kernel_rfl) (fun _ _ _ h => h) rfl (pv_move rfl) (by repeat (first | exact Sub.nil | (apply Sub.cons; (repeat (first | with_reducible exact Sel.here | exact Sel.here | apply Sel.there))))) ?_
  refine G.oneT hT2 (i := 16) (rem' := 393216) (by kernel_rfl) (by kernel_rfl) ?_
  refine G.turnOp rfl rfl (G.cR rfl rfl rfl rfl Try.func20 rfl rfl may0 (awake10) ?_)
  refine G.back (by repeat (first | exact Sub.nil | (apply Sub.cons; (repeat (first | with_reducible exact Sel.here | exact Sel.here | apply Sel.there))))) ?_
  refine G.takeT hT2 (i := 17) (rem' := 262144) rfl rfl rfl (by kernel_rfl) (fun _ _ _ h => h) rfl (pv_pick rfl rfl) (by repeat (first | exact Sub.nil | (apply Sub.cons; (repeat (first | with_reducible exact Sel.here | exact Sel.here | apply Sel.there))))) ?_
  refine G.takeT hT2 (i := 18) (rem' := 0) rfl rfl rfl (by kernel_rfl) (fun _ _ _ h => h) rfl (pv_assign rfl) (by repeat (first | exact Sub.nil | (apply Sub.cons; (repeat (first | with_reducible exact Sel.here | exact Sel.here | apply Sel.there))))) ?_
  refine G.overT hT2 (by kernel_rfl) ?_
  refine G.nThen ?_
  refine G.ret ?_
  exact G.done0G rfl (Rv.tmp rfl Rv.nil) (by first | rfl | exact int_eq (by omega) | (simp; done))
set_option maxRecDepth 20000 in
set_option maxHeartbeats 4000000 in

theorem nkindsS (k : Int) (s : Sh) (h : shM k = some s) : Tr Try.prog 8 #[.int .i64 k] [] [] (T0 (.bool true)) := by
  refine Tr.of (l := [(0, .int .i64 k)]) Try.func8 rfl (n := 28) rfl (.cons rfl .nil) (fun w0 hro => ?_)
  have hkk := shM_in h
  refine G.seq ?_
  refine G.region ?_
  refine G.op rfl (G.val rfl rfl (pv_assign rfl) ?_)
  refine G.nil ?_
  refine G.nThen ?_
  refine G.seq ?_
  refine G.region ?_
  refine G.op rfl (G.val rfl rfl (pv_move rfl) ?_)
  refine G.op rfl (G.cR rfl rfl rfl rfl Try.func29 rfl rfl may0 (ofR_some _ _ h) ?_)
  refine G.op rfl (G.val rfl rfl (pv_move rfl) ?_)
  refine G.op rfl (G.val rfl rfl (pv_extract rfl rfl) ?_)
  refine G.op rfl (G.val rfl rfl (pv_extract rfl rfl) ?_)
  refine G.op rfl (G.alloc (z := .agg #[.string ⟨#[]⟩, .int .i64 0, .int .i64 0, .int .i64 0, .int .i64 0, .int .i64 0, .int .i64 0]) (cs := [.string ⟨#[]⟩, .int .i64 0, .int .i64 0, .int .i64 0, .int .i64 0, .int .i64 0, .int .i64 0]) rfl (by kernel_rfl) rfl ?_)
  intro b3
  refine G.op rfl (G.storeN (by kernel_rfl) rfl rfl (by first | exact (all1_cons (by first | rfl | with_reducible assumption) (all1_cons (by first | rfl | with_reducible assumption) (all1_cons (by first | rfl | with_reducible assumption) (all1_cons (by first | rfl | with_reducible assumption) (all1_cons (by first | rfl | with_reducible assumption) (all1_cons (by first | rfl | with_reducible assumption) (all1_cons (by first | rfl | with_reducible assumption) all1_nil))))))) | exact List.all_eq_true.2 (vByte_one _) | rfl) (by repeat (first | with_reducible exact Sel.here | exact Sel.here | apply Sel.there)) (by first | (simp; done) | exact Nat.le_of_ble_eq_true rfl) ?_)
  refine G.op rfl (G.val rfl rfl (pv_assign rfl) ?_)
  refine G.nil ?_
  refine G.nThen ?_
  refine G.seq ?_
  refine G.drawT (nn := 19) (p := []) (rem := 524287) [0, 1, 0, 6, 8, 24, 40, 66, 136, 256, 768, 256, 2304, 5376, 8448, 17408, 32768, 98304, 262143] [0, 1, 0, 4, 8, 24, 40, 66, 128, 256, 768, 256, 2304, 5376, 8448, 16384, 32768, 98304, 131072] (by kernel_rfl) ⟨rfl, by kernel_rfl, by kernel_rfl⟩ (by repeat (first | exact Sub.nil | (apply Sub.cons; (repeat (first | with_reducible exact Sel.here | exact Sel.here | apply Sel.there))))) (by kernel_rfl) (fun hT2 => ?_)
  refine G.takeT hT2 (i := 0) (rem' := 524286) rfl rfl rfl (by kernel_rfl) (fun _ _ _ h => h) rfl (pv_move rfl) (by repeat (first | exact Sub.nil | (apply Sub.cons; (repeat (first | with_reducible exact Sel.here | exact Sel.here | apply Sel.there))))) ?_
  refine G.takeT hT2 (i := 2) (rem' := 524282) rfl rfl rfl (by kernel_rfl) (fun _ _ _ h => h) rfl (pv_move rfl) (by repeat (first | exact Sub.nil | (apply Sub.cons; (repeat (first | with_reducible exact Sel.here | exact Sel.here | apply Sel.there))))) ?_
  refine G.oneT hT2 (i := 1) (rem' := 524280) (by kernel_rfl) (by kernel_rfl) ?_
  refine G.turnOp rfl rfl (G.cR rfl rfl rfl rfl Try.func30 rfl rfl may0 (agentsF _) ?_)
  refine G.back (by repeat (first | exact Sub.nil | (apply Sub.cons; (repeat (first | with_reducible exact Sel.here | exact Sel.here | apply Sel.there))))) ?_
  refine G.takeT hT2 (i := 3) (rem' := 524272) rfl rfl rfl (by kernel_rfl) (fun _ _ _ h => h) rfl (pv_move rfl) (by repeat (first | exact Sub.nil | (apply Sub.cons; (repeat (first | with_reducible exact Sel.here | exact Sel.here | apply Sel.there))))) ?_
  refine G.takeT hT2 (i := 4) (rem' := 524256) rfl rfl rfl (by kernel_rfl) (fun _ _ _ h => h) rfl (pv_move rfl) (by repeat (first | exact Sub.nil | (apply Sub.cons; (repeat (first | with_reducible exact Sel.here | exact Sel.here | apply Sel.there))))) ?_
  refine G.takeT hT2 (i := 5) (rem' := 524224) rfl rfl rfl (by kernel_rfl) (fun _ _ _ h => h) rfl (pv_lss rfl rfl) (by repeat (first | exact Sub.nil | (apply Sub.cons; (repeat (first | with_reducible exact Sel.here | exact Sel.here | apply Sel.there))))) ?_
  refine G.takeT hT2 (i := 6) (rem' := 524160) rfl rfl rfl (by kernel_rfl) (fun _ _ _ h => h) rfl (pv_pick rfl rfl) (by repeat (first | exact Sub.nil | (apply Sub.cons; (repeat (first | with_reducible exact Sel.here | exact Sel.here | apply Sel.there))))) ?_
  refine G.takeT hT2 (i := 7) (rem' := 524032) rfl rfl rfl (by kernel_rfl) (fun _ _ _ h => h) rfl ((pv_eqlB Try.underlying4 rfl rfl).cast (v' := .bool true) (congrArg Value.bool (by rw [beq_iff_eq, decide_eq_decide]; omega))) (by repeat (first | exact Sub.nil | (apply Sub.cons; (repeat (first | with_reducible exact Sel.here | exact Sel.here | apply Sel.there))))) ?_
  refine G.takeT hT2 (i := 8) (rem' := 523776) rfl rfl rfl (by kernel_rfl) (fun _ _ _ h => h) rfl (pv_move rfl) (by repeat (first | exact Sub.nil | (apply Sub.cons; (repeat (first | with_reducible exact Sel.here | exact Sel.here | apply Sel.there))))) ?_
  refine G.takeT hT2 (i := 9) (rem' := 523264) rfl rfl rfl (by kernel_rfl) (fun _ _ _ h => h) rfl (pv_move rfl) (by repeat (first | exact Sub.nil | (apply Sub.cons; (repeat (first | with_reducible exact Sel.here | exact Sel.here | apply Sel.there))))) ?_
  refine G.takeT hT2 (i := 11) (rem' := 521216) rfl rfl rfl (by kernel_rfl) (fun _ _ _ h => h) rfl (pv_fieldAddrK (sz := 0) (k := 0) Try.underlying52 rfl (by kernel_rfl) rfl rfl) (by repeat (first | exact Sub.nil | (apply Sub.cons; (repeat (first | with_reducible exact Sel.here | exact Sel.here | apply Sel.there))))) ?_
  refine G.takeT hT2 (i := 12) (rem' := 517120) rfl rfl rfl (by kernel_rfl) (fun _ _ _ h => h) rfl (pv_load Try.underlying9 rfl rfl (blk_cell (v := .string (sB s.name)) (by repeat (first | with_reducible exact Sel.here | exact Sel.here | apply Sel.there)) (by rfl))) (by repeat (first | exact Sub.nil | (apply Sub.cons; (repeat (first | with_reducible exact Sel.here | exact Sel.here | apply Sel.there))))) ?_
  refine G.oneT hT2 (i := 10) (rem' := 516096) (by kernel_rfl) (by kernel_rfl) ?_
  refine G.turnOp rfl rfl (G.cR rfl rfl rfl rfl Try.func31 rfl rfl may0 (nameF _) ?_)
  refine G.back (by repeat (first | exact Sub.nil | (apply Sub.cons; (repeat (first | with_reducible exact Sel.here | exact Sel.here | apply Sel.there))))) ?_
  refine G.takeT hT2 (i := 13) (rem' := 507904) rfl rfl rfl (by kernel_rfl) (fun _ _ _ h => h) rfl ((pv_eqlS (a := nameM k) (b := s.name) rfl rfl).cast (v' := .bool true) (congrArg Value.bool (by rw [decide_eq_true_iff, nameM_some h]))) (by repeat (first | exact Sub.nil | (apply Sub.cons; (repeat (first | with_reducible exact Sel.here | exact Sel.here | apply Sel.there))))) ?_
  refine G.takeT hT2 (i := 14) (rem' := 491520) rfl rfl rfl (by kernel_rfl) (fun _ _ _ h => h) rfl (pv_pick rfl rfl) (by repeat (first | exact Sub.nil | (apply Sub.cons; (repeat (first | with_reducible exact Sel.here | exact Sel.here | apply Sel.there))))) ?_
  refine G.takeT hT2 (i := 15) (rem' := 458752) rfl rfl rfl (by kernel_rfl) (fun _ _ _ h => h) rfl (pv_move rfl) (by repeat (first | exact Sub.nil | (apply Sub.cons; (repeat (first | with_reducible exact Sel.here | exact Sel.here | apply Sel.there))))) ?_
  refine G.oneT hT2 (i := 16) (rem' := 393216) (by kernel_rfl) (by kernel_rfl) ?_
  refine G.turnOp rfl rfl (G.cR rfl rfl rfl rfl Try.func20 rfl rfl may0 (awake10) ?_)
  refine G.back (by repeat (first | exact Sub.nil | (apply Sub.cons; (repeat (first | with_reducible exact Sel.here | exact Sel.here | apply Sel.there))))) ?_
  refine G.takeT hT2 (i := 17) (rem' := 262144) rfl rfl rfl (by kernel_rfl) (fun _ _ _ h => h) rfl (pv_pick rfl rfl) (by repeat (first | exact Sub.nil | (apply Sub.cons; (repeat (first | with_reducible exact Sel.here | exact Sel.here | apply Sel.there))))) ?_
  refine G.takeT hT2 (i := 18) (rem' := 0) rfl rfl rfl (by kernel_rfl) (fun _ _ _ h => h) rfl (pv_assign rfl) (by repeat (first | exact Sub.nil | (apply Sub.cons; (repeat (first | with_reducible exact Sel.here | exact Sel.here | apply Sel.there))))) ?_
  refine G.overT hT2 (by kernel_rfl) ?_
  refine G.nThen ?_
  refine G.ret ?_
  exact G.done0G rfl (Rv.tmp rfl Rv.nil) (by first | rfl | exact int_eq (by omega) | (simp; done))
theorem nkinds (k : Int) : Tr Try.prog 8 #[.int .i64 k] [] [] (T0 (.bool true)) := by
  cases h : shM k with
  | none => exact nkindsN k h
  | some s => exact nkindsS k s h
set_option maxRecDepth 20000 in
set_option maxHeartbeats 4000000 in

theorem nnames (k : Int) (h64 : I64 k) : Tr Try.prog 9 #[.int .i64 k] [] [] (T0 (.bool true)) := by
  refine Tr.of (l := [(0, .int .i64 k)]) Try.func9 rfl (n := 67) rfl (.cons rfl .nil) (fun w0 hro => ?_)
  have hnl : (nameM k).length ≤ 7 := by
    cases h : shM k with
    | none => rw [nameM_none h]; decide
    | some s =>
      rw [nameM_some h]
      have key : shTab.all (fun s => Nat.ble s.name.length 7) = true := by kernel_rfl
      exact Nat.le_of_ble_eq_true (List.all_eq_true.1 key s (List.mem_of_getElem? (shM_in h).2.2))
  refine G.seq ?_
  refine G.region ?_
  refine G.op rfl (G.val rfl rfl (pv_assign rfl) ?_)
  refine G.nil ?_
  refine G.nThen ?_
  refine G.seq ?_
  refine G.region ?_
  refine G.op rfl (G.cR rfl rfl rfl rfl Try.func20 rfl rfl may0 (awake10) ?_)
  refine G.op rfl (G.val rfl rfl (pv_assign rfl) ?_)
  refine G.nil ?_
  refine G.nThen ?_
  refine G.seq ?_
  refine G.region ?_
  refine G.op rfl (G.val rfl rfl (pv_move rfl) ?_)
  refine G.op rfl (G.cR rfl rfl rfl rfl Try.func31 rfl rfl may0 (nameF _) ?_)
  refine G.op rfl (G.val rfl rfl (pv_assign rfl) ?_)
  refine G.nil ?_
  refine G.nThen ?_
  refine G.seq ?_
  refine G.seq ?_
  refine G.region ?_
  refine G.op rfl (G.val rfl rfl (pv_move rfl) ?_)
  refine G.op rfl (G.val rfl rfl (pv_lss rfl rfl) ?_)
  refine G.op rfl (G.val rfl rfl (pv_move rfl) ?_)
  refine G.partP (t := 12) rfl (fun h12 => ?_) (fun h12 => ?_)
  · refine G.pass rfl rfl rfl rfl rfl rfl ?_
    refine G.pass rfl rfl rfl rfl rfl rfl ?_
    refine G.op rfl (G.val rfl rfl (pv_pick rfl rfl) ?_)
    refine G.nil ?_
    refine G.nThen ?_
    refine G.condT rfl (rfl) ?_
    have hf : shM k = none := shM_far (by omega)
    refine G.seq ?_
    refine G.region ?_
    refine G.op rfl (G.val rfl rfl (pv_move rfl) ?_)
    refine G.op rfl (G.val rfl rfl (pv_move rfl) ?_)
    refine G.want rfl rfl rfl (G.val rfl rfl (pv_move rfl) ?_)
    refine G.want rfl rfl rfl (G.val rfl rfl ((pv_eqlS (a := nameM k) (b := []) rfl rfl).cast (v' := .bool true) (congrArg Value.bool (by rw [decide_eq_true_iff]; exact nameM_none hf))) ?_)
    refine G.op rfl (G.val rfl rfl (pv_pick rfl rfl) ?_)
    refine G.op rfl (G.val rfl rfl (pv_move rfl) ?_)
    refine G.want rfl rfl rfl (G.val rfl rfl (pv_move rfl) ?_)
    refine G.want rfl rfl rfl (G.cR rfl rfl rfl rfl Try.func30 rfl rfl may0 (agentsF _) ?_)
    refine G.want rfl rfl rfl (G.val rfl rfl ((pv_notP rfl).cast (v' := .bool true) (congrArg Value.bool (decide_eq_true (by omega)))) ?_)
    refine G.op rfl (G.val rfl rfl (pv_pick rfl rfl) ?_)
    refine G.op rfl (G.val rfl rfl (pv_assign rfl) ?_)
    refine G.nil ?_
    refine G.nThen ?_
    refine G.ret ?_
    refine G.rThen ?_
    exact G.done0G rfl (Rv.tmp rfl Rv.nil) (by first | rfl | exact int_eq (by omega) | (simp; done))
  · refine G.want rfl rfl rfl (G.val rfl rfl (pv_move rfl) ?_)
    refine G.want rfl rfl rfl (G.val rfl rfl (pv_gtr rfl rfl) ?_)
    refine G.op rfl (G.val rfl rfl (pv_pick rfl rfl) ?_)
    refine G.nil ?_
    refine G.nThen ?_
    refine G.condP rfl (fun h15 => ?_) (fun h15 => ?_)
    · have hf : shM k = none := shM_far (by omega)
      refine G.seq ?_
      refine G.region ?_
      refine G.op rfl (G.val rfl rfl (pv_move rfl) ?_)
      refine G.op rfl (G.val rfl rfl (pv_move rfl) ?_)
      refine G.want rfl rfl rfl (G.val rfl rfl (pv_move rfl) ?_)
      refine G.want rfl rfl rfl (G.val rfl rfl ((pv_eqlS (a := nameM k) (b := []) rfl rfl).cast (v' := .bool true) (congrArg Value.bool (by rw [decide_eq_true_iff]; exact nameM_none hf))) ?_)
      refine G.op rfl (G.val rfl rfl (pv_pick rfl rfl) ?_)
      refine G.op rfl (G.val rfl rfl (pv_move rfl) ?_)
      refine G.want rfl rfl rfl (G.val rfl rfl (pv_move rfl) ?_)
      refine G.want rfl rfl rfl (G.cR rfl rfl rfl rfl Try.func30 rfl rfl may0 (agentsF _) ?_)
      refine G.want rfl rfl rfl (G.val rfl rfl ((pv_notP rfl).cast (v' := .bool true) (congrArg Value.bool (decide_eq_true (by omega)))) ?_)
      refine G.op rfl (G.val rfl rfl (pv_pick rfl rfl) ?_)
      refine G.op rfl (G.val rfl rfl (pv_assign rfl) ?_)
      refine G.nil ?_
      refine G.nThen ?_
      refine G.ret ?_
      refine G.rThen ?_
      exact G.done0G rfl (Rv.tmp rfl Rv.nil) (by first | rfl | exact int_eq (by omega) | (simp; done))
    · have hk1 : 1 ≤ k := by omega
      have hk2 : k ≤ 24 := by omega
      refine G.skip ?_
      refine G.nThen ?_
      refine G.seq ?_
      refine G.seq ?_
      refine G.region ?_
      refine G.op rfl (G.val rfl rfl (pv_assign rfl) ?_)
      refine G.nil ?_
      refine G.nThen ?_
      refine G.block ?_
      refine G.loopK (X := Nat) (ts := [0, 3, 4]) (fun j => j ≤ (nameM k).length) (fun j => [(5, .int .i64 (j : Int))]) (fun j => []) (fun j => (nameM k).length - j) (x0 := 0) (.cons rfl (.cons rfl (.cons rfl .nil))) (by repeat (first | exact Sub.nil | (apply Sub.cons; (repeat (first | with_reducible exact Sel.here | exact Sel.here | apply Sel.there))))) (.cons .nil) (by repeat (first | exact Ap.nil | apply Ap.cons)) (by first | exact trivial | ((try dsimp only); exact Nat.zero_le _)) (.consE rfl (by first | rfl | exact int_eq (by omega) | exact congrArg _ (by omega)) .nil) (fun j hJ => ?_)
      try dsimp only at hJ
      try dsimp only
      have hkj := hJ
      refine G.seq ?_
      refine G.seq ?_
      refine G.region ?_
      refine G.op rfl (G.val rfl rfl (pv_move rfl) ?_)
      refine G.op rfl (G.val rfl rfl (pv_move rfl) ?_)
      refine G.op rfl (G.val rfl rfl (pv_lenS Try.underlying9 rfl) ?_)
      refine G.op rfl (G.val rfl rfl (pv_lss rfl rfl) ?_)
      refine G.nil ?_
      refine G.nThen ?_
      refine G.condP rfl (fun h29 => ?_) (fun h29 => ?_)
      · have hlt : j < (nameM k).length := by omega
        have haz := nameM_az k (nameM k)[j] (List.getElem_mem hlt)
        refine G.skip ?_
        refine G.nThen ?_
        refine G.seq ?_
        refine G.block ?_
        refine G.seq ?_
        refine G.region ?_
        refine G.op rfl (G.val rfl rfl (pv_move rfl) ?_)
        refine G.op rfl (G.val rfl rfl (pv_move rfl) ?_)
        refine G.op rfl (G.val rfl rfl (pv_ixS Try.underlying9 rfl rfl rfl (by omega)) ?_)
        refine G.op rfl (G.val rfl rfl (pv_lss rfl rfl) ?_)
        refine G.op rfl (G.val rfl rfl (pv_move rfl) ?_)
        refine G.partP (t := 36) rfl (fun h36 => ?_) (fun h36 => ?_)
        · exfalso; omega
        · refine G.want rfl rfl rfl (G.val rfl rfl (pv_move rfl) ?_)
          refine G.want rfl rfl rfl (G.val rfl rfl (pv_move rfl) ?_)
          refine G.want rfl rfl rfl (G.val rfl rfl (pv_ixS Try.underlying9 rfl rfl rfl (by omega)) ?_)
          refine G.want rfl rfl rfl (G.val rfl rfl (pv_gtr rfl rfl) ?_)
          refine G.op rfl (G.val rfl rfl (pv_pick rfl rfl) ?_)
          refine G.nil ?_
          refine G.nThen ?_
          refine G.condP rfl (fun h41 => ?_) (fun h41 => ?_)
          · exfalso; omega
          · refine G.skip ?_
            refine G.nBlock ?_
            refine G.nThen ?_
            refine G.region ?_
            refine G.op rfl (G.val rfl rfl (pv_move rfl) ?_)
            refine G.op rfl (G.val rfl rfl (pv_add64 rfl rfl (by omega)) ?_)
            refine G.op rfl (G.val rfl rfl (pv_assign rfl) ?_)
            refine G.nil ?_
            exact G.next (j + 1) (by first | exact trivial | ((try dsimp only); exact by omega)) (by (try dsimp only); omega) (.consE rfl (by first | rfl | exact int_eq (by omega) | exact congrArg _ (by omega)) (.cons rfl (.cons rfl (.cons rfl .nil)))) (by repeat (first | exact Sub.nil | (apply Sub.cons; (repeat (first | with_reducible exact Sel.here | exact Sel.here | apply Sel.there)))))
      · refine G.exit ?_
        refine G.eThen ?_
        refine G.eThen ?_
        refine G.eBlock ?_
        refine G.nThen ?_
        refine G.seq ?_
        refine G.seq ?_
        refine G.region ?_
        refine G.op rfl (G.val rfl rfl (pv_assign rfl) ?_)
        refine G.nil ?_
        refine G.nThen ?_
        refine G.block ?_
        refine G.loopK (X := Nat) (ts := [0, 3, 4]) (fun q => 1 ≤ q ∧ q ≤ 25) (fun q => [(6, .int .i64 (q : Int))]) (fun q => []) (fun q => 25 - q) (x0 := 1) (.cons rfl (.cons rfl (.cons rfl .nil))) (by repeat (first | exact Sub.nil | (apply Sub.cons; (repeat (first | with_reducible exact Sel.here | exact Sel.here | apply Sel.there))))) (.cons .nil) (by repeat (first | exact Ap.nil | apply Ap.cons)) (by first | exact trivial | ((try dsimp only); exact ⟨by decide, by decide⟩)) (.consE rfl (by first | rfl | exact int_eq (by omega) | exact congrArg _ (by omega)) .nil) (fun q hJ => ?_)
        try dsimp only at hJ
        try dsimp only
        refine G.seq ?_
        refine G.seq ?_
        refine G.region ?_
        refine G.op rfl (G.val rfl rfl (pv_move rfl) ?_)
        refine G.op rfl (G.val rfl rfl (pv_leq rfl rfl) ?_)
        refine G.nil ?_
        refine G.nThen ?_
        refine G.condP rfl (fun h43 => ?_) (fun h43 => ?_)
        · refine G.skip ?_
          refine G.nThen ?_
          refine G.seq ?_
          refine G.block ?_
          refine G.seq ?_
          refine G.region ?_
          refine G.op rfl (G.val rfl rfl (pv_move rfl) ?_)
          refine G.op rfl (G.val rfl rfl (pv_move rfl) ?_)
          refine G.op rfl (G.val rfl rfl (pv_neq rfl rfl) ?_)
          refine G.op rfl (G.val rfl rfl (pv_move rfl) ?_)
          refine G.partP (t := 49) rfl (fun h49 => ?_) (fun h49 => ?_)
          · refine G.want rfl rfl rfl (G.val rfl rfl (pv_move rfl) ?_)
            refine G.want rfl rfl rfl (G.cR rfl rfl rfl rfl Try.func31 rfl rfl may0 (nameF _) ?_)
            refine G.want rfl rfl rfl (G.val rfl rfl (pv_move rfl) ?_)
            refine G.want rfl rfl rfl (G.val rfl rfl (pv_eqlS rfl rfl) ?_)
            refine G.op rfl (G.val rfl rfl (pv_pick rfl rfl) ?_)
            refine G.nil ?_
            refine G.nThen ?_
            refine G.condP rfl (fun h54 => ?_) (fun h54 => ?_)
            · exact absurd (nameM_inj (by omega) (by omega) hk1 hk2 h54) (by omega)
            · refine G.skip ?_
              refine G.nBlock ?_
              refine G.nThen ?_
              refine G.region ?_
              refine G.op rfl (G.val rfl rfl (pv_move rfl) ?_)
              refine G.op rfl (G.val rfl rfl (pv_add64 rfl rfl (by omega)) ?_)
              refine G.op rfl (G.val rfl rfl (pv_assign rfl) ?_)
              refine G.nil ?_
              exact G.next (q + 1) (by first | exact trivial | ((try dsimp only); exact ⟨by omega, by omega⟩)) (by (try dsimp only); omega) (.consE rfl (by first | rfl | exact int_eq (by omega) | exact congrArg _ (by omega)) (.cons rfl (.cons rfl (.cons rfl .nil)))) (by repeat (first | exact Sub.nil | (apply Sub.cons; (repeat (first | with_reducible exact Sel.here | exact Sel.here | apply Sel.there)))))
          · refine G.pass rfl rfl rfl rfl rfl rfl ?_
            refine G.pass rfl rfl rfl rfl rfl rfl ?_
            refine G.pass rfl rfl rfl rfl rfl rfl ?_
            refine G.pass rfl rfl rfl rfl rfl rfl ?_
            refine G.op rfl (G.val rfl rfl (pv_pick rfl rfl) ?_)
            refine G.nil ?_
            refine G.nThen ?_
            refine G.condF rfl (rfl) ?_
            refine G.skip ?_
            refine G.nBlock ?_
            refine G.nThen ?_
            refine G.region ?_
            refine G.op rfl (G.val rfl rfl (pv_move rfl) ?_)
            refine G.op rfl (G.val rfl rfl (pv_add64 rfl rfl (by omega)) ?_)
            refine G.op rfl (G.val rfl rfl (pv_assign rfl) ?_)
            refine G.nil ?_
            exact G.next (q + 1) (by first | exact trivial | ((try dsimp only); exact ⟨by omega, by omega⟩)) (by (try dsimp only); omega) (.consE rfl (by first | rfl | exact int_eq (by omega) | exact congrArg _ (by omega)) (.cons rfl (.cons rfl (.cons rfl .nil)))) (by repeat (first | exact Sub.nil | (apply Sub.cons; (repeat (first | with_reducible exact Sel.here | exact Sel.here | apply Sel.there)))))
        · refine G.exit ?_
          refine G.eThen ?_
          refine G.eThen ?_
          refine G.eBlock ?_
          refine G.nThen ?_
          refine G.seq ?_
          refine G.region ?_
          refine G.op rfl (G.val rfl rfl (pv_move rfl) ?_)
          refine G.op rfl (G.val rfl rfl (pv_move rfl) ?_)
          refine G.want rfl rfl rfl (G.val rfl rfl (pv_move rfl) ?_)
          refine G.want rfl rfl rfl (G.val rfl rfl ((pv_neqS (a := nameM k) (b := []) rfl rfl).cast (v' := .bool true) (congrArg Value.bool (by rw [decide_eq_true_iff]; exact nameM_ne hk1 hk2))) ?_)
          refine G.op rfl (G.val rfl rfl (pv_pick rfl rfl) ?_)
          refine G.op rfl (G.val rfl rfl (pv_move rfl) ?_)
          refine G.want rfl rfl rfl (G.val rfl rfl (pv_move rfl) ?_)
          refine G.want rfl rfl rfl (G.cR rfl rfl rfl rfl Try.func30 rfl rfl may0 (agentsF _) ?_)
          refine G.want rfl rfl rfl (G.val rfl rfl (pv_move rfl) ?_)
          refine G.want rfl rfl rfl (G.val rfl rfl (pv_leq rfl rfl) ?_)
          refine G.want rfl rfl rfl (G.val rfl rfl ((pv_eqlB Try.underlying4 rfl rfl).cast (v' := .bool true) (congrArg Value.bool (by rw [beq_iff_eq, decide_eq_decide]; omega))) ?_)
          refine G.op rfl (G.val rfl rfl (pv_pick rfl rfl) ?_)
          refine G.op rfl (G.val rfl rfl (pv_assign rfl) ?_)
          refine G.nil ?_
          refine G.nThen ?_
          refine G.ret ?_
          exact G.done0G rfl (Rv.tmp rfl Rv.nil) (by first | rfl | exact int_eq (by omega) | (simp; done))
set_option maxRecDepth 20000 in
set_option maxHeartbeats 4000000 in

theorem nknown : Tr Try.prog 10 #[] [] [] (T0 (.bool true)) := by
  refine Tr.of (l := []) Try.func10 rfl (n := 56) rfl Fa.nil (fun w0 hro => ?_)
  refine G.seq ?_
  refine G.region ?_
  refine G.op rfl (G.val rfl rfl (pv_assign rfl) ?_)
  refine G.nil ?_
  refine G.nThen ?_
  refine G.seq ?_
  refine G.region ?_
  refine G.op rfl (G.lit1 (vs := [_]) rfl Try.underlying22 (by kernel_rfl) rfl (by decide) (by decide) rfl rfl ?_)
  intro b3
  refine G.op rfl (G.val rfl rfl (pv_buildSt (z := [.int .i64 0, .slice none 0 0, .slice none 0 0, .slice none 0 0]) (pl := [(0, 1), (1, 1), (2, 1), (3, 1)]) Try.underlying26 (by kernel_rfl) (by kernel_rfl) rfl (by repeat (first | exact Fl.nil | (apply Fl.cons; exact rfl; (first | exact cells_of (by first | rfl | with_reducible assumption) | exact rfl); exact rfl; exact rfl; repeat (first | exact Sn.nil | (apply Sn.cons; repeat (first | exact St.zero | apply St.succ))))))) ?_)
  refine G.op rfl (G.cS rfl rfl rfl rfl Try.func25 rfl rfl (by repeat (first | exact Sub.nil | (apply Sub.cons; (repeat (first | with_reducible exact Sel.here | exact Sel.here | apply Sel.there))))) (may3 (may_blk (f := vInt) (p := I64) (xs := ([7] : List Int)) (off := 0) (by repeat (first | with_reducible exact Sel.here | exact Sel.here | apply Sel.there)) rfl (by intro x hx; simp only [List.mem_cons, List.not_mem_nil, or_false] at hx; subst hx; unfold I64; decide) (by decide) (by decide)) may_nil may_nil) (lbytes 19 _ _ _ [7] [] []) (by repeat (first | exact Ap.nil | apply Ap.cons)) ?_)
  intro x5 hJ
  try dsimp only at hJ
  try dsimp only
  rw [show noteOut 19 [7] [] [] = ([19, 1, 7, 0, 0] : List UInt8) by kernel_rfl]
  refine G.op rfl (G.lit1 (vs := [_, _, _, _, _]) rfl Try.underlying24 (by kernel_rfl) rfl (by decide) (by decide) rfl rfl ?_)
  intro b6
  refine G.op rfl (G.cR rfl rfl rfl rfl Try.func15 rfl rfl (may2 (may_ownB (by repeat (first | with_reducible exact Sel.here | exact Sel.here | apply Sel.there))) (may_blk (f := vByte) (p := fun _ => True) (xs := ([19, 1, 7, 0, 0] : List UInt8)) (off := 0) (by repeat (first | with_reducible exact Sel.here | exact Sel.here | apply Sel.there)) rfl (fun _ _ => trivial) (by decide) (by decide))) (same_self _ _ ([19, 1, 7, 0, 0] : List UInt8)) ?_)
  refine G.op rfl (G.val rfl rfl (pv_move rfl) ?_)
  refine G.want rfl rfl rfl (G.cS rfl rfl rfl rfl Try.func32 rfl rfl (by repeat (first | exact Sub.nil | (apply Sub.cons; (repeat (first | with_reducible exact Sel.here | exact Sel.here | apply Sel.there))))) may0 (lpart) (by repeat (first | exact Ap.nil | apply Ap.cons)) ?_)
  intro x9 hJ
  obtain ⟨p1, p2⟩ := x9
  try dsimp only at hJ
  try dsimp only
  refine G.want rfl rfl rfl (G.cS rfl rfl rfl rfl Try.func25 rfl rfl (by repeat (first | exact Sub.nil | (apply Sub.cons; (repeat (first | with_reducible exact Sel.here | exact Sel.here | apply Sel.there))))) (may3 (may_blk (f := vInt) (p := I64) (xs := ([300] : List Int)) (off := 0) (by repeat (first | with_reducible exact Sel.here | exact Sel.here | apply Sel.there)) rfl (by intro x hx; simp only [List.mem_cons, List.not_mem_nil, or_false] at hx; subst hx; unfold I64; decide) (by decide) (by decide)) may_nil (may_blk (f := vByte) (p := fun _ => True) (xs := ([1, 2] : List UInt8)) (off := 0) (by repeat (first | with_reducible exact Sel.here | exact Sel.here | apply Sel.there)) rfl (fun _ _ => trivial) (by decide) (by decide))) (lbytes 2 _ _ _ [300] [] [1, 2]) (by repeat (first | exact Ap.nil | apply Ap.cons)) ?_)
  intro x10 hJ
  try dsimp only at hJ
  try dsimp only
  rw [show noteOut 2 [300] [] [1, 2] = ([2, 1, 130, 44, 0, 2, 1, 2] : List UInt8) by kernel_rfl]
  refine G.want rfl rfl rfl (G.lit1 (vs := [_, _, _, _, _, _, _, _]) rfl Try.underlying24 (by kernel_rfl) rfl (by decide) (by decide) rfl rfl ?_)
  intro b11
  refine G.want rfl rfl rfl (G.cR rfl rfl rfl rfl Try.func15 rfl rfl (may2 (may_ownB (by repeat (first | with_reducible exact Sel.here | exact Sel.here | apply Sel.there))) (may_blk (f := vByte) (p := fun _ => True) (xs := ([2, 1, 130, 44, 0, 2, 1, 2] : List UInt8)) (off := 0) (by repeat (first | with_reducible exact Sel.here | exact Sel.here | apply Sel.there)) rfl (fun _ _ => trivial) (by decide) (by decide))) (same_self _ _ ([2, 1, 130, 44, 0, 2, 1, 2] : List UInt8)) ?_)
  refine G.op rfl (G.val rfl rfl (pv_pick rfl rfl) ?_)
  refine G.op rfl (G.val rfl rfl (pv_assign rfl) ?_)
  refine G.nil ?_
  refine G.nThen ?_
  refine G.seq ?_
  refine G.region ?_
  refine G.op rfl (G.lit1 (vs := [_]) rfl Try.underlying24 (by kernel_rfl) rfl (by decide) (by decide) rfl rfl ?_)
  intro b14
  refine G.op rfl (G.cR rfl rfl rfl rfl Try.func27 rfl rfl (may1 (may_blk (f := vByte) (p := fun _ => True) (xs := ([25] : List UInt8)) (off := 0) (by repeat (first | with_reducible exact Sel.here | exact Sel.here | apply Sel.there)) rfl (fun _ _ => trivial) (by decide) (by decide))) (fails10 _ ([25] : List UInt8) 5 0 (by decide) (by kernel_rfl)) ?_)
  refine G.op rfl (G.val rfl rfl (pv_move rfl) ?_)
  refine G.want rfl rfl rfl (G.lit1 (vs := [_, _, _, _]) rfl Try.underlying24 (by kernel_rfl) rfl (by decide) (by decide) rfl rfl ?_)
  intro b17
  refine G.want rfl rfl rfl (G.cR rfl rfl rfl rfl Try.func27 rfl rfl (may1 (may_blk (f := vByte) (p := fun _ => True) (xs := ([5, 1, 0, 0] : List UInt8)) (off := 0) (by repeat (first | with_reducible exact Sel.here | exact Sel.here | apply Sel.there)) rfl (fun _ _ => trivial) (by decide) (by decide))) (fails10 _ ([5, 1, 0, 0] : List UInt8) 3 1 (by decide) (by kernel_rfl)) ?_)
  refine G.op rfl (G.val rfl rfl (pv_pick rfl rfl) ?_)
  refine G.op rfl (G.val rfl rfl (pv_move rfl) ?_)
  refine G.want rfl rfl rfl (G.lit1 (vs := [_, _]) rfl Try.underlying24 (by kernel_rfl) rfl (by decide) (by decide) rfl rfl ?_)
  intro b21
  refine G.want rfl rfl rfl (G.cR rfl rfl rfl rfl Try.func27 rfl rfl (may1 (may_blk (f := vByte) (p := fun _ => True) (xs := ([2, 0] : List UInt8)) (off := 0) (by repeat (first | with_reducible exact Sel.here | exact Sel.here | apply Sel.there)) rfl (fun _ _ => trivial) (by decide) (by decide))) (fails10 _ ([2, 0] : List UInt8) 5 1 (by decide) (by kernel_rfl)) ?_)
  refine G.op rfl (G.val rfl rfl (pv_pick rfl rfl) ?_)
  refine G.op rfl (G.val rfl rfl (pv_move rfl) ?_)
  refine G.want rfl rfl rfl (G.lit1 (vs := [_, _, _, _, _]) rfl Try.underlying24 (by kernel_rfl) rfl (by decide) (by decide) rfl rfl ?_)
  intro b25
  refine G.want rfl rfl rfl (G.cR rfl rfl rfl rfl Try.func27 rfl rfl (may1 (may_blk (f := vByte) (p := fun _ => True) (xs := ([5, 0, 0, 0, 0] : List UInt8)) (off := 0) (by repeat (first | with_reducible exact Sel.here | exact Sel.here | apply Sel.there)) rfl (fun _ _ => trivial) (by decide) (by decide))) (fails10 _ ([5, 0, 0, 0, 0] : List UInt8) 4 4 (by decide) (by kernel_rfl)) ?_)
  refine G.op rfl (G.val rfl rfl (pv_pick rfl rfl) ?_)
  refine G.op rfl (G.val rfl rfl (pv_move rfl) ?_)
  refine G.want rfl rfl rfl (G.lit1 (vs := [_, _, _]) rfl Try.underlying24 (by kernel_rfl) rfl (by decide) (by decide) rfl rfl ?_)
  intro b29
  refine G.want rfl rfl rfl (G.cR rfl rfl rfl rfl Try.func27 rfl rfl (may1 (may_blk (f := vByte) (p := fun _ => True) (xs := ([5, 0, 0] : List UInt8)) (off := 0) (by repeat (first | with_reducible exact Sel.here | exact Sel.here | apply Sel.there)) rfl (fun _ _ => trivial) (by decide) (by decide))) (fails10 _ ([5, 0, 0] : List UInt8) 4 3 (by decide) (by kernel_rfl)) ?_)
  refine G.op rfl (G.val rfl rfl (pv_pick rfl rfl) ?_)
  refine G.op rfl (G.val rfl rfl (pv_assign rfl) ?_)
  refine G.nil ?_
  refine G.nThen ?_
  refine G.seq ?_
  refine G.region ?_
  refine G.op rfl (G.cR rfl rfl rfl rfl Try.func20 rfl rfl may0 (awake10) ?_)
  refine G.op rfl (G.val rfl rfl (pv_move rfl) ?_)
  refine G.want rfl rfl rfl (G.val rfl rfl (pv_move rfl) ?_)
  refine G.op rfl (G.val rfl rfl (pv_pick rfl rfl) ?_)
  refine G.op rfl (G.val rfl rfl (pv_move rfl) ?_)
  refine G.want rfl rfl rfl (G.val rfl rfl (pv_move rfl) ?_)
  refine G.op rfl (G.val rfl rfl (pv_pick rfl rfl) ?_)
  refine G.op rfl (G.val rfl rfl (pv_move rfl) ?_)
  refine G.want rfl rfl rfl (G.val rfl rfl (pv_buildSt (z := [.int .i64 0, .slice none 0 0, .slice none 0 0, .slice none 0 0]) (pl := [(0, 1), (1, 1), (2, 1), (3, 1)]) Try.underlying26 (by kernel_rfl) (by kernel_rfl) rfl (by repeat (first | exact Fl.nil | (apply Fl.cons; exact rfl; (first | exact cells_of (by first | rfl | with_reducible assumption) | exact rfl); exact rfl; exact rfl; repeat (first | exact Sn.nil | (apply Sn.cons; repeat (first | exact St.zero | apply St.succ))))))) ?_)
  refine G.want rfl rfl rfl (G.cR rfl rfl rfl rfl Try.func16 rfl rfl (may3 may_nil may_nil may_nil) (checkF 0 _ _ _ [] [] []) ?_)
  refine G.want rfl rfl rfl (G.val rfl rfl ((pv_eql (a := checkM 0 [] 0 0) (b := 2) rfl rfl).cast (v' := .bool true) (congrArg Value.bool (by kernel_rfl))) ?_)
  refine G.op rfl (G.val rfl rfl (pv_pick rfl rfl) ?_)
  refine G.op rfl (G.val rfl rfl (pv_move rfl) ?_)
  refine G.want rfl rfl rfl (G.val rfl rfl (pv_buildSt (z := [.int .i64 0, .slice none 0 0, .slice none 0 0, .slice none 0 0]) (pl := [(0, 1), (1, 1), (2, 1), (3, 1)]) Try.underlying26 (by kernel_rfl) (by kernel_rfl) rfl (by repeat (first | exact Fl.nil | (apply Fl.cons; exact rfl; (first | exact cells_of (by first | rfl | with_reducible assumption) | exact rfl); exact rfl; exact rfl; repeat (first | exact Sn.nil | (apply Sn.cons; repeat (first | exact St.zero | apply St.succ))))))) ?_)
  refine G.want rfl rfl rfl (G.cR rfl rfl rfl rfl Try.func16 rfl rfl (may3 may_nil may_nil may_nil) (checkF 19 _ _ _ [] [] []) ?_)
  refine G.want rfl rfl rfl (G.val rfl rfl ((pv_eql (a := checkM 19 [] 0 0) (b := 5) rfl rfl).cast (v' := .bool true) (congrArg Value.bool (by kernel_rfl))) ?_)
  refine G.op rfl (G.val rfl rfl (pv_pick rfl rfl) ?_)
  refine G.op rfl (G.val rfl rfl (pv_move rfl) ?_)
  refine G.want rfl rfl rfl (G.cR rfl rfl rfl rfl Try.func30 rfl rfl may0 ((show Tr _ _ _ _ _ (T0 (.bool true)) from agentsF 15)) ?_)
  refine G.op rfl (G.val rfl rfl (pv_pick rfl rfl) ?_)
  refine G.op rfl (G.val rfl rfl (pv_move rfl) ?_)
  refine G.want rfl rfl rfl (G.cR rfl rfl rfl rfl Try.func30 rfl rfl may0 ((show Tr _ _ _ _ _ (T0 (.bool false)) from agentsF 16)) ?_)
  refine G.want rfl rfl rfl (G.val rfl rfl (pv_not rfl) ?_)
  refine G.op rfl (G.val rfl rfl (pv_pick rfl rfl) ?_)
  refine G.op rfl (G.val rfl rfl (pv_assign rfl) ?_)
  refine G.nil ?_
  refine G.nThen ?_
  refine G.ret ?_
  exact G.done0G rfl (Rv.tmp rfl Rv.nil) (by first | rfl | exact int_eq (by omega) | (simp; done))
end Go.Proofs.Ytakcffhknnailaa
