/- Layer 8's statements: TreeChecks. Conditions: none. -/
import Derived.Test.YtchgaedidfefoaaTN
set_option linter.unusedVariables false
set_option linter.unusedSimpArgs false
namespace Go.Proofs.Ytchgaedidfefoaa
open Go.RowKit

theorem like_yes {Pa Pb : Nat → Prop} (a : En) (da db : Value) : Tr Try.prog 21 #[.agg #[.string (sB a.path), .int .i64 a.kind, .int .i64 a.mode, da, .string (sB a.to)], .agg #[.string (sB a.path), .int .i64 a.kind, .int .i64 a.mode, db, .string (sB a.to)]] [slc rByte Pa da a.data, slc rByte Pb db a.data] [] (T0 (.bool true)) := by
  have := like_tr (Pa := Pa) (Pb := Pb) a a da db
  rwa [decide_eq_true rfl] at this
set_option maxRecDepth 20000 in
set_option maxHeartbeats 4000000 in

theorem tchecks {Ps : Nat → Prop} (v : Value) (xs : List ET) (s : List UInt8) (hs : s.length ≤ 9223372036854775807) : Tr Try.prog 4 #[v, .string (sB s)] [slc rEV Ps v xs] [] (T0 (.bool true)) := by
  refine Tr.of (l := [(0, v), (1, .string (sB s))]) Try.func4 rfl (n := 84) rfl (.cons rfl (.cons rfl .nil)) (fun w0 hro => ?_)
  have hv0 := ro1 hro
  have hv := hv0
  have hv' := hv
  obtain ⟨av, cv, bv, fv, rfl, hcapv, hmaxv, hnilv, hadv, helv⟩ := Ro.openT hv
  have hel' := ens_length xs
  refine G.seq ?_
  refine G.region ?_
  refine G.op rfl (G.val rfl rfl (pv_assign rfl) ?_)
  refine G.nil ?_
  refine G.nThen ?_
  refine G.seq ?_
  refine G.seq ?_
  refine G.cutK (X := Unit) (ts := [0, 1, 4]) (p := []) (fun _ => True) (fun _ => [(21, .bool (decide (bigM (ens xs) 220 9000 ∨ 300 < s.length)))]) (fun _ => []) (.cons rfl (.cons rfl (.cons rfl .nil))) (by repeat (first | exact Sub.nil | (apply Sub.cons; (repeat (first | with_reducible exact Sel.here | exact Sel.here | apply Sel.there))))) (.cons .nil) (by repeat (first | exact Ap.nil | apply Ap.cons)) ?_ ?_
  · refine G.region ?_
    refine G.op rfl (G.val rfl rfl (pv_move rfl) ?_)
    refine G.op rfl (G.cR rfl rfl rfl rfl Try.func12 rfl rfl (may1 (by first | (apply May.old; first | with_reducible assumption | assumption) | (apply Sel.may; (repeat (first | with_reducible exact Sel.here | exact Sel.here | apply Sel.there)); done) | (apply may_own; (repeat (first | with_reducible exact Sel.here | exact Sel.here | apply Sel.there)); exact rfl; exact (fun _ _ => trivial); done) | (apply may_ownB; (repeat (first | with_reducible exact Sel.here | exact Sel.here | apply Sel.there)); done) | (apply may_tree; (repeat (first | with_reducible exact Sel.here | exact Sel.here | apply Sel.there)); (repeat (first | with_reducible exact Sel.here | exact Sel.here | apply Sel.there)); assumption; done))) (big_tr _ _ _ _ (by omega)) ?_)
    refine G.op rfl (G.val rfl rfl (pv_move rfl) ?_)
    refine G.partP (t := 17) rfl (fun h17 => ?_) (fun h17 => ?_)
    · refine G.pass rfl rfl rfl rfl rfl rfl ?_
      refine G.pass rfl rfl rfl rfl rfl rfl ?_
      refine G.pass rfl rfl rfl rfl rfl rfl ?_
      refine G.op rfl (G.val rfl rfl (pv_pick rfl rfl) ?_)
      refine G.nil ?_
      exact G.meet (()) (by first | exact trivial | ((try dsimp only); exact trivial)) (.consE rfl (by first | exact dec_t (.inl (by assumption)) | exact dec_e ⟨fun h => .inr (by omega), fun h => by rcases h with h | h; exact absurd h (by assumption); omega⟩) (.cons rfl (.cons rfl (.cons rfl .nil)))) (by repeat (first | exact Sub.nil | (apply Sub.cons; (repeat (first | with_reducible exact Sel.here | exact Sel.here | apply Sel.there)))))
    · refine G.want rfl rfl rfl (G.val rfl rfl (pv_move rfl) ?_)
      refine G.want rfl rfl rfl (G.val rfl rfl (pv_lenS Try.underlying9 rfl) ?_)
      refine G.want rfl rfl rfl (G.val rfl rfl (pv_gtr rfl rfl) ?_)
      refine G.op rfl (G.val rfl rfl (pv_pick rfl rfl) ?_)
      refine G.nil ?_
      exact G.meet (()) (by first | exact trivial | ((try dsimp only); exact trivial)) (.consE rfl (by first | exact dec_t (.inl (by assumption)) | exact dec_e ⟨fun h => .inr (by omega), fun h => by rcases h with h | h; exact absurd h (by assumption); omega⟩) (.cons rfl (.cons rfl (.cons rfl .nil)))) (by repeat (first | exact Sub.nil | (apply Sub.cons; (repeat (first | with_reducible exact Sel.here | exact Sel.here | apply Sel.there)))))
  · intro _ hJ
    try dsimp only at hJ
    try dsimp only
    refine G.condP rfl (fun h21 => ?_) (fun h21 => ?_)
    · refine G.seq ?_
      refine G.region ?_
      refine G.op rfl (G.cR rfl rfl rfl rfl Try.func10 rfl rfl may0 (awake_tr) ?_)
      refine G.op rfl (G.val rfl rfl (pv_assign rfl) ?_)
      refine G.nil ?_
      refine G.nThen ?_
      refine G.ret ?_
      refine G.rThen ?_
      exact G.done0G rfl (Rv.tmp rfl Rv.nil) (by first | rfl | exact int_eq (by omega) | (simp; done))
    · have hb : ¬ bigM (ens xs) 220 9000 := fun h => h21 (.inl h)
      have hn : xs.length ≤ 220 := by unfold bigM at hb; omega
      refine G.skip ?_
      refine G.nThen ?_
      refine G.seq ?_
      refine G.region ?_
      refine G.op rfl (G.val rfl rfl (pv_move rfl) ?_)
      refine G.op rfl (G.cS rfl rfl rfl rfl Try.func18 rfl rfl (by repeat (first | exact Sub.nil | (apply Sub.cons; (repeat (first | with_reducible exact Sel.here | exact Sel.here | apply Sel.there))))) (may1 (by first | (apply May.old; first | with_reducible assumption | assumption) | (apply Sel.may; (repeat (first | with_reducible exact Sel.here | exact Sel.here | apply Sel.there)); done) | (apply may_own; (repeat (first | with_reducible exact Sel.here | exact Sel.here | apply Sel.there)); exact rfl; exact (fun _ _ => trivial); done) | (apply may_ownB; (repeat (first | with_reducible exact Sel.here | exact Sel.here | apply Sel.there)); done) | (apply may_tree; (repeat (first | with_reducible exact Sel.here | exact Sel.here | apply Sel.there)); (repeat (first | with_reducible exact Sel.here | exact Sel.here | apply Sel.there)); assumption; done))) (copyT_tr _ _ (by omega)) (by repeat (first | exact Ap.nil | apply Ap.cons)) ?_)
      intro x24 hJ
      obtain ⟨v', zs⟩ := x24
      try dsimp only at hJ
      try dsimp only
      have hez : ens zs = ens xs := hJ
      have hokz := ok_ens hez (Ro.allOk helv)
      have hlz := len_ens hez
      refine G.op rfl (G.val rfl rfl (pv_assign rfl) ?_)
      refine G.nil ?_
      refine G.nThen ?_
      refine G.seq ?_
      refine G.region ?_
      refine G.op rfl (G.val rfl rfl (pv_move rfl) ?_)
      refine G.op rfl (G.cR rfl rfl rfl rfl Try.func11 rfl rfl (may1 (by first | (apply May.old; first | with_reducible assumption | assumption) | (apply Sel.may; (repeat (first | with_reducible exact Sel.here | exact Sel.here | apply Sel.there)); done) | (apply may_own; (repeat (first | with_reducible exact Sel.here | exact Sel.here | apply Sel.there)); exact rfl; exact (fun _ _ => trivial); done) | (apply may_ownB; (repeat (first | with_reducible exact Sel.here | exact Sel.here | apply Sel.there)); done) | (apply may_tree; (repeat (first | with_reducible exact Sel.here | exact Sel.here | apply Sel.there)); (repeat (first | with_reducible exact Sel.here | exact Sel.here | apply Sel.there)); assumption; done))) (tcheck_tr _ _) ?_)
      rw [hez]
      refine G.op rfl (G.val rfl rfl (pv_move rfl) ?_)
      refine G.op rfl (G.val rfl rfl (pv_extract rfl rfl) ?_)
      refine G.op rfl (G.val rfl rfl (pv_extract rfl rfl) ?_)
      refine G.op rfl (G.val rfl rfl (pv_assign rfl) ?_)
      refine G.op rfl (G.val rfl rfl (pv_assign rfl) ?_)
      refine G.nil ?_
      refine G.nThen ?_
      refine G.seq ?_
      refine G.region ?_
      refine G.op rfl (G.val rfl rfl (pv_move rfl) ?_)
      refine G.op rfl (G.cR rfl rfl rfl rfl Try.func19 rfl rfl (may1 (by first | (apply May.old; first | with_reducible assumption | assumption) | (apply Sel.may; (repeat (first | with_reducible exact Sel.here | exact Sel.here | apply Sel.there)); done) | (apply may_own; (repeat (first | with_reducible exact Sel.here | exact Sel.here | apply Sel.there)); exact rfl; exact (fun _ _ => trivial); done) | (apply may_ownB; (repeat (first | with_reducible exact Sel.here | exact Sel.here | apply Sel.there)); done) | (apply may_tree; (repeat (first | with_reducible exact Sel.here | exact Sel.here | apply Sel.there)); (repeat (first | with_reducible exact Sel.here | exact Sel.here | apply Sel.there)); assumption; done))) (tcheckR_tr _ _) ?_)
      refine G.op rfl (G.val rfl rfl (pv_move rfl) ?_)
      refine G.op rfl (G.val rfl rfl (pv_extract rfl rfl) ?_)
      refine G.op rfl (G.val rfl rfl (pv_extract rfl rfl) ?_)
      refine G.op rfl (G.val rfl rfl (pv_assign rfl) ?_)
      refine G.op rfl (G.val rfl rfl (pv_assign rfl) ?_)
      refine G.nil ?_
      refine G.nThen ?_
      refine G.seq ?_
      refine G.region ?_
      refine G.op rfl (G.val rfl rfl (pv_move rfl) ?_)
      refine G.op rfl (G.val rfl rfl (pv_move rfl) ?_)
      refine G.op rfl (G.cS rfl rfl rfl rfl Try.func14 rfl rfl (by repeat (first | exact Sub.nil | (apply Sub.cons; (repeat (first | with_reducible exact Sel.here | exact Sel.here | apply Sel.there))))) (may1 (by first | (apply May.old; first | with_reducible assumption | assumption) | (apply Sel.may; (repeat (first | with_reducible exact Sel.here | exact Sel.here | apply Sel.there)); done) | (apply may_own; (repeat (first | with_reducible exact Sel.here | exact Sel.here | apply Sel.there)); exact rfl; exact (fun _ _ => trivial); done) | (apply may_ownB; (repeat (first | with_reducible exact Sel.here | exact Sel.here | apply Sel.there)); done) | (apply may_tree; (repeat (first | with_reducible exact Sel.here | exact Sel.here | apply Sel.there)); (repeat (first | with_reducible exact Sel.here | exact Sel.here | apply Sel.there)); assumption; done))) (find_tr _ _ _ (by omega)) (by repeat (first | exact Ap.nil | apply Ap.cons)) ?_)
      intro x38 hJ
      try dsimp only at hJ
      try dsimp only
      refine G.ownBFact (by repeat (first | with_reducible exact Sel.here | exact Sel.here | apply Sel.there)) (v := x38) (fun hv38 => ?_)
      rw [hez]
      obtain ⟨F, hF⟩ : ∃ F, (findM (ens xs) s).getD zeroE = F := ⟨_, rfl⟩
      obtain ⟨B, hB⟩ : ∃ B, (findM (ens xs) s).isSome = B := ⟨_, rfl⟩
      rw [hF, hB]
      refine G.op rfl (G.val rfl rfl (pv_move rfl) ?_)
      refine G.op rfl (G.val rfl rfl (pv_extract rfl rfl) ?_)
      refine G.op rfl (G.val rfl rfl (pv_extract rfl rfl) ?_)
      refine G.op rfl (G.alloc (z := .agg #[.string ⟨#[]⟩, .int .i64 0, .int .i64 0, .slice none 0 0, .string ⟨#[]⟩]) (cs := [.string ⟨#[]⟩, .int .i64 0, .int .i64 0, .slice none 0 0, .string ⟨#[]⟩]) rfl (by kernel_rfl) rfl ?_)
      intro b10
      refine G.op rfl (G.storeN (by kernel_rfl) rfl rfl (by first | exact (all1_cons (by first | rfl | with_reducible assumption) (all1_cons (by first | rfl | with_reducible assumption) (all1_cons (by first | rfl | with_reducible assumption) (all1_cons (by first | rfl | with_reducible assumption) (all1_cons (by first | rfl | with_reducible assumption) all1_nil))))) | exact List.all_eq_true.2 (vByte_one _) | rfl) (by repeat (first | with_reducible exact Sel.here | exact Sel.here | apply Sel.there)) (by first | (simp; done) | exact Nat.le_of_ble_eq_true rfl) ?_)
      refine G.op rfl (G.val rfl rfl (pv_assign rfl) ?_)
      refine G.nil ?_
      refine G.nThen ?_
      refine G.seq ?_
      refine G.region ?_
      refine G.op rfl (G.val rfl rfl (pv_move rfl) ?_)
      refine G.op rfl (G.val rfl rfl (pv_move rfl) ?_)
      refine G.op rfl (G.cS rfl rfl rfl rfl Try.func20 rfl rfl (by repeat (first | exact Sub.nil | (apply Sub.cons; (repeat (first | with_reducible exact Sel.here | exact Sel.here | apply Sel.there))))) (may1 (by first | (apply May.old; first | with_reducible assumption | assumption) | (apply Sel.may; (repeat (first | with_reducible exact Sel.here | exact Sel.here | apply Sel.there)); done) | (apply may_own; (repeat (first | with_reducible exact Sel.here | exact Sel.here | apply Sel.there)); exact rfl; exact (fun _ _ => trivial); done) | (apply may_ownB; (repeat (first | with_reducible exact Sel.here | exact Sel.here | apply Sel.there)); done) | (apply may_tree; (repeat (first | with_reducible exact Sel.here | exact Sel.here | apply Sel.there)); (repeat (first | with_reducible exact Sel.here | exact Sel.here | apply Sel.there)); assumption; done))) (findR_tr _ _ _ (by omega)) (by repeat (first | exact Ap.nil | apply Ap.cons)) ?_)
      intro x44 hJ
      try dsimp only at hJ
      try dsimp only
      refine G.ownBFact (by repeat (first | with_reducible exact Sel.here | exact Sel.here | apply Sel.there)) (v := x44) (fun hv44 => ?_)
      rw [hF, hB]
      refine G.op rfl (G.val rfl rfl (pv_move rfl) ?_)
      refine G.op rfl (G.val rfl rfl (pv_extract rfl rfl) ?_)
      refine G.op rfl (G.val rfl rfl (pv_extract rfl rfl) ?_)
      refine G.op rfl (G.alloc (z := .agg #[.string ⟨#[]⟩, .int .i64 0, .int .i64 0, .slice none 0 0, .string ⟨#[]⟩]) (cs := [.string ⟨#[]⟩, .int .i64 0, .int .i64 0, .slice none 0 0, .string ⟨#[]⟩]) rfl (by kernel_rfl) rfl ?_)
      intro b12
      refine G.op rfl (G.storeN (by kernel_rfl) rfl rfl (by first | exact (all1_cons (by first | rfl | with_reducible assumption) (all1_cons (by first | rfl | with_reducible assumption) (all1_cons (by first | rfl | with_reducible assumption) (all1_cons (by first | rfl | with_reducible assumption) (all1_cons (by first | rfl | with_reducible assumption) all1_nil))))) | exact List.all_eq_true.2 (vByte_one _) | rfl) (by repeat (first | with_reducible exact Sel.here | exact Sel.here | apply Sel.there)) (by first | (simp; done) | exact Nat.le_of_ble_eq_true rfl) ?_)
      refine G.op rfl (G.val rfl rfl (pv_assign rfl) ?_)
      refine G.nil ?_
      refine G.nThen ?_
      refine G.seq ?_
      refine G.region ?_
      refine G.op rfl (G.val rfl rfl (pv_move rfl) ?_)
      refine G.op rfl (G.val rfl rfl (pv_move rfl) ?_)
      refine G.op rfl (G.val rfl rfl ((pv_eql rfl rfl).cast (v' := .bool true) (congrArg Value.bool (by simp))) ?_)
      refine G.op rfl (G.val rfl rfl (pv_move rfl) ?_)
      refine G.want rfl rfl rfl (G.val rfl rfl (pv_move rfl) ?_)
      refine G.want rfl rfl rfl (G.val rfl rfl (pv_move rfl) ?_)
      refine G.want rfl rfl rfl (G.val rfl rfl ((pv_eql rfl rfl).cast (v' := .bool true) (congrArg Value.bool (by simp))) ?_)
      refine G.op rfl (G.val rfl rfl (pv_pick rfl rfl) ?_)
      refine G.op rfl (G.val rfl rfl (pv_move rfl) ?_)
      refine G.want rfl rfl rfl (G.val rfl rfl (pv_move rfl) ?_)
      refine G.want rfl rfl rfl (G.val rfl rfl (pv_move rfl) ?_)
      refine G.want rfl rfl rfl (G.val rfl rfl ((pv_eqlB Try.underlying4 rfl rfl).cast (v' := .bool true) (congrArg Value.bool (by simp))) ?_)
      refine G.op rfl (G.val rfl rfl (pv_pick rfl rfl) ?_)
      refine G.op rfl (G.val rfl rfl (pv_move rfl) ?_)
      refine G.want rfl rfl rfl (G.val rfl rfl (pv_loadN (cs := [_, _, _, _, _]) Try.underlying31 rfl (by kernel_rfl) rfl (by first | exact blk_range (k := 5) (by (repeat (first | with_reducible exact Sel.here | exact Sel.here | apply Sel.there)); done) (by rfl) | exact ro_rng0 (by assumption) | exact rng_range (k := 5) (by (repeat (first | with_reducible exact Sel.here | exact Sel.here | apply Sel.there)); done) (by rfl) | exact ro_range (k := 5) (by assumption) (by rfl) | exact ro_rngR (k := 5) (by assumption) (by rfl))) ?_)
      refine G.want rfl rfl rfl (G.val rfl rfl (pv_loadN (cs := [_, _, _, _, _]) Try.underlying31 rfl (by kernel_rfl) rfl (by first | exact blk_range (k := 5) (by (repeat (first | with_reducible exact Sel.here | exact Sel.here | apply Sel.there)); done) (by rfl) | exact ro_rng0 (by assumption) | exact rng_range (k := 5) (by (repeat (first | with_reducible exact Sel.here | exact Sel.here | apply Sel.there)); done) (by rfl) | exact ro_range (k := 5) (by assumption) (by rfl) | exact ro_rngR (k := 5) (by assumption) (by rfl))) ?_)
      refine G.want rfl rfl rfl (G.cR rfl rfl rfl rfl Try.func21 rfl rfl (may2 (by first | (apply May.old; first | with_reducible assumption | assumption) | (apply Sel.may; (repeat (first | with_reducible exact Sel.here | exact Sel.here | apply Sel.there)); done) | (apply may_own; (repeat (first | with_reducible exact Sel.here | exact Sel.here | apply Sel.there)); exact rfl; exact (fun _ _ => trivial); done) | (apply may_ownB; (repeat (first | with_reducible exact Sel.here | exact Sel.here | apply Sel.there)); done) | (apply may_tree; (repeat (first | with_reducible exact Sel.here | exact Sel.here | apply Sel.there)); (repeat (first | with_reducible exact Sel.here | exact Sel.here | apply Sel.there)); assumption; done)) (by first | (apply May.old; first | with_reducible assumption | assumption) | (apply Sel.may; (repeat (first | with_reducible exact Sel.here | exact Sel.here | apply Sel.there)); done) | (apply may_own; (repeat (first | with_reducible exact Sel.here | exact Sel.here | apply Sel.there)); exact rfl; exact (fun _ _ => trivial); done) | (apply may_ownB; (repeat (first | with_reducible exact Sel.here | exact Sel.here | apply Sel.there)); done) | (apply may_tree; (repeat (first | with_reducible exact Sel.here | exact Sel.here | apply Sel.there)); (repeat (first | with_reducible exact Sel.here | exact Sel.here | apply Sel.there)); assumption; done))) (like_yes F _ _) ?_)
      refine G.op rfl (G.val rfl rfl (pv_pick rfl rfl) ?_)
      refine G.op rfl (G.val rfl rfl (pv_move rfl) ?_)
      refine G.want rfl rfl rfl (G.val rfl rfl (pv_move rfl) ?_)
      refine G.want rfl rfl rfl (G.cR rfl rfl rfl rfl Try.func22 rfl rfl (may1 (by first | (apply May.old; first | with_reducible assumption | assumption) | (apply Sel.may; (repeat (first | with_reducible exact Sel.here | exact Sel.here | apply Sel.there)); done) | (apply may_own; (repeat (first | with_reducible exact Sel.here | exact Sel.here | apply Sel.there)); exact rfl; exact (fun _ _ => trivial); done) | (apply may_ownB; (repeat (first | with_reducible exact Sel.here | exact Sel.here | apply Sel.there)); done) | (apply may_tree; (repeat (first | with_reducible exact Sel.here | exact Sel.here | apply Sel.there)); (repeat (first | with_reducible exact Sel.here | exact Sel.here | apply Sel.there)); assumption; done))) (size_tr _ _ (by omega)) ?_)
      rw [hez]
      refine G.want rfl rfl rfl (G.val rfl rfl (pv_move rfl) ?_)
      refine G.want rfl rfl rfl (G.cR rfl rfl rfl rfl Try.func23 rfl rfl (may1 (by first | (apply May.old; first | with_reducible assumption | assumption) | (apply Sel.may; (repeat (first | with_reducible exact Sel.here | exact Sel.here | apply Sel.there)); done) | (apply may_own; (repeat (first | with_reducible exact Sel.here | exact Sel.here | apply Sel.there)); exact rfl; exact (fun _ _ => trivial); done) | (apply may_ownB; (repeat (first | with_reducible exact Sel.here | exact Sel.here | apply Sel.there)); done) | (apply may_tree; (repeat (first | with_reducible exact Sel.here | exact Sel.here | apply Sel.there)); (repeat (first | with_reducible exact Sel.here | exact Sel.here | apply Sel.there)); assumption; done))) (sizeR_tr _ _ (by omega)) ?_)
      refine G.want rfl rfl rfl (G.val rfl rfl ((pv_eql rfl rfl).cast (v' := .bool true) (congrArg Value.bool (by simp))) ?_)
      refine G.op rfl (G.val rfl rfl (pv_pick rfl rfl) ?_)
      refine G.op rfl (G.val rfl rfl (pv_assign rfl) ?_)
      refine G.nil ?_
      refine G.nThen ?_
      refine G.seq ?_
      refine G.region ?_
      refine G.op rfl (G.val rfl rfl (pv_fieldAddrK (sz := 0) (k := 3) Try.underlying31 rfl (by kernel_rfl) rfl rfl) ?_)
      refine G.op rfl (G.val rfl rfl (pv_load Try.underlying29 rfl rfl (by first | exact blk_cell (by (repeat (first | with_reducible exact Sel.here | exact Sel.here | apply Sel.there)); done) (by rfl) | exact rng_cell (by (repeat (first | with_reducible exact Sel.here | exact Sel.here | apply Sel.there)); done) (by rfl) | exact ro_blk (by assumption) (by rfl) | exact ro_rngC (by assumption) (by rfl) | exact ro_int (by assumption) | exact ro_byte (by assumption) | exact ro_str (by assumption) | with_reducible assumption | assumption)) ?_)
      refine G.op rfl (G.cS rfl rfl rfl rfl Try.func24 rfl rfl (by repeat (first | exact Sub.nil | (apply Sub.cons; (repeat (first | with_reducible exact Sel.here | exact Sel.here | apply Sel.there))))) may0 (overB_tr _ _) (by repeat (first | exact Ap.nil | apply Ap.cons)) ?_)
      intro x74 hJ
      try dsimp only at hJ
      try dsimp only
      refine G.nil ?_
      refine G.nThen ?_
      refine G.seq ?_
      refine G.region ?_
      refine G.op rfl (G.val rfl rfl (pv_move rfl) ?_)
      refine G.op rfl (G.val rfl rfl (pv_move rfl) ?_)
      refine G.want rfl rfl rfl (G.val rfl rfl (pv_move rfl) ?_)
      refine G.want rfl rfl rfl (G.val rfl rfl (pv_move rfl) ?_)
      refine G.want rfl rfl rfl (G.cR rfl rfl rfl rfl Try.func16 rfl rfl (may2 (by first | (apply May.old; first | with_reducible assumption | assumption) | (apply Sel.may; (repeat (first | with_reducible exact Sel.here | exact Sel.here | apply Sel.there)); done) | (apply may_own; (repeat (first | with_reducible exact Sel.here | exact Sel.here | apply Sel.there)); exact rfl; exact (fun _ _ => trivial); done) | (apply may_ownB; (repeat (first | with_reducible exact Sel.here | exact Sel.here | apply Sel.there)); done) | (apply may_tree; (repeat (first | with_reducible exact Sel.here | exact Sel.here | apply Sel.there)); (repeat (first | with_reducible exact Sel.here | exact Sel.here | apply Sel.there)); assumption; done)) (by first | (apply May.old; first | with_reducible assumption | assumption) | (apply Sel.may; (repeat (first | with_reducible exact Sel.here | exact Sel.here | apply Sel.there)); done) | (apply may_own; (repeat (first | with_reducible exact Sel.here | exact Sel.here | apply Sel.there)); exact rfl; exact (fun _ _ => trivial); done) | (apply may_ownB; (repeat (first | with_reducible exact Sel.here | exact Sel.here | apply Sel.there)); done) | (apply may_tree; (repeat (first | with_reducible exact Sel.here | exact Sel.here | apply Sel.there)); (repeat (first | with_reducible exact Sel.here | exact Sel.here | apply Sel.there)); assumption; done))) (tree_yes _ _ zs xs hez) ?_)
      refine G.op rfl (G.val rfl rfl (pv_pick rfl rfl) ?_)
      refine G.op rfl (G.val rfl rfl (pv_move rfl) ?_)
      refine G.want rfl rfl rfl (G.cR rfl rfl rfl rfl Try.func10 rfl rfl may0 (awake_tr) ?_)
      refine G.op rfl (G.val rfl rfl (pv_pick rfl rfl) ?_)
      refine G.op rfl (G.val rfl rfl (pv_assign rfl) ?_)
      refine G.nil ?_
      refine G.nThen ?_
      refine G.ret ?_
      exact G.done0G rfl (Rv.tmp rfl Rv.nil) (by first | rfl | exact int_eq (by omega) | (simp; done))
end Go.Proofs.Ytchgaedidfefoaa
