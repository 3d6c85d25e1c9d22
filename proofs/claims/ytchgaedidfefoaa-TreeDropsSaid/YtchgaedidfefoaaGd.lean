/- Merged of TR, TW, WV, TX, TY, TZ, UA, UB, UC, UD, UE, TreeOpn. Conditions: none. -/
import Derived.Test.YtchgaedidfefoaaGc
import Derived.Lib.Overlaps
import Derived.Lib.AppendZeros
import Derived.Laws.Externs
import Derived.ChangeMaps5
set_option linter.unusedVariables false
set_option linter.unusedSimpArgs false
namespace Go.Proofs.Ytchgaedidfefoaa
open Go.RowKit
theorem ens_drop0 {xs : List ET} {i : Nat} (h : 0 < (xs.drop i).length) : (ens xs)[i]? = some (xs.drop i)[0].1 := by
  rw [List.length_drop] at h
  rw [ens_at (show i < xs.length by omega), List.getElem_drop]
  rfl
theorem DiffS.len {a b : List En} {u g c : List (List UInt8)} {i j : Nat} (h : DiffS a b i j u g c) : u.length ≤ j ∧ g.length ≤ i ∧ c.length ≤ j := by
  obtain ⟨_, _, rfl, rfl, rfl, _, _⟩ := h
  have h1 := add_len a (b.take j)
  have h2 := add_len b (a.take i)
  have h3 := chg_len a (b.take j)
  rw [List.length_take] at h1 h2 h3
  omega
theorem own_snoc (l : List (List UInt8)) (x : List UInt8) : l.map vStr ++ [vStr x] = (l ++ [x]).map vStr := by rw [List.map_append]; rfl
theorem len_snoc {α : Type} (l : List α) (x : α) : l.length + 1 = (l ++ [x]).length := by rw [List.length_append]; rfl
set_option maxRecDepth 20000 in
set_option maxHeartbeats 4000000 in
theorem diff_tr {Ps Pu : Nat → Prop} (v u : Value) (xs ys : List ET) : Tr Try.prog 25 #[v, u] [slc rEV Ps v xs, slc rEV Pu u ys] []
    (TX (fun _ : Value × Value × Value => True) (fun z => .tuple #[z.1, z.2.1, z.2.2]) (fun z => [own 9 1 z.1 (diffM (ens xs) (ens ys)).1.length ((diffM (ens xs) (ens ys)).1.map vStr), own 9 1 z.2.1 (diffM (ens xs) (ens ys)).2.1.length ((diffM (ens xs) (ens ys)).2.1.map vStr), own 9 1 z.2.2 (diffM (ens xs) (ens ys)).2.2.length ((diffM (ens xs) (ens ys)).2.2.map vStr)])) := by
  refine Tr.of (l := [(0, v), (1, u)]) Try.func25 rfl (n := 98) rfl (.cons rfl (.cons rfl .nil)) (fun w0 hro => ?_)
  obtain ⟨hv0, hu0⟩ := ro2 hro
  have hlx := ens_length xs
  have hly := ens_length ys
  refine G.seq ?_
  refine G.region ?_
  refine G.op rfl (G.val rfl rfl (pv_assign rfl) ?_)
  refine G.op rfl (G.val rfl rfl (pv_assign rfl) ?_)
  refine G.op rfl (G.val rfl rfl (pv_assign rfl) ?_)
  refine G.nil ?_
  refine G.nThen ?_
  refine G.seq ?_
  refine G.region ?_
  refine G.op rfl (G.val rfl rfl (pv_move rfl) ?_)
  refine G.op rfl (G.cR rfl rfl rfl rfl Try.func11 rfl rfl (may1 (by first | (apply May.old; first | with_reducible assumption | assumption) | (apply Sel.may; (repeat (first | with_reducible exact Sel.here | exact Sel.here | apply Sel.there)); done) | (apply may_own; (repeat (first | with_reducible exact Sel.here | exact Sel.here | apply Sel.there)); exact rfl; exact (fun _ _ => trivial); done) | (apply may_ownB; (repeat (first | with_reducible exact Sel.here | exact Sel.here | apply Sel.there)); done) | (apply may_tree; (repeat (first | with_reducible exact Sel.here | exact Sel.here | apply Sel.there)); (repeat (first | with_reducible exact Sel.here | exact Sel.here | apply Sel.there)); assumption; done))) (tcheck_tr _ _) ?_)
  refine G.op rfl (G.val rfl rfl (pv_move rfl) ?_)
  refine G.op rfl (G.val rfl rfl (pv_extract rfl rfl) ?_)
  refine G.op rfl (G.val rfl rfl (pv_extract rfl rfl) ?_)
  refine G.op rfl (G.val rfl rfl (pv_assign rfl) ?_)
  refine G.op rfl (G.val rfl rfl (pv_assign rfl) ?_)
  refine G.nil ?_
  refine G.nThen ?_
  refine G.seq ?_
  refine G.region ?_
  refine G.op rfl (G.val rfl rfl (pv_move rfl) ?_)
  refine G.op rfl (G.cR rfl rfl rfl rfl Try.func11 rfl rfl (may1 (by first | (apply May.old; first | with_reducible assumption | assumption) | (apply Sel.may; (repeat (first | with_reducible exact Sel.here | exact Sel.here | apply Sel.there)); done) | (apply may_own; (repeat (first | with_reducible exact Sel.here | exact Sel.here | apply Sel.there)); exact rfl; exact (fun _ _ => trivial); done) | (apply may_ownB; (repeat (first | with_reducible exact Sel.here | exact Sel.here | apply Sel.there)); done) | (apply may_tree; (repeat (first | with_reducible exact Sel.here | exact Sel.here | apply Sel.there)); (repeat (first | with_reducible exact Sel.here | exact Sel.here | apply Sel.there)); assumption; done))) (tcheck_tr _ _) ?_)
  refine G.op rfl (G.val rfl rfl (pv_move rfl) ?_)
  refine G.op rfl (G.val rfl rfl (pv_extract rfl rfl) ?_)
  refine G.op rfl (G.val rfl rfl (pv_extract rfl rfl) ?_)
  refine G.op rfl (G.val rfl rfl (pv_assign rfl) ?_)
  refine G.op rfl (G.val rfl rfl (pv_assign rfl) ?_)
  refine G.nil ?_
  refine G.nThen ?_
  refine G.seq ?_
  refine G.seq ?_
  refine G.cutK (X := Unit) (ts := [0, 1, 4, 5, 6]) (p := []) (fun _ => True) (fun _ => [(27, .bool (decide (¬ (checkT (ens xs)).1 = 0 ∨ ¬ (checkT (ens ys)).1 = 0)))]) (fun _ => []) (.cons rfl (.cons rfl (.cons rfl (.cons rfl (.cons rfl .nil))))) (by repeat (first | exact Sub.nil | (apply Sub.cons; (repeat (first | with_reducible exact Sel.here | exact Sel.here | apply Sel.there))))) (.cons .nil) (by repeat (first | exact Ap.nil | apply Ap.cons)) ?_ ?_
  · refine G.region ?_
    refine G.op rfl (G.val rfl rfl (pv_move rfl) ?_)
    refine G.op rfl (G.val rfl rfl (pv_neq rfl rfl) ?_)
    refine G.op rfl (G.val rfl rfl (pv_move rfl) ?_)
    refine G.partP (t := 24) rfl (fun h24 => ?_) (fun h24 => ?_)
    · refine G.pass rfl rfl rfl rfl rfl rfl ?_
      refine G.pass rfl rfl rfl rfl rfl rfl ?_
      refine G.op rfl (G.val rfl rfl (pv_pick rfl rfl) ?_)
      refine G.nil ?_
      exact G.meet (()) (by first | exact trivial | ((try dsimp only); exact trivial)) (.consE rfl (by first | exact dec_t (.inl (by assumption)) | exact dec_e ⟨fun h => .inr h, fun h => h.resolve_left (by assumption)⟩) (.cons rfl (.cons rfl (.cons rfl (.cons rfl (.cons rfl .nil)))))) (by repeat (first | exact Sub.nil | (apply Sub.cons; (repeat (first | with_reducible exact Sel.here | exact Sel.here | apply Sel.there)))))
    · refine G.want rfl rfl rfl (G.val rfl rfl (pv_move rfl) ?_)
      refine G.want rfl rfl rfl (G.val rfl rfl (pv_neq rfl rfl) ?_)
      refine G.op rfl (G.val rfl rfl (pv_pick rfl rfl) ?_)
      refine G.nil ?_
      exact G.meet (()) (by first | exact trivial | ((try dsimp only); exact trivial)) (.consE rfl (by first | exact dec_t (.inl (by assumption)) | exact dec_e ⟨fun h => .inr h, fun h => h.resolve_left (by assumption)⟩) (.cons rfl (.cons rfl (.cons rfl (.cons rfl (.cons rfl .nil)))))) (by repeat (first | exact Sub.nil | (apply Sub.cons; (repeat (first | with_reducible exact Sel.here | exact Sel.here | apply Sel.there)))))
  · intro _ hJ
    try dsimp only at hJ
    try dsimp only
    refine G.condP rfl (fun h27 => ?_) (fun h27 => ?_)
    · have hbad := diff_bad h27
      refine G.seq ?_
      refine G.region ?_
      refine G.op rfl (G.val rfl rfl (pv_assign rfl) ?_)
      refine G.op rfl (G.val rfl rfl (pv_assign rfl) ?_)
      refine G.op rfl (G.val rfl rfl (pv_assign rfl) ?_)
      refine G.nil ?_
      refine G.nThen ?_
      refine G.ret ?_
      refine G.rThen ?_
      rw [hbad]
      refine G.ownNil 9 1 ?_
      refine G.ownNil 9 1 ?_
      refine G.ownNil 9 1 ?_
      exact G.doneX3 ((.slice none 0 0, .slice none 0 0, .slice none 0 0)) (by first | exact trivial | ((try dsimp only); exact trivial)) rfl rfl rfl rfl rfl (by repeat (first | exact Sub.nil | (apply Sub.cons; (repeat (first | with_reducible exact Sel.here | exact Sel.here | apply Sel.there)))))
    · have hx0 : (checkT (ens xs)).1 = 0 := Decidable.of_not_not (fun h => h27 (.inl h))
      have hy0 : (checkT (ens ys)).1 = 0 := Decidable.of_not_not (fun h => h27 (.inr h))
      obtain ⟨hx1, hx2, -⟩ := checkT_zero hx0
      obtain ⟨hy1, hy2, -⟩ := checkT_zero hy0
      have hsx := sort_all hx2
      have hsy := sort_all hy2
      have hgood := diff_ok hx0 hy0
      refine G.skip ?_
      refine G.nThen ?_
      refine G.seq ?_
      refine G.block ?_
      refine G.ownNil 9 1 ?_
      refine G.ownNil 9 1 ?_
      refine G.ownNil 9 1 ?_
      refine G.loopK (X := Nat × Nat × Value × Value × Value × Value × Value × (List (List UInt8)) × (List (List UInt8)) × (List (List UInt8))) (ts := []) (fun st => DiffS (ens xs) (ens ys) st.1 st.2.1 st.2.2.2.2.2.2.2.1 st.2.2.2.2.2.2.2.2.1 st.2.2.2.2.2.2.2.2.2 ∧ Ro w0 (U []) (slc rEV Ps st.2.2.1 (xs.drop st.1)) ∧ Ro w0 (U []) (slc rEV Pu st.2.2.2.1 (ys.drop st.2.1))) (fun st => [(0, st.2.2.1), (1, st.2.2.2.1), (4, st.2.2.2.2.1), (5, st.2.2.2.2.2.1), (6, st.2.2.2.2.2.2.1)]) (fun st => [own 9 1 st.2.2.2.2.1 st.2.2.2.2.2.2.2.1.length (st.2.2.2.2.2.2.2.1.map vStr), own 9 1 st.2.2.2.2.2.1 st.2.2.2.2.2.2.2.2.1.length (st.2.2.2.2.2.2.2.2.1.map vStr), own 9 1 st.2.2.2.2.2.2.1 st.2.2.2.2.2.2.2.2.2.length (st.2.2.2.2.2.2.2.2.2.map vStr)]) (fun st => (xs.length - st.1) + (ys.length - st.2.1)) (x0 := (0, 0, v, u, (.slice none 0 0), (.slice none 0 0), (.slice none 0 0), [], [], [])) .nil (by repeat (first | exact Sub.nil | (apply Sub.cons; (repeat (first | with_reducible exact Sel.here | exact Sel.here | apply Sel.there))))) (.cons (.cons (.cons (.cons (.cons .nil))))) (by repeat (first | exact Ap.nil | apply Ap.cons)) (by first | exact trivial | ((try dsimp only); exact ⟨diff_start _ _, hv0, hu0⟩)) (.consE rfl (by first | rfl | exact int_eq (by first | omega | (dsimp only; omega)) | exact congrArg _ (by omega)) (.consE rfl (by first | rfl | exact int_eq (by first | omega | (dsimp only; omega)) | exact congrArg _ (by omega)) (.consE rfl (by first | rfl | exact int_eq (by first | omega | (dsimp only; omega)) | exact congrArg _ (by omega)) (.consE rfl (by first | rfl | exact int_eq (by first | omega | (dsimp only; omega)) | exact congrArg _ (by omega)) (.consE rfl (by first | rfl | exact int_eq (by first | omega | (dsimp only; omega)) | exact congrArg _ (by omega)) .nil))))) (fun st hJ => ?_)
      obtain ⟨i, j, va, vb, w1, w2, w3, l1, l2, l3⟩ := st
      try dsimp only at hJ
      try dsimp only
      obtain ⟨hD, hva, hvb⟩ := hJ
      have hp := hva
      have hp' := hp
      obtain ⟨ap, cp, bp, fp, rfl, hcapp, hmaxp, hnilp, hadp, help⟩ := Ro.openT hp
      have hq := hvb
      have hq' := hq
      obtain ⟨aq, cq, bq, fq, rfl, hcapq, hmaxq, hnilq, hadq, helq⟩ := Ro.openT hq
      obtain ⟨hl1, hl2, hl3⟩ := hD.len
      have hdi := hD.hi
      have hdj := hD.hj
      have e1 : (xs.drop i).length = xs.length - i := List.length_drop
      have e2 : (ys.drop j).length = ys.length - j := List.length_drop
      refine G.seq ?_
      refine G.seq ?_
      refine G.region ?_
      refine G.op rfl (G.val rfl rfl (pv_move rfl) ?_)
      refine G.op rfl (G.val rfl rfl (pv_lenSl Try.underlying22 rfl) ?_)
      refine G.op rfl (G.val rfl rfl (pv_move rfl) ?_)
      refine G.op rfl (G.val rfl rfl (pv_lenSl Try.underlying22 rfl) ?_)
      refine G.op rfl (G.val rfl rfl (pv_add64 rfl rfl (by omega)) ?_)
      refine G.op rfl (G.val rfl rfl (pv_gtr rfl rfl) ?_)
      refine G.nil ?_
      refine G.nThen ?_
      refine G.condP rfl (fun h33 => ?_) (fun h33 => ?_)
      · refine G.skip ?_
        refine G.nThen ?_
        refine G.block ?_
        refine G.seq ?_
        refine G.region ?_
        refine G.op rfl (G.val rfl rfl (pv_assign rfl) ?_)
        refine G.nil ?_
        refine G.nThen ?_
        refine G.seq ?_
        refine G.cutK (X := Int) (ts := [0, 1, 4, 5, 6]) (p := []) (fun o => OrdS (ens xs) (ens ys) i j o) (fun o => [(11, .int .i64 o)]) (fun o => []) (.cons rfl (.cons rfl (.cons rfl (.cons rfl (.cons rfl .nil))))) (by repeat (first | exact Sub.nil | (apply Sub.cons; (repeat (first | with_reducible exact Sel.here | exact Sel.here | apply Sel.there))))) (.cons .nil) (by repeat (first | exact Ap.nil | apply Ap.cons)) ?_ ?_
        · refine G.block ?_
          refine G.seq ?_
          refine G.region ?_
          refine G.op rfl (G.val rfl rfl (pv_move rfl) ?_)
          refine G.op rfl (G.val rfl rfl (pv_lenSl Try.underlying22 rfl) ?_)
          refine G.op rfl (G.val rfl rfl (pv_eql rfl rfl) ?_)
          refine G.op rfl (G.val rfl rfl (pv_assign rfl) ?_)
          refine G.nil ?_
          refine G.nThen ?_
          refine G.condP rfl (fun h43 => ?_) (fun h43 => ?_)
          · refine G.region ?_
            refine G.op rfl (G.val rfl rfl (pv_assign rfl) ?_)
            refine G.nil ?_
            refine G.nBlock ?_
            exact G.meet (1) (by first | exact trivial | ((try dsimp only); exact ord_gt (by omega) (by omega))) (.consE rfl (by first | rfl | exact int_eq (by first | omega | (dsimp only; omega)) | exact congrArg _ (by omega)) (.cons rfl (.cons rfl (.cons rfl (.cons rfl (.cons rfl .nil)))))) (by repeat (first | exact Sub.nil | (apply Sub.cons; (repeat (first | with_reducible exact Sel.here | exact Sel.here | apply Sel.there)))))
          · refine G.seq ?_
            refine G.region ?_
            refine G.op rfl (G.val rfl rfl (pv_move rfl) ?_)
            refine G.op rfl (G.val rfl rfl (pv_lenSl Try.underlying22 rfl) ?_)
            refine G.op rfl (G.val rfl rfl (pv_eql rfl rfl) ?_)
            refine G.op rfl (G.val rfl rfl (pv_assign rfl) ?_)
            refine G.nil ?_
            refine G.nThen ?_
            refine G.condP rfl (fun h47 => ?_) (fun h47 => ?_)
            · refine G.region ?_
              refine G.op rfl (G.val rfl rfl (pv_assign rfl) ?_)
              refine G.nil ?_
              refine G.nBlock ?_
              exact G.meet ((-1)) (by first | exact trivial | ((try dsimp only); exact ord_lt (by omega) (by omega))) (.consE rfl (by first | rfl | exact int_eq (by first | omega | (dsimp only; omega)) | exact congrArg _ (by omega)) (.cons rfl (.cons rfl (.cons rfl (.cons rfl (.cons rfl .nil)))))) (by repeat (first | exact Sub.nil | (apply Sub.cons; (repeat (first | with_reducible exact Sel.here | exact Sel.here | apply Sel.there)))))
            · have hlp0 : 0 < (xs.drop i).length := by omega
              have hEp := help 0 hlp0
              have hRp := Ro.evRng hEp
              have hDp := Ro.evDat hEp
              obtain ⟨hk1p, hk2p, hlpp, hldp, hltp⟩ := Ro.evOk hEp
              have hCp := Ro.one1 hDp
              have hgx := ens_drop0 hlp0
              have hlq0 : 0 < (ys.drop j).length := by omega
              have hEq := helq 0 hlq0
              have hRq := Ro.evRng hEq
              have hDq := Ro.evDat hEq
              obtain ⟨hk1q, hk2q, hlpq, hldq, hltq⟩ := Ro.evOk hEq
              have hCq := Ro.one1 hDq
              have hgy := ens_drop0 hlq0
              refine G.drawT (nn := 10) (p := []) (rem := 1023) [0, 1, 2, 4, 0, 16, 32, 64, 136, 511] [0, 1, 2, 4, 0, 16, 32, 64, 136, 256] (by kernel_rfl) ⟨rfl, by kernel_rfl, by kernel_rfl⟩ (by repeat (first | exact Sub.nil | (apply Sub.cons; (repeat (first | with_reducible exact Sel.here | exact Sel.here | apply Sel.there))))) (by kernel_rfl) (fun hT7 => ?_)
              refine G.takeT hT7 (i := 0) (rem' := 1022) rfl rfl rfl (by kernel_rfl) (fun _ _ _ h => h) rfl (pv_move rfl) (by repeat (first | exact Sub.nil | (apply Sub.cons; (repeat (first | with_reducible exact Sel.here | exact Sel.here | apply Sel.there))))) ?_
              refine G.takeT hT7 (i := 1) (rem' := 1020) rfl rfl rfl (by kernel_rfl) (fun _ _ _ h => h) rfl (pv_ixSl (sz := 5) Try.underlying22 (by kernel_rfl) rfl rfl (by first | with_reducible assumption | assumption | exact fun _ => rfl) rfl (by omega)) (by repeat (first | exact Sub.nil | (apply Sub.cons; (repeat (first | with_reducible exact Sel.here | exact Sel.here | apply Sel.there))))) ?_
              refine G.takeT hT7 (i := 2) (rem' := 1016) rfl rfl rfl (by kernel_rfl) (fun _ _ _ h => h) rfl (pv_fieldAddrK (sz := 0) (k := 0) Try.underlying31 rfl (by kernel_rfl) rfl rfl) (by repeat (first | exact Sub.nil | (apply Sub.cons; (repeat (first | with_reducible exact Sel.here | exact Sel.here | apply Sel.there))))) ?_
              refine G.takeT hT7 (i := 4) (rem' := 1000) rfl rfl rfl (by kernel_rfl) (fun _ _ _ h => h) rfl (pv_move rfl) (by repeat (first | exact Sub.nil | (apply Sub.cons; (repeat (first | with_reducible exact Sel.here | exact Sel.here | apply Sel.there))))) ?_
              refine G.takeT hT7 (i := 5) (rem' := 968) rfl rfl rfl (by kernel_rfl) (fun _ _ _ h => h) rfl (pv_ixSl (sz := 5) Try.underlying22 (by kernel_rfl) rfl rfl (by first | with_reducible assumption | assumption | exact fun _ => rfl) rfl (by omega)) (by repeat (first | exact Sub.nil | (apply Sub.cons; (repeat (first | with_reducible exact Sel.here | exact Sel.here | apply Sel.there))))) ?_
              refine G.takeT hT7 (i := 6) (rem' := 904) rfl rfl rfl (by kernel_rfl) (fun _ _ _ h => h) rfl (pv_fieldAddrK (sz := 0) (k := 0) Try.underlying31 rfl (by kernel_rfl) rfl rfl) (by repeat (first | exact Sub.nil | (apply Sub.cons; (repeat (first | with_reducible exact Sel.here | exact Sel.here | apply Sel.there))))) ?_
              refine G.takeT hT7 (i := 3) (rem' := 896) rfl rfl rfl (by kernel_rfl) (fun _ _ _ h => h) rfl (pv_load Try.underlying9 rfl rfl (by first | exact blk_cell (by (repeat (first | with_reducible exact Sel.here | exact Sel.here | apply Sel.there)); done) (by rfl) | exact rng_cell (by (repeat (first | with_reducible exact Sel.here | exact Sel.here | apply Sel.there)); done) (by rfl) | exact ro_blk (by assumption) (by rfl) | exact ro_rngC (by assumption) (by rfl) | exact ro_int (by assumption) | exact ro_byte (by assumption) | exact ro_str (by assumption) | with_reducible assumption | assumption)) (by repeat (first | exact Sub.nil | (apply Sub.cons; (repeat (first | with_reducible exact Sel.here | exact Sel.here | apply Sel.there))))) ?_
              refine G.oneT hT7 (i := 7) (rem' := 768) (by kernel_rfl) (by kernel_rfl) ?_
              refine G.turnOp rfl rfl (G.val rfl rfl (pv_load Try.underlying9 rfl rfl (by first | exact blk_cell (by (repeat (first | with_reducible exact Sel.here | exact Sel.here | apply Sel.there)); done) (by rfl) | exact rng_cell (by (repeat (first | with_reducible exact Sel.here | exact Sel.here | apply Sel.there)); done) (by rfl) | exact ro_blk (by assumption) (by rfl) | exact ro_rngC (by assumption) (by rfl) | exact ro_int (by assumption) | exact ro_byte (by assumption) | exact ro_str (by assumption) | with_reducible assumption | assumption)) ?_)
              refine G.back (by repeat (first | exact Sub.nil | (apply Sub.cons; (repeat (first | with_reducible exact Sel.here | exact Sel.here | apply Sel.there))))) ?_
              refine G.oneT hT7 (i := 8) (rem' := 512) (by kernel_rfl) (by kernel_rfl) ?_
              refine G.turnOp rfl rfl (G.cR rfl rfl rfl rfl Try.func17 rfl rfl may0 (compare_tr _ _ (by omega) (by omega)) ?_)
              refine G.back (by repeat (first | exact Sub.nil | (apply Sub.cons; (repeat (first | with_reducible exact Sel.here | exact Sel.here | apply Sel.there))))) ?_
              refine G.takeT hT7 (i := 9) (rem' := 0) rfl rfl rfl (by kernel_rfl) (fun _ _ _ h => h) rfl (pv_assign rfl) (by repeat (first | exact Sub.nil | (apply Sub.cons; (repeat (first | with_reducible exact Sel.here | exact Sel.here | apply Sel.there))))) ?_
              refine G.overT hT7 (by kernel_rfl) ?_
              refine G.nBlock ?_
              exact G.meet ((compareM (xs.drop i)[0].1.path (ys.drop j)[0].1.path)) (by first | exact trivial | ((try dsimp only); exact ord_cmp hgx hgy)) (.consE rfl (by first | rfl | exact int_eq (by first | omega | (dsimp only; omega)) | exact congrArg _ (by omega)) (.cons rfl (.cons rfl (.cons rfl (.cons rfl (.cons rfl .nil)))))) (by repeat (first | exact Sub.nil | (apply Sub.cons; (repeat (first | with_reducible exact Sel.here | exact Sel.here | apply Sel.there)))))
        · intro o hJ
          try dsimp only at hJ
          try dsimp only
          have hO := hJ
          refine G.seq ?_
          refine G.cutK (X := Value × Value × Value × (List (List UInt8)) × (List (List UInt8)) × (List (List UInt8))) (ts := [0, 1, 11]) (p := [own 9 1 w1 _ _, own 9 1 w2 _ _, own 9 1 w3 _ _]) (fun st => DiffS (ens xs) (ens ys) (if o ≤ 0 then i + 1 else i) (if 0 ≤ o then j + 1 else j) st.2.2.2.1 st.2.2.2.2.1 st.2.2.2.2.2) (fun st => [(4, st.1), (5, st.2.1), (6, st.2.2.1)]) (fun st => [own 9 1 st.1 st.2.2.2.1.length (st.2.2.2.1.map vStr), own 9 1 st.2.1 st.2.2.2.2.1.length (st.2.2.2.2.1.map vStr), own 9 1 st.2.2.1 st.2.2.2.2.2.length (st.2.2.2.2.2.map vStr)]) (.cons rfl (.cons rfl (.cons rfl .nil))) (by repeat (first | exact Sub.nil | (apply Sub.cons; (repeat (first | with_reducible exact Sel.here | exact Sel.here | apply Sel.there))))) (.cons (.cons (.cons .nil))) (by repeat (first | exact Ap.nil | apply Ap.cons)) ?_ ?_
          · refine G.block ?_
            refine G.seq ?_
            refine G.region ?_
            refine G.op rfl (G.val rfl rfl (pv_move rfl) ?_)
            refine G.op rfl (G.val rfl rfl (pv_gtr rfl rfl) ?_)
            refine G.op rfl (G.val rfl rfl (pv_assign rfl) ?_)
            refine G.nil ?_
            refine G.nThen ?_
            refine G.condP rfl (fun h51 => ?_) (fun h51 => ?_)
            · have hq1 := (hO.1 (by omega)).1
              have hlq0 : 0 < (ys.drop j).length := by omega
              have hEq := helq 0 hlq0
              have hRq := Ro.evRng hEq
              have hDq := Ro.evDat hEq
              obtain ⟨hk1q, hk2q, hlpq, hldq, hltq⟩ := Ro.evOk hEq
              have hCq := Ro.one1 hDq
              have hgy := ens_drop0 hlq0
              refine G.region ?_
              refine G.op rfl (G.val rfl rfl (pv_move rfl) ?_)
              refine G.op rfl (G.val rfl rfl (pv_move rfl) ?_)
              refine G.op rfl (G.val rfl rfl (pv_ixSl (sz := 5) Try.underlying22 (by kernel_rfl) rfl rfl (by first | with_reducible assumption | assumption | exact fun _ => rfl) rfl (by omega)) ?_)
              refine G.op rfl (G.val rfl rfl (pv_fieldAddrK (sz := 0) (k := 0) Try.underlying31 rfl (by kernel_rfl) rfl rfl) ?_)
              refine G.op rfl (G.val rfl rfl (pv_load Try.underlying9 rfl rfl (by first | exact blk_cell (by (repeat (first | with_reducible exact Sel.here | exact Sel.here | apply Sel.there)); done) (by rfl) | exact rng_cell (by (repeat (first | with_reducible exact Sel.here | exact Sel.here | apply Sel.there)); done) (by rfl) | exact ro_blk (by assumption) (by rfl) | exact ro_rngC (by assumption) (by rfl) | exact ro_int (by assumption) | exact ro_byte (by assumption) | exact ro_str (by assumption) | with_reducible assumption | assumption)) ?_)
              refine G.op rfl (G.lit1 (vs := [_]) rfl Try.underlying44 (by kernel_rfl) rfl (by decide) (by decide) rfl rfl ?_)
              intro b59
              refine G.op rfl (G.append (k := l1.length) (j := 1) (cs := l1.map vStr) (news := [vStr (ys.drop j)[0].1.path]) (b := b59) (off := 0) rfl Try.underlying44 Try.infoStr' rfl rfl rfl (by repeat (first | with_reducible exact Sel.here | exact Sel.here | apply Sel.there)) (fun _ => rfl) (fun h => by cases h) rfl (blk_news (k := 1) (by repeat (first | with_reducible exact Sel.here | exact Sel.here | apply Sel.there)) rfl) (vStr_one [(ys.drop j)[0].1.path]) (by omega) (by omega) ?_)
              intro y1
              rw [own_snoc, len_snoc]
              refine G.op rfl (G.val rfl rfl (pv_assign rfl) ?_)
              refine G.nil ?_
              refine G.nBlock ?_
              exact G.meet ((y1, w2, w3, l1 ++ [(ys.drop j)[0].1.path], l2, l3)) (by first | exact trivial | ((try dsimp only); exact by rw [if_neg (by omega), if_pos (by omega)]; exact diff_gt hsx hsy hD hO (by omega) hgy)) (.consE rfl (by first | rfl | exact int_eq (by first | omega | (dsimp only; omega)) | exact congrArg _ (by omega)) (.consE rfl (by first | rfl | exact int_eq (by first | omega | (dsimp only; omega)) | exact congrArg _ (by omega)) (.consE rfl (by first | rfl | exact int_eq (by first | omega | (dsimp only; omega)) | exact congrArg _ (by omega)) (.cons rfl (.cons rfl (.cons rfl .nil)))))) (by repeat (first | exact Sub.nil | (apply Sub.cons; (repeat (first | with_reducible exact Sel.here | exact Sel.here | apply Sel.there)))))
            · refine G.seq ?_
              refine G.region ?_
              refine G.op rfl (G.val rfl rfl (pv_move rfl) ?_)
              refine G.op rfl (G.val rfl rfl (pv_lss rfl rfl) ?_)
              refine G.op rfl (G.val rfl rfl (pv_assign rfl) ?_)
              refine G.nil ?_
              refine G.nThen ?_
              refine G.condP rfl (fun h61 => ?_) (fun h61 => ?_)
              · have hp1 := (hO.2.1 (by omega)).1
                have hlp0 : 0 < (xs.drop i).length := by omega
                have hEp := help 0 hlp0
                have hRp := Ro.evRng hEp
                have hDp := Ro.evDat hEp
                obtain ⟨hk1p, hk2p, hlpp, hldp, hltp⟩ := Ro.evOk hEp
                have hCp := Ro.one1 hDp
                have hgx := ens_drop0 hlp0
                refine G.region ?_
                refine G.op rfl (G.val rfl rfl (pv_move rfl) ?_)
                refine G.op rfl (G.val rfl rfl (pv_move rfl) ?_)
                refine G.op rfl (G.val rfl rfl (pv_ixSl (sz := 5) Try.underlying22 (by kernel_rfl) rfl rfl (by first | with_reducible assumption | assumption | exact fun _ => rfl) rfl (by omega)) ?_)
                refine G.op rfl (G.val rfl rfl (pv_fieldAddrK (sz := 0) (k := 0) Try.underlying31 rfl (by kernel_rfl) rfl rfl) ?_)
                refine G.op rfl (G.val rfl rfl (pv_load Try.underlying9 rfl rfl (by first | exact blk_cell (by (repeat (first | with_reducible exact Sel.here | exact Sel.here | apply Sel.there)); done) (by rfl) | exact rng_cell (by (repeat (first | with_reducible exact Sel.here | exact Sel.here | apply Sel.there)); done) (by rfl) | exact ro_blk (by assumption) (by rfl) | exact ro_rngC (by assumption) (by rfl) | exact ro_int (by assumption) | exact ro_byte (by assumption) | exact ro_str (by assumption) | with_reducible assumption | assumption)) ?_)
                refine G.op rfl (G.lit1 (vs := [_]) rfl Try.underlying44 (by kernel_rfl) rfl (by decide) (by decide) rfl rfl ?_)
                intro b69
                refine G.op rfl (G.append (k := l2.length) (j := 1) (cs := l2.map vStr) (news := [vStr (xs.drop i)[0].1.path]) (b := b69) (off := 0) rfl Try.underlying44 Try.infoStr' rfl rfl rfl (by repeat (first | with_reducible exact Sel.here | exact Sel.here | apply Sel.there)) (fun _ => rfl) (fun h => by cases h) rfl (blk_news (k := 1) (by repeat (first | with_reducible exact Sel.here | exact Sel.here | apply Sel.there)) rfl) (vStr_one [(xs.drop i)[0].1.path]) (by omega) (by omega) ?_)
                intro y2
                rw [own_snoc, len_snoc]
                refine G.op rfl (G.val rfl rfl (pv_assign rfl) ?_)
                refine G.nil ?_
                refine G.nBlock ?_
                exact G.meet ((w1, y2, w3, l1, l2 ++ [(xs.drop i)[0].1.path], l3)) (by first | exact trivial | ((try dsimp only); exact by rw [if_pos (by omega), if_neg (by omega)]; exact diff_lt hsx hsy hD hO (by omega) hgx)) (.consE rfl (by first | rfl | exact int_eq (by first | omega | (dsimp only; omega)) | exact congrArg _ (by omega)) (.consE rfl (by first | rfl | exact int_eq (by first | omega | (dsimp only; omega)) | exact congrArg _ (by omega)) (.consE rfl (by first | rfl | exact int_eq (by first | omega | (dsimp only; omega)) | exact congrArg _ (by omega)) (.cons rfl (.cons rfl (.cons rfl .nil)))))) (by repeat (first | exact Sub.nil | (apply Sub.cons; (repeat (first | with_reducible exact Sel.here | exact Sel.here | apply Sel.there)))))
              · have hpq := hO.2.2 (by omega)
                have hp1 := hpq.1
                have hq1 := hpq.2.1
                have hlp0 : 0 < (xs.drop i).length := by omega
                have hEp := help 0 hlp0
                have hRp := Ro.evRng hEp
                have hDp := Ro.evDat hEp
                obtain ⟨hk1p, hk2p, hlpp, hldp, hltp⟩ := Ro.evOk hEp
                have hCp := Ro.one1 hDp
                have hgx := ens_drop0 hlp0
                have hlq0 : 0 < (ys.drop j).length := by omega
                have hEq := helq 0 hlq0
                have hRq := Ro.evRng hEq
                have hDq := Ro.evDat hEq
                obtain ⟨hk1q, hk2q, hlpq, hldq, hltq⟩ := Ro.evOk hEq
                have hCq := Ro.one1 hDq
                have hgy := ens_drop0 hlq0
                refine G.seq ?_
                refine G.drawT (nn := 9) (p := []) (rem := 511) [0, 1, 2, 0, 8, 16, 36, 64, 192] [0, 1, 2, 0, 8, 16, 36, 64, 128] (by kernel_rfl) ⟨rfl, by kernel_rfl, by kernel_rfl⟩ (by repeat (first | exact Sub.nil | (apply Sub.cons; (repeat (first | with_reducible exact Sel.here | exact Sel.here | apply Sel.there))))) (by kernel_rfl) (fun hT16 => ?_)
                refine G.takeT hT16 (i := 0) (rem' := 510) rfl rfl rfl (by kernel_rfl) (fun _ _ _ h => h) rfl (pv_move rfl) (by repeat (first | exact Sub.nil | (apply Sub.cons; (repeat (first | with_reducible exact Sel.here | exact Sel.here | apply Sel.there))))) ?_
                refine G.takeT hT16 (i := 1) (rem' := 508) rfl rfl rfl (by kernel_rfl) (fun _ _ _ h => h) rfl (pv_ixSl (sz := 5) Try.underlying22 (by kernel_rfl) rfl rfl (by first | with_reducible assumption | assumption | exact fun _ => rfl) rfl (by omega)) (by repeat (first | exact Sub.nil | (apply Sub.cons; (repeat (first | with_reducible exact Sel.here | exact Sel.here | apply Sel.there))))) ?_
                refine G.takeT hT16 (i := 3) (rem' := 500) rfl rfl rfl (by kernel_rfl) (fun _ _ _ h => h) rfl (pv_move rfl) (by repeat (first | exact Sub.nil | (apply Sub.cons; (repeat (first | with_reducible exact Sel.here | exact Sel.here | apply Sel.there))))) ?_
                refine G.takeT hT16 (i := 4) (rem' := 484) rfl rfl rfl (by kernel_rfl) (fun _ _ _ h => h) rfl (pv_ixSl (sz := 5) Try.underlying22 (by kernel_rfl) rfl rfl (by first | with_reducible assumption | assumption | exact fun _ => rfl) rfl (by omega)) (by repeat (first | exact Sub.nil | (apply Sub.cons; (repeat (first | with_reducible exact Sel.here | exact Sel.here | apply Sel.there))))) ?_
                refine G.takeT hT16 (i := 2) (rem' := 480) rfl rfl rfl (by kernel_rfl) (fun _ _ _ h => h) rfl (pv_loadN (cs := [_, _, _, _, _]) Try.underlying31 rfl (by kernel_rfl) rfl (by first | exact blk_range (k := 5) (by (repeat (first | with_reducible exact Sel.here | exact Sel.here | apply Sel.there)); done) (by rfl) | exact ro_rng0 (by assumption) | exact rng_range (k := 5) (by (repeat (first | with_reducible exact Sel.here | exact Sel.here | apply Sel.there)); done) (by rfl) | exact ro_range (k := 5) (by assumption) (by rfl) | exact ro_rngR (k := 5) (by assumption) (by rfl))) (by repeat (first | exact Sub.nil | (apply Sub.cons; (repeat (first | with_reducible exact Sel.here | exact Sel.here | apply Sel.there))))) ?_
                refine G.oneT hT16 (i := 5) (rem' := 448) (by kernel_rfl) (by kernel_rfl) ?_
                refine G.turnOp rfl rfl (G.val rfl rfl (pv_loadN (cs := [_, _, _, _, _]) Try.underlying31 rfl (by kernel_rfl) rfl (by first | exact blk_range (k := 5) (by (repeat (first | with_reducible exact Sel.here | exact Sel.here | apply Sel.there)); done) (by rfl) | exact ro_rng0 (by assumption) | exact rng_range (k := 5) (by (repeat (first | with_reducible exact Sel.here | exact Sel.here | apply Sel.there)); done) (by rfl) | exact ro_range (k := 5) (by assumption) (by rfl) | exact ro_rngR (k := 5) (by assumption) (by rfl))) ?_)
                refine G.back (by repeat (first | exact Sub.nil | (apply Sub.cons; (repeat (first | with_reducible exact Sel.here | exact Sel.here | apply Sel.there))))) ?_
                refine G.oneT hT16 (i := 6) (rem' := 384) (by kernel_rfl) (by kernel_rfl) ?_
                refine G.turnOp rfl rfl (G.cR rfl rfl rfl rfl Try.func53 rfl rfl (may2 (by first | (apply May.old; first | with_reducible assumption | assumption) | (apply Sel.may; (repeat (first | with_reducible exact Sel.here | exact Sel.here | apply Sel.there)); done) | (apply may_own; (repeat (first | with_reducible exact Sel.here | exact Sel.here | apply Sel.there)); exact rfl; exact (fun _ _ => trivial); done) | (apply may_ownB; (repeat (first | with_reducible exact Sel.here | exact Sel.here | apply Sel.there)); done) | (apply may_tree; (repeat (first | with_reducible exact Sel.here | exact Sel.here | apply Sel.there)); (repeat (first | with_reducible exact Sel.here | exact Sel.here | apply Sel.there)); assumption; done)) (by first | (apply May.old; first | with_reducible assumption | assumption) | (apply Sel.may; (repeat (first | with_reducible exact Sel.here | exact Sel.here | apply Sel.there)); done) | (apply may_own; (repeat (first | with_reducible exact Sel.here | exact Sel.here | apply Sel.there)); exact rfl; exact (fun _ _ => trivial); done) | (apply may_ownB; (repeat (first | with_reducible exact Sel.here | exact Sel.here | apply Sel.there)); done) | (apply may_tree; (repeat (first | with_reducible exact Sel.here | exact Sel.here | apply Sel.there)); (repeat (first | with_reducible exact Sel.here | exact Sel.here | apply Sel.there)); assumption; done))) (alike_tr _ _ _ _) ?_)
                refine G.back (by repeat (first | exact Sub.nil | (apply Sub.cons; (repeat (first | with_reducible exact Sel.here | exact Sel.here | apply Sel.there))))) ?_
                refine G.takeT hT16 (i := 7) (rem' := 256) rfl rfl rfl (by kernel_rfl) (fun _ _ _ h => h) rfl (pv_notP rfl) (by repeat (first | exact Sub.nil | (apply Sub.cons; (repeat (first | with_reducible exact Sel.here | exact Sel.here | apply Sel.there))))) ?_
                refine G.takeT hT16 (i := 8) (rem' := 0) rfl rfl rfl (by kernel_rfl) (fun _ _ _ h => h) rfl (pv_assign rfl) (by repeat (first | exact Sub.nil | (apply Sub.cons; (repeat (first | with_reducible exact Sel.here | exact Sel.here | apply Sel.there))))) ?_
                refine G.overT hT16 (by kernel_rfl) ?_
                refine G.nThen ?_
                refine G.condP rfl (fun h71 => ?_) (fun h71 => ?_)
                · refine G.region ?_
                  refine G.op rfl (G.val rfl rfl (pv_move rfl) ?_)
                  refine G.op rfl (G.val rfl rfl (pv_move rfl) ?_)
                  refine G.op rfl (G.val rfl rfl (pv_ixSl (sz := 5) Try.underlying22 (by kernel_rfl) rfl rfl (by first | with_reducible assumption | assumption | exact fun _ => rfl) rfl (by omega)) ?_)
                  refine G.op rfl (G.val rfl rfl (pv_fieldAddrK (sz := 0) (k := 0) Try.underlying31 rfl (by kernel_rfl) rfl rfl) ?_)
                  refine G.op rfl (G.val rfl rfl (pv_load Try.underlying9 rfl rfl (by first | exact blk_cell (by (repeat (first | with_reducible exact Sel.here | exact Sel.here | apply Sel.there)); done) (by rfl) | exact rng_cell (by (repeat (first | with_reducible exact Sel.here | exact Sel.here | apply Sel.there)); done) (by rfl) | exact ro_blk (by assumption) (by rfl) | exact ro_rngC (by assumption) (by rfl) | exact ro_int (by assumption) | exact ro_byte (by assumption) | exact ro_str (by assumption) | with_reducible assumption | assumption)) ?_)
                  refine G.op rfl (G.lit1 (vs := [_]) rfl Try.underlying44 (by kernel_rfl) rfl (by decide) (by decide) rfl rfl ?_)
                  intro b85
                  refine G.op rfl (G.append (k := l3.length) (j := 1) (cs := l3.map vStr) (news := [vStr (xs.drop i)[0].1.path]) (b := b85) (off := 0) rfl Try.underlying44 Try.infoStr' rfl rfl rfl (by repeat (first | with_reducible exact Sel.here | exact Sel.here | apply Sel.there)) (fun _ => rfl) (fun h => by cases h) rfl (blk_news (k := 1) (by repeat (first | with_reducible exact Sel.here | exact Sel.here | apply Sel.there)) rfl) (vStr_one [(xs.drop i)[0].1.path]) (by omega) (by omega) ?_)
                  intro y3
                  rw [own_snoc, len_snoc]
                  refine G.op rfl (G.val rfl rfl (pv_assign rfl) ?_)
                  refine G.nil ?_
                  refine G.nBlock ?_
                  exact G.meet ((w1, w2, y3, l1, l2, l3 ++ [(xs.drop i)[0].1.path])) (by first | exact trivial | ((try dsimp only); exact by rw [if_pos (by omega), if_pos (by omega)]; have hh := diff_eq hsx hsy hD hO (by omega) hgx hgy; rwa [if_neg (by assumption)] at hh)) (.consE rfl (by first | rfl | exact int_eq (by first | omega | (dsimp only; omega)) | exact congrArg _ (by omega)) (.consE rfl (by first | rfl | exact int_eq (by first | omega | (dsimp only; omega)) | exact congrArg _ (by omega)) (.consE rfl (by first | rfl | exact int_eq (by first | omega | (dsimp only; omega)) | exact congrArg _ (by omega)) (.cons rfl (.cons rfl (.cons rfl .nil)))))) (by repeat (first | exact Sub.nil | (apply Sub.cons; (repeat (first | with_reducible exact Sel.here | exact Sel.here | apply Sel.there)))))
                · refine G.skip ?_
                  refine G.nBlock ?_
                  exact G.meet ((w1, w2, w3, l1, l2, l3)) (by first | exact trivial | ((try dsimp only); exact by rw [if_pos (by omega), if_pos (by omega)]; have hh := diff_eq hsx hsy hD hO (by omega) hgx hgy; rwa [if_pos (Decidable.of_not_not (by assumption))] at hh)) (.consE rfl (by first | rfl | exact int_eq (by first | omega | (dsimp only; omega)) | exact congrArg _ (by omega)) (.consE rfl (by first | rfl | exact int_eq (by first | omega | (dsimp only; omega)) | exact congrArg _ (by omega)) (.consE rfl (by first | rfl | exact int_eq (by first | omega | (dsimp only; omega)) | exact congrArg _ (by omega)) (.cons rfl (.cons rfl (.cons rfl .nil)))))) (by repeat (first | exact Sub.nil | (apply Sub.cons; (repeat (first | with_reducible exact Sel.here | exact Sel.here | apply Sel.there)))))
          · intro st hJ
            obtain ⟨z1, z2, z3, m1, m2, m3⟩ := st
            try dsimp only at hJ
            try dsimp only
            have hD2 := hJ
            refine G.seq ?_
            refine G.seq ?_
            refine G.region ?_
            refine G.op rfl (G.val rfl rfl (pv_move rfl) ?_)
            refine G.op rfl (G.val rfl rfl (pv_leq rfl rfl) ?_)
            refine G.nil ?_
            refine G.nThen ?_
            refine G.condP rfl (fun h88 => ?_) (fun h88 => ?_)
            · have hix : i < xs.length := by rcases (by omega : o < 0 ∨ o = 0) with h | h; have := (hO.2.1 h).1; omega; have := (hO.2.2 h).1; omega
              have hSx := Ro.subT hp' (i := 1) (j := (xs.drop i).length) (by omega) (Nat.le_refl _)
              rw [List.take_length, List.drop_drop] at hSx
              refine G.region ?_
              refine G.op rfl (G.val rfl rfl (pv_move rfl) ?_)
              refine G.op rfl (G.val rfl rfl (pv_subL (sz := 5) (k := 1) Try.underlying22 (by kernel_rfl) rfl rfl rfl (by omega)) ?_)
              refine G.op rfl (G.val rfl rfl (pv_assign rfl) ?_)
              refine G.nil ?_
              refine G.nThen ?_
              refine G.seq ?_
              refine G.region ?_
              refine G.op rfl (G.val rfl rfl (pv_move rfl) ?_)
              refine G.op rfl (G.val rfl rfl (pv_geq rfl rfl) ?_)
              refine G.nil ?_
              refine G.nThen ?_
              refine G.condP rfl (fun h92 => ?_) (fun h92 => ?_)
              · have hjy : j < ys.length := by rcases (by omega : 0 < o ∨ o = 0) with h | h; have := (hO.1 h).1; omega; have := (hO.2.2 h).2.1; omega
                have hSy := Ro.subT hq' (i := 1) (j := (ys.drop j).length) (by omega) (Nat.le_refl _)
                rw [List.take_length, List.drop_drop] at hSy
                refine G.region ?_
                refine G.op rfl (G.val rfl rfl (pv_move rfl) ?_)
                refine G.op rfl (G.val rfl rfl (pv_subL (sz := 5) (k := 1) Try.underlying22 (by kernel_rfl) rfl rfl rfl (by omega)) ?_)
                refine G.op rfl (G.val rfl rfl (pv_assign rfl) ?_)
                refine G.nil ?_
                refine G.nBlock ?_
                exact G.next ((i + 1, j + 1, (subV 5 ap 1 (xs.drop i).length cp), (subV 5 aq 1 (ys.drop j).length cq), z1, z2, z3, m1, m2, m3)) (by first | exact trivial | ((try dsimp only); exact ⟨by rw [if_pos (by omega), if_pos (by omega)] at hD2; exact hD2, hSx, hSy⟩)) (by (try dsimp only); omega) (.consE rfl (by first | rfl | exact int_eq (by first | omega | (dsimp only; omega)) | exact congrArg _ (by omega)) (.consE rfl (by first | rfl | exact int_eq (by first | omega | (dsimp only; omega)) | exact congrArg _ (by omega)) (.consE rfl (by first | rfl | exact int_eq (by first | omega | (dsimp only; omega)) | exact congrArg _ (by omega)) (.consE rfl (by first | rfl | exact int_eq (by first | omega | (dsimp only; omega)) | exact congrArg _ (by omega)) (.consE rfl (by first | rfl | exact int_eq (by first | omega | (dsimp only; omega)) | exact congrArg _ (by omega)) .nil))))) (by repeat (first | exact Sub.nil | (apply Sub.cons; (repeat (first | with_reducible exact Sel.here | exact Sel.here | apply Sel.there)))))
              · refine G.skip ?_
                refine G.nBlock ?_
                exact G.next ((i + 1, j, (subV 5 ap 1 (xs.drop i).length cp), .slice aq (ys.drop j).length cq, z1, z2, z3, m1, m2, m3)) (by first | exact trivial | ((try dsimp only); exact ⟨by rw [if_pos (by omega), if_neg (by omega)] at hD2; exact hD2, hSx, hq'⟩)) (by (try dsimp only); omega) (.consE rfl (by first | rfl | exact int_eq (by first | omega | (dsimp only; omega)) | exact congrArg _ (by omega)) (.consE rfl (by first | rfl | exact int_eq (by first | omega | (dsimp only; omega)) | exact congrArg _ (by omega)) (.consE rfl (by first | rfl | exact int_eq (by first | omega | (dsimp only; omega)) | exact congrArg _ (by omega)) (.consE rfl (by first | rfl | exact int_eq (by first | omega | (dsimp only; omega)) | exact congrArg _ (by omega)) (.consE rfl (by first | rfl | exact int_eq (by first | omega | (dsimp only; omega)) | exact congrArg _ (by omega)) .nil))))) (by repeat (first | exact Sub.nil | (apply Sub.cons; (repeat (first | with_reducible exact Sel.here | exact Sel.here | apply Sel.there)))))
            · refine G.skip ?_
              refine G.nThen ?_
              refine G.seq ?_
              refine G.region ?_
              refine G.op rfl (G.val rfl rfl (pv_move rfl) ?_)
              refine G.op rfl (G.val rfl rfl (pv_geq rfl rfl) ?_)
              refine G.nil ?_
              refine G.nThen ?_
              refine G.condP rfl (fun h92 => ?_) (fun h92 => ?_)
              · have hjy : j < ys.length := by rcases (by omega : 0 < o ∨ o = 0) with h | h; have := (hO.1 h).1; omega; have := (hO.2.2 h).2.1; omega
                have hSy := Ro.subT hq' (i := 1) (j := (ys.drop j).length) (by omega) (Nat.le_refl _)
                rw [List.take_length, List.drop_drop] at hSy
                refine G.region ?_
                refine G.op rfl (G.val rfl rfl (pv_move rfl) ?_)
                refine G.op rfl (G.val rfl rfl (pv_subL (sz := 5) (k := 1) Try.underlying22 (by kernel_rfl) rfl rfl rfl (by omega)) ?_)
                refine G.op rfl (G.val rfl rfl (pv_assign rfl) ?_)
                refine G.nil ?_
                refine G.nBlock ?_
                exact G.next ((i, j + 1, .slice ap (xs.drop i).length cp, (subV 5 aq 1 (ys.drop j).length cq), z1, z2, z3, m1, m2, m3)) (by first | exact trivial | ((try dsimp only); exact ⟨by rw [if_neg (by omega), if_pos (by omega)] at hD2; exact hD2, hp', hSy⟩)) (by (try dsimp only); omega) (.consE rfl (by first | rfl | exact int_eq (by first | omega | (dsimp only; omega)) | exact congrArg _ (by omega)) (.consE rfl (by first | rfl | exact int_eq (by first | omega | (dsimp only; omega)) | exact congrArg _ (by omega)) (.consE rfl (by first | rfl | exact int_eq (by first | omega | (dsimp only; omega)) | exact congrArg _ (by omega)) (.consE rfl (by first | rfl | exact int_eq (by first | omega | (dsimp only; omega)) | exact congrArg _ (by omega)) (.consE rfl (by first | rfl | exact int_eq (by first | omega | (dsimp only; omega)) | exact congrArg _ (by omega)) .nil))))) (by repeat (first | exact Sub.nil | (apply Sub.cons; (repeat (first | with_reducible exact Sel.here | exact Sel.here | apply Sel.there)))))
              · refine G.skip ?_
                refine G.nBlock ?_
                exfalso; omega
      · refine G.exit ?_
        refine G.eThen ?_
        refine G.eThen ?_
        refine G.eBlock ?_
        refine G.nThen ?_
        refine G.seq ?_
        refine G.region ?_
        refine G.op rfl (G.val rfl rfl (pv_move rfl) ?_)
        refine G.op rfl (G.val rfl rfl (pv_move rfl) ?_)
        refine G.op rfl (G.val rfl rfl (pv_move rfl) ?_)
        refine G.op rfl (G.val rfl rfl (pv_assign rfl) ?_)
        refine G.op rfl (G.val rfl rfl (pv_assign rfl) ?_)
        refine G.op rfl (G.val rfl rfl (pv_assign rfl) ?_)
        refine G.nil ?_
        refine G.nThen ?_
        refine G.ret ?_
        obtain ⟨rfl, rfl, rfl⟩ := diff_end hD (by omega) (by omega)
        rw [hgood]
        exact G.doneX3 ((w1, w2, w3)) (by first | exact trivial | ((try dsimp only); exact trivial)) rfl rfl rfl rfl rfl (by repeat (first | exact Sub.nil | (apply Sub.cons; (repeat (first | with_reducible exact Sel.here | exact Sel.here | apply Sel.there)))))
end Go.Proofs.Ytchgaedidfefoaa

set_option linter.unusedVariables false
set_option linter.unusedSimpArgs false
namespace Go.Proofs.Ytchgaedidfefoaa
open Go.RowKit
/-- what is behind a path's place -/
def restL (es : List En) (s : List UInt8) : List En := if isAt es s then es.drop (placeK es s + 1) else es.drop (placeK es s)
/-- a tree with an entry laid into it, whether it may be or not -/
def putL (es : List En) (e : En) : List En := es.take (placeK es e.path) ++ [e] ++ restL es e.path
def putM (es : List En) (e : En) : List En × Int := if (checkT es).1 = 0 then (if (checkT (putL es e)).1 = 0 then (putL es e, 0) else ([], (checkT (putL es e)).1)) else ([], (checkT es).1)
theorem put_bad {es : List En} {e : En} (h : ¬ (checkT es).1 = 0) : putM es e = ([], (checkT es).1) := if_neg h
theorem put_bad2 {es : List En} {e : En} (h : (checkT es).1 = 0) (h2 : ¬ (checkT (putL es e)).1 = 0) : putM es e = ([], (checkT (putL es e)).1) := by unfold putM; rw [if_pos h, if_neg h2]
theorem put_ok {es : List En} {e : En} (h : (checkT es).1 = 0) (h2 : (checkT (putL es e)).1 = 0) : putM es e = (putL es e, 0) := by unfold putM; rw [if_pos h, if_pos h2]
theorem ok_list {us : List ET} {l : List En} (h : ens us = l) (hl : ∀ x ∈ l, EnOk x) : ∀ x ∈ us, EnOk x.1 := fun x hx => hl _ (by rw [← h]; exact List.mem_map.2 ⟨x, hx, rfl⟩)
theorem ok_ensl {xs : List ET} (h : ∀ x ∈ xs, EnOk x.1) : ∀ x ∈ ens xs, EnOk x := fun x hx => by
  obtain ⟨y, hy, rfl⟩ := List.mem_map.1 hx
  exact h y hy
end Go.Proofs.Ytchgaedidfefoaa

set_option linter.unusedVariables false
set_option linter.unusedSimpArgs false
namespace Go.Proofs.Ytchgaedidfefoaa
open Go.RowKit
section
variable {P : Program} {n : Nat} {w0 : World} {S : Nat → Prop} {l : Fr} {m : List Ck} {Q : Exit → Act → World → Prop} {K : Act → World → Prop}
  {ty : TypeId} {pos : String} {after : Array Edge} {g : Option (Nat × Bool)}
theorem run_copy_any {w : World} {dT sT ty e sz b o dLen dCap sLen sCap : Nat} {a : Addr} {cur cs : List Value} {t : TypeId} (hu : P.underlying dT = some (.slice e)) (hs : (P.info? e).map (·.size) = some sz) (hg : w.heap[b]? = some (.cells cur.toArray t (0, 0)))
    (hn : cs.length = Nat.min sLen dLen * sz) (hsrc : ∀ j v, cs[j]? = some v → w.cell? (a.add j) = some v) (hfit : o + cs.length ≤ cur.length) (h1 : ∀ v ∈ cs, v.oneCell' = true) :
    (Builtin.copy_ #[dT, sT] ty #[.slice (some ⟨b, o, none⟩) dLen dCap, .slice (some a) sLen sCap]).run P w = .ok (.int .i64 (Nat.min sLen dLen : Nat)) (w.setCells b o cs) := by
  have hl := run_firstCells_some (P := P) w sz (Nat.min sLen dLen) a sLen sCap cs hn hsrc
  have hst := run_storeCells_cells (P := P) b o cs 0 w (fun j hj => by
    rw [cell_of_row _ _ _ _ _ _ hg, List.getElem?_toArray, List.getElem?_eq_getElem (by omega)]
    rfl) (fun j hj => frozen_of_row _ _ _ _ _ hg) h1
  rw [Nat.add_zero] at hst
  cases hq : P.info? e with
  | none => simp [hq] at hs
  | some i =>
    have hi : i.size = sz := by simpa [hq] using hs
    subst hi
    simp [Builtin.copy_, run_underlying hu, Builtin.lenOf, sizeOf, typeInfo, hq, hl, hst, goInt]
/-- 'copy' of whole elements into a block of the call's own -/
theorem G.copyN {dT sT e d b o dLen dCap j cap b' off sz : Nat} {xd xs : Operand} {T : TypeId} {cs news : List Value} {r : List Ck} (hn : Nat.blt d n = true) (hu : P.underlying dT = some (.slice e)) (hsz : (P.info? e).map (·.size) = some sz)
    (hd : ev l xd = some (.slice (some ⟨b, o, none⟩) dLen dCap)) (hs : ev l xs = some (.slice (some ⟨b', off, none⟩) j cap)) (hsel : Sel m (blk b T cs) r) (hnews : ∀ w, Hp w0 S w m → News w b' off news) (hl : news.length = Nat.min j dLen * sz) (h1 : ∀ u ∈ news, u.oneCell' = true) (hfit : o + news.length ≤ cs.length)
    (h : G n w0 S ((d, .int .i64 (Nat.min j dLen : Nat)) :: l) (blk b T (putN cs o news) :: r) K) : G n w0 S l m (fun a w => Oper.wp P ⟨some d, .call ⟨.builtin .copy, #[xd, xs], #[dT, sT]⟩, ty, pos, after, g⟩ a w K Q) := G.eff rfl hn fun a w ha hw => by
  have hw' := hw.sel hsel
  have hh := hw'.holds _ (List.mem_cons_self ..)
  have hr := run_copy_any (P := P) (ty := ty) (sT := sT) (dCap := dCap) (sCap := cap) (a := ⟨b', off, none⟩) hu hsz hh hl (fun i u hi => by rw [addr_mid]; exact hnews w hw i u hi) hfit h1
  refine ⟨_, _, _, ?_, setCells_blk news cs o hw', h⟩
  simp only [execOp, resolve, invoke, builtin, Sem.run_bind, Sem.run_pure, Result.andThen_ok, List.map_toArray, List.map_cons, List.map_nil, ha.eval hd, ha.eval hs, hr]
theorem run_append_make {w : World} {t tn ty e : TypeId} {i : TypeInfo} {z : Value} {k kn : IntKind} (ht : P.underlying t = some (.slice e)) (htn : P.underlying tn = some (.int kn)) (hi : P.info? e = some i) (hz : i.zero = some z)
    {a : Addr} {sLen sCap : Nat} {olds : List Value} (hlo : olds.length = sLen * i.size) (holds : ∀ j v, olds[j]? = some v → w.cell? (a.add j) = some v) {c : Nat} (h0 : 0 < c) (hs : 0 < i.size) (hg : sCap < sLen + c) (h63 : sLen + c ≤ 9223372036854775807) (h48 : (sLen + c) * i.bytes ≤ 140737488355328) :
    (Builtin.append_ #[t, tn] ty #[.slice (some a) sLen sCap, .int k c]).run P w =
      .ok (.slice (some ⟨w.heap.size, 0, none⟩) (sLen + c) (grownCap w (sLen + c) sCap e)) (w.drew.alloc (.cells (olds.toArray ++ Builtin.zeroCells z.cells c ++ Builtin.zeroCells z.cells (grownCap w (sLen + c) sCap e - (sLen + c))) e)) := by
  have hn : ¬ (sLen + c ≤ sCap) := by omega
  have h63' : ¬ (9223372036854775807 < ((sLen : Int) + (c : Int))) := by omega
  have hfit := growslice_fits (old := sCap) hg h48
  have h48' : ¬ (281474976710656 < Builtin.nextslicecap (sLen + c) sCap * i.bytes) := by omega
  have hc48 : c * i.bytes ≤ 140737488355328 := Nat.le_trans (Nat.mul_le_mul_right _ (by omega)) h48
  have h48i : ¬ (281474976710656 < (c : Int) * (i.bytes : Int)) := by
    have : ((c * i.bytes : Nat) : Int) ≤ 140737488355328 := by omega
    rw [Int.natCast_mul] at this
    omega
  have hw : IntKind.i64.wrap (c : Int) = c := by rw [IntKind.wrap_i64]; omega
  have hf := run_firstCells_some (P := P) w.drew i.size sLen a sLen sCap olds hlo (by simpa using holds)
  have hneg : ¬ ((c : Int) < 0) := by omega
  have hns : ¬ (c * i.size = 0) := Nat.mul_ne_zero (by omega) (by omega)
  simp [Builtin.append_, run_underlying ht, run_underlying htn, sizeOf, typeInfo, zeroValue, hi, hz, hw, hn, h63', h48', h48i, hneg, hns, asInt, asIntOf, Question.forced, hf, newRow, grownCap]
/-- append of as many zeros, where there is no room: a block of its own -/
theorem G.appendMake {t tn e d b i cap c sz bytes : Nat} {s x : Operand} {k kn : IntKind} {j : Int} {olds : List Value} {z : List Value} (hn : Nat.blt d n = true) (hu : P.underlying t = some (.slice e)) (hun : P.underlying tn = some (.int kn)) (hi : (P.info? e).map (fun i => (i.zero.map (·.cells), i.size, i.bytes)) = some (some z.toArray, sz, bytes)) (hzl : z.length = sz) (hsz : Nat.blt 0 sz = true)
    (hs : ev l s = some (.slice (some ⟨b, 0, none⟩) i cap)) (hx : ev l x = some (.int k j)) (hj : j = (c : Int)) (holds : ∀ w, Hp w0 S w m → News w b 0 olds) (hol : olds.length = i * sz) (hc : 0 < c) (hg : cap < i + c) (h63 : i + c ≤ 9223372036854775807) (h48 : (i + c) * bytes ≤ 140737488355328)
    (h : ∀ b' cap' sp, i + c ≤ cap' → cap' ≤ 9223372036854775807 → (olds ++ sp).length = cap' * sz → G n w0 S ((d, .slice (some ⟨b', 0, none⟩) (i + c) cap') :: l) (blk b' e (olds ++ sp) :: m) K) : G n w0 S l m (fun a w => Oper.wp P ⟨some d, .call ⟨.builtin .append, #[s, x], #[t, tn]⟩, ty, pos, after, g⟩ a w K Q) := G.eff rfl hn fun a w ha hw => by
  obtain ⟨i1, hi1, hi2⟩ := Option.map_eq_some_iff.1 hi
  have hi3 : i1.zero.map (·.cells) = some z.toArray := congrArg Prod.fst hi2
  have hi4 : i1.size = sz := congrArg (fun p => p.2.1) hi2
  have hi5 : i1.bytes = bytes := congrArg (fun p => p.2.2) hi2
  obtain ⟨zv, hz1, hz2⟩ := Option.map_eq_some_iff.1 hi3
  subst hi4 hi5 hj
  have hr := run_append_make (P := P) (w := w) (ty := ty) (k := k) (a := ⟨b, 0, none⟩) hu hun hi1 hz1 hol (fun q u hq => by rw [addr_mid]; exact holds w hw q u hq) hc (Nat.le_of_ble_eq_true hsz) hg h63 h48
  have hge := grownCap_ge w (i + c) cap e
  have hcm := grownCap_le_maxLen w (i + c) cap e (by unfold maxLen; omega)
  unfold maxLen at hcm
  have hzz : zv.cells.size = i1.size := by rw [hz2]; simpa using hzl
  have e1 : olds.toArray ++ Builtin.zeroCells zv.cells c ++ Builtin.zeroCells zv.cells (grownCap w (i + c) cap e - (i + c)) = (olds ++ ((Builtin.zeroCells zv.cells c).toList ++ (Builtin.zeroCells zv.cells (grownCap w (i + c) cap e - (i + c))).toList)).toArray := by
    apply Array.ext'
    simp [List.append_assoc]
  rw [e1] at hr
  have hex : (execOp a.eval (⟨some d, .call ⟨.builtin .append, #[s, x], #[t, tn]⟩, ty, pos, after, g⟩ : Oper)).run P w = .ok (.value (.slice (some ⟨w.heap.size, 0, none⟩) (i + c) (grownCap w (i + c) cap e))) (w.drew.alloc (.cells (olds ++ ((Builtin.zeroCells zv.cells c).toList ++ (Builtin.zeroCells zv.cells (grownCap w (i + c) cap e - (i + c))).toList)).toArray e)) := by
    simp only [execOp, resolve, invoke, builtin, Sem.run_bind, Sem.run_pure, Result.andThen_ok, List.map_toArray, List.map_cons, List.map_nil, ha.eval hs, ha.eval hx, hr]
  have hlen : (olds ++ ((Builtin.zeroCells zv.cells c).toList ++ (Builtin.zeroCells zv.cells (grownCap w (i + c) cap e - (i + c))).toList)).length = grownCap w (i + c) cap e * i1.size := by
    have q1 : ∀ k, (Builtin.zeroCells zv.cells k).toList.length = k * i1.size := fun k => by rw [Array.length_toList, size_zeroCells, hzz]
    rw [List.length_append, List.length_append, q1, q1, hol, ← Nat.add_mul, ← Nat.add_mul]
    congr 1
    omega
  exact ⟨_, _, _, hex, hw.drew.alloc _ e, h _ _ _ hge (by omega) hlen⟩
/-- slices.overlaps at two slices in two blocks -/
theorem pv_overlaps {dst : Option Tmp} {f : FuncId} {x y : Operand} {ts : Array TypeId} {fn : Func} {T1 T2 tS tR e sz b1 b2 o2 la ca lb cb : Nat} {c1 c2 : List Value} {r1' r2' : List Ck} (hf : P.funcs[f]? = some fn) (hname : (fn.name == "runtime.NumGoroutine") = false)
    (hb : fn.body.isNone = true) (hn : Extern.findNext fn = none) (he : Extern.find fn = some (Extern.SlicesOverlaps.overlaps #[tS, tS] #[tR])) (hu : P.underlying tS = some (.slice e)) (hsz : (P.info? e).map (·.size) = some sz)
    (hx : ev l x = some (.slice (some ⟨b1, 0, none⟩) la ca)) (hy : ev l y = some (.slice (some ⟨b2, o2, none⟩) lb cb)) (h1 : ∀ w, Hp w0 S w m → w.heap[b1]? = some (.cells c1.toArray T1 (0, 0))) (h2 : ∀ w, Hp w0 S w m → w.heap[b2]? = some (.cells c2.toArray T2 (0, 0))) (hne : ∀ w, Hp w0 S w m → b1 ≠ b2) (hc2 : c2.length ≠ 0) :
    PV P n w0 S l m ⟨dst, .call ⟨.value (.func f), #[x, y], ts⟩, ty, pos, after, g⟩ (.bool false) := fun a w ha hw => by
  have hh1 := h1 w hw
  have hh2 := h2 w hw
  have s1 : w.shape? b1 = some (T1, c1.length) := by unfold World.shape?; rw [hh1]; simp
  have s2 : w.shape? b2 = some (T2, c2.length) := by unfold World.shape?; rw [hh2]; simp
  have hr := Lib.run_overlaps_apart (P := P) w tS tR e hu sz (run_sizeOf hsz) ⟨b1, 0, none⟩ ⟨b2, o2, none⟩ la ca lb cb (hne w hw) T1 T2 c1.length c2.length s1 s2 hc2 (frozen_of_row _ _ _ _ _ hh1) (frozen_of_row _ _ _ _ _ hh1)
  have hc := run_callFunc_extern (P := P) hf hname hb hn he #[.slice (some ⟨b1, 0, none⟩) la ca, .slice (some ⟨b2, o2, none⟩) lb cb] w
  rw [hr] at hc
  have e2 : a.eval (.func f) = .func (.func f) #[] #[] := rfl
  simp only [execOp, resolve, Deferred.ofValue, e2, invoke, Sem.run_bind, Sem.run_pure, Result.andThen_ok, List.map_toArray, List.map_cons, List.map_nil, ha.eval hx, ha.eval hy]
  simpa using hc
end
end Go.Proofs.Ytchgaedidfefoaa

set_option linter.unusedVariables false
set_option linter.unusedSimpArgs false
namespace Go.Proofs.Ytchgaedidfefoaa
open Go.RowKit
theorem putN_eq (cs vs : List Value) (o : Nat) (h : o + vs.length ≤ cs.length) : putN cs o vs = cs.take o ++ vs ++ cs.drop (o + vs.length) := by
  apply List.ext_getElem?
  intro j
  rw [putN_get _ _ _ _ h]
  have hl : (cs.take o).length = o := by rw [List.length_take]; omega
  rcases Nat.lt_or_ge j o with h1 | h1
  · rw [if_neg (by omega), List.append_assoc, List.getElem?_append_left (by omega), List.getElem?_take_of_lt h1]
  · rcases Nat.lt_or_ge j (o + vs.length) with h2 | h2
    · rw [if_pos ⟨h1, h2⟩, List.append_assoc, List.getElem?_append_right (by omega), List.getElem?_append_left (by omega), hl]
    · rw [if_neg (by omega), List.getElem?_append_right (by rw [List.length_append]; omega), List.getElem?_drop]
      congr 1
      rw [List.length_append]
      omega
/-- a list with an element laid into it -/
def insT (xs : List ET) (i : Nat) (x : ET) : List ET := xs.take i ++ [x] ++ xs.drop i
theorem insT_length {xs : List ET} {i : Nat} (h : i ≤ xs.length) (x : ET) : (insT xs i x).length = xs.length + 1 := by
  unfold insT
  rw [List.length_append, List.length_append, List.length_take, List.length_drop, List.length_singleton]
  omega
theorem flat_insT (xs : List ET) (i : Nat) (x : ET) : flatT (insT xs i x) = flatT (xs.take i) ++ (evC x ++ flatT (xs.drop i)) := by
  unfold insT
  rw [flatT_app, flatT_app, flatT_one, List.append_assoc]
/-- in place: what is behind is moved, then the new one is laid -/
theorem ins_place {xs : List ET} {sp : List Value} {i : Nat} (h : i < xs.length) (hs : 5 ≤ sp.length) (x : ET) : ∃ sp', putN (putN (flatT xs ++ sp) (0 + (i + 1) * 5) (flatT (xs.drop i))) (0 + i * 5) (evC x) = flatT (insT xs i x) ++ sp' ∧ (flatT (insT xs i x) ++ sp').length = (flatT xs ++ sp).length := by
  have hl := flatT_length xs
  have hd : (flatT (xs.drop i)).length = (xs.length - i) * 5 := by rw [flatT_length, List.length_drop]
  have ht : (flatT (xs.take i)).length = i * 5 := by rw [flatT_length, List.length_take]; omega
  have hc : (flatT xs ++ sp).length = xs.length * 5 + sp.length := by rw [List.length_append, hl]
  have h1 := putN_eq (flatT xs ++ sp) (flatT (xs.drop i)) (0 + (i + 1) * 5) (by omega)
  obtain ⟨L, hL⟩ : ∃ L, putN (flatT xs ++ sp) (0 + (i + 1) * 5) (flatT (xs.drop i)) = L := ⟨_, rfl⟩
  have hLl : L.length = (flatT xs ++ sp).length := by rw [← hL, putN_len]
  have ht1 : L.take (0 + i * 5) = flatT (xs.take i) := by rw [← hL, putN_take _ _ _ _ (by omega), flat_take (by omega)]
  have hd1 : L.drop (0 + i * 5 + 5) = flatT (xs.drop i) ++ (flatT xs ++ sp).drop (0 + (i + 1) * 5 + (flatT (xs.drop i)).length) := by
    rw [← hL, h1, List.append_assoc, List.drop_append_of_le_length (by rw [List.length_take]; omega), List.drop_of_length_le (by rw [List.length_take]; omega), List.nil_append]
  rw [hL, putN_eq _ _ _ (by rw [evC_length]; omega), evC_length, ht1, hd1]
  refine ⟨(flatT xs ++ sp).drop (0 + (i + 1) * 5 + (flatT (xs.drop i)).length), by rw [flat_insT]; simp only [List.append_assoc], ?_⟩
  rw [List.length_append, flatT_length, insT_length (by omega), List.length_drop, hd]
  omega
/-- in a new block: the new one is laid, then what was behind -/
theorem ins_new {xs : List ET} {sp : List Value} {i : Nat} (h : i < xs.length) (hs : (xs.length + 1 - i) * 5 ≤ sp.length) (x : ET) : ∃ sp', putN (putN (flatT (xs.take i) ++ sp) (0 + i * 5) (evC x)) (0 + (i + 1) * 5) (flatT (xs.drop i)) = flatT (insT xs i x) ++ sp' ∧ (flatT (insT xs i x) ++ sp').length = (flatT (xs.take i) ++ sp).length := by
  have hd : (flatT (xs.drop i)).length = (xs.length - i) * 5 := by rw [flatT_length, List.length_drop]
  have ht : (flatT (xs.take i)).length = i * 5 := by rw [flatT_length, List.length_take]; omega
  have hc : (flatT (xs.take i) ++ sp).length = i * 5 + sp.length := by rw [List.length_append, ht]
  have h1 := putN_eq (flatT (xs.take i) ++ sp) (evC x) (0 + i * 5) (by rw [evC_length]; omega)
  obtain ⟨L, hL⟩ : ∃ L, putN (flatT (xs.take i) ++ sp) (0 + i * 5) (evC x) = L := ⟨_, rfl⟩
  have hLl : L.length = (flatT (xs.take i) ++ sp).length := by rw [← hL, putN_len]
  have e0 : (flatT (xs.take i) ++ sp).take (0 + i * 5) = flatT (xs.take i) := List.take_left' (by omega)
  have ht1 : L.take (0 + (i + 1) * 5) = flatT (xs.take i) ++ evC x := by
    rw [← hL, h1, e0]
    exact List.take_left' (by rw [List.length_append, evC_length]; omega)
  rw [hL, putN_eq _ _ _ (by omega), ht1]
  refine ⟨L.drop (0 + (i + 1) * 5 + (flatT (xs.drop i)).length), by rw [flat_insT]; simp only [List.append_assoc], ?_⟩
  rw [List.length_append, flatT_length, insT_length (by omega), List.length_drop, hd]
  omega
theorem ro_ne {w0 : World} {S : Nat → Prop} {m r : List Ck} {b g T1 T2 : Nat} {c1 c2 : List Value} (h : Ro w0 S (blk b T1 c1)) (hs : Sel m (blk g T2 c2) r) : ∀ w, Hp w0 S w m → b ≠ g := fun w hw e => by
  have h1 := h.2 b rfl
  have h2 := (hw.sel hs).own _ (List.mem_cons_self ..) g rfl
  subst e
  rcases h2.1 with k | k
  · exact h1.2 k
  · omega
theorem blk_heap {w0 : World} {S : Nat → Prop} {m r : List Ck} {g T2 : Nat} {c2 : List Value} (hs : Sel m (blk g T2 c2) r) : ∀ w, Hp w0 S w m → w.heap[g]? = some (.cells c2.toArray T2 (0, 0)) := fun w hw => (hw.sel hs).holds _ (List.mem_cons_self ..)
end Go.Proofs.Ytchgaedidfefoaa

set_option linter.unusedVariables false
set_option linter.unusedSimpArgs false
namespace Go.Proofs.Ytchgaedidfefoaa
open Go.RowKit
theorem flat_dropT {xs : List ET} {sp : List Value} {i : Nat} (h : i ≤ xs.length) : ((flatT xs ++ sp).drop (0 + i * 5)).take ((xs.length - i) * 5) = flatT (xs.drop i) := by
  have e : flatT xs = flatT (xs.take i) ++ flatT (xs.drop i) := by rw [← flatT_app, List.take_append_drop]
  have ht : (flatT (xs.take i)).length = 0 + i * 5 := by rw [flatT_length, List.length_take]; omega
  have hd : (flatT (xs.drop i)).length = (xs.length - i) * 5 := by rw [flatT_length, List.length_drop]
  rw [e, List.append_assoc, ← ht, List.drop_left, ← hd, List.take_left]
theorem flat_takeT {xs : List ET} {sp : List Value} {i : Nat} (h : i ≤ xs.length) : ((flatT xs ++ sp).drop 0).take (i * 5) = flatT (xs.take i) := by
  have := flat_take (ws := xs) (sp := sp) h
  rw [Nat.zero_add] at this
  rw [List.drop_zero, this]
set_option maxRecDepth 20000 in
set_option maxHeartbeats 4000000 in
theorem ins_tr (v : Value) (xs : List ET) (i b : Nat) (x : ET) (hi : i ≤ xs.length) (hn : xs.length ≤ 1000) (hx1 : x.2.oneCell' = true) (hys : ∀ y ∈ xs, y.2.oneCell' = true) : Tr Try.prog 56 #[v, .int .i64 (i : Int), .slice (some ⟨b, 0, none⟩) 1 1] [blk b 31 (evC x)] [ownT 31 v xs] (TX (fun _ : Value => True) (fun z => z) (fun z => [ownT 31 z (insT xs i x)])) := by
  refine Tr.of (l := [(0, v), (1, .int .i64 (i : Int)), (2, .slice (some ⟨b, 0, none⟩) 1 1)]) Try.func56 rfl (n := 95) rfl (.cons rfl (.cons rfl (.cons rfl .nil))) (fun w0 hro => ?_)
  have hb0 := ro1 hro
  rw [show ownT 31 v xs = own 31 5 v xs.length (flatT xs) from rfl]
  refine G.ownOpen (v := v) (by repeat (first | with_reducible exact Sel.here | exact Sel.here | apply Sel.there)) (fun a3 c3 h3 hk3 hm3 => ?_)
  subst h3
  refine G.seq ?_
  refine G.region ?_
  refine G.op rfl (G.val rfl rfl (pv_assign rfl) ?_)
  refine G.nil ?_
  refine G.nThen ?_
  refine G.seq ?_
  refine G.region ?_
  refine G.op rfl (G.val rfl rfl (pv_move rfl) ?_)
  refine G.op rfl (G.val rfl rfl (pv_move rfl) ?_)
  refine G.op rfl (G.val rfl rfl (pv_subL (sz := 5) (k := i) Try.underlying22 (by kernel_rfl) rfl rfl rfl (by omega)) ?_)
  refine G.nil ?_
  refine G.nThen ?_
  refine G.seq ?_
  refine G.region ?_
  refine G.op rfl (G.val rfl rfl (pv_move rfl) ?_)
  refine G.op rfl (G.val rfl rfl (pv_lenSl Try.underlying22 rfl) ?_)
  refine G.op rfl (G.val rfl rfl (pv_assign rfl) ?_)
  refine G.nil ?_
  refine G.nThen ?_
  refine G.seq ?_
  refine G.seq ?_
  refine G.region ?_
  refine G.op rfl (G.val rfl rfl (pv_move rfl) ?_)
  refine G.op rfl (G.val rfl rfl (pv_eql rfl rfl) ?_)
  refine G.nil ?_
  refine G.nThen ?_
  refine G.condP rfl (fun h16 => ?_) (fun h16 => ?_)
  · exfalso; omega
  · refine G.skip ?_
    refine G.nThen ?_
    refine G.seq ?_
    refine G.region ?_
    refine G.op rfl (G.val rfl rfl (pv_move rfl) ?_)
    refine G.op rfl (G.val rfl rfl (pv_lenSl Try.underlying22 rfl) ?_)
    refine G.op rfl (G.val rfl rfl (pv_assign rfl) ?_)
    refine G.nil ?_
    refine G.nThen ?_
    refine G.seq ?_
    refine G.seq ?_
    refine G.region ?_
    refine G.op rfl (G.val rfl rfl (pv_move rfl) ?_)
    refine G.op rfl (G.val rfl rfl (pv_move rfl) ?_)
    refine G.op rfl (G.val rfl rfl (pv_eql rfl rfl) ?_)
    refine G.nil ?_
    refine G.nThen ?_
    refine G.condP rfl (fun h22 => ?_) (fun h22 => ?_)
    · refine G.seq ?_
      refine G.region ?_
      refine G.op rfl (G.val rfl rfl (pv_move rfl) ?_)
      refine G.op rfl (G.val rfl rfl (pv_move rfl) ?_)
      refine G.op rfl (G.append (k := xs.length) (j := 1) (cs := flatT xs) (news := evC x) (b := b) (off := 0) rfl Try.underlying22 Try.infoEn' rfl rfl rfl (by repeat (first | with_reducible exact Sel.here | exact Sel.here | apply Sel.there)) (fun _ => rfl) (fun h => by cases h) rfl (ro_range (k := 5) hb0 rfl) (evC_one hx1) (by omega) (by omega) ?_)
      intro v'
      rw [show flatT xs ++ evC x = flatT (insT xs i x) from by rw [flat_insT, List.take_of_length_le (by omega), List.drop_of_length_le (by omega)]; simp [flatT], show xs.length + 1 = (insT xs i x).length from (insT_length (by omega) x).symm]
      refine G.op rfl (G.val rfl rfl (pv_assign rfl) ?_)
      refine G.nil ?_
      refine G.nThen ?_
      refine G.ret ?_
      refine G.rThen ?_
      exact G.doneX1 (v') (by first | exact trivial | ((try dsimp only); exact trivial)) rfl rfl rfl (by repeat (first | exact Sub.nil | (apply Sub.cons; (repeat (first | with_reducible exact Sel.here | exact Sel.here | apply Sel.there)))))
    · have hlt : i < xs.length := by omega
      refine G.ownTo (v := .slice a3 xs.length c3) (by repeat (first | with_reducible exact Sel.here | exact Sel.here | apply Sel.there)) (by omega) (fun g cap sp hvv hkc hmx hl hlen => ?_)
      injection hvv with e1 e2 e3
      subst e1
      subst e3
      have hl5 : xs.length * 5 + sp.length = c3 * 5 := by rw [← hl, List.length_append, flatT_length]
      refine G.skip ?_
      refine G.nThen ?_
      refine G.seq ?_
      refine G.seq ?_
      refine G.region ?_
      refine G.op rfl (G.val rfl rfl (pv_move rfl) ?_)
      refine G.op rfl (G.val rfl rfl (pv_move rfl) ?_)
      refine G.op rfl (G.val rfl rfl (pv_add64 rfl rfl (by omega)) ?_)
      refine G.op rfl (G.val rfl rfl (pv_move rfl) ?_)
      refine G.op rfl (G.val rfl rfl (pv_capSl Try.underlying22 rfl) ?_)
      refine G.op rfl (G.val rfl rfl (pv_gtr rfl rfl) ?_)
      refine G.nil ?_
      refine G.nThen ?_
      refine G.condP rfl (fun h31 => ?_) (fun h31 => ?_)
      · refine G.seq ?_
        refine G.region ?_
        refine G.op rfl (G.val rfl rfl (pv_move rfl) ?_)
        refine G.op rfl (G.val rfl rfl (pv_move rfl) ?_)
        refine G.op rfl (G.val rfl rfl (pv_subH (sz := 5) (k := i) Try.underlying22 (by kernel_rfl) rfl rfl rfl (by omega)) ?_)
        refine G.op rfl (G.val rfl rfl (pv_move rfl) ?_)
        refine G.op rfl (G.val rfl rfl (pv_move rfl) ?_)
        refine G.op rfl (G.val rfl rfl (pv_add64 rfl rfl (by omega)) ?_)
        refine G.op rfl (G.val rfl rfl (pv_move rfl) ?_)
        refine G.op rfl (G.val rfl rfl (pv_sub64 rfl rfl (by omega)) ?_)
        refine G.op rfl (G.appendMake (i := i) (c := xs.length + 1 - i) (sz := 5) (bytes := 72) (olds := flatT (xs.take i)) (z := [.string ⟨#[]⟩, .int .i64 0, .int .i64 0, .slice none 0 0, .string ⟨#[]⟩]) rfl Try.underlying22 Try.underlying3 (by kernel_rfl) rfl rfl rfl rfl (by omega) (blk_news (k := i * 5) (by (repeat (first | with_reducible exact Sel.here | exact Sel.here | apply Sel.there)); done) (flat_takeT (by omega))) (by rw [flatT_length, List.length_take]; omega) (by omega) (by omega) (by omega) (by omega) ?_)
        intro b40 cap4 sp2 hc4 hm4 hl4
        have hl6 : i * 5 + sp2.length = cap4 * 5 := by have := hl4; rw [List.length_append, flatT_length, List.length_take] at this; omega
        refine G.op rfl (G.val rfl rfl (pv_assign rfl) ?_)
        refine G.nil ?_
        refine G.nThen ?_
        refine G.seq ?_
        refine G.region ?_
        refine G.op rfl (G.val rfl rfl (pv_move rfl) ?_)
        refine G.op rfl (G.val rfl rfl (pv_move rfl) ?_)
        refine G.op rfl (G.val rfl rfl ((pv_subL (sz := 5) (k := i) Try.underlying22 (by kernel_rfl) rfl rfl rfl (by omega)).cast (v' := .slice (some ⟨b40, 0 + (i) * 5, none⟩) (i + (xs.length + 1 - i) - (i)) (cap4 - (i))) (by unfold subV; rw [if_neg (by omega), Option.map_some, addr_mid])) ?_)
        refine G.op rfl (G.val rfl rfl (pv_move rfl) ?_)
        refine G.op rfl (G.copyN (sz := 5) (b := b40) (o := 0 + (i) * 5) (news := evC x) rfl Try.underlying22 (by kernel_rfl) rfl rfl (by repeat (first | with_reducible exact Sel.here | exact Sel.here | apply Sel.there)) (ro_range (k := 5) hb0 rfl) (by rw [evC_length, show ∀ a b : Nat, Nat.min a b = min a b from fun _ _ => rfl]; omega) (evC_one hx1) (by rw [evC_length, hl4]; omega) ?_)
        refine G.nil ?_
        refine G.nThen ?_
        refine G.seq ?_
        refine G.drawT (nn := 9) (p := [blk b40 _ _]) (rem := 511) [0, 0, 0, 6, 9, 0, 0, 96, 144] [0, 0, 0, 6, 9, 0, 0, 96, 144] (by kernel_rfl) ⟨rfl, by kernel_rfl, by kernel_rfl⟩ (by repeat (first | exact Sub.nil | (apply Sub.cons; (repeat (first | with_reducible exact Sel.here | exact Sel.here | apply Sel.there))))) (by kernel_rfl) (fun hT11 => ?_)
        refine G.takeT hT11 (i := 0) (rem' := 510) rfl rfl rfl (by kernel_rfl) (fun _ _ _ h => h) rfl (pv_move rfl) (by repeat (first | exact Sub.nil | (apply Sub.cons; (repeat (first | with_reducible exact Sel.here | exact Sel.here | apply Sel.there))))) ?_
        refine G.takeT hT11 (i := 1) (rem' := 508) rfl rfl rfl (by kernel_rfl) (fun _ _ _ h => h) rfl (pv_move rfl) (by repeat (first | exact Sub.nil | (apply Sub.cons; (repeat (first | with_reducible exact Sel.here | exact Sel.here | apply Sel.there))))) ?_
        refine G.takeT hT11 (i := 2) (rem' := 504) rfl rfl rfl (by kernel_rfl) (fun _ _ _ h => h) rfl (pv_move rfl) (by repeat (first | exact Sub.nil | (apply Sub.cons; (repeat (first | with_reducible exact Sel.here | exact Sel.here | apply Sel.there))))) ?_
        refine G.takeT hT11 (i := 3) (rem' := 496) rfl rfl rfl (by kernel_rfl) (fun _ _ _ h => h) rfl (pv_add64 rfl rfl (by omega)) (by repeat (first | exact Sub.nil | (apply Sub.cons; (repeat (first | with_reducible exact Sel.here | exact Sel.here | apply Sel.there))))) ?_
        refine G.takeT hT11 (i := 4) (rem' := 480) rfl rfl rfl (by kernel_rfl) (fun _ _ _ h => h) rfl ((pv_subL (sz := 5) (k := i + 1) Try.underlying22 (by kernel_rfl) rfl rfl rfl (by omega)).cast (v' := .slice (some ⟨b40, 0 + (i + 1) * 5, none⟩) (i + (xs.length + 1 - i) - (i + 1)) (cap4 - (i + 1))) (by unfold subV; rw [if_neg (by omega), Option.map_some, addr_mid])) (by repeat (first | exact Sub.nil | (apply Sub.cons; (repeat (first | with_reducible exact Sel.here | exact Sel.here | apply Sel.there))))) ?_
        refine G.takeT hT11 (i := 5) (rem' := 448) rfl rfl rfl (by kernel_rfl) (fun _ _ _ h => h) rfl (pv_move rfl) (by repeat (first | exact Sub.nil | (apply Sub.cons; (repeat (first | with_reducible exact Sel.here | exact Sel.here | apply Sel.there))))) ?_
        refine G.takeT hT11 (i := 6) (rem' := 384) rfl rfl rfl (by kernel_rfl) (fun _ _ _ h => h) rfl (pv_move rfl) (by repeat (first | exact Sub.nil | (apply Sub.cons; (repeat (first | with_reducible exact Sel.here | exact Sel.here | apply Sel.there))))) ?_
        refine G.takeT hT11 (i := 7) (rem' := 256) rfl rfl rfl (by kernel_rfl) (fun _ _ _ h => h) rfl ((pv_subL (sz := 5) (k := i) Try.underlying22 (by kernel_rfl) rfl rfl rfl (by omega)).cast (v' := .slice (some ⟨g, 0 + (i) * 5, none⟩) (xs.length - (i)) (c3 - (i))) (by unfold subV; rw [if_neg (by omega), Option.map_some, addr_mid])) (by repeat (first | exact Sub.nil | (apply Sub.cons; (repeat (first | with_reducible exact Sel.here | exact Sel.here | apply Sel.there))))) ?_
        refine G.oneT hT11 (i := 8) (rem' := 0) (by kernel_rfl) (by kernel_rfl) ?_
        refine G.turnOp rfl rfl (G.copyN (sz := 5) (b := b40) (o := 0 + (i + 1) * 5) (news := flatT (xs.drop i)) rfl Try.underlying22 (by kernel_rfl) rfl rfl (by repeat (first | with_reducible exact Sel.here | exact Sel.here | apply Sel.there)) (blk_news (k := (xs.length - i) * 5) (by (repeat (first | with_reducible exact Sel.here | exact Sel.here | apply Sel.there)); done) (flat_dropT (by omega))) (by rw [flatT_length, List.length_drop, show ∀ a b : Nat, Nat.min a b = min a b from fun _ _ => rfl]; omega) (flatT_one' fun y hy => hys y (List.mem_of_mem_drop hy)) (by rw [putN_len, hl4, flatT_length, List.length_drop]; omega) ?_)
        refine G.back (by repeat (first | exact Sub.nil | (apply Sub.cons; (repeat (first | with_reducible exact Sel.here | exact Sel.here | apply Sel.there))))) ?_
        refine G.overT hT11 (by kernel_rfl) ?_
        refine G.nThen ?_
        refine G.seq ?_
        refine G.region ?_
        refine G.op rfl (G.val rfl rfl (pv_move rfl) ?_)
        refine G.op rfl (G.val rfl rfl (pv_assign rfl) ?_)
        refine G.nil ?_
        refine G.nThen ?_
        refine G.ret ?_
        refine G.rThen ?_
        obtain ⟨sp', he, hle⟩ := ins_new (sp := sp2) hlt (by omega) x
        rw [he]
        refine G.ownOf (sz := 5) (k := (insT xs i x).length) (cs := flatT (insT xs i x)) (sp := sp') (cap := cap4) (by repeat (first | with_reducible exact Sel.here | exact Sel.here | apply Sel.there)) (flatT_length _) (by rw [insT_length (by omega)]; omega) hm4 (by rw [hle]; exact hl4) ?_
        exact G.doneX1 (.slice (some ⟨b40, 0, none⟩) (insT xs i x).length cap4) (by first | exact trivial | ((try dsimp only); exact trivial)) rfl rfl (by rw [insT_length (by omega), show i + (xs.length + 1 - i) = xs.length + 1 by omega]) (by repeat (first | exact Sub.nil | (apply Sub.cons; (repeat (first | with_reducible exact Sel.here | exact Sel.here | apply Sel.there)))))
      · refine G.skip ?_
        refine G.nThen ?_
        refine G.seq ?_
        refine G.region ?_
        refine G.op rfl (G.val rfl rfl (pv_move rfl) ?_)
        refine G.op rfl (G.val rfl rfl (pv_move rfl) ?_)
        refine G.op rfl (G.val rfl rfl (pv_move rfl) ?_)
        refine G.op rfl (G.val rfl rfl (pv_add64 rfl rfl (by omega)) ?_)
        refine G.op rfl (G.val rfl rfl (pv_subH (sz := 5) (k := xs.length + 1) Try.underlying22 (by kernel_rfl) rfl rfl rfl (by omega)) ?_)
        refine G.op rfl (G.val rfl rfl (pv_assign rfl) ?_)
        refine G.nil ?_
        refine G.nThen ?_
        refine G.seq ?_
        refine G.seq ?_
        refine G.region ?_
        refine G.op rfl (G.val rfl rfl (pv_move rfl) ?_)
        refine G.op rfl (G.val rfl rfl (pv_move rfl) ?_)
        refine G.op rfl (G.val rfl rfl (pv_move rfl) ?_)
        refine G.op rfl (G.val rfl rfl (pv_move rfl) ?_)
        refine G.op rfl (G.val rfl rfl (pv_add64 rfl rfl (by omega)) ?_)
        refine G.op rfl (G.val rfl rfl ((pv_subL (sz := 5) (k := i + 1) Try.underlying22 (by kernel_rfl) rfl rfl rfl (by omega)).cast (v' := .slice (some ⟨g, 0 + (i + 1) * 5, none⟩) (xs.length + 1 - (i + 1)) (c3 - (i + 1))) (by unfold subV; rw [if_neg (by omega), Option.map_some, addr_mid])) ?_)
        refine G.op rfl (G.val rfl rfl (pv_overlaps (sz := 5) (r1' := []) (r2' := []) (tS := 22) (tR := 4) (T1 := 31) (c1 := evC x) (T2 := 31) (c2 := flatT xs ++ sp) (b1 := b) (b2 := g) Try.func73 (by kernel_rfl) (by kernel_rfl) (by kernel_rfl) (by kernel_rfl) Try.underlying22 (by kernel_rfl) rfl rfl (fun w hw => hb0.at hw) (blk_heap (by repeat (first | with_reducible exact Sel.here | exact Sel.here | apply Sel.there))) (ro_ne hb0 (by repeat (first | with_reducible exact Sel.here | exact Sel.here | apply Sel.there))) (by rw [hl]; omega)) ?_)
        refine G.op rfl (G.val rfl rfl ((pv_not rfl).cast (v' := .bool true) rfl) ?_)
        refine G.nil ?_
        refine G.nThen ?_
        refine G.condT rfl (rfl) ?_
        refine G.seq ?_
        refine G.drawT (nn := 9) (p := [blk g _ _]) (rem := 511) [0, 0, 0, 6, 9, 0, 0, 96, 144] [0, 0, 0, 6, 9, 0, 0, 96, 144] (by kernel_rfl) ⟨rfl, by kernel_rfl, by kernel_rfl⟩ (by repeat (first | exact Sub.nil | (apply Sub.cons; (repeat (first | with_reducible exact Sel.here | exact Sel.here | apply Sel.there))))) (by kernel_rfl) (fun hT15 => ?_)
        refine G.takeT hT15 (i := 0) (rem' := 510) rfl rfl rfl (by kernel_rfl) (fun _ _ _ h => h) rfl (pv_move rfl) (by repeat (first | exact Sub.nil | (apply Sub.cons; (repeat (first | with_reducible exact Sel.here | exact Sel.here | apply Sel.there))))) ?_
        refine G.takeT hT15 (i := 1) (rem' := 508) rfl rfl rfl (by kernel_rfl) (fun _ _ _ h => h) rfl (pv_move rfl) (by repeat (first | exact Sub.nil | (apply Sub.cons; (repeat (first | with_reducible exact Sel.here | exact Sel.here | apply Sel.there))))) ?_
        refine G.takeT hT15 (i := 2) (rem' := 504) rfl rfl rfl (by kernel_rfl) (fun _ _ _ h => h) rfl (pv_move rfl) (by repeat (first | exact Sub.nil | (apply Sub.cons; (repeat (first | with_reducible exact Sel.here | exact Sel.here | apply Sel.there))))) ?_
        refine G.takeT hT15 (i := 3) (rem' := 496) rfl rfl rfl (by kernel_rfl) (fun _ _ _ h => h) rfl (pv_add64 rfl rfl (by omega)) (by repeat (first | exact Sub.nil | (apply Sub.cons; (repeat (first | with_reducible exact Sel.here | exact Sel.here | apply Sel.there))))) ?_
        refine G.takeT hT15 (i := 4) (rem' := 480) rfl rfl rfl (by kernel_rfl) (fun _ _ _ h => h) rfl ((pv_subL (sz := 5) (k := i + 1) Try.underlying22 (by kernel_rfl) rfl rfl rfl (by omega)).cast (v' := .slice (some ⟨g, 0 + (i + 1) * 5, none⟩) (xs.length + 1 - (i + 1)) (c3 - (i + 1))) (by unfold subV; rw [if_neg (by omega), Option.map_some, addr_mid])) (by repeat (first | exact Sub.nil | (apply Sub.cons; (repeat (first | with_reducible exact Sel.here | exact Sel.here | apply Sel.there))))) ?_
        refine G.takeT hT15 (i := 5) (rem' := 448) rfl rfl rfl (by kernel_rfl) (fun _ _ _ h => h) rfl (pv_move rfl) (by repeat (first | exact Sub.nil | (apply Sub.cons; (repeat (first | with_reducible exact Sel.here | exact Sel.here | apply Sel.there))))) ?_
        refine G.takeT hT15 (i := 6) (rem' := 384) rfl rfl rfl (by kernel_rfl) (fun _ _ _ h => h) rfl (pv_move rfl) (by repeat (first | exact Sub.nil | (apply Sub.cons; (repeat (first | with_reducible exact Sel.here | exact Sel.here | apply Sel.there))))) ?_
        refine G.takeT hT15 (i := 7) (rem' := 256) rfl rfl rfl (by kernel_rfl) (fun _ _ _ h => h) rfl ((pv_subL (sz := 5) (k := i) Try.underlying22 (by kernel_rfl) rfl rfl rfl (by omega)).cast (v' := .slice (some ⟨g, 0 + (i) * 5, none⟩) (xs.length + 1 - (i)) (c3 - (i))) (by unfold subV; rw [if_neg (by omega), Option.map_some, addr_mid])) (by repeat (first | exact Sub.nil | (apply Sub.cons; (repeat (first | with_reducible exact Sel.here | exact Sel.here | apply Sel.there))))) ?_
        refine G.oneT hT15 (i := 8) (rem' := 0) (by kernel_rfl) (by kernel_rfl) ?_
        refine G.turnOp rfl rfl (G.copyN (sz := 5) (b := g) (o := 0 + (i + 1) * 5) (news := flatT (xs.drop i)) rfl Try.underlying22 (by kernel_rfl) rfl rfl (by repeat (first | with_reducible exact Sel.here | exact Sel.here | apply Sel.there)) (blk_news (k := (xs.length - i) * 5) (by (repeat (first | with_reducible exact Sel.here | exact Sel.here | apply Sel.there)); done) (flat_dropT (by omega))) (by rw [flatT_length, List.length_drop, show ∀ a b : Nat, Nat.min a b = min a b from fun _ _ => rfl]; omega) (flatT_one' fun y hy => hys y (List.mem_of_mem_drop hy)) (by rw [hl, flatT_length, List.length_drop]; omega) ?_)
        refine G.back (by repeat (first | exact Sub.nil | (apply Sub.cons; (repeat (first | with_reducible exact Sel.here | exact Sel.here | apply Sel.there))))) ?_
        refine G.overT hT15 (by kernel_rfl) ?_
        refine G.nThen ?_
        refine G.seq ?_
        refine G.region ?_
        refine G.op rfl (G.val rfl rfl (pv_move rfl) ?_)
        refine G.op rfl (G.val rfl rfl (pv_move rfl) ?_)
        refine G.op rfl (G.val rfl rfl ((pv_subL (sz := 5) (k := i) Try.underlying22 (by kernel_rfl) rfl rfl rfl (by omega)).cast (v' := .slice (some ⟨g, 0 + (i) * 5, none⟩) (xs.length + 1 - (i)) (c3 - (i))) (by unfold subV; rw [if_neg (by omega), Option.map_some, addr_mid])) ?_)
        refine G.op rfl (G.val rfl rfl (pv_move rfl) ?_)
        refine G.op rfl (G.copyN (sz := 5) (b := g) (o := 0 + (i) * 5) (news := evC x) rfl Try.underlying22 (by kernel_rfl) rfl rfl (by repeat (first | with_reducible exact Sel.here | exact Sel.here | apply Sel.there)) (ro_range (k := 5) hb0 rfl) (by rw [evC_length, show ∀ a b : Nat, Nat.min a b = min a b from fun _ _ => rfl]; omega) (evC_one hx1) (by rw [evC_length, putN_len, hl]; omega) ?_)
        refine G.nil ?_
        refine G.nThen ?_
        refine G.seq ?_
        refine G.region ?_
        refine G.op rfl (G.val rfl rfl (pv_move rfl) ?_)
        refine G.op rfl (G.val rfl rfl (pv_assign rfl) ?_)
        refine G.nil ?_
        refine G.nThen ?_
        refine G.ret ?_
        refine G.rThen ?_
        obtain ⟨sp', he, hle⟩ := ins_place (sp := sp) hlt (by omega) x
        rw [he]
        refine G.ownOf (sz := 5) (k := (insT xs i x).length) (cs := flatT (insT xs i x)) (sp := sp') (cap := c3) (by repeat (first | with_reducible exact Sel.here | exact Sel.here | apply Sel.there)) (flatT_length _) (by rw [insT_length (by omega)]; omega) hmx (by rw [hle]; exact hl) ?_
        exact G.doneX1 (.slice (some ⟨g, 0, none⟩) (insT xs i x).length c3) (by first | exact trivial | ((try dsimp only); exact trivial)) rfl rfl (by rw [insT_length (by omega)]) (by repeat (first | exact Sub.nil | (apply Sub.cons; (repeat (first | with_reducible exact Sel.here | exact Sel.here | apply Sel.there)))))
end Go.Proofs.Ytchgaedidfefoaa

set_option linter.unusedVariables false
set_option linter.unusedSimpArgs false
namespace Go.Proofs.Ytchgaedidfefoaa
open Go.RowKit
/-- what an entry's path being there makes of the list -/
def putT (xs : List ET) (x : ET) : List ET := if isAt (ens xs) x.1.path then xs.set (placeK (ens xs) x.1.path) x else insT xs (placeK (ens xs) x.1.path) x
theorem ens_insT (xs : List ET) (i : Nat) (x : ET) : ens (insT xs i x) = (ens xs).take i ++ [x.1] ++ (ens xs).drop i := by
  unfold insT ens
  simp [List.map_append, List.map_take, List.map_drop]
theorem putT_ens {xs : List ET} {x : ET} (hs : SortT (ens xs)) : ens (putT xs x) = putL (ens xs) x.1 := by
  unfold putT putL restL
  by_cases ha : isAt (ens xs) x.1.path
  · rw [if_pos ha, if_pos ha]
    obtain ⟨hk, _⟩ := placeK_spec hs ha
    obtain ⟨k, hk2⟩ : ∃ k, placeK (ens xs) x.1.path = k := ⟨_, rfl⟩
    simp only [hk2] at hk ⊢
    unfold ens at hk ⊢
    rw [List.map_set, List.set_eq_take_append_cons_drop, if_pos hk]
    simp
  · rw [if_neg ha, if_neg ha, ens_insT]
theorem putT_mem {xs : List ET} {x y : ET} (h : y ∈ putT xs x) : y = x ∨ y ∈ xs := by
  unfold putT at h
  split at h
  · rcases List.mem_or_eq_of_mem_set h with h | h
    · exact .inr h
    · exact .inl h
  · unfold insT at h
    rcases List.mem_append.1 h with h | h
    · rcases List.mem_append.1 h with h | h
      · exact .inr (List.mem_of_mem_take h)
      · exact .inl (by simpa using h)
    · exact .inr (List.mem_of_mem_drop h)
theorem Ro.wide {w0 : World} {S Pa Pb : Nat → Prop} {v : Value} {a : List UInt8} (h : Ro w0 S (slc rByte Pa v a)) (hb : ∀ k, Pb k → k < w0.heap.size ∧ ¬ S k) : Ro w0 S (slc rByte (fun k => Pa k ∨ Pb k) v a) := ⟨(show IsSl rByte Pa w0 v a from h.1).mono fun k hk => .inl hk, fun k hk => hk.elim (h.2 k) (hb k)⟩
theorem Ro.wideR {w0 : World} {S Pa Pb : Nat → Prop} {v : Value} {a : List UInt8} (h : Ro w0 S (slc rByte Pb v a)) (hb : ∀ k, Pa k → k < w0.heap.size ∧ ¬ S k) : Ro w0 S (slc rByte (fun k => Pa k ∨ Pb k) v a) := ⟨(show IsSl rByte Pb w0 v a from h.1).mono fun k hk => .inr hk, fun k hk => hk.elim (hb k) (h.2 k)⟩
end Go.Proofs.Ytchgaedidfefoaa

set_option linter.unusedVariables false
set_option linter.unusedSimpArgs false
namespace Go.Proofs.Ytchgaedidfefoaa
open Go.RowKit
set_option maxRecDepth 20000 in
set_option maxHeartbeats 4000000 in
theorem put_tr {Ps Pd : Nat → Prop} (v : Value) (xs : List ET) (e : En) (d : Value) (hok : EnOk e) : Tr Try.prog 30 #[v, .agg #[.string (sB e.path), .int .i64 e.kind, .int .i64 e.mode, d, .string (sB e.to)]] [slc rEV Ps v xs, slc rByte Pd d e.data] []
    (TX (fun z : Value × List ET => ens z.2 = (putM (ens xs) e).1) (fun z => .tuple #[z.1, .int .i64 (putM (ens xs) e).2]) (fun z => [ownT 31 z.1 z.2, datC 5 z.2])) := by
  refine Tr.of (l := [(0, v), (1, .agg #[.string (sB e.path), .int .i64 e.kind, .int .i64 e.mode, d, .string (sB e.to)])]) Try.func30 rfl (n := 50) rfl (.cons rfl (.cons rfl .nil)) (fun w0 hro => ?_)
  obtain ⟨hv0, hd0⟩ := ro2 hro
  have hv := hv0
  have hv' := hv
  obtain ⟨av, cv, bv, fv, rfl, hcapv, hmaxv, hnilv, hadv, helv⟩ := Ro.openT hv
  have hlx := ens_length xs
  have hd1 := Ro.one1 hd0
  obtain ⟨hok1, hok2, hok3, hok4, hok5⟩ := id hok
  have hokp : ∀ x ∈ putT xs (e, d), EnOk x.1 := fun x hx => by rcases putT_mem hx with h | h; rw [h]; exact hok; exact Ro.allOk helv x h
  have hPp : ∀ b, (Ps b ∨ Pd b) → b < w0.heap.size ∧ ¬ (U []) b := fun b hb => hb.elim (hv0.2 b) (hd0.2 b)
  have hdp : ∀ x ∈ putT xs (e, d), Ro w0 (U []) (slc rByte (fun k => Ps k ∨ Pd k) x.2 x.1.data) := fun x hx => by rcases putT_mem hx with h | h; rw [h]; exact Ro.wideR hd0 hv0.2; exact Ro.wide (Ro.allDat helv x h) hd0.2
  refine G.seq ?_
  refine G.region ?_
  refine G.op rfl (G.box rfl rfl (cs := [_, _, _, _, _]) rfl ?_)
  intro b3
  refine G.op rfl (G.val rfl rfl (pv_assign rfl) ?_)
  refine G.op rfl (G.val rfl rfl (pv_assign rfl) ?_)
  refine G.nil ?_
  refine G.nThen ?_
  refine G.seq ?_
  refine G.seq ?_
  refine G.region ?_
  refine G.op rfl (G.val rfl rfl (pv_move rfl) ?_)
  refine G.op rfl (G.cR rfl rfl rfl rfl Try.func11 rfl rfl (may1 (by first | (apply May.old; first | with_reducible assumption | assumption) | (apply Sel.may; (repeat (first | with_reducible exact Sel.here | exact Sel.here | apply Sel.there)); done) | (apply may_own; (repeat (first | with_reducible exact Sel.here | exact Sel.here | apply Sel.there)); exact rfl; exact (fun _ _ => trivial); done) | (apply may_ownB; (repeat (first | with_reducible exact Sel.here | exact Sel.here | apply Sel.there)); done) | (apply may_tree; (repeat (first | with_reducible exact Sel.here | exact Sel.here | apply Sel.there)); (repeat (first | with_reducible exact Sel.here | exact Sel.here | apply Sel.there)); assumption; done))) (tcheck_tr _ _) ?_)
  refine G.op rfl (G.val rfl rfl (pv_move rfl) ?_)
  refine G.op rfl (G.val rfl rfl (pv_extract rfl rfl) ?_)
  refine G.op rfl (G.val rfl rfl (pv_extract rfl rfl) ?_)
  refine G.op rfl (G.val rfl rfl (pv_assign rfl) ?_)
  refine G.op rfl (G.val rfl rfl (pv_assign rfl) ?_)
  refine G.nil ?_
  refine G.nThen ?_
  refine G.seq ?_
  refine G.region ?_
  refine G.op rfl (G.val rfl rfl (pv_move rfl) ?_)
  refine G.op rfl (G.val rfl rfl (pv_neq rfl rfl) ?_)
  refine G.nil ?_
  refine G.nThen ?_
  refine G.condP rfl (fun h19 => ?_) (fun h19 => ?_)
  · have hbad := put_bad (e := e) h19
    refine G.seq ?_
    refine G.region ?_
    refine G.op rfl (G.val rfl rfl (pv_move rfl) ?_)
    refine G.op rfl (G.val rfl rfl (pv_assign rfl) ?_)
    refine G.op rfl (G.val rfl rfl (pv_assign rfl) ?_)
    refine G.nil ?_
    refine G.nThen ?_
    refine G.ret ?_
    refine G.rThen ?_
    refine G.datNil 5 ?_
    refine G.ownNil 31 5 ?_
    exact G.doneX2 ((.slice none 0 0, [])) (by first | exact trivial | ((try dsimp only); exact (by rw [hbad]; rfl))) rfl rfl rfl (by rw [hbad]; first | done | rfl) (by repeat (first | exact Sub.nil | (apply Sub.cons; (repeat (first | with_reducible exact Sel.here | exact Sel.here | apply Sel.there)))))
  · have hx0 : (checkT (ens xs)).1 = 0 := Decidable.of_not_not (by assumption)
    obtain ⟨hx1, hx2, -⟩ := checkT_zero hx0
    have hsx := sort_all hx2
    have hpe : ens (putT xs (e, d)) = putL (ens xs) e := putT_ens hsx
    refine G.skip ?_
    refine G.nThen ?_
    refine G.seq ?_
    refine G.region ?_
    refine G.op rfl (G.val rfl rfl (pv_move rfl) ?_)
    refine G.op rfl (G.val rfl rfl (pv_fieldAddrK (sz := 0) (k := 0) Try.underlying31 rfl (by kernel_rfl) rfl rfl) ?_)
    refine G.op rfl (G.val rfl rfl (pv_load Try.underlying9 rfl rfl (by first | exact blk_cell (by (repeat (first | with_reducible exact Sel.here | exact Sel.here | apply Sel.there)); done) (by rfl) | exact rng_cell (by (repeat (first | with_reducible exact Sel.here | exact Sel.here | apply Sel.there)); done) (by rfl) | exact ro_blk (by assumption) (by rfl) | exact ro_rngC (by assumption) (by rfl) | exact ro_int (by assumption) | exact ro_byte (by assumption) | exact ro_str (by assumption) | with_reducible assumption | assumption)) ?_)
    refine G.op rfl (G.cR rfl rfl rfl rfl Try.func40 rfl rfl (may1 (by first | (apply May.old; first | with_reducible assumption | assumption) | (apply Sel.may; (repeat (first | with_reducible exact Sel.here | exact Sel.here | apply Sel.there)); done) | (apply may_own; (repeat (first | with_reducible exact Sel.here | exact Sel.here | apply Sel.there)); exact rfl; exact (fun _ _ => trivial); done) | (apply may_ownB; (repeat (first | with_reducible exact Sel.here | exact Sel.here | apply Sel.there)); done) | (apply may_tree; (repeat (first | with_reducible exact Sel.here | exact Sel.here | apply Sel.there)); (repeat (first | with_reducible exact Sel.here | exact Sel.here | apply Sel.there)); assumption; done))) (place_tr _ xs _ (by omega) hsx (by omega)) ?_)
    refine G.op rfl (G.val rfl rfl (pv_move rfl) ?_)
    refine G.op rfl (G.val rfl rfl (pv_extract rfl rfl) ?_)
    refine G.op rfl (G.val rfl rfl (pv_extract rfl rfl) ?_)
    refine G.op rfl (G.val rfl rfl (pv_assign rfl) ?_)
    refine G.op rfl (G.val rfl rfl (pv_assign rfl) ?_)
    refine G.nil ?_
    refine G.nThen ?_
    refine G.seq ?_
    refine G.region ?_
    refine G.op rfl (G.val rfl rfl (pv_move rfl) ?_)
    refine G.op rfl (G.cS rfl rfl rfl rfl Try.func55 rfl rfl (by repeat (first | exact Sub.nil | (apply Sub.cons; (repeat (first | with_reducible exact Sel.here | exact Sel.here | apply Sel.there))))) (may1 (by first | (apply May.old; first | with_reducible assumption | assumption) | (apply Sel.may; (repeat (first | with_reducible exact Sel.here | exact Sel.here | apply Sel.there)); done) | (apply may_own; (repeat (first | with_reducible exact Sel.here | exact Sel.here | apply Sel.there)); exact rfl; exact (fun _ _ => trivial); done) | (apply may_ownB; (repeat (first | with_reducible exact Sel.here | exact Sel.here | apply Sel.there)); done) | (apply may_tree; (repeat (first | with_reducible exact Sel.here | exact Sel.here | apply Sel.there)); (repeat (first | with_reducible exact Sel.here | exact Sel.here | apply Sel.there)); assumption; done))) (cloneE_tr _ _ (by omega)) (by repeat (first | exact Ap.nil | apply Ap.cons)) ?_)
    intro x29 hJ
    try dsimp only at hJ
    try dsimp only
    refine G.op rfl (G.val rfl rfl (pv_assign rfl) ?_)
    refine G.nil ?_
    refine G.nThen ?_
    refine G.seq ?_
    refine G.cutK (X := Value) (ts := [4, 5]) (p := [ownT 31 x29 _]) (fun vo => True) (fun vo => [(10, vo)]) (fun vo => [ownT 31 vo (putT xs (e, d))]) (.cons rfl (.cons rfl .nil)) (by repeat (first | exact Sub.nil | (apply Sub.cons; (repeat (first | with_reducible exact Sel.here | exact Sel.here | apply Sel.there))))) (.cons .nil) (by repeat (first | exact Ap.nil | apply Ap.cons)) ?_ ?_
    · refine G.seq ?_
      refine G.region ?_
      refine G.op rfl (G.val rfl rfl (pv_move rfl) ?_)
      refine G.nil ?_
      refine G.nThen ?_
      refine G.condP rfl (fun h30 => ?_) (fun h30 => ?_)
      · have hat : isAt (ens xs) e.path := by assumption
        obtain ⟨hkl, hkp⟩ := placeK_spec hsx hat
        have hpt : putT xs (e, d) = xs.set (placeK (ens xs) e.path) (e, d) := if_pos hat
        obtain ⟨k, hk⟩ : ∃ k, placeK (ens xs) e.path = k := ⟨_, rfl⟩
        simp only [hk] at hkl hpt
        rw [hk]
        rw [show ownT 31 x29 xs = own 31 5 x29 xs.length (flatT xs) from rfl]
        refine G.ownTo (v := x29) (by repeat (first | with_reducible exact Sel.here | exact Sel.here | apply Sel.there)) (by omega) (fun g cap sp hvv hkc hmx hl hlen => ?_)
        subst hvv
        refine G.region ?_
        refine G.op rfl (G.val rfl rfl (pv_move rfl) ?_)
        refine G.op rfl (G.val rfl rfl (pv_move rfl) ?_)
        refine G.op rfl (G.val rfl rfl (pv_loadN (cs := [_, _, _, _, _]) Try.underlying31 rfl (by kernel_rfl) rfl (by first | exact blk_range (k := 5) (by (repeat (first | with_reducible exact Sel.here | exact Sel.here | apply Sel.there)); done) (by rfl) | exact ro_rng0 (by assumption) | exact rng_range (k := 5) (by (repeat (first | with_reducible exact Sel.here | exact Sel.here | apply Sel.there)); done) (by rfl) | exact ro_range (k := 5) (by assumption) (by rfl) | exact ro_rngR (k := 5) (by assumption) (by rfl))) ?_)
        refine G.op rfl (G.val rfl rfl (pv_ixSl (sz := 5) (k := k) Try.underlying22 (by kernel_rfl) rfl rfl (fun _ => rfl) (by omega) (by omega)) ?_)
        refine G.op rfl (G.storeN (vs := evC (e, d)) (by kernel_rfl) rfl rfl (by exact (all1_cons rfl (all1_cons rfl (all1_cons rfl (all1_cons hd1 (all1_cons rfl all1_nil)))))) (by repeat (first | with_reducible exact Sel.here | exact Sel.here | apply Sel.there)) (by rw [evC_length, List.length_append, flatT_length]; omega) ?_)
        rw [flat_put (show k < xs.length by omega), ← hpt]
        refine G.ownOf (sz := 5) (k := (putT xs (e, d)).length) (cs := flatT (putT xs (e, d))) (sp := sp) (cap := cap) (by repeat (first | with_reducible exact Sel.here | exact Sel.here | apply Sel.there)) (flatT_length _) (by rw [hpt, List.length_set]; omega) hmx (by rw [List.length_append, flatT_length, hpt, List.length_set]; rw [List.length_append, flatT_length] at hl; exact hl) ?_
        refine G.nil ?_
        exact G.meet ((.slice (some ⟨g, 0, none⟩) (putT xs (e, d)).length cap)) (by first | exact trivial | ((try dsimp only); exact trivial)) (.consE rfl (by rw [hpt, List.length_set]) (.cons rfl (.cons rfl .nil))) (by repeat (first | exact Sub.nil | (apply Sub.cons; (repeat (first | with_reducible exact Sel.here | exact Sel.here | apply Sel.there)))))
      · have hnat : ¬ isAt (ens xs) e.path := by assumption
        have hpt : putT xs (e, d) = insT xs (placeK (ens xs) e.path) (e, d) := if_neg hnat
        have hple : placeK (ens xs) e.path ≤ xs.length := by have := List.findIdx_le_length (p := fun q : En => ! decide (compareM q.path e.path < 0)) (xs := ens xs); rw [ens_length] at this; exact this
        rw [hpt]
        refine G.region ?_
        refine G.op rfl (G.val rfl rfl (pv_move rfl) ?_)
        refine G.op rfl (G.val rfl rfl (pv_move rfl) ?_)
        refine G.op rfl (G.val rfl rfl (pv_loadN (cs := [_, _, _, _, _]) Try.underlying31 rfl (by kernel_rfl) rfl (by first | exact blk_range (k := 5) (by (repeat (first | with_reducible exact Sel.here | exact Sel.here | apply Sel.there)); done) (by rfl) | exact ro_rng0 (by assumption) | exact rng_range (k := 5) (by (repeat (first | with_reducible exact Sel.here | exact Sel.here | apply Sel.there)); done) (by rfl) | exact ro_range (k := 5) (by assumption) (by rfl) | exact ro_rngR (k := 5) (by assumption) (by rfl))) ?_)
        refine G.op rfl (G.buildSlice (z := .agg #[.string ⟨#[]⟩, .int .i64 0, .int .i64 0, .slice none 0 0, .string ⟨#[]⟩]) (sz := 5) (cs := evC (e, d)) rfl Try.underlying22 (by kernel_rfl) (by decide) (by decide) rfl (by kernel_rfl) ?_)
        intro b38
        refine G.op rfl (G.cS rfl rfl rfl rfl Try.func56 rfl rfl (by repeat (first | exact Sub.nil | (apply Sub.cons; (repeat (first | with_reducible exact Sel.here | exact Sel.here | apply Sel.there))))) (may1 (by first | (apply May.old; first | with_reducible assumption | assumption) | (apply Sel.may; (repeat (first | with_reducible exact Sel.here | exact Sel.here | apply Sel.there)); done) | (apply may_own; (repeat (first | with_reducible exact Sel.here | exact Sel.here | apply Sel.there)); exact rfl; exact (fun _ _ => trivial); done) | (apply may_ownB; (repeat (first | with_reducible exact Sel.here | exact Sel.here | apply Sel.there)); done) | (apply may_tree; (repeat (first | with_reducible exact Sel.here | exact Sel.here | apply Sel.there)); (repeat (first | with_reducible exact Sel.here | exact Sel.here | apply Sel.there)); assumption; done))) (ins_tr _ xs (placeK (ens xs) e.path) b38 (e, d) hple (by omega) hd1 (fun y hy => (Ro.allEO (P := Try.prog) helv y hy).2)) (by repeat (first | exact Ap.nil | apply Ap.cons)) ?_)
        intro x39 hJ
        try dsimp only at hJ
        try dsimp only
        refine G.op rfl (G.val rfl rfl (pv_assign rfl) ?_)
        refine G.nil ?_
        exact G.meet (x39) (by first | exact trivial | ((try dsimp only); exact trivial)) (.consE rfl (by first | rfl | exact int_eq (by first | omega | (dsimp only; omega)) | exact congrArg _ (by omega)) (.cons rfl (.cons rfl .nil))) (by repeat (first | exact Sub.nil | (apply Sub.cons; (repeat (first | with_reducible exact Sel.here | exact Sel.here | apply Sel.there)))))
    · intro vo hJ
      try dsimp only at hJ
      try dsimp only
      refine G.seq ?_
      refine G.seq ?_
      refine G.region ?_
      refine G.op rfl (G.val rfl rfl (pv_move rfl) ?_)
      refine G.op rfl (G.cR rfl rfl rfl rfl Try.func11 rfl rfl (may1 (may_treeR (by repeat (first | with_reducible exact Sel.here | exact Sel.here | apply Sel.there)) hokp hPp hdp)) (tcheck_tr _ (putT xs (e, d))) ?_)
      rw [hpe]
      refine G.op rfl (G.val rfl rfl (pv_move rfl) ?_)
      refine G.op rfl (G.val rfl rfl (pv_extract rfl rfl) ?_)
      refine G.op rfl (G.val rfl rfl (pv_extract rfl rfl) ?_)
      refine G.op rfl (G.val rfl rfl (pv_assign rfl) ?_)
      refine G.op rfl (G.val rfl rfl (pv_assign rfl) ?_)
      refine G.nil ?_
      refine G.nThen ?_
      refine G.seq ?_
      refine G.region ?_
      refine G.op rfl (G.val rfl rfl (pv_move rfl) ?_)
      refine G.op rfl (G.val rfl rfl (pv_neq rfl rfl) ?_)
      refine G.nil ?_
      refine G.nThen ?_
      refine G.condP rfl (fun h46 => ?_) (fun h46 => ?_)
      · have hbad2 := put_bad2 hx0 (by assumption)
        refine G.seq ?_
        refine G.region ?_
        refine G.op rfl (G.val rfl rfl (pv_move rfl) ?_)
        refine G.op rfl (G.val rfl rfl (pv_assign rfl) ?_)
        refine G.op rfl (G.val rfl rfl (pv_assign rfl) ?_)
        refine G.nil ?_
        refine G.nThen ?_
        refine G.ret ?_
        refine G.rThen ?_
        refine G.datNil 5 ?_
        refine G.ownNil 31 5 ?_
        exact G.doneX2 ((.slice none 0 0, [])) (by first | exact trivial | ((try dsimp only); exact (by rw [hbad2]; rfl))) rfl rfl rfl (by rw [hbad2]; first | done | rfl) (by repeat (first | exact Sub.nil | (apply Sub.cons; (repeat (first | with_reducible exact Sel.here | exact Sel.here | apply Sel.there)))))
      · have hgood := put_ok hx0 (Decidable.of_not_not (by assumption))
        have hcz : (checkT (putL (ens xs) e)).1 = 0 := Decidable.of_not_not (by assumption)
        have hpl : (putT xs (e, d)).length ≤ 200 := by have := (checkT_zero hcz).1; rw [← hpe, ens_length] at this; exact this
        refine G.skip ?_
        refine G.nThen ?_
        refine G.seq ?_
        refine G.region ?_
        refine G.op rfl (G.val rfl rfl (pv_move rfl) ?_)
        refine G.op rfl (G.cS rfl rfl rfl rfl Try.func41 rfl rfl (by repeat (first | exact Sub.nil | (apply Sub.cons; (repeat (first | with_reducible exact Sel.here | exact Sel.here | apply Sel.there))))) (may1 (may_treeR (by repeat (first | with_reducible exact Sel.here | exact Sel.here | apply Sel.there)) hokp hPp hdp)) (clone_tr _ (putT xs (e, d)) (by omega)) (by repeat (first | exact Ap.nil | apply Ap.cons)) ?_)
        intro x49 hJ
        obtain ⟨v', zs⟩ := x49
        try dsimp only at hJ
        try dsimp only
        refine G.op rfl (G.val rfl rfl (pv_assign rfl) ?_)
        refine G.op rfl (G.val rfl rfl (pv_assign rfl) ?_)
        refine G.nil ?_
        refine G.nThen ?_
        refine G.ret ?_
        exact G.doneX2 ((v', zs)) (by first | exact trivial | ((try dsimp only); exact (by rw [hgood, hJ, hpe]))) rfl rfl rfl (by rw [hgood]) (by repeat (first | exact Sub.nil | (apply Sub.cons; (repeat (first | with_reducible exact Sel.here | exact Sel.here | apply Sel.there)))))
end Go.Proofs.Ytchgaedidfefoaa

set_option linter.unusedVariables false
set_option linter.unusedSimpArgs false
namespace Go.Proofs.Ytchgaedidfefoaa
open Go.RowKit
theorem put_len (es : List En) (e : En) : (putM es e).1.length ≤ 200 := by
  unfold putM
  split
  · split
    · exact (checkT_zero (by assumption)).1
    · exact Nat.zero_le _
  · exact Nat.zero_le _
theorem putL_mem {es : List En} {e x : En} (h : x ∈ putL es e) : x = e ∨ x ∈ es := by
  unfold putL restL at h
  rcases List.mem_append.1 h with h | h
  · rcases List.mem_append.1 h with h | h
    · exact .inr (List.mem_of_mem_take h)
    · exact .inl (by simpa using h)
  · split at h
    · exact .inr (List.mem_of_mem_drop h)
    · exact .inr (List.mem_of_mem_drop h)
theorem put_okE {es : List En} {e : En} (h : ∀ x ∈ es, EnOk x) (he : EnOk e) : ∀ x ∈ (putM es e).1, EnOk x := by
  unfold putM
  split
  · split
    · intro x hx
      rcases putL_mem hx with rfl | hx
      · exact he
      · exact h x hx
    · intro x hx
      cases hx
  · intro x hx
    cases hx
end Go.Proofs.Ytchgaedidfefoaa

set_option linter.unusedVariables false
set_option linter.unusedSimpArgs false
namespace Go.Proofs.Ytchgaedidfefoaa
open Go.RowKit
def eD : En := ⟨[100], 1, 0, [], []⟩
theorem all1T {p : ET → Prop} {x : ET} (h : p x) : ∀ y ∈ [x], p y := fun y hy => by obtain rfl : y = x := (by simpa using hy); exact h
end Go.Proofs.Ytchgaedidfefoaa

set_option linter.unusedVariables false
set_option linter.unusedSimpArgs false
namespace Go.Proofs.Ytchgaedidfefoaa
open Go.RowKit
theorem mem_putL (es : List En) (e : En) : e ∈ putL es e := by
  unfold putL
  exact List.mem_append_left _ (List.mem_append_right _ (List.mem_cons_self ..))
theorem rest_sub {es : List En} {s : List UInt8} {x : En} (h : x ∈ restL es s) : x ∈ es := by
  unfold restL at h
  split at h
  · exact List.mem_of_mem_drop h
  · exact List.mem_of_mem_drop h
theorem putL_has {es : List En} {e : En} (hs : SortT es) {y : En} (hy : y ∈ es) : isAt (putL es e) y.path := by
  by_cases h : isAt es e.path
  · obtain ⟨hk, hp⟩ := placeK_spec hs h
    obtain ⟨j, hj, rfl⟩ := List.getElem_of_mem hy
    rcases Nat.lt_trichotomy j (placeK es e.path) with h1 | h1 | h1
    · refine ⟨es[j], ?_, rfl⟩
      unfold putL
      refine List.mem_append_left _ (List.mem_append_left _ ?_)
      exact List.mem_take_iff_getElem.2 ⟨j, by omega, rfl⟩
    · refine ⟨e, mem_putL _ _, ?_⟩
      rw [← hp]
      simp only [h1]
    · refine ⟨es[j], ?_, rfl⟩
      unfold putL restL
      rw [if_pos h]
      refine List.mem_append_right _ ?_
      refine List.mem_drop_iff_getElem.2 ⟨j - (placeK es e.path + 1), by omega, ?_⟩
      congr 1
      omega
  · refine ⟨y, ?_, rfl⟩
    unfold putL restL
    rw [if_neg h]
    have : y ∈ es.take (placeK es e.path) ++ es.drop (placeK es e.path) := by rw [List.take_append_drop]; exact hy
    rcases List.mem_append.1 this with h1 | h1
    · exact List.mem_append_left _ (List.mem_append_left _ h1)
    · exact List.mem_append_right _ h1
theorem filt_nil {p : En → Bool} {l : List En} (h : ∀ x ∈ l, p x = false) : l.filter p = [] := List.filter_eq_nil_iff.2 fun x hx => by rw [h x hx]; simp
theorem addM_put (es : List En) (e : En) : addM es (putL es e) = if isAt es e.path then [] else [e.path] := by
  unfold addM putL
  rw [List.filter_append, List.filter_append, filt_nil (l := es.take _) (fun x hx => by simp [show isAt es x.path from ⟨x, List.mem_of_mem_take hx, rfl⟩]), filt_nil (l := restL _ _) (fun x hx => by simp [show isAt es x.path from ⟨x, rest_sub hx, rfl⟩])]
  by_cases h : isAt es e.path <;> simp [h]
theorem chgM_put (es : List En) (e : En) : chgM es (putL es e) = if isAt es e.path ∧ ¬ e ∈ es then [e.path] else [] := by
  unfold chgM putL
  rw [List.filter_append, List.filter_append, filt_nil (l := es.take _) (fun x hx => by simp [List.mem_of_mem_take hx]), filt_nil (l := restL _ _) (fun x hx => by simp [rest_sub hx])]
  by_cases h : isAt es e.path <;> by_cases h2 : e ∈ es <;> simp [h, h2]
theorem addM_put2 {es : List En} {e : En} (hs : SortT es) : addM (putL es e) es = [] := by
  unfold addM
  rw [filt_nil fun x hx => by simp [putL_has (e := e) hs hx]]
  rfl
theorem putL_len {es : List En} {e : En} (hs : SortT es) : (putL es e).length = es.length + (if isAt es e.path then 0 else 1) := by
  have hple : placeK es e.path ≤ es.length := List.findIdx_le_length
  unfold putL restL
  by_cases h : isAt es e.path
  · obtain ⟨hk, hp⟩ := placeK_spec hs h
    rw [if_pos h, if_pos h]
    simp
    omega
  · rw [if_neg h, if_neg h]
    simp
    omega
theorem puts_diff {es : List En} {e : En} (h : (checkT es).1 = 0) (h2 : (checkT (putL es e)).1 = 0) : ∃ AD CH, diffM es (putL es e) = (AD, [], CH) ∧ AD.length + CH.length ≤ 1 ∧ (putL es e).length = es.length + AD.length ∧ (∀ s ∈ AD, s = e.path) ∧ (∀ s ∈ CH, s = e.path) := by
  have hs := sort_all (checkT_zero h).2.1
  refine ⟨_, _, by rw [diff_ok h h2, addM_put2 hs], ?_, ?_, ?_, ?_⟩
  · rw [addM_put, chgM_put]
    by_cases h1 : isAt es e.path <;> by_cases h2 : e ∈ es <;> simp [h1, h2]
  · rw [addM_put, putL_len hs]
    by_cases h1 : isAt es e.path <;> simp [h1]
  · rw [addM_put]
    by_cases h1 : isAt es e.path <;> simp [h1]
  · rw [chgM_put]
    by_cases h1 : isAt es e.path <;> by_cases h2 : e ∈ es <;> simp [h1, h2]
theorem put_fell {es : List En} {e : En} (h : ¬ (putM es e).2 = 0) : (putM es e).1 = [] := by
  unfold putM at h ⊢
  split at h
  · rename_i h1
    rw [if_pos h1]
    split at h
    · exact absurd rfl h
    · rename_i h2
      rw [if_neg h2]
  · rename_i h1
    rw [if_neg h1]
theorem put_went {es : List En} {e : En} (h : (putM es e).2 = 0) (h0 : (checkT es).1 = 0) : (checkT (putL es e)).1 = 0 ∧ (putM es e).1 = putL es e := by
  unfold putM at h ⊢
  rw [if_pos h0] at h ⊢
  split at h
  · rename_i h1
    rw [if_pos h1]
    exact ⟨h1, rfl⟩
  · rename_i h1
    exact absurd h h1
/-- how many stay of the first i -/
def keepN (s : List UInt8) (es : List En) (i : Nat) : Nat := ((es.take i).filter (keepB s)).length
theorem keepN_le (s : List UInt8) (es : List En) (i : Nat) : keepN s es i ≤ i := by
  unfold keepN
  have := List.length_filter_le (keepB s) (es.take i)
  rw [List.length_take] at this
  omega
theorem keepN_all {s : List UInt8} {es : List En} {i : Nat} (h : es.length ≤ i) : keepN s es i = (es.filter (keepB s)).length := by
  unfold keepN
  rw [List.take_of_length_le h]
theorem keepN_no {s : List UInt8} {es : List En} {i : Nat} (hi : i < es.length) (hg : goneP s es[i]) : keepN s es (i + 1) = keepN s es i := by
  unfold keepN
  rw [List.take_succ_eq_append_getElem hi, List.filter_append, List.filter_cons_of_neg (by simp [keepB, hg])]
  simp
theorem keepN_yes {s : List UInt8} {es : List En} {i : Nat} (hi : i < es.length) (hg : ¬ goneP s es[i]) : keepN s es (i + 1) = keepN s es i + 1 := by
  unfold keepN
  rw [List.take_succ_eq_append_getElem hi, List.filter_append, List.filter_cons_of_pos (by simp [keepB, hg])]
  simp
theorem keepN_at {s : List UInt8} {es l : List En} {i : Nat} (hl : l = es.filter (keepB s)) (hi : i < es.length) (hg : ¬ goneP s es[i]) : ∃ h : keepN s es i < l.length, l[keepN s es i]'h = es[i] := by
  have e : l = (es.take i).filter (keepB s) ++ es[i] :: (es.drop (i + 1)).filter (keepB s) := by
    rw [hl, ← List.filter_cons_of_pos (show keepB s es[i] = true by simp [keepB, hg]), ← List.drop_eq_getElem_cons hi, ← List.filter_append, List.take_append_drop]
  subst e
  unfold keepN
  exact ⟨by simp, by simp⟩
theorem News.str {w : World} {b off : Nat} {xs : List (List UInt8)} (h : News w b off (xs.map vStr)) (i : Nat) (hi : i < xs.length) : w.cell? ⟨b, off + i * 1, none⟩ = some (.string (sB xs[i])) := by
  have := h i (vStr xs[i]) (by rw [List.getElem?_map, List.getElem?_eq_getElem hi]; rfl)
  rw [show off + i * 1 = off + i by omega]
  exact this
end Go.Proofs.Ytchgaedidfefoaa

set_option linter.unusedVariables false
set_option linter.unusedSimpArgs false
namespace Go.Proofs.Ytchgaedidfefoaa
open Go.RowKit
set_option maxRecDepth 20000 in
set_option maxHeartbeats 4000000 in
theorem tdrops {Ps Pd : Nat → Prop} (v : Value) (xs : List ET) (n : Int) (e : En) (d : Value) (hn : I64 n) (hok : EnOk e) : Tr Try.prog 8 #[v, .int .i64 n, .agg #[.string (sB e.path), .int .i64 e.kind, .int .i64 e.mode, d, .string (sB e.to)]] [slc rEV Ps v xs, slc rByte Pd d e.data] [] (T0 (.bool true)) := by
  refine Tr.of (l := [(0, v), (1, .int .i64 n), (2, .agg #[.string (sB e.path), .int .i64 e.kind, .int .i64 e.mode, d, .string (sB e.to)])]) Try.func8 rfl (n := 205) rfl (.cons rfl (.cons rfl (.cons rfl .nil))) (fun w0 hro => ?_)
  obtain ⟨hv0, hd0⟩ := ro2 hro
  have hv := hv0
  have hv' := hv
  obtain ⟨av, cv, bv, fv, rfl, hcapv, hmaxv, hnilv, hadv, helv⟩ := Ro.openT hv
  have hlx := ens_length xs
  have hd1 := Ro.one1 hd0
  obtain ⟨hok1, hok2, hok3, hok4, hok5⟩ := id hok
  have hokl : ∀ x ∈ [(e, d)], EnOk x.1 := all1T (p := fun x => EnOk x.1) hok
  have hdl : ∀ x ∈ [(e, d)], Ro w0 (U []) (slc rByte Pd x.2 x.1.data) := all1T (p := fun x => Ro w0 (U []) (slc rByte Pd x.2 x.1.data)) hd0
  refine G.seq ?_
  refine G.region ?_
  refine G.op rfl (G.box rfl rfl (cs := [_, _, _, _, _]) rfl ?_)
  intro b5
  refine G.op rfl (G.val rfl rfl (pv_assign rfl) ?_)
  refine G.nil ?_
  refine G.nThen ?_
  refine G.seq ?_
  refine G.region ?_
  refine G.op rfl (G.cR rfl rfl rfl rfl Try.func10 rfl rfl may0 (awake_tr) ?_)
  refine G.op rfl (G.val rfl rfl (pv_assign rfl) ?_)
  refine G.nil ?_
  refine G.nThen ?_
  refine G.seq ?_
  refine G.region ?_
  refine G.op rfl (G.val rfl rfl (pv_move rfl) ?_)
  refine G.op rfl (G.cR rfl rfl rfl rfl Try.func11 rfl rfl (may1 (by first | (apply May.old; first | with_reducible assumption | assumption) | (apply Sel.may; (repeat (first | with_reducible exact Sel.here | exact Sel.here | apply Sel.there)); done) | (apply may_own; (repeat (first | with_reducible exact Sel.here | exact Sel.here | apply Sel.there)); exact rfl; exact (fun _ _ => trivial); done) | (apply may_ownB; (repeat (first | with_reducible exact Sel.here | exact Sel.here | apply Sel.there)); done) | (apply may_tree; (repeat (first | with_reducible exact Sel.here | exact Sel.here | apply Sel.there)); (repeat (first | with_reducible exact Sel.here | exact Sel.here | apply Sel.there)); assumption; done))) (tcheck_tr _ _) ?_)
  refine G.op rfl (G.val rfl rfl (pv_move rfl) ?_)
  refine G.op rfl (G.val rfl rfl (pv_extract rfl rfl) ?_)
  refine G.op rfl (G.val rfl rfl (pv_extract rfl rfl) ?_)
  refine G.op rfl (G.val rfl rfl (pv_assign rfl) ?_)
  refine G.op rfl (G.val rfl rfl (pv_assign rfl) ?_)
  refine G.nil ?_
  refine G.nThen ?_
  refine G.seq ?_
  refine G.seq ?_
  refine G.cutK (X := Unit) (ts := [0, 1, 5, 6, 7]) (p := []) (fun _ => True) (fun _ => [(41, .bool (decide (bigM (ens xs) 60 4000 ∨ bigM (ens [(e, d)]) 1 4000 ∨ ¬ (checkT (ens xs)).1 = 0)))]) (fun _ => []) (.cons rfl (.cons rfl (.cons rfl (.cons rfl (.cons rfl .nil))))) (by repeat (first | exact Sub.nil | (apply Sub.cons; (repeat (first | with_reducible exact Sel.here | exact Sel.here | apply Sel.there))))) (.cons .nil) (by repeat (first | exact Ap.nil | apply Ap.cons)) ?_ ?_
  · refine G.region ?_
    refine G.op rfl (G.val rfl rfl (pv_move rfl) ?_)
    refine G.op rfl (G.cR rfl rfl rfl rfl Try.func12 rfl rfl (may1 (by first | (apply May.old; first | with_reducible assumption | assumption) | (apply Sel.may; (repeat (first | with_reducible exact Sel.here | exact Sel.here | apply Sel.there)); done) | (apply may_own; (repeat (first | with_reducible exact Sel.here | exact Sel.here | apply Sel.there)); exact rfl; exact (fun _ _ => trivial); done) | (apply may_ownB; (repeat (first | with_reducible exact Sel.here | exact Sel.here | apply Sel.there)); done) | (apply may_tree; (repeat (first | with_reducible exact Sel.here | exact Sel.here | apply Sel.there)); (repeat (first | with_reducible exact Sel.here | exact Sel.here | apply Sel.there)); assumption; done))) (big_tr _ _ _ _ (by omega)) ?_)
    refine G.op rfl (G.val rfl rfl (pv_move rfl) ?_)
    refine G.partP (t := 33) rfl (fun h33 => ?_) (fun h33 => ?_)
    · refine G.pass rfl rfl rfl rfl rfl rfl ?_
      refine G.pass rfl rfl rfl rfl rfl rfl ?_
      refine G.pass rfl rfl rfl rfl rfl rfl ?_
      refine G.op rfl (G.val rfl rfl (pv_pick rfl rfl) ?_)
      refine G.op rfl (G.val rfl rfl (pv_move rfl) ?_)
      refine G.pass rfl rfl rfl rfl rfl rfl ?_
      refine G.pass rfl rfl rfl rfl rfl rfl ?_
      refine G.op rfl (G.val rfl rfl (pv_pick rfl rfl) ?_)
      refine G.nil ?_
      exact G.meet (()) (by first | exact trivial | ((try dsimp only); exact trivial)) (.consE rfl (by first | exact dec_t (.inl (by assumption)) | exact dec_t (.inr (.inl (by assumption))) | exact dec_e ⟨fun h => .inr (.inr (by first | assumption | omega)), fun h => by rcases h with h | h | h; exact absurd h (by assumption); exact absurd h (by assumption); exact h⟩) (.cons rfl (.cons rfl (.cons rfl (.cons rfl (.cons rfl .nil)))))) (by repeat (first | exact Sub.nil | (apply Sub.cons; (repeat (first | with_reducible exact Sel.here | exact Sel.here | apply Sel.there)))))
    · refine G.want rfl rfl rfl (G.val rfl rfl (pv_loadN (cs := [_, _, _, _, _]) Try.underlying31 rfl (by kernel_rfl) rfl (by first | exact blk_range (k := 5) (by (repeat (first | with_reducible exact Sel.here | exact Sel.here | apply Sel.there)); done) (by rfl) | exact ro_rng0 (by assumption) | exact rng_range (k := 5) (by (repeat (first | with_reducible exact Sel.here | exact Sel.here | apply Sel.there)); done) (by rfl) | exact ro_range (k := 5) (by assumption) (by rfl) | exact ro_rngR (k := 5) (by assumption) (by rfl))) ?_)
      refine G.want rfl rfl rfl (G.buildSlice (z := .agg #[.string ⟨#[]⟩, .int .i64 0, .int .i64 0, .slice none 0 0, .string ⟨#[]⟩]) (sz := 5) (cs := evC (e, d)) rfl Try.underlying22 (by kernel_rfl) (by decide) (by decide) rfl (by kernel_rfl) ?_)
      intro b35
      refine G.ownBlk (b := b35) (k := 1) (sz := 5) (by repeat (first | with_reducible exact Sel.here | exact Sel.here | apply Sel.there)) rfl (by omega) ?_
      rw [show own 31 5 (.slice (some ⟨b35, 0, none⟩) 1 1) 1 (evC (e, d)) = ownT 31 (.slice (some ⟨b35, 0, none⟩) 1 1) [(e, d)] from rfl]
      refine G.want rfl rfl rfl (G.cR rfl rfl rfl rfl Try.func12 rfl rfl (may1 (may_treeR (by repeat (first | with_reducible exact Sel.here | exact Sel.here | apply Sel.there)) hokl hd0.2 hdl)) (big_tr _ [(e, d)] _ _ (by omega)) ?_)
      refine G.op rfl (G.val rfl rfl (pv_pick rfl rfl) ?_)
      refine G.op rfl (G.val rfl rfl (pv_move rfl) ?_)
      refine G.partP (t := 38) rfl (fun h38 => ?_) (fun h38 => ?_)
      · refine G.pass rfl rfl rfl rfl rfl rfl ?_
        refine G.pass rfl rfl rfl rfl rfl rfl ?_
        refine G.op rfl (G.val rfl rfl (pv_pick rfl rfl) ?_)
        refine G.nil ?_
        exact G.meet (()) (by first | exact trivial | ((try dsimp only); exact trivial)) (.consE rfl (by first | exact dec_t (.inl (by assumption)) | exact dec_t (.inr (.inl (by assumption))) | exact dec_e ⟨fun h => .inr (.inr (by first | assumption | omega)), fun h => by rcases h with h | h | h; exact absurd h (by assumption); exact absurd h (by assumption); exact h⟩) (.cons rfl (.cons rfl (.cons rfl (.cons rfl (.cons rfl .nil)))))) (by repeat (first | exact Sub.nil | (apply Sub.cons; (repeat (first | with_reducible exact Sel.here | exact Sel.here | apply Sel.there)))))
      · refine G.want rfl rfl rfl (G.val rfl rfl (pv_move rfl) ?_)
        refine G.want rfl rfl rfl (G.val rfl rfl (pv_neq rfl rfl) ?_)
        refine G.op rfl (G.val rfl rfl (pv_pick rfl rfl) ?_)
        refine G.nil ?_
        exact G.meet (()) (by first | exact trivial | ((try dsimp only); exact trivial)) (.consE rfl (by first | exact dec_t (.inl (by assumption)) | exact dec_t (.inr (.inl (by assumption))) | exact dec_e ⟨fun h => .inr (.inr (by first | assumption | omega)), fun h => by rcases h with h | h | h; exact absurd h (by assumption); exact absurd h (by assumption); exact h⟩) (.cons rfl (.cons rfl (.cons rfl (.cons rfl (.cons rfl .nil)))))) (by repeat (first | exact Sub.nil | (apply Sub.cons; (repeat (first | with_reducible exact Sel.here | exact Sel.here | apply Sel.there)))))
  · intro _ hJ
    try dsimp only at hJ
    try dsimp only
    refine G.condP rfl (fun h41 => ?_) (fun h41 => ?_)
    · refine G.seq ?_
      refine G.region ?_
      refine G.op rfl (G.val rfl rfl (pv_move rfl) ?_)
      refine G.op rfl (G.val rfl rfl (pv_assign rfl) ?_)
      refine G.nil ?_
      refine G.nThen ?_
      refine G.ret ?_
      refine G.rThen ?_
      exact G.done0G rfl (Rv.tmp rfl Rv.nil) (by first | rfl | exact int_eq (by omega) | (simp; done))
    · have hb1 : ¬ bigM (ens xs) 60 4000 := fun h => h41 (.inl h)
      have h0 : (checkT (ens xs)).1 = 0 := Decidable.of_not_not (fun h => h41 (.inr (.inr h)))
      have hnx : xs.length ≤ 60 := by unfold bigM at hb1; omega
      refine G.skip ?_
      refine G.nThen ?_
      refine G.seq ?_
      refine G.cutK (X := Unit) (ts := [0, 5, 7]) (p := []) (fun _ => True) (fun _ => []) (fun _ => []) (.cons rfl (.cons rfl (.cons rfl .nil))) (by repeat (first | exact Sub.nil | (apply Sub.cons; (repeat (first | with_reducible exact Sel.here | exact Sel.here | apply Sel.there))))) Ap.nil (by repeat (first | exact Ap.nil | apply Ap.cons)) ?_ ?_
      · refine G.seq ?_
        refine G.region ?_
        refine G.op rfl (G.val rfl rfl (pv_move rfl) ?_)
        refine G.op rfl (G.val rfl rfl (pv_lenSl Try.underlying22 rfl) ?_)
        refine G.op rfl (G.val rfl rfl (pv_gtr rfl rfl) ?_)
        refine G.nil ?_
        refine G.nThen ?_
        refine G.condP rfl (fun h45 => ?_) (fun h45 => ?_)
        · have hlp : 0 < xs.length := by omega
          obtain ⟨k, hk, hkl⟩ := pick_nat n (xs.length - 1)
          rw [show ((xs.length - 1 : Nat) : Int) + 1 = (xs.length : Int) by omega] at hk
          have hkx : k < xs.length := by omega
          have hEv := helv k hkx
          have hRv := Ro.evRng hEv
          have hDv := Ro.evDat hEv
          obtain ⟨hk1v, hk2v, hlpv, hldv, hltv⟩ := Ro.evOk hEv
          have hCv := Ro.one1 hDv
          refine G.seq ?_
          refine G.region ?_
          refine G.op rfl (G.val rfl rfl (pv_move rfl) ?_)
          refine G.op rfl (G.val rfl rfl (pv_move rfl) ?_)
          refine G.op rfl (G.val rfl rfl (pv_move rfl) ?_)
          refine G.op rfl (G.val rfl rfl (pv_lenSl Try.underlying22 rfl) ?_)
          refine G.op rfl (G.cR rfl rfl rfl rfl Try.func13 rfl rfl may0 (pick_tr n _ hn ⟨by omega, by omega⟩) ?_)
          rw [hk]
          refine G.op rfl (G.val rfl rfl (pv_ixSl (sz := 5) (k := k) Try.underlying22 (by kernel_rfl) rfl rfl (by first | with_reducible assumption | assumption) (by omega) (by omega)) ?_)
          refine G.op rfl (G.val rfl rfl (pv_fieldAddrK (sz := 0) (k := 0) Try.underlying31 rfl (by kernel_rfl) rfl rfl) ?_)
          refine G.op rfl (G.val rfl rfl (pv_load Try.underlying9 rfl rfl (by first | exact blk_cell (by (repeat (first | with_reducible exact Sel.here | exact Sel.here | apply Sel.there)); done) (by rfl) | exact rng_cell (by (repeat (first | with_reducible exact Sel.here | exact Sel.here | apply Sel.there)); done) (by rfl) | exact ro_blk (by assumption) (by rfl) | exact ro_rngC (by assumption) (by rfl) | exact ro_int (by assumption) | exact ro_byte (by assumption) | exact ro_str (by assumption) | with_reducible assumption | assumption)) ?_)
          refine G.op rfl (G.val rfl rfl (pv_assign rfl) ?_)
          refine G.nil ?_
          refine G.nThen ?_
          refine G.seq ?_
          refine G.region ?_
          refine G.op rfl (G.val rfl rfl (pv_move rfl) ?_)
          refine G.op rfl (G.val rfl rfl (pv_move rfl) ?_)
          refine G.op rfl (G.cS rfl rfl rfl rfl Try.func32 rfl rfl (by repeat (first | exact Sub.nil | (apply Sub.cons; (repeat (first | with_reducible exact Sel.here | exact Sel.here | apply Sel.there))))) (may1 (by first | (apply May.old; first | with_reducible assumption | assumption) | (apply Sel.may; (repeat (first | with_reducible exact Sel.here | exact Sel.here | apply Sel.there)); done) | (apply may_own; (repeat (first | with_reducible exact Sel.here | exact Sel.here | apply Sel.there)); exact rfl; exact (fun _ _ => trivial); done) | (apply may_ownB; (repeat (first | with_reducible exact Sel.here | exact Sel.here | apply Sel.there)); done) | (apply may_tree; (repeat (first | with_reducible exact Sel.here | exact Sel.here | apply Sel.there)); (repeat (first | with_reducible exact Sel.here | exact Sel.here | apply Sel.there)); assumption; done))) (drop_tr _ _ _ (by omega)) (by repeat (first | exact Ap.nil | apply Ap.cons)) ?_)
          intro x57 hJ
          obtain ⟨dv, ds⟩ := x57
          try dsimp only at hJ
          try dsimp only
          rw [drop_at h0 ⟨xs[k].1, by rw [← ens_get hkx]; exact List.getElem_mem _, rfl⟩] at hJ ⊢
          have hds : ens ds = (ens xs).filter (keepB xs[k].1.path) := hJ
          have hld := ens_length ds
          have hokd := ok_list hds (fun x hx => ok_ensl (Ro.allOk helv) x (List.mem_filter.1 hx).1)
          refine G.ownOpen (v := dv) (by repeat (first | with_reducible exact Sel.here | exact Sel.here | apply Sel.there)) (fun a3 c3 h3 hk3 hm3 => ?_)
          subst h3
          refine G.op rfl (G.val rfl rfl (pv_move rfl) ?_)
          refine G.op rfl (G.val rfl rfl (pv_extract rfl rfl) ?_)
          refine G.op rfl (G.val rfl rfl (pv_extract rfl rfl) ?_)
          refine G.op rfl (G.val rfl rfl (pv_assign rfl) ?_)
          refine G.op rfl (G.val rfl rfl (pv_assign rfl) ?_)
          refine G.nil ?_
          refine G.nThen ?_
          refine G.seq ?_
          refine G.seq ?_
          refine G.region ?_
          refine G.op rfl (G.val rfl rfl (pv_move rfl) ?_)
          refine G.op rfl (G.val rfl rfl ((pv_neq rfl rfl).cast (v' := .bool false) (congrArg Value.bool (by simp))) ?_)
          refine G.nil ?_
          refine G.nThen ?_
          refine G.condF rfl (rfl) ?_
          refine G.skip ?_
          refine G.nThen ?_
          refine G.seq ?_
          refine G.region ?_
          refine G.op rfl (G.val rfl rfl (pv_assign rfl) ?_)
          refine G.nil ?_
          refine G.nThen ?_
          refine G.seq ?_
          refine G.seq ?_
          refine G.region ?_
          refine G.op rfl (G.val rfl rfl (pv_assign rfl) ?_)
          refine G.nil ?_
          refine G.nThen ?_
          refine G.block ?_
          refine G.loopK (X := Nat) (ts := [0, 5, 7, 10, 11]) (fun i => i ≤ xs.length ∧ (True)) (fun i => [(14, .int .i64 (i : Int)), (13, .int .i64 (keepN xs[k].1.path (ens xs) i : Int))]) (fun i => []) (fun i => xs.length - i) (x0 := 0) (.cons rfl (.cons rfl (.cons rfl (.cons rfl (.cons rfl .nil))))) (by repeat (first | exact Sub.nil | (apply Sub.cons; (repeat (first | with_reducible exact Sel.here | exact Sel.here | apply Sel.there))))) (.cons (.cons .nil)) (by repeat (first | exact Ap.nil | apply Ap.cons)) (by first | exact trivial | ((try dsimp only); exact ⟨Nat.zero_le _, trivial⟩)) (.consE rfl (by first | rfl | exact int_eq (by first | omega | (dsimp only; omega)) | exact congrArg _ (by omega)) (.consE rfl (by first | rfl | exact int_eq (by first | omega | (dsimp only; omega)) | exact congrArg _ (by omega)) .nil)) (fun i hJ => ?_)
          try dsimp only at hJ
          try dsimp only
          obtain ⟨hki, hJ⟩ := hJ
          have hnl := keepN_le xs[k].1.path (ens xs) i
          refine G.seq ?_
          refine G.seq ?_
          refine G.region ?_
          refine G.op rfl (G.val rfl rfl (pv_move rfl) ?_)
          refine G.op rfl (G.val rfl rfl (pv_move rfl) ?_)
          refine G.op rfl (G.val rfl rfl (pv_lenSl Try.underlying22 rfl) ?_)
          refine G.op rfl (G.val rfl rfl (pv_lss rfl rfl) ?_)
          refine G.nil ?_
          refine G.nThen ?_
          refine G.condP rfl (fun h65 => ?_) (fun h65 => ?_)
          · have hlt : i < xs.length := by omega
            have hEv := helv i hlt
            have hRv := Ro.evRng hEv
            have hDv := Ro.evDat hEv
            obtain ⟨hk1v, hk2v, hlpv, hldv, hltv⟩ := Ro.evOk hEv
            have hCv := Ro.one1 hDv
            have hge := ens_get hlt
            have hno := keepN_no (s := xs[k].1.path) (es := ens xs) (i := i) (by omega)
            have hyes := keepN_yes (s := xs[k].1.path) (es := ens xs) (i := i) (by omega)
            have hat := keepN_at (s := xs[k].1.path) (i := i) hds (by omega)
            rw [hge] at hno hyes hat
            have hSub := Ro.subT hv' (i := i) (j := i + 1) (by omega) (by omega)
            rw [take_drop1 hlt] at hSub
            refine G.skip ?_
            refine G.nThen ?_
            refine G.seq ?_
            refine G.block ?_
            refine G.seq ?_
            refine G.seq ?_
            refine G.cutK (X := Unit) (ts := [0, 5, 7, 10, 11, 13, 14]) (p := []) (fun _ => True) (fun _ => [(83, .bool (decide (goneP xs[k].1.path xs[i].1)))]) (fun _ => []) (.cons rfl (.cons rfl (.cons rfl (.cons rfl (.cons rfl (.cons rfl (.cons rfl .nil))))))) (by repeat (first | exact Sub.nil | (apply Sub.cons; (repeat (first | with_reducible exact Sel.here | exact Sel.here | apply Sel.there))))) (.cons .nil) (by repeat (first | exact Ap.nil | apply Ap.cons)) ?_ ?_
            · refine G.region ?_
              refine G.op rfl (G.val rfl rfl (pv_move rfl) ?_)
              refine G.op rfl (G.val rfl rfl (pv_move rfl) ?_)
              refine G.op rfl (G.val rfl rfl (pv_ixSl (sz := 5) Try.underlying22 (by kernel_rfl) rfl rfl (by first | with_reducible assumption | assumption | exact fun _ => rfl) rfl (by omega)) ?_)
              refine G.op rfl (G.val rfl rfl (pv_fieldAddrK (sz := 0) (k := 0) Try.underlying31 rfl (by kernel_rfl) rfl rfl) ?_)
              refine G.op rfl (G.val rfl rfl (pv_load Try.underlying9 rfl rfl (by first | exact blk_cell (by (repeat (first | with_reducible exact Sel.here | exact Sel.here | apply Sel.there)); done) (by rfl) | exact rng_cell (by (repeat (first | with_reducible exact Sel.here | exact Sel.here | apply Sel.there)); done) (by rfl) | exact ro_blk (by assumption) (by rfl) | exact ro_rngC (by assumption) (by rfl) | exact ro_int (by assumption) | exact ro_byte (by assumption) | exact ro_str (by assumption) | with_reducible assumption | assumption)) ?_)
              refine G.op rfl (G.val rfl rfl (pv_move rfl) ?_)
              refine G.op rfl (G.val rfl rfl (pv_eqlS rfl rfl) ?_)
              refine G.op rfl (G.val rfl rfl (pv_move rfl) ?_)
              refine G.partP (t := 75) rfl (fun h75 => ?_) (fun h75 => ?_)
              · refine G.pass rfl rfl rfl rfl rfl rfl ?_
                refine G.pass rfl rfl rfl rfl rfl rfl ?_
                refine G.pass rfl rfl rfl rfl rfl rfl ?_
                refine G.pass rfl rfl rfl rfl rfl rfl ?_
                refine G.pass rfl rfl rfl rfl rfl rfl ?_
                refine G.pass rfl rfl rfl rfl rfl rfl ?_
                refine G.pass rfl rfl rfl rfl rfl rfl ?_
                refine G.op rfl (G.val rfl rfl (pv_pick rfl rfl) ?_)
                refine G.nil ?_
                exact G.meet (()) (by first | exact trivial | ((try dsimp only); exact trivial)) (.consE rfl (by first | exact dec_t (.inl (by assumption)) | exact dec_e ⟨fun h => .inr h, fun h => h.resolve_left (by assumption)⟩) (.cons rfl (.cons rfl (.cons rfl (.cons rfl (.cons rfl (.cons rfl (.cons rfl .nil)))))))) (by repeat (first | exact Sub.nil | (apply Sub.cons; (repeat (first | with_reducible exact Sel.here | exact Sel.here | apply Sel.there)))))
              · refine G.want rfl rfl rfl (G.val rfl rfl (pv_move rfl) ?_)
                refine G.want rfl rfl rfl (G.val rfl rfl (pv_move rfl) ?_)
                refine G.want rfl rfl rfl (G.val rfl rfl (pv_ixSl (sz := 5) Try.underlying22 (by kernel_rfl) rfl rfl (by first | with_reducible assumption | assumption | exact fun _ => rfl) rfl (by omega)) ?_)
                refine G.want rfl rfl rfl (G.val rfl rfl (pv_fieldAddrK (sz := 0) (k := 0) Try.underlying31 rfl (by kernel_rfl) rfl rfl) ?_)
                refine G.want rfl rfl rfl (G.val rfl rfl (pv_load Try.underlying9 rfl rfl (by first | exact blk_cell (by (repeat (first | with_reducible exact Sel.here | exact Sel.here | apply Sel.there)); done) (by rfl) | exact rng_cell (by (repeat (first | with_reducible exact Sel.here | exact Sel.here | apply Sel.there)); done) (by rfl) | exact ro_blk (by assumption) (by rfl) | exact ro_rngC (by assumption) (by rfl) | exact ro_int (by assumption) | exact ro_byte (by assumption) | exact ro_str (by assumption) | with_reducible assumption | assumption)) ?_)
                refine G.want rfl rfl rfl (G.val rfl rfl (pv_move rfl) ?_)
                refine G.want rfl rfl rfl (G.cR rfl rfl rfl rfl Try.func37 rfl rfl may0 (under_tr _ _ (by omega) (by omega)) ?_)
                refine G.op rfl (G.val rfl rfl (pv_pick rfl rfl) ?_)
                refine G.nil ?_
                exact G.meet (()) (by first | exact trivial | ((try dsimp only); exact trivial)) (.consE rfl (by first | exact dec_t (.inl (by assumption)) | exact dec_e ⟨fun h => .inr h, fun h => h.resolve_left (by assumption)⟩) (.cons rfl (.cons rfl (.cons rfl (.cons rfl (.cons rfl (.cons rfl (.cons rfl .nil)))))))) (by repeat (first | exact Sub.nil | (apply Sub.cons; (repeat (first | with_reducible exact Sel.here | exact Sel.here | apply Sel.there)))))
            · intro _ hJ
              try dsimp only at hJ
              try dsimp only
              refine G.condP rfl (fun h83 => ?_) (fun h83 => ?_)
              · have hFs := hno h83
                refine G.exit ?_
                refine G.eThen ?_
                refine G.eBlock ?_
                refine G.nThen ?_
                refine G.region ?_
                refine G.op rfl (G.val rfl rfl (pv_move rfl) ?_)
                refine G.op rfl (G.val rfl rfl (pv_add64 rfl rfl (by omega)) ?_)
                refine G.op rfl (G.val rfl rfl (pv_assign rfl) ?_)
                refine G.nil ?_
                exact G.next (i + 1) (by first | exact trivial | ((try dsimp only); exact ⟨by omega, trivial⟩)) (by (try dsimp only); omega) (.consE rfl (by first | rfl | exact int_eq (by first | omega | (dsimp only; omega)) | exact congrArg _ (by omega)) (.consE rfl (by first | rfl | exact int_eq (by first | omega | (dsimp only; omega)) | exact congrArg _ (by omega)) (.cons rfl (.cons rfl (.cons rfl (.cons rfl (.cons rfl .nil))))))) (by repeat (first | exact Sub.nil | (apply Sub.cons; (repeat (first | with_reducible exact Sel.here | exact Sel.here | apply Sel.there)))))
              · have hFs := hyes h83
                obtain ⟨hq1, hq2⟩ := hat h83
                rw [hld] at hq1
                rw [ens_get hq1] at hq2
                refine G.skip ?_
                refine G.nThen ?_
                refine G.seq ?_
                refine G.seq ?_
                refine G.drawT (nn := 18) (p := []) (rem := 262143) [0, 0, 2, 5, 8, 16, 16, 16, 144, 368, 16, 16, 16, 4112, 11280, 16912, 32784, 65552] [0, 0, 2, 5, 8, 16, 16, 16, 144, 368, 16, 16, 16, 4112, 11280, 16912, 32784, 65552] (by kernel_rfl) ⟨rfl, by kernel_rfl, by kernel_rfl⟩ (by repeat (first | exact Sub.nil | (apply Sub.cons; (repeat (first | with_reducible exact Sel.here | exact Sel.here | apply Sel.there))))) (by kernel_rfl) (fun hT15 => ?_)
                refine G.takeT hT15 (i := 0) (rem' := 262142) rfl rfl rfl (by kernel_rfl) (fun _ _ _ h => h) rfl (pv_move rfl) (by repeat (first | exact Sub.nil | (apply Sub.cons; (repeat (first | with_reducible exact Sel.here | exact Sel.here | apply Sel.there))))) ?_
                refine G.takeT hT15 (i := 1) (rem' := 262140) rfl rfl rfl (by kernel_rfl) (fun _ _ _ h => h) rfl (pv_move rfl) (by repeat (first | exact Sub.nil | (apply Sub.cons; (repeat (first | with_reducible exact Sel.here | exact Sel.here | apply Sel.there))))) ?_
                refine G.takeT hT15 (i := 2) (rem' := 262136) rfl rfl rfl (by kernel_rfl) (fun _ _ _ h => h) rfl (pv_lenSl Try.underlying22 rfl) (by repeat (first | exact Sub.nil | (apply Sub.cons; (repeat (first | with_reducible exact Sel.here | exact Sel.here | apply Sel.there))))) ?_
                refine G.takeT hT15 (i := 3) (rem' := 262128) rfl rfl rfl (by kernel_rfl) (fun _ _ _ h => h) rfl ((pv_geq rfl rfl).cast (v' := .bool false) (congrArg Value.bool (decide_eq_false (by omega)))) (by repeat (first | exact Sub.nil | (apply Sub.cons; (repeat (first | with_reducible exact Sel.here | exact Sel.here | apply Sel.there))))) ?_
                refine G.takeT hT15 (i := 4) (rem' := 262112) rfl rfl rfl (by kernel_rfl) (fun _ _ _ h => h) rfl (pv_move rfl) (by repeat (first | exact Sub.nil | (apply Sub.cons; (repeat (first | with_reducible exact Sel.here | exact Sel.here | apply Sel.there))))) ?_
                refine G.takeT hT15 (i := 5) (rem' := 262080) rfl rfl rfl (by kernel_rfl) (fun _ _ _ h => h) rfl (pv_move rfl) (by repeat (first | exact Sub.nil | (apply Sub.cons; (repeat (first | with_reducible exact Sel.here | exact Sel.here | apply Sel.there))))) ?_
                refine G.takeT hT15 (i := 6) (rem' := 262016) rfl rfl rfl (by kernel_rfl) (fun _ _ _ h => h) rfl (pv_move rfl) (by repeat (first | exact Sub.nil | (apply Sub.cons; (repeat (first | with_reducible exact Sel.here | exact Sel.here | apply Sel.there))))) ?_
                refine G.takeT hT15 (i := 7) (rem' := 261888) rfl rfl rfl (by kernel_rfl) (fun _ _ _ h => h) rfl (pv_move rfl) (by repeat (first | exact Sub.nil | (apply Sub.cons; (repeat (first | with_reducible exact Sel.here | exact Sel.here | apply Sel.there))))) ?_
                refine G.takeT hT15 (i := 8) (rem' := 261632) rfl rfl rfl (by kernel_rfl) (fun _ _ _ h => h) rfl (pv_add64 rfl rfl (by omega)) (by repeat (first | exact Sub.nil | (apply Sub.cons; (repeat (first | with_reducible exact Sel.here | exact Sel.here | apply Sel.there))))) ?_
                refine G.takeT hT15 (i := 9) (rem' := 261120) rfl rfl rfl (by kernel_rfl) (fun _ _ _ h => h) rfl (pv_subLH (sz := 5) (k := (keepN xs[k].1.path (ens xs) i)) (k' := (keepN xs[k].1.path (ens xs) i) + 1) Try.underlying22 (by kernel_rfl) rfl rfl rfl rfl (by omega) (by omega) (by omega)) (by repeat (first | exact Sub.nil | (apply Sub.cons; (repeat (first | with_reducible exact Sel.here | exact Sel.here | apply Sel.there))))) ?_
                refine G.takeT hT15 (i := 10) (rem' := 260096) rfl rfl rfl (by kernel_rfl) (fun _ _ _ h => h) rfl (pv_move rfl) (by repeat (first | exact Sub.nil | (apply Sub.cons; (repeat (first | with_reducible exact Sel.here | exact Sel.here | apply Sel.there))))) ?_
                refine G.takeT hT15 (i := 11) (rem' := 258048) rfl rfl rfl (by kernel_rfl) (fun _ _ _ h => h) rfl (pv_move rfl) (by repeat (first | exact Sub.nil | (apply Sub.cons; (repeat (first | with_reducible exact Sel.here | exact Sel.here | apply Sel.there))))) ?_
                refine G.takeT hT15 (i := 12) (rem' := 253952) rfl rfl rfl (by kernel_rfl) (fun _ _ _ h => h) rfl (pv_move rfl) (by repeat (first | exact Sub.nil | (apply Sub.cons; (repeat (first | with_reducible exact Sel.here | exact Sel.here | apply Sel.there))))) ?_
                refine G.takeT hT15 (i := 13) (rem' := 245760) rfl rfl rfl (by kernel_rfl) (fun _ _ _ h => h) rfl (pv_add64 rfl rfl (by omega)) (by repeat (first | exact Sub.nil | (apply Sub.cons; (repeat (first | with_reducible exact Sel.here | exact Sel.here | apply Sel.there))))) ?_
                refine G.takeT hT15 (i := 14) (rem' := 229376) rfl rfl rfl (by kernel_rfl) (fun _ _ _ h => h) rfl (pv_subLH (sz := 5) (k := i) (k' := i + 1) Try.underlying22 (by kernel_rfl) rfl rfl rfl rfl (by omega) (by omega) (by omega)) (by repeat (first | exact Sub.nil | (apply Sub.cons; (repeat (first | with_reducible exact Sel.here | exact Sel.here | apply Sel.there))))) ?_
                refine G.oneT hT15 (i := 15) (rem' := 196608) (by kernel_rfl) (by kernel_rfl) ?_
                refine G.turnOp rfl rfl (G.cR rfl rfl rfl rfl Try.func16 rfl rfl (may2 (may_treeCS (c := datC 5 ds) (by repeat (first | with_reducible exact Sel.here | exact Sel.here | apply Sel.there)) (by repeat (first | with_reducible exact Sel.here | exact Sel.here | apply Sel.there)) hokd (fun w h => datC_dat h) (by omega) (by omega)) (.old hSub)) (tree_yes _ _ ((ds.take ((keepN xs[k].1.path (ens xs) i) + 1)).drop (keepN xs[k].1.path (ens xs) i)) [xs[i]] (by rw [take_drop1 hq1]; exact congrArg (fun z => [z]) hq2)) ?_)
                refine G.back (by repeat (first | exact Sub.nil | (apply Sub.cons; (repeat (first | with_reducible exact Sel.here | exact Sel.here | apply Sel.there))))) ?_
                refine G.takeT hT15 (i := 16) (rem' := 131072) rfl rfl rfl (by kernel_rfl) (fun _ _ _ h => h) rfl (pv_not rfl) (by repeat (first | exact Sub.nil | (apply Sub.cons; (repeat (first | with_reducible exact Sel.here | exact Sel.here | apply Sel.there))))) ?_
                refine G.takeT hT15 (i := 17) (rem' := 0) rfl rfl rfl (by kernel_rfl) (fun _ _ _ h => h) rfl (pv_pick rfl rfl) (by repeat (first | exact Sub.nil | (apply Sub.cons; (repeat (first | with_reducible exact Sel.here | exact Sel.here | apply Sel.there))))) ?_
                refine G.overT hT15 (by kernel_rfl) ?_
                refine G.nThen ?_
                refine G.condF rfl (rfl) ?_
                refine G.skip ?_
                refine G.nThen ?_
                refine G.region ?_
                refine G.op rfl (G.val rfl rfl (pv_move rfl) ?_)
                refine G.op rfl (G.val rfl rfl (pv_add64 rfl rfl (by omega)) ?_)
                refine G.op rfl (G.val rfl rfl (pv_assign rfl) ?_)
                refine G.nil ?_
                refine G.nBlock ?_
                refine G.nThen ?_
                refine G.region ?_
                refine G.op rfl (G.val rfl rfl (pv_move rfl) ?_)
                refine G.op rfl (G.val rfl rfl (pv_add64 rfl rfl (by omega)) ?_)
                refine G.op rfl (G.val rfl rfl (pv_assign rfl) ?_)
                refine G.nil ?_
                exact G.next (i + 1) (by first | exact trivial | ((try dsimp only); exact ⟨by omega, trivial⟩)) (by (try dsimp only); omega) (.consE rfl (by first | rfl | exact int_eq (by first | omega | (dsimp only; omega)) | exact congrArg _ (by omega)) (.consE rfl (by first | rfl | exact int_eq (by first | omega | (dsimp only; omega)) | exact congrArg _ (by omega)) (.cons rfl (.cons rfl (.cons rfl (.cons rfl (.cons rfl .nil))))))) (by repeat (first | exact Sub.nil | (apply Sub.cons; (repeat (first | with_reducible exact Sel.here | exact Sel.here | apply Sel.there)))))
          · obtain rfl : i = xs.length := by omega
            have hall := keepN_all (s := xs[k].1.path) (es := ens xs) (i := xs.length) (by omega)
            rw [← hds] at hall
            refine G.exit ?_
            refine G.eThen ?_
            refine G.eThen ?_
            refine G.eBlock ?_
            refine G.nThen ?_
            refine G.seq ?_
            refine G.region ?_
            refine G.op rfl (G.val rfl rfl (pv_move rfl) ?_)
            refine G.op rfl (G.val rfl rfl (pv_move rfl) ?_)
            refine G.op rfl (G.val rfl rfl (pv_lenSl Try.underlying22 rfl) ?_)
            refine G.op rfl (G.val rfl rfl ((pv_neq rfl rfl).cast (v' := .bool false) (congrArg Value.bool (decide_eq_false (by omega)))) ?_)
            refine G.nil ?_
            refine G.nThen ?_
            refine G.condF rfl (rfl) ?_
            refine G.skip ?_
            exact G.meet (()) (by first | exact trivial | ((try dsimp only); exact trivial)) (.cons rfl (.cons rfl (.cons rfl .nil))) (by repeat (first | exact Sub.nil | (apply Sub.cons; (repeat (first | with_reducible exact Sel.here | exact Sel.here | apply Sel.there)))))
        · refine G.skip ?_
          exact G.meet (()) (by first | exact trivial | ((try dsimp only); exact trivial)) (.cons rfl (.cons rfl (.cons rfl .nil))) (by repeat (first | exact Sub.nil | (apply Sub.cons; (repeat (first | with_reducible exact Sel.here | exact Sel.here | apply Sel.there)))))
      · intro _ hJ
        try dsimp only at hJ
        try dsimp only
        refine G.seq ?_
        refine G.region ?_
        refine G.op rfl (G.val rfl rfl (pv_move rfl) ?_)
        refine G.op rfl (G.val rfl rfl (pv_loadN (cs := [_, _, _, _, _]) Try.underlying31 rfl (by kernel_rfl) rfl (by first | exact blk_range (k := 5) (by (repeat (first | with_reducible exact Sel.here | exact Sel.here | apply Sel.there)); done) (by rfl) | exact ro_rng0 (by assumption) | exact rng_range (k := 5) (by (repeat (first | with_reducible exact Sel.here | exact Sel.here | apply Sel.there)); done) (by rfl) | exact ro_range (k := 5) (by assumption) (by rfl) | exact ro_rngR (k := 5) (by assumption) (by rfl))) ?_)
        refine G.op rfl (G.cS rfl rfl rfl rfl Try.func30 rfl rfl (by repeat (first | exact Sub.nil | (apply Sub.cons; (repeat (first | with_reducible exact Sel.here | exact Sel.here | apply Sel.there))))) (may2 (by first | (apply May.old; first | with_reducible assumption | assumption) | (apply Sel.may; (repeat (first | with_reducible exact Sel.here | exact Sel.here | apply Sel.there)); done) | (apply may_own; (repeat (first | with_reducible exact Sel.here | exact Sel.here | apply Sel.there)); exact rfl; exact (fun _ _ => trivial); done) | (apply may_ownB; (repeat (first | with_reducible exact Sel.here | exact Sel.here | apply Sel.there)); done) | (apply may_tree; (repeat (first | with_reducible exact Sel.here | exact Sel.here | apply Sel.there)); (repeat (first | with_reducible exact Sel.here | exact Sel.here | apply Sel.there)); assumption; done)) (by first | (apply May.old; first | with_reducible assumption | assumption) | (apply Sel.may; (repeat (first | with_reducible exact Sel.here | exact Sel.here | apply Sel.there)); done) | (apply may_own; (repeat (first | with_reducible exact Sel.here | exact Sel.here | apply Sel.there)); exact rfl; exact (fun _ _ => trivial); done) | (apply may_ownB; (repeat (first | with_reducible exact Sel.here | exact Sel.here | apply Sel.there)); done) | (apply may_tree; (repeat (first | with_reducible exact Sel.here | exact Sel.here | apply Sel.there)); (repeat (first | with_reducible exact Sel.here | exact Sel.here | apply Sel.there)); assumption; done))) (put_tr _ _ _ _ (by assumption)) (by repeat (first | exact Ap.nil | apply Ap.cons)) ?_)
        intro x111 hJ
        obtain ⟨p1, ps⟩ := x111
        try dsimp only at hJ
        try dsimp only
        have hep : ens ps = (putM (ens xs) e).1 := hJ
        have hokp := ok_list hep (put_okE (ok_ensl (Ro.allOk helv)) hok)
        have hlps := ens_length ps
        have hpl := put_len (ens xs) e
        refine G.ownOpen (v := p1) (by repeat (first | with_reducible exact Sel.here | exact Sel.here | apply Sel.there)) (fun a4 c4 h4 hk4 hm4 => ?_)
        subst h4
        refine G.op rfl (G.val rfl rfl (pv_move rfl) ?_)
        refine G.op rfl (G.val rfl rfl (pv_extract rfl rfl) ?_)
        refine G.op rfl (G.val rfl rfl (pv_extract rfl rfl) ?_)
        refine G.op rfl (G.val rfl rfl (pv_assign rfl) ?_)
        refine G.op rfl (G.val rfl rfl (pv_assign rfl) ?_)
        refine G.nil ?_
        refine G.nThen ?_
        refine G.seq ?_
        refine G.seq ?_
        refine G.region ?_
        refine G.op rfl (G.val rfl rfl (pv_move rfl) ?_)
        refine G.op rfl (G.val rfl rfl (pv_neq rfl rfl) ?_)
        refine G.nil ?_
        refine G.nThen ?_
        refine G.condP rfl (fun h115 => ?_) (fun h115 => ?_)
        · rw [put_fell (by assumption)] at hep
          have hp0 : ps.length = 0 := by rw [← hlps, hep]; rfl
          refine G.seq ?_
          refine G.region ?_
          refine G.op rfl (G.val rfl rfl (pv_move rfl) ?_)
          refine G.op rfl (G.val rfl rfl (pv_move rfl) ?_)
          refine G.want rfl rfl rfl (G.val rfl rfl (pv_move rfl) ?_)
          refine G.want rfl rfl rfl (G.val rfl rfl (pv_lenSl Try.underlying22 rfl) ?_)
          refine G.want rfl rfl rfl (G.val rfl rfl ((pv_eql rfl rfl).cast (v' := .bool true) (congrArg Value.bool (decide_eq_true (by omega)))) ?_)
          refine G.op rfl (G.val rfl rfl (pv_pick rfl rfl) ?_)
          refine G.op rfl (G.val rfl rfl (pv_assign rfl) ?_)
          refine G.nil ?_
          refine G.nThen ?_
          refine G.ret ?_
          refine G.rThen ?_
          exact G.done0G rfl (Rv.tmp rfl Rv.nil) (by first | rfl | exact int_eq (by omega) | (simp; done))
        · obtain ⟨hcl, hpe⟩ := put_went (es := ens xs) (e := e) (Decidable.of_not_not (by assumption)) h0
          rw [hpe] at hep hpl
          rw [← hep, hlps] at hpl
          have hcp : (checkT (ens ps)).1 = 0 := by rw [hep]; exact hcl
          have hfi : findM (ens ps) e.path = some e := find_at hcp (by rw [hep]; exact mem_putL _ _) rfl
          obtain ⟨AD, CH, hD, hn1, hn2, hAD, hCH⟩ := puts_diff h0 hcl
          rw [← hep, hlps, hlx] at hn2
          rw [← hep] at hD
          refine G.skip ?_
          refine G.nThen ?_
          refine G.seq ?_
          refine G.region ?_
          refine G.op rfl (G.val rfl rfl (pv_move rfl) ?_)
          refine G.op rfl (G.val rfl rfl (pv_fieldAddrK (sz := 0) (k := 0) Try.underlying31 rfl (by kernel_rfl) rfl rfl) ?_)
          refine G.op rfl (G.val rfl rfl (pv_load Try.underlying9 rfl rfl (by first | exact blk_cell (by (repeat (first | with_reducible exact Sel.here | exact Sel.here | apply Sel.there)); done) (by rfl) | exact rng_cell (by (repeat (first | with_reducible exact Sel.here | exact Sel.here | apply Sel.there)); done) (by rfl) | exact ro_blk (by assumption) (by rfl) | exact ro_rngC (by assumption) (by rfl) | exact ro_int (by assumption) | exact ro_byte (by assumption) | exact ro_str (by assumption) | with_reducible assumption | assumption)) ?_)
          refine G.op rfl (G.cS rfl rfl rfl rfl Try.func14 rfl rfl (by repeat (first | exact Sub.nil | (apply Sub.cons; (repeat (first | with_reducible exact Sel.here | exact Sel.here | apply Sel.there))))) (may1 (by first | (apply May.old; first | with_reducible assumption | assumption) | (apply Sel.may; (repeat (first | with_reducible exact Sel.here | exact Sel.here | apply Sel.there)); done) | (apply may_own; (repeat (first | with_reducible exact Sel.here | exact Sel.here | apply Sel.there)); exact rfl; exact (fun _ _ => trivial); done) | (apply may_ownB; (repeat (first | with_reducible exact Sel.here | exact Sel.here | apply Sel.there)); done) | (apply may_tree; (repeat (first | with_reducible exact Sel.here | exact Sel.here | apply Sel.there)); (repeat (first | with_reducible exact Sel.here | exact Sel.here | apply Sel.there)); assumption; done))) (find_hit _ ps e.path (by omega) e hfi) (by repeat (first | exact Ap.nil | apply Ap.cons)) ?_)
          intro x126 hJ
          try dsimp only at hJ
          try dsimp only
          refine G.ownBFact (by repeat (first | with_reducible exact Sel.here | exact Sel.here | apply Sel.there)) (v := x126) (fun hv126 => ?_)
          refine G.op rfl (G.val rfl rfl (pv_move rfl) ?_)
          refine G.op rfl (G.val rfl rfl (pv_extract rfl rfl) ?_)
          refine G.op rfl (G.val rfl rfl (pv_extract rfl rfl) ?_)
          refine G.op rfl (G.alloc (z := .agg #[.string ⟨#[]⟩, .int .i64 0, .int .i64 0, .slice none 0 0, .string ⟨#[]⟩]) (cs := [.string ⟨#[]⟩, .int .i64 0, .int .i64 0, .slice none 0 0, .string ⟨#[]⟩]) rfl (by kernel_rfl) rfl ?_)
          intro b17
          refine G.op rfl (G.storeN (by kernel_rfl) rfl rfl (by first | exact (all1_cons (by first | rfl | with_reducible assumption) (all1_cons (by first | rfl | with_reducible assumption) (all1_cons (by first | rfl | with_reducible assumption) (all1_cons (by first | rfl | with_reducible assumption) (all1_cons (by first | rfl | with_reducible assumption) all1_nil))))) | exact List.all_eq_true.2 (vByte_one _) | rfl) (by repeat (first | with_reducible exact Sel.here | exact Sel.here | apply Sel.there)) (by first | (simp; done) | exact Nat.le_of_ble_eq_true rfl) ?_)
          refine G.op rfl (G.val rfl rfl (pv_assign rfl) ?_)
          refine G.nil ?_
          refine G.nThen ?_
          refine G.seq ?_
          refine G.region ?_
          refine G.op rfl (G.val rfl rfl (pv_move rfl) ?_)
          refine G.op rfl (G.val rfl rfl (pv_move rfl) ?_)
          refine G.op rfl (G.cS rfl rfl rfl rfl Try.func25 rfl rfl (by repeat (first | exact Sub.nil | (apply Sub.cons; (repeat (first | with_reducible exact Sel.here | exact Sel.here | apply Sel.there))))) (may2 (by first | (apply May.old; first | with_reducible assumption | assumption) | (apply Sel.may; (repeat (first | with_reducible exact Sel.here | exact Sel.here | apply Sel.there)); done) | (apply may_own; (repeat (first | with_reducible exact Sel.here | exact Sel.here | apply Sel.there)); exact rfl; exact (fun _ _ => trivial); done) | (apply may_ownB; (repeat (first | with_reducible exact Sel.here | exact Sel.here | apply Sel.there)); done) | (apply may_tree; (repeat (first | with_reducible exact Sel.here | exact Sel.here | apply Sel.there)); (repeat (first | with_reducible exact Sel.here | exact Sel.here | apply Sel.there)); assumption; done)) (by first | (apply May.old; first | with_reducible assumption | assumption) | (apply Sel.may; (repeat (first | with_reducible exact Sel.here | exact Sel.here | apply Sel.there)); done) | (apply may_own; (repeat (first | with_reducible exact Sel.here | exact Sel.here | apply Sel.there)); exact rfl; exact (fun _ _ => trivial); done) | (apply may_ownB; (repeat (first | with_reducible exact Sel.here | exact Sel.here | apply Sel.there)); done) | (apply may_tree; (repeat (first | with_reducible exact Sel.here | exact Sel.here | apply Sel.there)); (repeat (first | with_reducible exact Sel.here | exact Sel.here | apply Sel.there)); assumption; done))) (diff_tr _ _ _ _) (by repeat (first | exact Ap.nil | apply Ap.cons)) ?_)
          intro x132 hJ
          obtain ⟨d1, d2, d3⟩ := x132
          try dsimp only at hJ
          try dsimp only
          rw [hD]
          dsimp only
          refine G.ownNews (v := d1) (by repeat (first | with_reducible exact Sel.here | exact Sel.here | apply Sel.there)) (fun na1 nc1 nb1 nv1 ncap1 nmax1 nad1 nnil1 nnw1 => ?_)
          subst nv1
          refine G.ownOpen (v := d2) (by repeat (first | with_reducible exact Sel.here | exact Sel.here | apply Sel.there)) (fun a5 c5 h5 hk5 hm5 => ?_)
          subst h5
          refine G.ownNews (v := d3) (by repeat (first | with_reducible exact Sel.here | exact Sel.here | apply Sel.there)) (fun na3 nc3 nb3 nv3 ncap3 nmax3 nad3 nnil3 nnw3 => ?_)
          subst nv3
          refine G.op rfl (G.val rfl rfl (pv_move rfl) ?_)
          refine G.op rfl (G.val rfl rfl (pv_extract rfl rfl) ?_)
          refine G.op rfl (G.val rfl rfl (pv_extract rfl rfl) ?_)
          refine G.op rfl (G.val rfl rfl (pv_extract rfl rfl) ?_)
          refine G.op rfl (G.val rfl rfl (pv_assign rfl) ?_)
          refine G.op rfl (G.val rfl rfl (pv_assign rfl) ?_)
          refine G.op rfl (G.val rfl rfl (pv_assign rfl) ?_)
          refine G.nil ?_
          refine G.nThen ?_
          refine G.seq ?_
          refine G.region ?_
          refine G.op rfl (G.val rfl rfl (pv_move rfl) ?_)
          refine G.op rfl (G.cR rfl rfl rfl rfl Try.func11 rfl rfl (may1 (by first | (apply May.old; first | with_reducible assumption | assumption) | (apply Sel.may; (repeat (first | with_reducible exact Sel.here | exact Sel.here | apply Sel.there)); done) | (apply may_own; (repeat (first | with_reducible exact Sel.here | exact Sel.here | apply Sel.there)); exact rfl; exact (fun _ _ => trivial); done) | (apply may_ownB; (repeat (first | with_reducible exact Sel.here | exact Sel.here | apply Sel.there)); done) | (apply may_tree; (repeat (first | with_reducible exact Sel.here | exact Sel.here | apply Sel.there)); (repeat (first | with_reducible exact Sel.here | exact Sel.here | apply Sel.there)); assumption; done))) (tcheck_tr _ _) ?_)
          rw [hcp]
          refine G.op rfl (G.val rfl rfl (pv_move rfl) ?_)
          refine G.op rfl (G.val rfl rfl (pv_extract rfl rfl) ?_)
          refine G.op rfl (G.val rfl rfl (pv_extract rfl rfl) ?_)
          refine G.op rfl (G.val rfl rfl (pv_assign rfl) ?_)
          refine G.op rfl (G.val rfl rfl (pv_assign rfl) ?_)
          refine G.nil ?_
          refine G.nThen ?_
          refine G.seq ?_
          refine G.seq ?_
          refine G.region ?_
          refine G.op rfl (G.val rfl rfl (pv_assign rfl) ?_)
          refine G.nil ?_
          refine G.nThen ?_
          refine G.block ?_
          refine G.loopK (X := Nat) (ts := [0, 5, 7, 15, 17, 18, 19, 20, 21, 22]) (fun i => i ≤ CH.length ∧ (True)) (fun i => [(24, .int .i64 (i : Int))]) (fun i => []) (fun i => CH.length - i) (x0 := 0) (.cons rfl (.cons rfl (.cons rfl (.cons rfl (.cons rfl (.cons rfl (.cons rfl (.cons rfl (.cons rfl (.cons rfl .nil)))))))))) (by repeat (first | exact Sub.nil | (apply Sub.cons; (repeat (first | with_reducible exact Sel.here | exact Sel.here | apply Sel.there))))) (.cons .nil) (by repeat (first | exact Ap.nil | apply Ap.cons)) (by first | exact trivial | ((try dsimp only); exact ⟨Nat.zero_le _, trivial⟩)) (.consE rfl (by first | rfl | exact int_eq (by first | omega | (dsimp only; omega)) | exact congrArg _ (by omega)) .nil) (fun i hJ => ?_)
          try dsimp only at hJ
          try dsimp only
          obtain ⟨hki, hJ⟩ := hJ
          refine G.seq ?_
          refine G.seq ?_
          refine G.region ?_
          refine G.op rfl (G.val rfl rfl (pv_move rfl) ?_)
          refine G.op rfl (G.val rfl rfl (pv_move rfl) ?_)
          refine G.op rfl (G.val rfl rfl (pv_lenSl Try.underlying44 rfl) ?_)
          refine G.op rfl (G.val rfl rfl (pv_lss rfl rfl) ?_)
          refine G.nil ?_
          refine G.nThen ?_
          refine G.condP rfl (fun h144 => ?_) (fun h144 => ?_)
          · have hlt : i < CH.length := by omega
            refine G.skip ?_
            refine G.nThen ?_
            refine G.seq ?_
            refine G.block ?_
            refine G.seq ?_
            refine G.drawT (nn := 7) (p := []) (rem := 127) [0, 0, 3, 4, 0, 16, 40] [0, 0, 3, 4, 0, 16, 40] (by kernel_rfl) ⟨rfl, by kernel_rfl, by kernel_rfl⟩ (by repeat (first | exact Sub.nil | (apply Sub.cons; (repeat (first | with_reducible exact Sel.here | exact Sel.here | apply Sel.there))))) (by kernel_rfl) (fun hT29 => ?_)
            refine G.takeT hT29 (i := 0) (rem' := 126) rfl rfl rfl (by kernel_rfl) (fun _ _ _ h => h) rfl (pv_move rfl) (by repeat (first | exact Sub.nil | (apply Sub.cons; (repeat (first | with_reducible exact Sel.here | exact Sel.here | apply Sel.there))))) ?_
            refine G.takeT hT29 (i := 1) (rem' := 124) rfl rfl rfl (by kernel_rfl) (fun _ _ _ h => h) rfl (pv_move rfl) (by repeat (first | exact Sub.nil | (apply Sub.cons; (repeat (first | with_reducible exact Sel.here | exact Sel.here | apply Sel.there))))) ?_
            refine G.takeT hT29 (i := 2) (rem' := 120) rfl rfl rfl (by kernel_rfl) (fun _ _ _ h => h) rfl (pv_ixSl (sz := 1) (k := i) Try.underlying44 (by kernel_rfl) rfl rfl nad3 (by omega) (by omega)) (by repeat (first | exact Sub.nil | (apply Sub.cons; (repeat (first | with_reducible exact Sel.here | exact Sel.here | apply Sel.there))))) ?_
            refine G.takeT hT29 (i := 4) (rem' := 104) rfl rfl rfl (by kernel_rfl) (fun _ _ _ h => h) rfl (pv_fieldAddrK (sz := 0) (k := 0) Try.underlying31 rfl (by kernel_rfl) rfl rfl) (by repeat (first | exact Sub.nil | (apply Sub.cons; (repeat (first | with_reducible exact Sel.here | exact Sel.here | apply Sel.there))))) ?_
            refine G.takeT hT29 (i := 3) (rem' := 96) rfl rfl rfl (by kernel_rfl) (fun _ _ _ h => h) rfl (pv_load (v := .string (sB CH[i])) Try.underlying9 rfl rfl (fun w hw => News.str (nnw3 (by repeat (first | with_reducible exact Sel.here | exact Sel.here | apply Sel.there)) w hw) i (by omega))) (by repeat (first | exact Sub.nil | (apply Sub.cons; (repeat (first | with_reducible exact Sel.here | exact Sel.here | apply Sel.there))))) ?_
            refine G.oneT hT29 (i := 5) (rem' := 64) (by kernel_rfl) (by kernel_rfl) ?_
            refine G.turnOp rfl rfl (G.val rfl rfl (pv_load Try.underlying9 rfl rfl (by first | exact blk_cell (by (repeat (first | with_reducible exact Sel.here | exact Sel.here | apply Sel.there)); done) (by rfl) | exact rng_cell (by (repeat (first | with_reducible exact Sel.here | exact Sel.here | apply Sel.there)); done) (by rfl) | exact ro_blk (by assumption) (by rfl) | exact ro_rngC (by assumption) (by rfl) | exact ro_int (by assumption) | exact ro_byte (by assumption) | exact ro_str (by assumption) | with_reducible assumption | assumption)) ?_)
            refine G.back (by repeat (first | exact Sub.nil | (apply Sub.cons; (repeat (first | with_reducible exact Sel.here | exact Sel.here | apply Sel.there))))) ?_
            refine G.takeT hT29 (i := 6) (rem' := 0) rfl rfl rfl (by kernel_rfl) (fun _ _ _ h => h) rfl ((pv_neqS rfl rfl).cast (v' := .bool false) (congrArg Value.bool (decide_eq_false (fun h => h (hCH _ (List.getElem_mem _)))))) (by repeat (first | exact Sub.nil | (apply Sub.cons; (repeat (first | with_reducible exact Sel.here | exact Sel.here | apply Sel.there))))) ?_
            refine G.overT hT29 (by kernel_rfl) ?_
            refine G.nThen ?_
            refine G.condF rfl (rfl) ?_
            refine G.skip ?_
            refine G.nBlock ?_
            refine G.nThen ?_
            refine G.region ?_
            refine G.op rfl (G.val rfl rfl (pv_move rfl) ?_)
            refine G.op rfl (G.val rfl rfl (pv_add64 rfl rfl (by omega)) ?_)
            refine G.op rfl (G.val rfl rfl (pv_assign rfl) ?_)
            refine G.nil ?_
            exact G.next (i + 1) (by first | exact trivial | ((try dsimp only); exact ⟨by omega, trivial⟩)) (by (try dsimp only); omega) (.consE rfl (by first | rfl | exact int_eq (by first | omega | (dsimp only; omega)) | exact congrArg _ (by omega)) (.cons rfl (.cons rfl (.cons rfl (.cons rfl (.cons rfl (.cons rfl (.cons rfl (.cons rfl (.cons rfl (.cons rfl .nil))))))))))) (by repeat (first | exact Sub.nil | (apply Sub.cons; (repeat (first | with_reducible exact Sel.here | exact Sel.here | apply Sel.there)))))
          · refine G.exit ?_
            refine G.eThen ?_
            refine G.eThen ?_
            refine G.eBlock ?_
            refine G.nThen ?_
            refine G.seq ?_
            refine G.drawT (nn := 52) (p := []) (rem := 4503599627370495) [0, 1, 2, 6, 10, 18, 32, 96, 160, 256, 768, 256, 2304, 5376, 8448, 24576, 32768, 98304, 163840, 294912, 557056, 1048576, 3145728, 1048576, 9437184, 22020096, 34603008, 68157440, 135266304, 268435456, 805306368, 268435456, 2415919104, 268435456, 8858370048, 21743271936, 35701915648, 68987912192, 137707388928, 274877906944, 824633720832, 1374389534720, 2473901162496, 4398046511104, 13194139533312, 21990232555520, 4398046511104, 74766790688768, 180319906955264, 286147901128704, 563224831328256, 2251799813685247] [0, 1, 2, 6, 10, 16, 32, 96, 128, 256, 768, 256, 2304, 5376, 8448, 16384, 32768, 98304, 163840, 294912, 524288, 1048576, 3145728, 1048576, 9437184, 22020096, 34603008, 68157440, 134217728, 268435456, 805306368, 268435456, 2415919104, 268435456, 8858370048, 21743271936, 35701915648, 68987912192, 137438953472, 274877906944, 824633720832, 1374389534720, 2473901162496, 4398046511104, 13194139533312, 21990232555520, 4398046511104, 74766790688768, 180319906955264, 286147901128704, 563224831328256, 1125899906842624] (by kernel_rfl) ⟨rfl, by kernel_rfl, by kernel_rfl⟩ (by repeat (first | exact Sub.nil | (apply Sub.cons; (repeat (first | with_reducible exact Sel.here | exact Sel.here | apply Sel.there))))) (by kernel_rfl) (fun hT31 => ?_)
            refine G.takeT hT31 (i := 0) (rem' := 4503599627370494) rfl rfl rfl (by kernel_rfl) (fun _ _ _ h => h) rfl (pv_move rfl) (by repeat (first | exact Sub.nil | (apply Sub.cons; (repeat (first | with_reducible exact Sel.here | exact Sel.here | apply Sel.there))))) ?_
            refine G.takeT hT31 (i := 1) (rem' := 4503599627370492) rfl rfl rfl (by kernel_rfl) (fun _ _ _ h => h) rfl (pv_move rfl) (by repeat (first | exact Sub.nil | (apply Sub.cons; (repeat (first | with_reducible exact Sel.here | exact Sel.here | apply Sel.there))))) ?_
            refine G.takeT hT31 (i := 2) (rem' := 4503599627370488) rfl rfl rfl (by kernel_rfl) (fun _ _ _ h => h) rfl (pv_move rfl) (by repeat (first | exact Sub.nil | (apply Sub.cons; (repeat (first | with_reducible exact Sel.here | exact Sel.here | apply Sel.there))))) ?_
            refine G.takeT hT31 (i := 3) (rem' := 4503599627370480) rfl rfl rfl (by kernel_rfl) (fun _ _ _ h => h) rfl ((pv_eql rfl rfl).cast (v' := .bool true) (congrArg Value.bool (by simp))) (by repeat (first | exact Sub.nil | (apply Sub.cons; (repeat (first | with_reducible exact Sel.here | exact Sel.here | apply Sel.there))))) ?_
            refine G.takeT hT31 (i := 4) (rem' := 4503599627370464) rfl rfl rfl (by kernel_rfl) (fun _ _ _ h => h) rfl (pv_pick rfl rfl) (by repeat (first | exact Sub.nil | (apply Sub.cons; (repeat (first | with_reducible exact Sel.here | exact Sel.here | apply Sel.there))))) ?_
            refine G.takeT hT31 (i := 5) (rem' := 4503599627370432) rfl rfl rfl (by kernel_rfl) (fun _ _ _ h => h) rfl (pv_move rfl) (by repeat (first | exact Sub.nil | (apply Sub.cons; (repeat (first | with_reducible exact Sel.here | exact Sel.here | apply Sel.there))))) ?_
            refine G.takeT hT31 (i := 6) (rem' := 4503599627370368) rfl rfl rfl (by kernel_rfl) (fun _ _ _ h => h) rfl (pv_move rfl) (by repeat (first | exact Sub.nil | (apply Sub.cons; (repeat (first | with_reducible exact Sel.here | exact Sel.here | apply Sel.there))))) ?_
            refine G.takeT hT31 (i := 7) (rem' := 4503599627370240) rfl rfl rfl (by kernel_rfl) (fun _ _ _ h => h) rfl (pv_pick rfl rfl) (by repeat (first | exact Sub.nil | (apply Sub.cons; (repeat (first | with_reducible exact Sel.here | exact Sel.here | apply Sel.there))))) ?_
            refine G.takeT hT31 (i := 8) (rem' := 4503599627369984) rfl rfl rfl (by kernel_rfl) (fun _ _ _ h => h) rfl (pv_move rfl) (by repeat (first | exact Sub.nil | (apply Sub.cons; (repeat (first | with_reducible exact Sel.here | exact Sel.here | apply Sel.there))))) ?_
            refine G.takeT hT31 (i := 9) (rem' := 4503599627369472) rfl rfl rfl (by kernel_rfl) (fun _ _ _ h => h) rfl (pv_loadN (cs := [_, _, _, _, _]) Try.underlying31 rfl (by kernel_rfl) rfl (by first | exact blk_range (k := 5) (by (repeat (first | with_reducible exact Sel.here | exact Sel.here | apply Sel.there)); done) (by rfl) | exact ro_rng0 (by assumption) | exact rng_range (k := 5) (by (repeat (first | with_reducible exact Sel.here | exact Sel.here | apply Sel.there)); done) (by rfl) | exact ro_range (k := 5) (by assumption) (by rfl) | exact ro_rngR (k := 5) (by assumption) (by rfl))) (by repeat (first | exact Sub.nil | (apply Sub.cons; (repeat (first | with_reducible exact Sel.here | exact Sel.here | apply Sel.there))))) ?_
            refine G.takeT hT31 (i := 11) (rem' := 4503599627367424) rfl rfl rfl (by kernel_rfl) (fun _ _ _ h => h) rfl (pv_loadN (cs := [_, _, _, _, _]) Try.underlying31 rfl (by kernel_rfl) rfl (by first | exact blk_range (k := 5) (by (repeat (first | with_reducible exact Sel.here | exact Sel.here | apply Sel.there)); done) (by rfl) | exact ro_rng0 (by assumption) | exact rng_range (k := 5) (by (repeat (first | with_reducible exact Sel.here | exact Sel.here | apply Sel.there)); done) (by rfl) | exact ro_range (k := 5) (by assumption) (by rfl) | exact ro_rngR (k := 5) (by assumption) (by rfl))) (by repeat (first | exact Sub.nil | (apply Sub.cons; (repeat (first | with_reducible exact Sel.here | exact Sel.here | apply Sel.there))))) ?_
            refine G.twoT hT31 (i := 10) (j := 12) (rem' := 4503599627366400) (rem'' := 4503599627363328) (by kernel_rfl) (by kernel_rfl) (by kernel_rfl) ?_ ?_
            · refine G.turnOp rfl rfl (G.buildSlice (z := .agg #[.string ⟨#[]⟩, .int .i64 0, .int .i64 0, .slice none 0 0, .string ⟨#[]⟩]) (sz := 5) (cs := evC (e, x126)) rfl Try.underlying22 (by kernel_rfl) (by decide) (by decide) rfl (by kernel_rfl) ?_)
              intro b164
              refine G.ownBlk (b := b164) (k := 1) (sz := 5) (by repeat (first | with_reducible exact Sel.here | exact Sel.here | apply Sel.there)) rfl (by omega) ?_
              rw [show own 31 5 (.slice (some ⟨b164, 0, none⟩) 1 1) 1 (evC (e, x126)) = ownT 31 (.slice (some ⟨b164, 0, none⟩) 1 1) [(e, x126)] from rfl]
              refine G.back (by repeat (first | exact Sub.nil | (apply Sub.cons; (repeat (first | with_reducible exact Sel.here | exact Sel.here | apply Sel.there))))) ?_
              refine G.upT (p := []) (by repeat (first | exact Sub.nil | (apply Sub.cons; (repeat (first | with_reducible exact Sel.here | exact Sel.here | apply Sel.there))))) (by repeat (first | exact Sub.nil | (apply Sub.cons; (repeat (first | with_reducible exact Sel.here | exact Sel.here | apply Sel.there))))) ?_
              refine G.oneT hT31 (i := 12) (rem' := 4503599627362304) (by kernel_rfl) (by kernel_rfl) ?_
              refine G.turnOp rfl rfl (G.buildSlice (z := .agg #[.string ⟨#[]⟩, .int .i64 0, .int .i64 0, .slice none 0 0, .string ⟨#[]⟩]) (sz := 5) (cs := evC (e, d)) rfl Try.underlying22 (by kernel_rfl) (by decide) (by decide) rfl (by kernel_rfl) ?_)
              intro b166
              refine G.ownBlk (b := b166) (k := 1) (sz := 5) (by repeat (first | with_reducible exact Sel.here | exact Sel.here | apply Sel.there)) rfl (by omega) ?_
              rw [show own 31 5 (.slice (some ⟨b166, 0, none⟩) 1 1) 1 (evC (e, d)) = ownT 31 (.slice (some ⟨b166, 0, none⟩) 1 1) [(e, d)] from rfl]
              refine G.back (by repeat (first | exact Sub.nil | (apply Sub.cons; (repeat (first | with_reducible exact Sel.here | exact Sel.here | apply Sel.there))))) ?_
              refine G.upT (p := []) (by repeat (first | exact Sub.nil | (apply Sub.cons; (repeat (first | with_reducible exact Sel.here | exact Sel.here | apply Sel.there))))) (by repeat (first | exact Sub.nil | (apply Sub.cons; (repeat (first | with_reducible exact Sel.here | exact Sel.here | apply Sel.there))))) ?_
              refine G.oneT hT31 (i := 13) (rem' := 4503599627354112) (by kernel_rfl) (by kernel_rfl) ?_
              refine G.turnOp rfl rfl (G.cR rfl rfl rfl rfl Try.func16 rfl rfl (may2 (may_one (x := (e, x126)) (by repeat (first | with_reducible exact Sel.here | exact Sel.here | apply Sel.there)) (by repeat (first | with_reducible exact Sel.here | exact Sel.here | apply Sel.there)) hok) (may_treeR (by repeat (first | with_reducible exact Sel.here | exact Sel.here | apply Sel.there)) hokl hd0.2 hdl)) (tree_yes _ _ [(e, x126)] [(e, d)] rfl) ?_)
              refine G.back (by repeat (first | exact Sub.nil | (apply Sub.cons; (repeat (first | with_reducible exact Sel.here | exact Sel.here | apply Sel.there))))) ?_
              refine G.takeT hT31 (i := 14) (rem' := 4503599627337728) rfl rfl rfl (by kernel_rfl) (fun _ _ _ h => h) rfl (pv_pick rfl rfl) (by repeat (first | exact Sub.nil | (apply Sub.cons; (repeat (first | with_reducible exact Sel.here | exact Sel.here | apply Sel.there))))) ?_
              refine G.takeT hT31 (i := 15) (rem' := 4503599627304960) rfl rfl rfl (by kernel_rfl) (fun _ _ _ h => h) rfl (pv_move rfl) (by repeat (first | exact Sub.nil | (apply Sub.cons; (repeat (first | with_reducible exact Sel.here | exact Sel.here | apply Sel.there))))) ?_
              refine G.takeT hT31 (i := 16) (rem' := 4503599627239424) rfl rfl rfl (by kernel_rfl) (fun _ _ _ h => h) rfl (pv_move rfl) (by repeat (first | exact Sub.nil | (apply Sub.cons; (repeat (first | with_reducible exact Sel.here | exact Sel.here | apply Sel.there))))) ?_
              refine G.takeT hT31 (i := 17) (rem' := 4503599627108352) rfl rfl rfl (by kernel_rfl) (fun _ _ _ h => h) rfl (pv_lenSl Try.underlying44 rfl) (by repeat (first | exact Sub.nil | (apply Sub.cons; (repeat (first | with_reducible exact Sel.here | exact Sel.here | apply Sel.there))))) ?_
              refine G.takeT hT31 (i := 18) (rem' := 4503599626846208) rfl rfl rfl (by kernel_rfl) (fun _ _ _ h => h) rfl ((pv_eql rfl rfl).cast (v' := .bool true) (congrArg Value.bool (by simp))) (by repeat (first | exact Sub.nil | (apply Sub.cons; (repeat (first | with_reducible exact Sel.here | exact Sel.here | apply Sel.there))))) ?_
              refine G.takeT hT31 (i := 19) (rem' := 4503599626321920) rfl rfl rfl (by kernel_rfl) (fun _ _ _ h => h) rfl (pv_pick rfl rfl) (by repeat (first | exact Sub.nil | (apply Sub.cons; (repeat (first | with_reducible exact Sel.here | exact Sel.here | apply Sel.there))))) ?_
              refine G.takeT hT31 (i := 20) (rem' := 4503599625273344) rfl rfl rfl (by kernel_rfl) (fun _ _ _ h => h) rfl (pv_move rfl) (by repeat (first | exact Sub.nil | (apply Sub.cons; (repeat (first | with_reducible exact Sel.here | exact Sel.here | apply Sel.there))))) ?_
              refine G.takeT hT31 (i := 21) (rem' := 4503599623176192) rfl rfl rfl (by kernel_rfl) (fun _ _ _ h => h) rfl (pv_move rfl) (by repeat (first | exact Sub.nil | (apply Sub.cons; (repeat (first | with_reducible exact Sel.here | exact Sel.here | apply Sel.there))))) ?_
              refine G.takeT hT31 (i := 22) (rem' := 4503599618981888) rfl rfl rfl (by kernel_rfl) (fun _ _ _ h => h) rfl (pv_lenSl Try.underlying44 rfl) (by repeat (first | exact Sub.nil | (apply Sub.cons; (repeat (first | with_reducible exact Sel.here | exact Sel.here | apply Sel.there))))) ?_
              refine G.takeT hT31 (i := 23) (rem' := 4503599610593280) rfl rfl rfl (by kernel_rfl) (fun _ _ _ h => h) rfl (pv_move rfl) (by repeat (first | exact Sub.nil | (apply Sub.cons; (repeat (first | with_reducible exact Sel.here | exact Sel.here | apply Sel.there))))) ?_
              refine G.takeT hT31 (i := 24) (rem' := 4503599593816064) rfl rfl rfl (by kernel_rfl) (fun _ _ _ h => h) rfl (pv_lenSl Try.underlying44 rfl) (by repeat (first | exact Sub.nil | (apply Sub.cons; (repeat (first | with_reducible exact Sel.here | exact Sel.here | apply Sel.there))))) ?_
              refine G.takeT hT31 (i := 25) (rem' := 4503599560261632) rfl rfl rfl (by kernel_rfl) (fun _ _ _ h => h) rfl (pv_add64 rfl rfl (by omega)) (by repeat (first | exact Sub.nil | (apply Sub.cons; (repeat (first | with_reducible exact Sel.here | exact Sel.here | apply Sel.there))))) ?_
              refine G.takeT hT31 (i := 26) (rem' := 4503599493152768) rfl rfl rfl (by kernel_rfl) (fun _ _ _ h => h) rfl ((pv_leq rfl rfl).cast (v' := .bool true) (congrArg Value.bool (decide_eq_true (by omega)))) (by repeat (first | exact Sub.nil | (apply Sub.cons; (repeat (first | with_reducible exact Sel.here | exact Sel.here | apply Sel.there))))) ?_
              refine G.takeT hT31 (i := 27) (rem' := 4503599358935040) rfl rfl rfl (by kernel_rfl) (fun _ _ _ h => h) rfl (pv_pick rfl rfl) (by repeat (first | exact Sub.nil | (apply Sub.cons; (repeat (first | with_reducible exact Sel.here | exact Sel.here | apply Sel.there))))) ?_
              refine G.takeT hT31 (i := 28) (rem' := 4503599090499584) rfl rfl rfl (by kernel_rfl) (fun _ _ _ h => h) rfl (pv_move rfl) (by repeat (first | exact Sub.nil | (apply Sub.cons; (repeat (first | with_reducible exact Sel.here | exact Sel.here | apply Sel.there))))) ?_
              refine G.takeT hT31 (i := 29) (rem' := 4503598553628672) rfl rfl rfl (by kernel_rfl) (fun _ _ _ h => h) rfl (pv_move rfl) (by repeat (first | exact Sub.nil | (apply Sub.cons; (repeat (first | with_reducible exact Sel.here | exact Sel.here | apply Sel.there))))) ?_
              refine G.takeT hT31 (i := 30) (rem' := 4503597479886848) rfl rfl rfl (by kernel_rfl) (fun _ _ _ h => h) rfl (pv_lenSl Try.underlying22 rfl) (by repeat (first | exact Sub.nil | (apply Sub.cons; (repeat (first | with_reducible exact Sel.here | exact Sel.here | apply Sel.there))))) ?_
              refine G.takeT hT31 (i := 31) (rem' := 4503595332403200) rfl rfl rfl (by kernel_rfl) (fun _ _ _ h => h) rfl (pv_move rfl) (by repeat (first | exact Sub.nil | (apply Sub.cons; (repeat (first | with_reducible exact Sel.here | exact Sel.here | apply Sel.there))))) ?_
              refine G.takeT hT31 (i := 32) (rem' := 4503591037435904) rfl rfl rfl (by kernel_rfl) (fun _ _ _ h => h) rfl (pv_lenSl Try.underlying22 rfl) (by repeat (first | exact Sub.nil | (apply Sub.cons; (repeat (first | with_reducible exact Sel.here | exact Sel.here | apply Sel.there))))) ?_
              refine G.takeT hT31 (i := 33) (rem' := 4503582447501312) rfl rfl rfl (by kernel_rfl) (fun _ _ _ h => h) rfl (pv_move rfl) (by repeat (first | exact Sub.nil | (apply Sub.cons; (repeat (first | with_reducible exact Sel.here | exact Sel.here | apply Sel.there))))) ?_
              refine G.takeT hT31 (i := 34) (rem' := 4503565267632128) rfl rfl rfl (by kernel_rfl) (fun _ _ _ h => h) rfl (pv_lenSl Try.underlying44 rfl) (by repeat (first | exact Sub.nil | (apply Sub.cons; (repeat (first | with_reducible exact Sel.here | exact Sel.here | apply Sel.there))))) ?_
              refine G.takeT hT31 (i := 35) (rem' := 4503530907893760) rfl rfl rfl (by kernel_rfl) (fun _ _ _ h => h) rfl (pv_add64 rfl rfl (by omega)) (by repeat (first | exact Sub.nil | (apply Sub.cons; (repeat (first | with_reducible exact Sel.here | exact Sel.here | apply Sel.there))))) ?_
              refine G.takeT hT31 (i := 36) (rem' := 4503462188417024) rfl rfl rfl (by kernel_rfl) (fun _ _ _ h => h) rfl ((pv_eql rfl rfl).cast (v' := .bool true) (congrArg Value.bool (decide_eq_true (by omega)))) (by repeat (first | exact Sub.nil | (apply Sub.cons; (repeat (first | with_reducible exact Sel.here | exact Sel.here | apply Sel.there))))) ?_
              refine G.takeT hT31 (i := 37) (rem' := 4503324749463552) rfl rfl rfl (by kernel_rfl) (fun _ _ _ h => h) rfl (pv_pick rfl rfl) (by repeat (first | exact Sub.nil | (apply Sub.cons; (repeat (first | with_reducible exact Sel.here | exact Sel.here | apply Sel.there))))) ?_
              refine G.takeT hT31 (i := 38) (rem' := 4503049871556608) rfl rfl rfl (by kernel_rfl) (fun _ _ _ h => h) rfl (pv_move rfl) (by repeat (first | exact Sub.nil | (apply Sub.cons; (repeat (first | with_reducible exact Sel.here | exact Sel.here | apply Sel.there))))) ?_
              refine G.takeT hT31 (i := 39) (rem' := 4502500115742720) rfl rfl rfl (by kernel_rfl) (fun _ _ _ h => h) rfl (pv_move rfl) (by repeat (first | exact Sub.nil | (apply Sub.cons; (repeat (first | with_reducible exact Sel.here | exact Sel.here | apply Sel.there))))) ?_
              refine G.takeT hT31 (i := 40) (rem' := 4501400604114944) rfl rfl rfl (by kernel_rfl) (fun _ _ _ h => h) rfl (pv_lenSl Try.underlying44 rfl) (by repeat (first | exact Sub.nil | (apply Sub.cons; (repeat (first | with_reducible exact Sel.here | exact Sel.here | apply Sel.there))))) ?_
              refine G.takeT hT31 (i := 41) (rem' := 4499201580859392) rfl rfl rfl (by kernel_rfl) (fun _ _ _ h => h) rfl (pv_eql rfl rfl) (by repeat (first | exact Sub.nil | (apply Sub.cons; (repeat (first | with_reducible exact Sel.here | exact Sel.here | apply Sel.there))))) ?_
              refine G.takeT hT31 (i := 42) (rem' := 4494803534348288) rfl rfl rfl (by kernel_rfl) (fun _ _ _ h => h) rfl (pv_move rfl) (by repeat (first | exact Sub.nil | (apply Sub.cons; (repeat (first | with_reducible exact Sel.here | exact Sel.here | apply Sel.there))))) ?_
              refine G.partP (t := 196) rfl (fun h196 => ?_) (fun h196 => ?_)
              · refine G.takeFT hT31 (i := 43) (rem' := 4486007441326080) rfl rfl rfl (by kernel_rfl) (fun _ _ _ h => h) rfl (by repeat (first | exact Sub.nil | (apply Sub.cons; (repeat (first | with_reducible exact Sel.here | exact Sel.here | apply Sel.there))))) ?_
                refine G.takeFT hT31 (i := 44) (rem' := 4468415255281664) rfl rfl rfl (by kernel_rfl) (fun _ _ _ h => h) rfl (by repeat (first | exact Sub.nil | (apply Sub.cons; (repeat (first | with_reducible exact Sel.here | exact Sel.here | apply Sel.there))))) ?_
                refine G.takeFT hT31 (i := 45) (rem' := 4433230883192832) rfl rfl rfl (by kernel_rfl) (fun _ _ _ h => h) rfl (by repeat (first | exact Sub.nil | (apply Sub.cons; (repeat (first | with_reducible exact Sel.here | exact Sel.here | apply Sel.there))))) ?_
                refine G.takeFT hT31 (i := 46) (rem' := 4362862139015168) rfl rfl rfl (by kernel_rfl) (fun _ _ _ h => h) rfl (by repeat (first | exact Sub.nil | (apply Sub.cons; (repeat (first | with_reducible exact Sel.here | exact Sel.here | apply Sel.there))))) ?_
                refine G.takeFT hT31 (i := 47) (rem' := 4222124650659840) rfl rfl rfl (by kernel_rfl) (fun _ _ _ h => h) rfl (by repeat (first | exact Sub.nil | (apply Sub.cons; (repeat (first | with_reducible exact Sel.here | exact Sel.here | apply Sel.there))))) ?_
                refine G.takeFT hT31 (i := 48) (rem' := 3940649673949184) rfl rfl rfl (by kernel_rfl) (fun _ _ _ h => h) rfl (by repeat (first | exact Sub.nil | (apply Sub.cons; (repeat (first | with_reducible exact Sel.here | exact Sel.here | apply Sel.there))))) ?_
                refine G.takeT hT31 (i := 49) (rem' := 3377699720527872) rfl rfl rfl (by kernel_rfl) (fun _ _ _ h => h) rfl (pv_pick rfl rfl) (by repeat (first | exact Sub.nil | (apply Sub.cons; (repeat (first | with_reducible exact Sel.here | exact Sel.here | apply Sel.there))))) ?_
                refine G.takeT hT31 (i := 50) (rem' := 2251799813685248) rfl rfl rfl (by kernel_rfl) (fun _ _ _ h => h) rfl (pv_pick rfl rfl) (by repeat (first | exact Sub.nil | (apply Sub.cons; (repeat (first | with_reducible exact Sel.here | exact Sel.here | apply Sel.there))))) ?_
                refine G.takeT hT31 (i := 51) (rem' := 0) rfl rfl rfl (by kernel_rfl) (fun _ _ _ h => h) rfl (pv_assign rfl) (by repeat (first | exact Sub.nil | (apply Sub.cons; (repeat (first | with_reducible exact Sel.here | exact Sel.here | apply Sel.there))))) ?_
                refine G.overT hT31 (by kernel_rfl) ?_
                refine G.nThen ?_
                refine G.ret ?_
                exact G.done0G rfl (Rv.tmp rfl Rv.nil) (by first | rfl | exact int_eq (by omega) | (simp; done))
              · have hADl : 0 < AD.length := by omega
                refine G.takeT hT31 (i := 43) (rem' := 4486007441326080) rfl rfl rfl (by kernel_rfl) (fun _ _ _ h => h) rfl (pv_move rfl) (by repeat (first | exact Sub.nil | (apply Sub.cons; (repeat (first | with_reducible exact Sel.here | exact Sel.here | apply Sel.there))))) ?_
                refine G.takeT hT31 (i := 44) (rem' := 4468415255281664) rfl rfl rfl (by kernel_rfl) (fun _ _ _ h => h) rfl (pv_ixSl (sz := 1) (k := 0) Try.underlying44 (by kernel_rfl) rfl rfl nad1 (by omega) (by omega)) (by repeat (first | exact Sub.nil | (apply Sub.cons; (repeat (first | with_reducible exact Sel.here | exact Sel.here | apply Sel.there))))) ?_
                refine G.takeT hT31 (i := 45) (rem' := 4433230883192832) rfl rfl rfl (by kernel_rfl) (fun _ _ _ h => h) rfl (pv_load (v := .string (sB AD[0])) Try.underlying9 rfl rfl (fun w hw => News.str (nnw1 (by repeat (first | with_reducible exact Sel.here | exact Sel.here | apply Sel.there)) w hw) 0 (by omega))) (by repeat (first | exact Sub.nil | (apply Sub.cons; (repeat (first | with_reducible exact Sel.here | exact Sel.here | apply Sel.there))))) ?_
                refine G.takeT hT31 (i := 46) (rem' := 4362862139015168) rfl rfl rfl (by kernel_rfl) (fun _ _ _ h => h) rfl (pv_fieldAddrK (sz := 0) (k := 0) Try.underlying31 rfl (by kernel_rfl) rfl rfl) (by repeat (first | exact Sub.nil | (apply Sub.cons; (repeat (first | with_reducible exact Sel.here | exact Sel.here | apply Sel.there))))) ?_
                refine G.oneT hT31 (i := 47) (rem' := 4222124650659840) (by kernel_rfl) (by kernel_rfl) ?_
                refine G.turnOp rfl rfl (G.val rfl rfl (pv_load Try.underlying9 rfl rfl (by first | exact blk_cell (by (repeat (first | with_reducible exact Sel.here | exact Sel.here | apply Sel.there)); done) (by rfl) | exact rng_cell (by (repeat (first | with_reducible exact Sel.here | exact Sel.here | apply Sel.there)); done) (by rfl) | exact ro_blk (by assumption) (by rfl) | exact ro_rngC (by assumption) (by rfl) | exact ro_int (by assumption) | exact ro_byte (by assumption) | exact ro_str (by assumption) | with_reducible assumption | assumption)) ?_)
                refine G.back (by repeat (first | exact Sub.nil | (apply Sub.cons; (repeat (first | with_reducible exact Sel.here | exact Sel.here | apply Sel.there))))) ?_
                refine G.takeT hT31 (i := 48) (rem' := 3940649673949184) rfl rfl rfl (by kernel_rfl) (fun _ _ _ h => h) rfl ((pv_eqlS rfl rfl).cast (v' := .bool true) (congrArg Value.bool (decide_eq_true (hAD _ (List.getElem_mem _))))) (by repeat (first | exact Sub.nil | (apply Sub.cons; (repeat (first | with_reducible exact Sel.here | exact Sel.here | apply Sel.there))))) ?_
                refine G.takeT hT31 (i := 49) (rem' := 3377699720527872) rfl rfl rfl (by kernel_rfl) (fun _ _ _ h => h) rfl (pv_pick rfl rfl) (by repeat (first | exact Sub.nil | (apply Sub.cons; (repeat (first | with_reducible exact Sel.here | exact Sel.here | apply Sel.there))))) ?_
                refine G.takeT hT31 (i := 50) (rem' := 2251799813685248) rfl rfl rfl (by kernel_rfl) (fun _ _ _ h => h) rfl (pv_pick rfl rfl) (by repeat (first | exact Sub.nil | (apply Sub.cons; (repeat (first | with_reducible exact Sel.here | exact Sel.here | apply Sel.there))))) ?_
                refine G.takeT hT31 (i := 51) (rem' := 0) rfl rfl rfl (by kernel_rfl) (fun _ _ _ h => h) rfl (pv_assign rfl) (by repeat (first | exact Sub.nil | (apply Sub.cons; (repeat (first | with_reducible exact Sel.here | exact Sel.here | apply Sel.there))))) ?_
                refine G.overT hT31 (by kernel_rfl) ?_
                refine G.nThen ?_
                refine G.ret ?_
                exact G.done0G rfl (Rv.tmp rfl Rv.nil) (by first | rfl | exact int_eq (by omega) | (simp; done))
            · refine G.turnOp rfl rfl (G.buildSlice (z := .agg #[.string ⟨#[]⟩, .int .i64 0, .int .i64 0, .slice none 0 0, .string ⟨#[]⟩]) (sz := 5) (cs := evC (e, d)) rfl Try.underlying22 (by kernel_rfl) (by decide) (by decide) rfl (by kernel_rfl) ?_)
              intro b166
              refine G.ownBlk (b := b166) (k := 1) (sz := 5) (by repeat (first | with_reducible exact Sel.here | exact Sel.here | apply Sel.there)) rfl (by omega) ?_
              rw [show own 31 5 (.slice (some ⟨b166, 0, none⟩) 1 1) 1 (evC (e, d)) = ownT 31 (.slice (some ⟨b166, 0, none⟩) 1 1) [(e, d)] from rfl]
              refine G.back (by repeat (first | exact Sub.nil | (apply Sub.cons; (repeat (first | with_reducible exact Sel.here | exact Sel.here | apply Sel.there))))) ?_
              refine G.upT (p := []) (by repeat (first | exact Sub.nil | (apply Sub.cons; (repeat (first | with_reducible exact Sel.here | exact Sel.here | apply Sel.there))))) (by repeat (first | exact Sub.nil | (apply Sub.cons; (repeat (first | with_reducible exact Sel.here | exact Sel.here | apply Sel.there))))) ?_
              refine G.oneT hT31 (i := 10) (rem' := 4503599627362304) (by kernel_rfl) (by kernel_rfl) ?_
              refine G.turnOp rfl rfl (G.buildSlice (z := .agg #[.string ⟨#[]⟩, .int .i64 0, .int .i64 0, .slice none 0 0, .string ⟨#[]⟩]) (sz := 5) (cs := evC (e, x126)) rfl Try.underlying22 (by kernel_rfl) (by decide) (by decide) rfl (by kernel_rfl) ?_)
              intro b164
              refine G.ownBlk (b := b164) (k := 1) (sz := 5) (by repeat (first | with_reducible exact Sel.here | exact Sel.here | apply Sel.there)) rfl (by omega) ?_
              rw [show own 31 5 (.slice (some ⟨b164, 0, none⟩) 1 1) 1 (evC (e, x126)) = ownT 31 (.slice (some ⟨b164, 0, none⟩) 1 1) [(e, x126)] from rfl]
              refine G.back (by repeat (first | exact Sub.nil | (apply Sub.cons; (repeat (first | with_reducible exact Sel.here | exact Sel.here | apply Sel.there))))) ?_
              refine G.upT (p := []) (by repeat (first | exact Sub.nil | (apply Sub.cons; (repeat (first | with_reducible exact Sel.here | exact Sel.here | apply Sel.there))))) (by repeat (first | exact Sub.nil | (apply Sub.cons; (repeat (first | with_reducible exact Sel.here | exact Sel.here | apply Sel.there))))) ?_
              refine G.oneT hT31 (i := 13) (rem' := 4503599627354112) (by kernel_rfl) (by kernel_rfl) ?_
              refine G.turnOp rfl rfl (G.cR rfl rfl rfl rfl Try.func16 rfl rfl (may2 (may_one (x := (e, x126)) (by repeat (first | with_reducible exact Sel.here | exact Sel.here | apply Sel.there)) (by repeat (first | with_reducible exact Sel.here | exact Sel.here | apply Sel.there)) hok) (may_treeR (by repeat (first | with_reducible exact Sel.here | exact Sel.here | apply Sel.there)) hokl hd0.2 hdl)) (tree_yes _ _ [(e, x126)] [(e, d)] rfl) ?_)
              refine G.back (by repeat (first | exact Sub.nil | (apply Sub.cons; (repeat (first | with_reducible exact Sel.here | exact Sel.here | apply Sel.there))))) ?_
              refine G.takeT hT31 (i := 14) (rem' := 4503599627337728) rfl rfl rfl (by kernel_rfl) (fun _ _ _ h => h) rfl (pv_pick rfl rfl) (by repeat (first | exact Sub.nil | (apply Sub.cons; (repeat (first | with_reducible exact Sel.here | exact Sel.here | apply Sel.there))))) ?_
              refine G.takeT hT31 (i := 15) (rem' := 4503599627304960) rfl rfl rfl (by kernel_rfl) (fun _ _ _ h => h) rfl (pv_move rfl) (by repeat (first | exact Sub.nil | (apply Sub.cons; (repeat (first | with_reducible exact Sel.here | exact Sel.here | apply Sel.there))))) ?_
              refine G.takeT hT31 (i := 16) (rem' := 4503599627239424) rfl rfl rfl (by kernel_rfl) (fun _ _ _ h => h) rfl (pv_move rfl) (by repeat (first | exact Sub.nil | (apply Sub.cons; (repeat (first | with_reducible exact Sel.here | exact Sel.here | apply Sel.there))))) ?_
              refine G.takeT hT31 (i := 17) (rem' := 4503599627108352) rfl rfl rfl (by kernel_rfl) (fun _ _ _ h => h) rfl (pv_lenSl Try.underlying44 rfl) (by repeat (first | exact Sub.nil | (apply Sub.cons; (repeat (first | with_reducible exact Sel.here | exact Sel.here | apply Sel.there))))) ?_
              refine G.takeT hT31 (i := 18) (rem' := 4503599626846208) rfl rfl rfl (by kernel_rfl) (fun _ _ _ h => h) rfl ((pv_eql rfl rfl).cast (v' := .bool true) (congrArg Value.bool (by simp))) (by repeat (first | exact Sub.nil | (apply Sub.cons; (repeat (first | with_reducible exact Sel.here | exact Sel.here | apply Sel.there))))) ?_
              refine G.takeT hT31 (i := 19) (rem' := 4503599626321920) rfl rfl rfl (by kernel_rfl) (fun _ _ _ h => h) rfl (pv_pick rfl rfl) (by repeat (first | exact Sub.nil | (apply Sub.cons; (repeat (first | with_reducible exact Sel.here | exact Sel.here | apply Sel.there))))) ?_
              refine G.takeT hT31 (i := 20) (rem' := 4503599625273344) rfl rfl rfl (by kernel_rfl) (fun _ _ _ h => h) rfl (pv_move rfl) (by repeat (first | exact Sub.nil | (apply Sub.cons; (repeat (first | with_reducible exact Sel.here | exact Sel.here | apply Sel.there))))) ?_
              refine G.takeT hT31 (i := 21) (rem' := 4503599623176192) rfl rfl rfl (by kernel_rfl) (fun _ _ _ h => h) rfl (pv_move rfl) (by repeat (first | exact Sub.nil | (apply Sub.cons; (repeat (first | with_reducible exact Sel.here | exact Sel.here | apply Sel.there))))) ?_
              refine G.takeT hT31 (i := 22) (rem' := 4503599618981888) rfl rfl rfl (by kernel_rfl) (fun _ _ _ h => h) rfl (pv_lenSl Try.underlying44 rfl) (by repeat (first | exact Sub.nil | (apply Sub.cons; (repeat (first | with_reducible exact Sel.here | exact Sel.here | apply Sel.there))))) ?_
              refine G.takeT hT31 (i := 23) (rem' := 4503599610593280) rfl rfl rfl (by kernel_rfl) (fun _ _ _ h => h) rfl (pv_move rfl) (by repeat (first | exact Sub.nil | (apply Sub.cons; (repeat (first | with_reducible exact Sel.here | exact Sel.here | apply Sel.there))))) ?_
              refine G.takeT hT31 (i := 24) (rem' := 4503599593816064) rfl rfl rfl (by kernel_rfl) (fun _ _ _ h => h) rfl (pv_lenSl Try.underlying44 rfl) (by repeat (first | exact Sub.nil | (apply Sub.cons; (repeat (first | with_reducible exact Sel.here | exact Sel.here | apply Sel.there))))) ?_
              refine G.takeT hT31 (i := 25) (rem' := 4503599560261632) rfl rfl rfl (by kernel_rfl) (fun _ _ _ h => h) rfl (pv_add64 rfl rfl (by omega)) (by repeat (first | exact Sub.nil | (apply Sub.cons; (repeat (first | with_reducible exact Sel.here | exact Sel.here | apply Sel.there))))) ?_
              refine G.takeT hT31 (i := 26) (rem' := 4503599493152768) rfl rfl rfl (by kernel_rfl) (fun _ _ _ h => h) rfl ((pv_leq rfl rfl).cast (v' := .bool true) (congrArg Value.bool (decide_eq_true (by omega)))) (by repeat (first | exact Sub.nil | (apply Sub.cons; (repeat (first | with_reducible exact Sel.here | exact Sel.here | apply Sel.there))))) ?_
              refine G.takeT hT31 (i := 27) (rem' := 4503599358935040) rfl rfl rfl (by kernel_rfl) (fun _ _ _ h => h) rfl (pv_pick rfl rfl) (by repeat (first | exact Sub.nil | (apply Sub.cons; (repeat (first | with_reducible exact Sel.here | exact Sel.here | apply Sel.there))))) ?_
              refine G.takeT hT31 (i := 28) (rem' := 4503599090499584) rfl rfl rfl (by kernel_rfl) (fun _ _ _ h => h) rfl (pv_move rfl) (by repeat (first | exact Sub.nil | (apply Sub.cons; (repeat (first | with_reducible exact Sel.here | exact Sel.here | apply Sel.there))))) ?_
              refine G.takeT hT31 (i := 29) (rem' := 4503598553628672) rfl rfl rfl (by kernel_rfl) (fun _ _ _ h => h) rfl (pv_move rfl) (by repeat (first | exact Sub.nil | (apply Sub.cons; (repeat (first | with_reducible exact Sel.here | exact Sel.here | apply Sel.there))))) ?_
              refine G.takeT hT31 (i := 30) (rem' := 4503597479886848) rfl rfl rfl (by kernel_rfl) (fun _ _ _ h => h) rfl (pv_lenSl Try.underlying22 rfl) (by repeat (first | exact Sub.nil | (apply Sub.cons; (repeat (first | with_reducible exact Sel.here | exact Sel.here | apply Sel.there))))) ?_
              refine G.takeT hT31 (i := 31) (rem' := 4503595332403200) rfl rfl rfl (by kernel_rfl) (fun _ _ _ h => h) rfl (pv_move rfl) (by repeat (first | exact Sub.nil | (apply Sub.cons; (repeat (first | with_reducible exact Sel.here | exact Sel.here | apply Sel.there))))) ?_
              refine G.takeT hT31 (i := 32) (rem' := 4503591037435904) rfl rfl rfl (by kernel_rfl) (fun _ _ _ h => h) rfl (pv_lenSl Try.underlying22 rfl) (by repeat (first | exact Sub.nil | (apply Sub.cons; (repeat (first | with_reducible exact Sel.here | exact Sel.here | apply Sel.there))))) ?_
              refine G.takeT hT31 (i := 33) (rem' := 4503582447501312) rfl rfl rfl (by kernel_rfl) (fun _ _ _ h => h) rfl (pv_move rfl) (by repeat (first | exact Sub.nil | (apply Sub.cons; (repeat (first | with_reducible exact Sel.here | exact Sel.here | apply Sel.there))))) ?_
              refine G.takeT hT31 (i := 34) (rem' := 4503565267632128) rfl rfl rfl (by kernel_rfl) (fun _ _ _ h => h) rfl (pv_lenSl Try.underlying44 rfl) (by repeat (first | exact Sub.nil | (apply Sub.cons; (repeat (first | with_reducible exact Sel.here | exact Sel.here | apply Sel.there))))) ?_
              refine G.takeT hT31 (i := 35) (rem' := 4503530907893760) rfl rfl rfl (by kernel_rfl) (fun _ _ _ h => h) rfl (pv_add64 rfl rfl (by omega)) (by repeat (first | exact Sub.nil | (apply Sub.cons; (repeat (first | with_reducible exact Sel.here | exact Sel.here | apply Sel.there))))) ?_
              refine G.takeT hT31 (i := 36) (rem' := 4503462188417024) rfl rfl rfl (by kernel_rfl) (fun _ _ _ h => h) rfl ((pv_eql rfl rfl).cast (v' := .bool true) (congrArg Value.bool (decide_eq_true (by omega)))) (by repeat (first | exact Sub.nil | (apply Sub.cons; (repeat (first | with_reducible exact Sel.here | exact Sel.here | apply Sel.there))))) ?_
              refine G.takeT hT31 (i := 37) (rem' := 4503324749463552) rfl rfl rfl (by kernel_rfl) (fun _ _ _ h => h) rfl (pv_pick rfl rfl) (by repeat (first | exact Sub.nil | (apply Sub.cons; (repeat (first | with_reducible exact Sel.here | exact Sel.here | apply Sel.there))))) ?_
              refine G.takeT hT31 (i := 38) (rem' := 4503049871556608) rfl rfl rfl (by kernel_rfl) (fun _ _ _ h => h) rfl (pv_move rfl) (by repeat (first | exact Sub.nil | (apply Sub.cons; (repeat (first | with_reducible exact Sel.here | exact Sel.here | apply Sel.there))))) ?_
              refine G.takeT hT31 (i := 39) (rem' := 4502500115742720) rfl rfl rfl (by kernel_rfl) (fun _ _ _ h => h) rfl (pv_move rfl) (by repeat (first | exact Sub.nil | (apply Sub.cons; (repeat (first | with_reducible exact Sel.here | exact Sel.here | apply Sel.there))))) ?_
              refine G.takeT hT31 (i := 40) (rem' := 4501400604114944) rfl rfl rfl (by kernel_rfl) (fun _ _ _ h => h) rfl (pv_lenSl Try.underlying44 rfl) (by repeat (first | exact Sub.nil | (apply Sub.cons; (repeat (first | with_reducible exact Sel.here | exact Sel.here | apply Sel.there))))) ?_
              refine G.takeT hT31 (i := 41) (rem' := 4499201580859392) rfl rfl rfl (by kernel_rfl) (fun _ _ _ h => h) rfl (pv_eql rfl rfl) (by repeat (first | exact Sub.nil | (apply Sub.cons; (repeat (first | with_reducible exact Sel.here | exact Sel.here | apply Sel.there))))) ?_
              refine G.takeT hT31 (i := 42) (rem' := 4494803534348288) rfl rfl rfl (by kernel_rfl) (fun _ _ _ h => h) rfl (pv_move rfl) (by repeat (first | exact Sub.nil | (apply Sub.cons; (repeat (first | with_reducible exact Sel.here | exact Sel.here | apply Sel.there))))) ?_
              refine G.partP (t := 196) rfl (fun h196 => ?_) (fun h196 => ?_)
              · refine G.takeFT hT31 (i := 43) (rem' := 4486007441326080) rfl rfl rfl (by kernel_rfl) (fun _ _ _ h => h) rfl (by repeat (first | exact Sub.nil | (apply Sub.cons; (repeat (first | with_reducible exact Sel.here | exact Sel.here | apply Sel.there))))) ?_
                refine G.takeFT hT31 (i := 44) (rem' := 4468415255281664) rfl rfl rfl (by kernel_rfl) (fun _ _ _ h => h) rfl (by repeat (first | exact Sub.nil | (apply Sub.cons; (repeat (first | with_reducible exact Sel.here | exact Sel.here | apply Sel.there))))) ?_
                refine G.takeFT hT31 (i := 45) (rem' := 4433230883192832) rfl rfl rfl (by kernel_rfl) (fun _ _ _ h => h) rfl (by repeat (first | exact Sub.nil | (apply Sub.cons; (repeat (first | with_reducible exact Sel.here | exact Sel.here | apply Sel.there))))) ?_
                refine G.takeFT hT31 (i := 46) (rem' := 4362862139015168) rfl rfl rfl (by kernel_rfl) (fun _ _ _ h => h) rfl (by repeat (first | exact Sub.nil | (apply Sub.cons; (repeat (first | with_reducible exact Sel.here | exact Sel.here | apply Sel.there))))) ?_
                refine G.takeFT hT31 (i := 47) (rem' := 4222124650659840) rfl rfl rfl (by kernel_rfl) (fun _ _ _ h => h) rfl (by repeat (first | exact Sub.nil | (apply Sub.cons; (repeat (first | with_reducible exact Sel.here | exact Sel.here | apply Sel.there))))) ?_
                refine G.takeFT hT31 (i := 48) (rem' := 3940649673949184) rfl rfl rfl (by kernel_rfl) (fun _ _ _ h => h) rfl (by repeat (first | exact Sub.nil | (apply Sub.cons; (repeat (first | with_reducible exact Sel.here | exact Sel.here | apply Sel.there))))) ?_
                refine G.takeT hT31 (i := 49) (rem' := 3377699720527872) rfl rfl rfl (by kernel_rfl) (fun _ _ _ h => h) rfl (pv_pick rfl rfl) (by repeat (first | exact Sub.nil | (apply Sub.cons; (repeat (first | with_reducible exact Sel.here | exact Sel.here | apply Sel.there))))) ?_
                refine G.takeT hT31 (i := 50) (rem' := 2251799813685248) rfl rfl rfl (by kernel_rfl) (fun _ _ _ h => h) rfl (pv_pick rfl rfl) (by repeat (first | exact Sub.nil | (apply Sub.cons; (repeat (first | with_reducible exact Sel.here | exact Sel.here | apply Sel.there))))) ?_
                refine G.takeT hT31 (i := 51) (rem' := 0) rfl rfl rfl (by kernel_rfl) (fun _ _ _ h => h) rfl (pv_assign rfl) (by repeat (first | exact Sub.nil | (apply Sub.cons; (repeat (first | with_reducible exact Sel.here | exact Sel.here | apply Sel.there))))) ?_
                refine G.overT hT31 (by kernel_rfl) ?_
                refine G.nThen ?_
                refine G.ret ?_
                exact G.done0G rfl (Rv.tmp rfl Rv.nil) (by first | rfl | exact int_eq (by omega) | (simp; done))
              · have hADl : 0 < AD.length := by omega
                refine G.takeT hT31 (i := 43) (rem' := 4486007441326080) rfl rfl rfl (by kernel_rfl) (fun _ _ _ h => h) rfl (pv_move rfl) (by repeat (first | exact Sub.nil | (apply Sub.cons; (repeat (first | with_reducible exact Sel.here | exact Sel.here | apply Sel.there))))) ?_
                refine G.takeT hT31 (i := 44) (rem' := 4468415255281664) rfl rfl rfl (by kernel_rfl) (fun _ _ _ h => h) rfl (pv_ixSl (sz := 1) (k := 0) Try.underlying44 (by kernel_rfl) rfl rfl nad1 (by omega) (by omega)) (by repeat (first | exact Sub.nil | (apply Sub.cons; (repeat (first | with_reducible exact Sel.here | exact Sel.here | apply Sel.there))))) ?_
                refine G.takeT hT31 (i := 45) (rem' := 4433230883192832) rfl rfl rfl (by kernel_rfl) (fun _ _ _ h => h) rfl (pv_load (v := .string (sB AD[0])) Try.underlying9 rfl rfl (fun w hw => News.str (nnw1 (by repeat (first | with_reducible exact Sel.here | exact Sel.here | apply Sel.there)) w hw) 0 (by omega))) (by repeat (first | exact Sub.nil | (apply Sub.cons; (repeat (first | with_reducible exact Sel.here | exact Sel.here | apply Sel.there))))) ?_
                refine G.takeT hT31 (i := 46) (rem' := 4362862139015168) rfl rfl rfl (by kernel_rfl) (fun _ _ _ h => h) rfl (pv_fieldAddrK (sz := 0) (k := 0) Try.underlying31 rfl (by kernel_rfl) rfl rfl) (by repeat (first | exact Sub.nil | (apply Sub.cons; (repeat (first | with_reducible exact Sel.here | exact Sel.here | apply Sel.there))))) ?_
                refine G.oneT hT31 (i := 47) (rem' := 4222124650659840) (by kernel_rfl) (by kernel_rfl) ?_
                refine G.turnOp rfl rfl (G.val rfl rfl (pv_load Try.underlying9 rfl rfl (by first | exact blk_cell (by (repeat (first | with_reducible exact Sel.here | exact Sel.here | apply Sel.there)); done) (by rfl) | exact rng_cell (by (repeat (first | with_reducible exact Sel.here | exact Sel.here | apply Sel.there)); done) (by rfl) | exact ro_blk (by assumption) (by rfl) | exact ro_rngC (by assumption) (by rfl) | exact ro_int (by assumption) | exact ro_byte (by assumption) | exact ro_str (by assumption) | with_reducible assumption | assumption)) ?_)
                refine G.back (by repeat (first | exact Sub.nil | (apply Sub.cons; (repeat (first | with_reducible exact Sel.here | exact Sel.here | apply Sel.there))))) ?_
                refine G.takeT hT31 (i := 48) (rem' := 3940649673949184) rfl rfl rfl (by kernel_rfl) (fun _ _ _ h => h) rfl ((pv_eqlS rfl rfl).cast (v' := .bool true) (congrArg Value.bool (decide_eq_true (hAD _ (List.getElem_mem _))))) (by repeat (first | exact Sub.nil | (apply Sub.cons; (repeat (first | with_reducible exact Sel.here | exact Sel.here | apply Sel.there))))) ?_
                refine G.takeT hT31 (i := 49) (rem' := 3377699720527872) rfl rfl rfl (by kernel_rfl) (fun _ _ _ h => h) rfl (pv_pick rfl rfl) (by repeat (first | exact Sub.nil | (apply Sub.cons; (repeat (first | with_reducible exact Sel.here | exact Sel.here | apply Sel.there))))) ?_
                refine G.takeT hT31 (i := 50) (rem' := 2251799813685248) rfl rfl rfl (by kernel_rfl) (fun _ _ _ h => h) rfl (pv_pick rfl rfl) (by repeat (first | exact Sub.nil | (apply Sub.cons; (repeat (first | with_reducible exact Sel.here | exact Sel.here | apply Sel.there))))) ?_
                refine G.takeT hT31 (i := 51) (rem' := 0) rfl rfl rfl (by kernel_rfl) (fun _ _ _ h => h) rfl (pv_assign rfl) (by repeat (first | exact Sub.nil | (apply Sub.cons; (repeat (first | with_reducible exact Sel.here | exact Sel.here | apply Sel.there))))) ?_
                refine G.overT hT31 (by kernel_rfl) ?_
                refine G.nThen ?_
                refine G.ret ?_
                exact G.done0G rfl (Rv.tmp rfl Rv.nil) (by first | rfl | exact int_eq (by omega) | (simp; done))
end Go.Proofs.Ytchgaedidfefoaa

set_option maxRecDepth 100000
set_option linter.unusedVariables false
set_option linter.unusedSimpArgs false
namespace Go.Proofs.Ytchgaedidfefoaa
open Go.ChangeShapes Go.WideShapes Go.ChangeAt Go.RowKit Go.Deep
theorem in1 {p : Ck → Prop} {a : Ck} (h : p a) : ∀ x ∈ [a], p x := fun x hx => by obtain rfl : x = a := (by simpa using hx); exact h
theorem inC {p : Ck → Prop} {a : Ck} {l : List Ck} (h : p a) (r : ∀ x ∈ l, p x) : ∀ x ∈ a :: l, p x := fun x hx => by
  rcases List.mem_cons.1 hx with rfl | hx
  · exact h
  · exact r x hx
section
variable {H : Type} {enc : TypeId × Value → H} {W : World}
theorem opn_weak {P : Program} {α β : Type} {t : TypeId} {E : Rdr α} {F : Rdr β} (h : Opn H enc P W t E) (hs : E.sz = F.sz) (hf : ∀ Ps w b o a, E.R Ps w b o a → ∃ a', F.R Ps w b o a') : Opn H enc P W t F := ⟨h.sz.trans hs, fun fuel cs x b o hx hwt hA hb => by
  obtain ⟨a, ha⟩ := h.mem fuel cs x b o hx hwt hA hb
  exact hf _ _ _ _ _ ha⟩
theorem opn_entry : Opn H enc Try.prog W 31 rEV := by
  refine opn_weak (opn_struct Try.underlying31 (F := rProd rStrB (rProd rInt (rProd rInt (rProd (rSlB rByte) (rProd rStrB rUnit))))) (by kernel_rfl)
    (.cons (opn_str Try.underlying9 (by kernel_rfl)) rfl (.cons (opn_int Try.underlying3 (by kernel_rfl)) rfl (.cons (opn_int Try.underlying3 (by kernel_rfl)) rfl
      (.cons (opn_rSl Try.underlying29 (by kernel_rfl) (of_decide_eq_true (by kernel_rfl)) (opn_byte Try.underlying5 (by kernel_rfl)) (by decide)) rfl (.cons (opn_str Try.underlying9 (by kernel_rfl)) rfl .nil)))))) rfl ?_
  rintro Ps w b o ⟨a0, a1, a2, a3, a4, _⟩ ⟨⟨hb, h0, l0⟩, ⟨_, h1, l1⟩, ⟨_, h2, l2⟩, ⟨⟨_, d, h3, hd⟩, l3⟩, ⟨_, h4, l4⟩, _⟩
  refine ⟨(⟨a0, a1, a2, a3, a4⟩, d), hb, fun j v hj => ?_, hd, l1, l2, l0, l3, l4⟩
  have hlt : j < 5 := by
    have := (List.getElem?_eq_some_iff.1 hj).1
    exact this
  rcases (by omega : j = 0 ∨ j = 1 ∨ j = 2 ∨ j = 3 ∨ j = 4) with rfl | rfl | rfl | rfl | rfl
  · obtain rfl : _ = v := Option.some.inj hj
    exact h0
  · obtain rfl : _ = v := Option.some.inj hj
    exact h1
  · obtain rfl : _ = v := Option.some.inj hj
    exact h2
  · obtain rfl : _ = v := Option.some.inj hj
    exact h3
  · obtain rfl : _ = v := Option.some.inj hj
    exact h4
theorem opn_tree {v : Value} {d : DataW H} {p : List MemPlace} {r : Reach} {base : Nat} (hok : Value.okWide Try.prog W r base 22 v) (h : DataW.Trod enc Try.prog W 0 (fun _ => true) true 22 v d p)
    {ts : List TypeId} {ds : List (DataW H)} {j : Nat} (hsz : (DataW.weightsEach Try.prog ts ds).all (· ≤ reachBytes) = true) (hts : ts[j]? = some 22) (hds : ds[j]? = some d) :
    ∃ xs : List ET, Ro W (fun _ => False) (slc rEV (· < W.heap.size) v xs) ∧ xs.length ≤ 140737488355328 :=
  opn_arg Try.underlying22 (of_decide_eq_true (by kernel_rfl)) opn_entry (by decide) hok h hsz hts hds
theorem open_entry {v : Value} {d : DataW H} {p : List MemPlace} {r : Reach} {base : Nat} (hok : Value.okWide Try.prog W r base 31 v) (h : DataW.Trod enc Try.prog W 0 (fun _ => true) true 31 v d p)
    {ts : List TypeId} {ds : List (DataW H)} {j : Nat} (hsz : (DataW.weightsEach Try.prog ts ds).all (· ≤ reachBytes) = true) (hts : ts[j]? = some 31) (hds : ds[j]? = some d) :
    ∃ (e : En) (u : Value), v = .agg #[.string (sB e.path), .int .i64 e.kind, .int .i64 e.mode, u, .string (sB e.to)] ∧ EnOk e ∧ Ro W (fun _ => False) (slc rByte (· < W.heap.size) u e.data) := by
  obtain ⟨cs, rfl, hcs⟩ := okWide_struct Try.underlying31 hok
  rw [show Try.prog.cellsOf 31 = 5 by kernel_rfl] at hcs
  obtain ⟨fuel, hf⟩ := h
  obtain ⟨xs, n, rfl, hx, hl, hxl, hxx⟩ := DataW.trod_struct Try.underlying31 hf
  have hw : ∀ k ∈ DataW.weights Try.prog 31 d, k ≤ reachBytes := fun k hk => of_decide_eq_true (List.all_eq_true.1 hsz k (DataW.weights_mem_each hts hds k hk))
  have hd : d = .agg (xs.map (·.1)) := congrArg Prod.fst hx
  subst hd
  simp only [DataW.weights, Try.underlying31] at hw
  obtain ⟨c0, c1, c2, c3, c4, rfl⟩ : ∃ c0 c1 c2 c3 c4, cs = #[c0, c1, c2, c3, c4] := by
    obtain ⟨l⟩ := cs
    match l, hcs with
    | [c0, c1, c2, c3, c4], _ => exact ⟨c0, c1, c2, c3, c4, rfl⟩
  obtain ⟨y0, y1, y2, y3, y4, rfl⟩ : ∃ y0 y1 y2 y3 y4, xs = [y0, y1, y2, y3, y4] := by
    match xs, hxl with
    | [y0, y1, y2, y3, y4], _ => exact ⟨y0, y1, y2, y3, y4, rfl⟩
  have f0 : DataW.trod enc Try.prog W 0 (fun _ => true) true n 9 (([c0, c1, c2, c3, c4].drop 0).take (Try.prog.cellsOf 9)) = some y0 := hxx 0 _ rfl
  have f1 : DataW.trod enc Try.prog W 0 (fun _ => true) true n 3 (([c0, c1, c2, c3, c4].drop 1).take (Try.prog.cellsOf 3)) = some y1 := hxx 1 _ rfl
  have f2 : DataW.trod enc Try.prog W 0 (fun _ => true) true n 3 (([c0, c1, c2, c3, c4].drop 2).take (Try.prog.cellsOf 3)) = some y2 := hxx 2 _ rfl
  have f3 : DataW.trod enc Try.prog W 0 (fun _ => true) true n 29 (([c0, c1, c2, c3, c4].drop 3).take (Try.prog.cellsOf 29)) = some y3 := hxx 3 _ rfl
  have f4 : DataW.trod enc Try.prog W 0 (fun _ => true) true n 9 (([c0, c1, c2, c3, c4].drop 4).take (Try.prog.cellsOf 9)) = some y4 := hxx 4 _ rfl
  rw [show Try.prog.cellsOf 9 = 1 by kernel_rfl] at f0 f4
  rw [show Try.prog.cellsOf 3 = 1 by kernel_rfl] at f1 f2
  rw [show Try.prog.cellsOf 29 = 1 by kernel_rfl] at f3
  obtain ⟨s0, e0, g0, _⟩ := DataW.trod_string Try.underlying9 f0
  obtain ⟨k1, e1, _, w1⟩ := DataW.trod_int Try.underlying3 f1
  obtain ⟨k2, e2, _, w2⟩ := DataW.trod_int Try.underlying3 f2
  obtain ⟨u3, bs, e3, h3, l3⟩ := opn_slice (E := rByte) Try.underlying29 (of_decide_eq_true (by kernel_rfl)) (opn_byte Try.underlying5 (by kernel_rfl)) (by decide) n _ _ f3 (fun q hq => hw q (DataW.weights_mem_each (j := 3) rfl rfl q hq))
  obtain ⟨s4, e4, g4, _⟩ := DataW.trod_string Try.underlying9 f4
  have q0 := hw s0.data.toList.length (DataW.weights_mem_each (j := 0) (t := 9) rfl rfl _ (by subst g0; simp [DataW.weights]))
  have q4 := hw s4.data.toList.length (DataW.weights_mem_each (j := 4) (t := 9) rfl rfl _ (by subst g4; simp [DataW.weights]))
  unfold reachBytes at q0 q4
  obtain ⟨p0, rfl⟩ := sB_ext s0
  obtain ⟨p4, rfl⟩ := sB_ext s4
  have g0 : c0 = .string (sB p0) := by simpa [Value.cells] using e0
  have g1 : c1 = .int .i64 k1 := by simpa [Value.cells] using e1
  have g2 : c2 = .int .i64 k2 := by simpa [Value.cells] using e2
  have g3 : c3 = u3 := by simpa [Value.cells] using e3
  have g4 : c4 = .string (sB p4) := by simpa [Value.cells] using e4
  subst g0 g1 g2 g3 g4
  exact ⟨⟨p0, k1, k2, bs, p4⟩, _, rfl, ⟨wf_I64 w1, wf_I64 w2, Nat.le_trans (m := 140737488351232) (by simpa [sB] using q0) (by decide), l3, Nat.le_trans (m := 140737488351232) (by simpa [sB] using q4) (by decide)⟩, ro_new h3 fun b hb => hb⟩
end
end Go.Proofs.Ytchgaedidfefoaa

