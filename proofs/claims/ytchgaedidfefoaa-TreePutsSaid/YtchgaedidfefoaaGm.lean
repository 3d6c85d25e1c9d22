/- Merged of TY, TZ, UA, UB. Conditions: none. -/
import Derived.Test.YtchgaedidfefoaaGl
/- Contracts of layer 8: slices.Insert of one entry, the walk. Conditions: the trees are of at most a thousand entries. -/
set_option linter.unusedVariables false
set_option linter.unusedSimpArgs false
namespace Go.Proofs.Ytchgaedidfefoaa
open Go.RowKit

theorem flat_dropT {xs : List ET} {sp : List Value} {i : Nat} (h : i ≤ xs.length) : ((flatT xs ++ sp).drop (0 + i * 5)).take ((xs.length - i) * 5) = flatT (xs.drop i) := by
  have e : flatT xs = flatT (xs.take i) ++ flatT (xs.drop i) := by rw [← flatT_app, List.take_append_drop]
  have ht : (flatT (xs.take i)).length = 0 + i * 5 := by rw [flatT_length, List.length_take]; omega
  have hd : (flatT (xs.drop i)).length = (xs.length - i) * 5 := by rw [flatT_length, List.length_drop]
  rw [e, List.append_assoc, ← ht, List.drop_left, ← hd, List.take_left]
theorem flat_takeT {xs : List ET} {sp : List Value} {i : Nat} (h : i ≤ xs.length) : ((flatT xs ++ sp).drop 0).take (i * 5) = flatT (xs.take i) := by
  have := flat_take (ws := xs) (sp := sp) h
  rw [Nat.zero_add] at this
  rw [List.drop_zero, this]
set_option maxRecDepth 20000 in
set_option maxHeartbeats 4000000 in

theorem ins_tr (v : Value) (xs : List ET) (i b : Nat) (x : ET) (hi : i ≤ xs.length) (hn : xs.length ≤ 1000) (hx1 : x.2.oneCell' = true) (hys : ∀ y ∈ xs, y.2.oneCell' = true) : Tr Try.prog 56 #[v, .int .i64 (i : Int), .slice (some ⟨b, 0, none⟩) 1 1] [blk b 31 (evC x)] [ownT 31 v xs] (TX (fun _ : Value => True) (fun z => z) (fun z => [ownT 31 z (insT xs i x)])) := by
  refine Tr.of (l := [(0, v), (1, .int .i64 (i : Int)), (2, .slice (some ⟨b, 0, none⟩) 1 1)]) Try.func56 rfl (n := 95) rfl (.cons rfl (.cons rfl (.cons rfl .nil))) (fun w0 hro => ?_)
  have hb0 := ro1 hro
  rw [show ownT 31 v xs = own 31 5 v xs.length (flatT xs) from rfl]
  refine G.ownOpen (v := v) (by repeat (first | with_reducible exact Sel.here | exact Sel.here | apply Sel.there)) (fun a3 c3 h3 hk3 hm3 => ?_)
  subst h3
  refine G.seq ?_
  refine G.region ?_
  refine G.op rfl (G.val rfl rfl (pv_assign rfl) ?_)
  refine G.nil ?_
  refine G.nThen ?_
  refine G.seq ?_
  refine G.region ?_
  refine G.op rfl (G.val rfl rfl (pv_move rfl) ?_)
  refine G.op rfl (G.val rfl rfl (pv_move rfl) ?_)
  refine G.op rfl (G.val rfl rfl (pv_subL (sz := 5) (k := i) Try.underlying22 (by kernel_rfl) rfl rfl rfl (by omega)) ?_)
  refine G.nil ?_
  refine G.nThen ?_
  refine G.seq ?_
  refine G.region ?_
  refine G.op rfl (G.val rfl rfl (pv_move rfl) ?_)
  refine G.op rfl (G.val rfl rfl (pv_lenSl Try.underlying22 rfl) ?_)
  refine G.op rfl (G.val rfl rfl (pv_assign rfl) ?_)
  refine G.nil ?_
  refine G.nThen ?_
  refine G.seq ?_
  refine G.seq ?_
  refine G.region ?_
  refine G.op rfl (G.val rfl rfl (pv_move rfl) ?_)
  refine G.op rfl (G.val rfl rfl (pv_eql rfl rfl) ?_)
  refine G.nil ?_
  refine G.nThen ?_
  refine G.condP rfl (fun h16 => ?_) (fun h16 => ?_)
  · exfalso; omega
  · refine G.skip ?_
    refine G.nThen ?_
    refine G.seq ?_
    refine G.region ?_
    refine G.op rfl (G.val rfl rfl (pv_move rfl) ?_)
    refine G.op rfl (G.val rfl rfl (pv_lenSl Try.underlying22 rfl) ?_)
    refine G.op rfl (G.val rfl rfl (pv_assign rfl) ?_)
    refine G.nil ?_
    refine G.nThen ?_
    refine G.seq ?_
    refine G.seq ?_
    refine G.region ?_
    refine G.op rfl (G.val rfl rfl (pv_move rfl) ?_)
    refine G.op rfl (G.val rfl rfl (pv_move rfl) ?_)
    refine G.op rfl (G.val rfl rfl (pv_eql rfl rfl) ?_)
    refine G.nil ?_
    refine G.nThen ?_
    refine G.condP rfl (fun h22 => ?_) (fun h22 => ?_)
    · refine G.seq ?_
      refine G.region ?_
      refine G.op rfl (G.val rfl rfl (pv_move rfl) ?_)
      refine G.op rfl (G.val rfl rfl (pv_move rfl) ?_)
      refine G.op rfl (G.append (k := xs.length) (j := 1) (cs := flatT xs) (news := evC x) (b := b) (off := 0) rfl Try.underlying22 Try.infoEn' rfl rfl rfl (by repeat (first | with_reducible exact Sel.here | exact Sel.here | apply Sel.there)) (fun _ => rfl) (fun h => by cases h) rfl (ro_range (k := 5) hb0 rfl) (evC_one hx1) (by omega) (by omega) ?_)
      intro v'
      rw [show flatT xs ++ evC x = flatT (insT xs i x) from by rw [flat_insT, List.take_of_length_le (by omega), List.drop_of_length_le (by omega)]; simp [flatT], show xs.length + 1 = (insT xs i x).length from (insT_length (by omega) x).symm]
      refine G.op rfl (G.val rfl rfl (pv_assign rfl) ?_)
      refine G.nil ?_
      refine G.nThen ?_
      refine G.ret ?_
      refine G.rThen ?_
      exact G.doneX1 (v') (by first | exact trivial | ((try dsimp only); exact trivial)) rfl rfl rfl (by repeat (first | exact Sub.nil | (apply Sub.cons; (repeat (first | with_reducible exact Sel.here | exact Sel.here | apply Sel.there)))))
    · have hlt : i < xs.length := by omega
      refine G.ownTo (v := .slice a3 xs.length c3) (by repeat (first | with_reducible exact Sel.here | exact Sel.here | apply Sel.there)) (by omega) (fun g cap sp hvv hkc hmx hl hlen => ?_)
      injection hvv with e1 e2 e3
      subst e1
      subst e3
      have hl5 : xs.length * 5 + sp.length = c3 * 5 := by rw [← hl, List.length_append, flatT_length]
      refine G.skip ?_
      refine G.nThen ?_
      refine G.seq ?_
      refine G.seq ?_
      refine G.region ?_
      refine G.op rfl (G.val rfl rfl (pv_move rfl) ?_)
      refine G.op rfl (G.val rfl rfl (pv_move rfl) ?_)
      refine G.op rfl (G.val rfl rfl (pv_add64 rfl rfl (by omega)) ?_)
      refine G.op rfl (G.val rfl rfl (pv_move rfl) ?_)
      refine G.op rfl (G.val rfl rfl (pv_capSl Try.underlying22 rfl) ?_)
      refine G.op rfl (G.val rfl rfl (pv_gtr rfl rfl) ?_)
      refine G.nil ?_
      refine G.nThen ?_
      refine G.condP rfl (fun h31 => ?_) (fun h31 => ?_)
      · refine G.seq ?_
        refine G.region ?_
        refine G.op rfl (G.val rfl rfl (pv_move rfl) ?_)
        refine G.op rfl (G.val rfl rfl (pv_move rfl) ?_)
        refine G.op rfl (G.val rfl rfl (pv_subH (sz := 5) (k := i) Try.underlying22 (by kernel_rfl) rfl rfl rfl (by omega)) ?_)
        refine G.op rfl (G.val rfl rfl (pv_move rfl) ?_)
        refine G.op rfl (G.val rfl rfl (pv_move rfl) ?_)
        refine G.op rfl (G.val rfl rfl (pv_add64 rfl rfl (by omega)) ?_)
        refine G.op rfl (G.val rfl rfl (pv_move rfl) ?_)
        refine G.op rfl (G.val rfl rfl (pv_sub64 rfl rfl (by omega)) ?_)
        refine G.op rfl (G.appendMake (i := i) (c := xs.length + 1 - i) (sz := 5) (bytes := 72) (olds := flatT (xs.take i)) (z := [.string ⟨#[]⟩, .int .i64 0, .int .i64 0, .slice none 0 0, .string ⟨#[]⟩]) rfl Try.underlying22 Try.underlying3 (by kernel_rfl) rfl rfl rfl rfl (by omega) (blk_news (k := i * 5) (by (repeat (first | with_reducible exact Sel.here | exact Sel.here | apply Sel.there)); done) (flat_takeT (by omega))) (by rw [flatT_length, List.length_take]; omega) (by omega) (by omega) (by omega) (by omega) ?_)
        intro b40 cap4 sp2 hc4 hm4 hl4
        have hl6 : i * 5 + sp2.length = cap4 * 5 := by have := hl4; rw [List.length_append, flatT_length, List.length_take] at this; omega
        refine G.op rfl (G.val rfl rfl (pv_assign rfl) ?_)
        refine G.nil ?_
        refine G.nThen ?_
        refine G.seq ?_
        refine G.region ?_
        refine G.op rfl (G.val rfl rfl (pv_move rfl) ?_)
        refine G.op rfl (G.val rfl rfl (pv_move rfl) ?_)
        refine G.op rfl (G.val rfl rfl ((pv_subL (sz := 5) (k := i) Try.underlying22 (by kernel_rfl) rfl rfl rfl (by omega)).cast (v' := .slice (some ⟨b40, 0 + (i) * 5, none⟩) (i + (xs.length + 1 - i) - (i)) (cap4 - (i))) (by unfold subV; rw [if_neg (by omega), Option.map_some, addr_mid])) ?_)
        refine G.op rfl (G.val rfl rfl (pv_move rfl) ?_)
        refine G.op rfl (G.copyN (sz := 5) (b := b40) (o := 0 + (i) * 5) (news := evC x) rfl Try.underlying22 (by kernel_rfl) rfl rfl (by repeat (first | with_reducible exact Sel.here | exact Sel.here | apply Sel.there)) (ro_range (k := 5) hb0 rfl) (by rw [evC_length, show ∀ a b : Nat, Nat.min a b = min a b from fun _ _ => rfl]; omega) (evC_one hx1) (by rw [evC_length, hl4]; omega) ?_)
        refine G.nil ?_
        refine G.nThen ?_
        refine G.seq ?_
        refine G.drawT (nn := 9) (p := [blk b40 _ _]) (rem := 511) [0, 0, 0, 6, 9, 0, 0, 96, 144] [0, 0, 0, 6, 9, 0, 0, 96, 144] (by kernel_rfl) ⟨rfl, by kernel_rfl, by kernel_rfl⟩ (by repeat (first | exact Sub.nil | (apply Sub.cons; (repeat (first | with_reducible exact Sel.here | exact Sel.here | apply Sel.there))))) (by kernel_rfl) (fun hT11 => ?_)
        refine G.takeT hT11 (i := 0) (rem' := 510) rfl rfl rfl (by kernel_rfl) (fun _ _ _ h => h) rfl (pv_move rfl) (by repeat (first | exact Sub.nil | (apply Sub.cons; (repeat (first | with_reducible exact Sel.here | exact Sel.here | apply Sel.there))))) ?_
        refine G.takeT hT11 (i := 1) (rem' := 508) rfl rfl rfl (by kernel_rfl) (fun _ _ _ h => h) rfl (pv_move rfl) (by repeat (first | exact Sub.nil | (apply Sub.cons; (repeat (first | with_reducible exact Sel.here | exact Sel.here | apply Sel.there))))) ?_
        refine G.takeT hT11 (i := 2) (rem' := 504) rfl rfl rfl (by kernel_rfl) (fun _ _ _ h => h) rfl (pv_move rfl) (by repeat (first | exact Sub.nil | (apply Sub.cons; (repeat (first | with_reducible exact Sel.here | exact Sel.here | apply Sel.there))))) ?_
        refine G.takeT hT11 (i := 3) (rem' := 496) rfl rfl rfl (by kernel_rfl) (fun _ _ _ h => h) rfl (pv_add64 rfl rfl (by omega)) (by repeat (first | exact Sub.nil | (apply Sub.cons; (repeat (first | with_reducible exact Sel.here | exact Sel.here | apply Sel.there))))) ?_
        refine G.takeT hT11 (i := 4) (rem' := 480) rfl rfl rfl (by kernel_rfl) (fun _ _ _ h => h) rfl ((pv_subL (sz := 5) (k := i + 1) Try.underlying22 (by kernel_rfl) rfl rfl rfl (by omega)).cast (v' := .slice (some ⟨b40, 0 + (i + 1) * 5, none⟩) (i + (xs.length + 1 - i) - (i + 1)) (cap4 - (i + 1))) (by unfold subV; rw [if_neg (by omega), Option.map_some, addr_mid])) (by repeat (first | exact Sub.nil | (apply Sub.cons; (repeat (first | with_reducible exact Sel.here | exact Sel.here | apply Sel.there))))) ?_
        refine G.takeT hT11 (i := 5) (rem' := 448) rfl rfl rfl (by kernel_rfl) (fun _ _ _ h => h) rfl (pv_move rfl) (by repeat (first | exact Sub.nil | (apply Sub.cons; (repeat (first | with_reducible exact Sel.here | exact Sel.here | apply Sel.there))))) ?_
        refine G.takeT hT11 (i := 6) (rem' := 384) rfl rfl rfl (by kernel_rfl) (fun _ _ _ h => h) rfl (pv_move rfl) (by repeat (first | exact Sub.nil | (apply Sub.cons; (repeat (first | with_reducible exact Sel.here | exact Sel.here | apply Sel.there))))) ?_
        refine G.takeT hT11 (i := 7) (rem' := 256) rfl rfl rfl (by kernel_rfl) (fun _ _ _ h => h) rfl ((pv_subL (sz := 5) (k := i) Try.underlying22 (by kernel_rfl) rfl rfl rfl (by omega)).cast (v' := .slice (some ⟨g, 0 + (i) * 5, none⟩) (xs.length - (i)) (c3 - (i))) (by unfold subV; rw [if_neg (by omega), Option.map_some, addr_mid])) (by repeat (first | exact Sub.nil | (apply Sub.cons; (repeat (first | with_reducible exact Sel.here | exact Sel.here | apply Sel.there))))) ?_
        refine G.oneT hT11 (i := 8) (rem' := 0) (by kernel_rfl) (by kernel_rfl) ?_
        refine G.turnOp rfl rfl (G.copyN (sz := 5) (b := b40) (o := 0 + (i + 1) * 5) (news := flatT (xs.drop i)) rfl Try.underlying22 (by kernel_rfl) rfl rfl (by repeat (first | with_reducible exact Sel.here | exact Sel.here | apply Sel.there)) (blk_news (k := (xs.length - i) * 5) (by (repeat (first | with_reducible exact Sel.here | exact Sel.here | apply Sel.there)); done) (flat_dropT (by omega))) (by rw [flatT_length, List.length_drop, show ∀ a b : Nat, Nat.min a b = min a b from fun _ _ => rfl]; omega) (flatT_one' fun y hy => hys y (List.mem_of_mem_drop hy)) (by rw [putN_len, hl4, flatT_length, List.length_drop]; omega) ?_)
        refine G.back (by repeat (first | exact Sub.nil | (apply Sub.cons; (repeat (first | with_reducible exact Sel.here | exact Sel.here | apply Sel.there))))) ?_
        refine G.overT hT11 (by kernel_rfl) ?_
        refine G.nThen ?_
        refine G.seq ?_
        refine G.region ?_
        refine G.op rfl (G.val rfl rfl (pv_move rfl) ?_)
        refine G.op rfl (G.val rfl rfl (pv_assign rfl) ?_)
        refine G.nil ?_
        refine G.nThen ?_
        refine G.ret ?_
        refine G.rThen ?_
        obtain ⟨sp', he, hle⟩ := ins_new (sp := sp2) hlt (by omega) x
        rw [he]
        refine G.ownOf (sz := 5) (k := (insT xs i x).length) (cs := flatT (insT xs i x)) (sp := sp') (cap := cap4) (by repeat (first | with_reducible exact Sel.here | exact Sel.here | apply Sel.there)) (flatT_length _) (by rw [insT_length (by omega)]; omega) hm4 (by rw [hle]; exact hl4) ?_
        exact G.doneX1 (.slice (some ⟨b40, 0, none⟩) (insT xs i x).length cap4) (by first | exact trivial | ((try dsimp only); exact trivial)) rfl rfl (by rw [insT_length (by omega), show i + (xs.length + 1 - i) = xs.length + 1 by omega]) (by repeat (first | exact Sub.nil | (apply Sub.cons; (repeat (first | with_reducible exact Sel.here | exact Sel.here | apply Sel.there)))))
      · refine G.skip ?_
        refine G.nThen ?_
        refine G.seq ?_
        refine G.region ?_
        refine G.op rfl (G.val rfl rfl (pv_move rfl) ?_)
        refine G.op rfl (G.val rfl rfl (pv_move rfl) ?_)
        refine G.op rfl (G.val rfl rfl (pv_move rfl) ?_)
        refine G.op rfl (G.val rfl rfl (pv_add64 rfl rfl (by omega)) ?_)
        refine G.op rfl (G.val rfl rfl (pv_subH (sz := 5) (k := xs.length + 1) Try.underlying22 (by kernel_rfl) rfl rfl rfl (by omega)) ?_)
        refine G.op rfl (G.val rfl rfl (pv_assign rfl) ?_)
        refine G.nil ?_
        refine G.nThen ?_
        refine G.seq ?_
        refine G.seq ?_
        refine G.region ?_
        refine G.op rfl (G.val rfl rfl (pv_move rfl) ?_)
        refine G.op rfl (G.val rfl rfl (pv_move rfl) ?_)
        refine G.op rfl (G.val rfl rfl (pv_move rfl) ?_)
        refine G.op rfl (G.val rfl rfl (pv_move rfl) ?_)
        refine G.op rfl (G.val rfl rfl (pv_add64 rfl rfl (by omega)) ?_)
        refine G.op rfl (G.val rfl rfl ((pv_subL (sz := 5) (k := i + 1) Try.underlying22 (by kernel_rfl) rfl rfl rfl (by omega)).cast (v' := .slice (some ⟨g, 0 + (i + 1) * 5, none⟩) (xs.length + 1 - (i + 1)) (c3 - (i + 1))) (by unfold subV; rw [if_neg (by omega), Option.map_some, addr_mid])) ?_)
        refine G.op rfl (G.val rfl rfl (pv_overlaps (sz := 5) (r1' := []) (r2' := []) (tS := 22) (tR := 4) (T1 := 31) (c1 := evC x) (T2 := 31) (c2 := flatT xs ++ sp) (b1 := b) (b2 := g) Try.func73 (by kernel_rfl) (by kernel_rfl) (by kernel_rfl) (by kernel_rfl) Try.underlying22 (by kernel_rfl) rfl rfl (fun w hw => hb0.at hw) (blk_heap (by repeat (first | with_reducible exact Sel.here | exact Sel.here | apply Sel.there))) (ro_ne hb0 (by repeat (first | with_reducible exact Sel.here | exact Sel.here | apply Sel.there))) (by rw [hl]; omega)) ?_)
        refine G.op rfl (G.val rfl rfl ((pv_not rfl).cast (v' := .bool true) rfl) ?_)
        refine G.nil ?_
        refine G.nThen ?_
        refine G.condT rfl (rfl) ?_
        refine G.seq ?_
        refine G.drawT (nn := 9) (p := [blk g _ _]) (rem := 511) [0, 0, 0, 6, 9, 0, 0, 96, 144] [0, 0, 0, 6, 9, 0, 0, 96, 144] (by kernel_rfl) ⟨rfl, by kernel_rfl, by kernel_rfl⟩ (by repeat (first | exact Sub.nil | (apply Sub.cons; (repeat (first | with_reducible exact Sel.here | exact Sel.here | apply Sel.there))))) (by kernel_rfl) (fun hT15 => ?_)
        refine G.takeT hT15 (i := 0) (rem' := 510) rfl rfl rfl (by kernel_rfl) (fun _ _ _ h => h) rfl (pv_move rfl) (by repeat (first | exact Sub.nil | (apply Sub.cons; (repeat (first | with_reducible exact Sel.here | exact Sel.here | apply Sel.there))))) ?_
        refine G.takeT hT15 (i := 1) (rem' := 508) rfl rfl rfl (by kernel_rfl) (fun _ _ _ h => h) rfl (pv_move rfl) (by repeat (first | exact Sub.nil | (apply Sub.cons; (repeat (first | with_reducible exact Sel.here | exact Sel.here | apply Sel.there))))) ?_
        refine G.takeT hT15 (i := 2) (rem' := 504) rfl rfl rfl (by kernel_rfl) (fun _ _ _ h => h) rfl (pv_move rfl) (by repeat (first | exact Sub.nil | (apply Sub.cons; (repeat (first | with_reducible exact Sel.here | exact Sel.here | apply Sel.there))))) ?_
        refine G.takeT hT15 (i := 3) (rem' := 496) rfl rfl rfl (by kernel_rfl) (fun _ _ _ h => h) rfl (pv_add64 rfl rfl (by omega)) (by repeat (first | exact Sub.nil | (apply Sub.cons; (repeat (first | with_reducible exact Sel.here | exact Sel.here | apply Sel.there))))) ?_
        refine G.takeT hT15 (i := 4) (rem' := 480) rfl rfl rfl (by kernel_rfl) (fun _ _ _ h => h) rfl ((pv_subL (sz := 5) (k := i + 1) Try.underlying22 (by kernel_rfl) rfl rfl rfl (by omega)).cast (v' := .slice (some ⟨g, 0 + (i + 1) * 5, none⟩) (xs.length + 1 - (i + 1)) (c3 - (i + 1))) (by unfold subV; rw [if_neg (by omega), Option.map_some, addr_mid])) (by repeat (first | exact Sub.nil | (apply Sub.cons; (repeat (first | with_reducible exact Sel.here | exact Sel.here | apply Sel.there))))) ?_
        refine G.takeT hT15 (i := 5) (rem' := 448) rfl rfl rfl (by kernel_rfl) (fun _ _ _ h => h) rfl (pv_move rfl) (by repeat (first | exact Sub.nil | (apply Sub.cons; (repeat (first | with_reducible exact Sel.here | exact Sel.here | apply Sel.there))))) ?_
        refine G.takeT hT15 (i := 6) (rem' := 384) rfl rfl rfl (by kernel_rfl) (fun _ _ _ h => h) rfl (pv_move rfl) (by repeat (first | exact Sub.nil | (apply Sub.cons; (repeat (first | with_reducible exact Sel.here | exact Sel.here | apply Sel.there))))) ?_
        refine G.takeT hT15 (i := 7) (rem' := 256) rfl rfl rfl (by kernel_rfl) (fun _ _ _ h => h) rfl ((pv_subL (sz := 5) (k := i) Try.underlying22 (by kernel_rfl) rfl rfl rfl (by omega)).cast (v' := .slice (some ⟨g, 0 + (i) * 5, none⟩) (xs.length + 1 - (i)) (c3 - (i))) (by unfold subV; rw [if_neg (by omega), Option.map_some, addr_mid])) (by repeat (first | exact Sub.nil | (apply Sub.cons; (repeat (first | with_reducible exact Sel.here | exact Sel.here | apply Sel.there))))) ?_
        refine G.oneT hT15 (i := 8) (rem' := 0) (by kernel_rfl) (by kernel_rfl) ?_
        refine G.turnOp rfl rfl (G.copyN (sz := 5) (b := g) (o := 0 + (i + 1) * 5) (news := flatT (xs.drop i)) rfl Try.underlying22 (by kernel_rfl) rfl rfl (by repeat (first | with_reducible exact Sel.here | exact Sel.here | apply Sel.there)) (blk_news (k := (xs.length - i) * 5) (by (repeat (first | with_reducible exact Sel.here | exact Sel.here | apply Sel.there)); done) (flat_dropT (by omega))) (by rw [flatT_length, List.length_drop, show ∀ a b : Nat, Nat.min a b = min a b from fun _ _ => rfl]; omega) (flatT_one' fun y hy => hys y (List.mem_of_mem_drop hy)) (by rw [hl, flatT_length, List.length_drop]; omega) ?_)
        refine G.back (by repeat (first | exact Sub.nil | (apply Sub.cons; (repeat (first | with_reducible exact Sel.here | exact Sel.here | apply Sel.there))))) ?_
        refine G.overT hT15 (by kernel_rfl) ?_
        refine G.nThen ?_
        refine G.seq ?_
        refine G.region ?_
        refine G.op rfl (G.val rfl rfl (pv_move rfl) ?_)
        refine G.op rfl (G.val rfl rfl (pv_move rfl) ?_)
        refine G.op rfl (G.val rfl rfl ((pv_subL (sz := 5) (k := i) Try.underlying22 (by kernel_rfl) rfl rfl rfl (by omega)).cast (v' := .slice (some ⟨g, 0 + (i) * 5, none⟩) (xs.length + 1 - (i)) (c3 - (i))) (by unfold subV; rw [if_neg (by omega), Option.map_some, addr_mid])) ?_)
        refine G.op rfl (G.val rfl rfl (pv_move rfl) ?_)
        refine G.op rfl (G.copyN (sz := 5) (b := g) (o := 0 + (i) * 5) (news := evC x) rfl Try.underlying22 (by kernel_rfl) rfl rfl (by repeat (first | with_reducible exact Sel.here | exact Sel.here | apply Sel.there)) (ro_range (k := 5) hb0 rfl) (by rw [evC_length, show ∀ a b : Nat, Nat.min a b = min a b from fun _ _ => rfl]; omega) (evC_one hx1) (by rw [evC_length, putN_len, hl]; omega) ?_)
        refine G.nil ?_
        refine G.nThen ?_
        refine G.seq ?_
        refine G.region ?_
        refine G.op rfl (G.val rfl rfl (pv_move rfl) ?_)
        refine G.op rfl (G.val rfl rfl (pv_assign rfl) ?_)
        refine G.nil ?_
        refine G.nThen ?_
        refine G.ret ?_
        refine G.rThen ?_
        obtain ⟨sp', he, hle⟩ := ins_place (sp := sp) hlt (by omega) x
        rw [he]
        refine G.ownOf (sz := 5) (k := (insT xs i x).length) (cs := flatT (insT xs i x)) (sp := sp') (cap := c3) (by repeat (first | with_reducible exact Sel.here | exact Sel.here | apply Sel.there)) (flatT_length _) (by rw [insT_length (by omega)]; omega) hmx (by rw [hle]; exact hl) ?_
        exact G.doneX1 (.slice (some ⟨g, 0, none⟩) (insT xs i x).length c3) (by first | exact trivial | ((try dsimp only); exact trivial)) rfl rfl (by rw [insT_length (by omega)]) (by repeat (first | exact Sub.nil | (apply Sub.cons; (repeat (first | with_reducible exact Sel.here | exact Sel.here | apply Sel.there)))))
end Go.Proofs.Ytchgaedidfefoaa

/- Contracts of layer 8: Put. Conditions: the trees are of at most a thousand entries. -/
set_option linter.unusedVariables false
set_option linter.unusedSimpArgs false
namespace Go.Proofs.Ytchgaedidfefoaa
open Go.RowKit

/-- what an entry's path being there makes of the list -/
def putT (xs : List ET) (x : ET) : List ET := if isAt (ens xs) x.1.path then xs.set (placeK (ens xs) x.1.path) x else insT xs (placeK (ens xs) x.1.path) x
theorem ens_insT (xs : List ET) (i : Nat) (x : ET) : ens (insT xs i x) = (ens xs).take i ++ [x.1] ++ (ens xs).drop i := by
  unfold insT ens
  simp [List.map_append, List.map_take, List.map_drop]
theorem putT_ens {xs : List ET} {x : ET} (hs : SortT (ens xs)) : ens (putT xs x) = putL (ens xs) x.1 := by
  unfold putT putL restL
  by_cases ha : isAt (ens xs) x.1.path
  · rw [if_pos ha, if_pos ha]
    obtain ⟨hk, _⟩ := placeK_spec hs ha
    obtain ⟨k, hk2⟩ : ∃ k, placeK (ens xs) x.1.path = k := ⟨_, rfl⟩
    simp only [hk2] at hk ⊢
    unfold ens at hk ⊢
    rw [List.map_set, List.set_eq_take_append_cons_drop, if_pos hk]
    simp
  · rw [if_neg ha, if_neg ha, ens_insT]
theorem putT_mem {xs : List ET} {x y : ET} (h : y ∈ putT xs x) : y = x ∨ y ∈ xs := by
  unfold putT at h
  split at h
  · rcases List.mem_or_eq_of_mem_set h with h | h
    · exact .inr h
    · exact .inl h
  · unfold insT at h
    rcases List.mem_append.1 h with h | h
    · rcases List.mem_append.1 h with h | h
      · exact .inr (List.mem_of_mem_take h)
      · exact .inl (by simpa using h)
    · exact .inr (List.mem_of_mem_drop h)
theorem Ro.wide {w0 : World} {S Pa Pb : Nat → Prop} {v : Value} {a : List UInt8} (h : Ro w0 S (slc rByte Pa v a)) (hb : ∀ k, Pb k → k < w0.heap.size ∧ ¬ S k) : Ro w0 S (slc rByte (fun k => Pa k ∨ Pb k) v a) := ⟨(show IsSl rByte Pa w0 v a from h.1).mono fun k hk => .inl hk, fun k hk => hk.elim (h.2 k) (hb k)⟩
theorem Ro.wideR {w0 : World} {S Pa Pb : Nat → Prop} {v : Value} {a : List UInt8} (h : Ro w0 S (slc rByte Pb v a)) (hb : ∀ k, Pa k → k < w0.heap.size ∧ ¬ S k) : Ro w0 S (slc rByte (fun k => Pa k ∨ Pb k) v a) := ⟨(show IsSl rByte Pb w0 v a from h.1).mono fun k hk => .inr hk, fun k hk => hk.elim (hb k) (h.2 k)⟩
end Go.Proofs.Ytchgaedidfefoaa

/- Contracts of layer 8: Put, the walk. Conditions: the trees are of at most a thousand entries. -/
set_option linter.unusedVariables false
set_option linter.unusedSimpArgs false
namespace Go.Proofs.Ytchgaedidfefoaa
open Go.RowKit

set_option maxRecDepth 20000 in
set_option maxHeartbeats 4000000 in

theorem put_tr {Ps Pd : Nat → Prop} (v : Value) (xs : List ET) (e : En) (d : Value) (hok : EnOk e) : Tr Try.prog 30 #[v, .agg #[.string (sB e.path), .int .i64 e.kind, .int .i64 e.mode, d, .string (sB e.to)]] [slc rEV Ps v xs, slc rByte Pd d e.data] []
    (TX (fun z : Value × List ET => ens z.2 = (putM (ens xs) e).1) (fun z => .tuple #[z.1, .int .i64 (putM (ens xs) e).2]) (fun z => [ownT 31 z.1 z.2, datC 5 z.2])) := by
  refine Tr.of (l := [(0, v), (1, .agg #[.string (sB e.path), .int .i64 e.kind, .int .i64 e.mode, d, .string (sB e.to)])]) Try.func30 rfl (n := 50) rfl (.cons rfl (.cons rfl .nil)) (fun w0 hro => ?_)
  obtain ⟨hv0, hd0⟩ := ro2 hro
  have hv := hv0
  have hv' := hv
  obtain ⟨av, cv, bv, fv, rfl, hcapv, hmaxv, hnilv, hadv, helv⟩ := Ro.openT hv
  have hlx := ens_length xs
  have hd1 := Ro.one1 hd0
  obtain ⟨hok1, hok2, hok3, hok4, hok5⟩ := id hok
  have hokp : ∀ x ∈ putT xs (e, d), EnOk x.1 := fun x hx => by rcases putT_mem hx with h | h; rw [h]; exact hok; exact Ro.allOk helv x h
  have hPp : ∀ b, (Ps b ∨ Pd b) → b < w0.heap.size ∧ ¬ (U []) b := fun b hb => hb.elim (hv0.2 b) (hd0.2 b)
  have hdp : ∀ x ∈ putT xs (e, d), Ro w0 (U []) (slc rByte (fun k => Ps k ∨ Pd k) x.2 x.1.data) := fun x hx => by rcases putT_mem hx with h | h; rw [h]; exact Ro.wideR hd0 hv0.2; exact Ro.wide (Ro.allDat helv x h) hd0.2
  refine G.seq ?_
  refine G.region ?_
  refine G.op rfl (G.box rfl rfl (cs := [_, _, _, _, _]) rfl ?_)
  intro b3
  refine G.op rfl (G.val rfl rfl (pv_assign rfl) ?_)
  refine G.op rfl (G.val rfl rfl (pv_assign rfl) ?_)
  refine G.nil ?_
  refine G.nThen ?_
  refine G.seq ?_
  refine G.seq ?_
  refine G.region ?_
  refine G.op rfl (G.val rfl rfl (pv_move rfl) ?_)
  refine G.op rfl (G.cR rfl rfl rfl rfl Try.func11 rfl rfl (may1 (by first | (apply May.old; first | with_reducible assumption | assumption) | (apply Sel.may; (repeat (first | with_reducible exact Sel.here | exact Sel.here | apply Sel.there)); done) | (apply may_own; (repeat (first | with_reducible exact Sel.here | exact Sel.here | apply Sel.there)); exact rfl; exact (fun _ _ => trivial); done) | (apply may_ownB; (repeat (first | with_reducible exact Sel.here | exact Sel.here | apply Sel.there)); done) | (apply may_tree; (repeat (first | with_reducible exact Sel.here | exact Sel.here | apply Sel.there)); (repeat (first | with_reducible exact Sel.here | exact Sel.here | apply Sel.there)); assumption; done))) (tcheck_tr _ _) ?_)
  refine G.op rfl (G.val rfl rfl (pv_move rfl) ?_)
  refine G.op rfl (G.val rfl rfl (pv_extract rfl rfl) ?_)
  refine G.op rfl (G.val rfl rfl (pv_extract rfl rfl) ?_)
  refine G.op rfl (G.val rfl rfl (pv_assign rfl) ?_)
  refine G.op rfl (G.val rfl rfl (pv_assign rfl) ?_)
  refine G.nil ?_
  refine G.nThen ?_
  refine G.seq ?_
  refine G.region ?_
  refine G.op rfl (G.val rfl rfl (pv_move rfl) ?_)
  refine G.op rfl (G.val rfl rfl (pv_neq rfl rfl) ?_)
  refine G.nil ?_
  refine G.nThen ?_
  refine G.condP rfl (fun h19 => ?_) (fun h19 => ?_)
  · have hbad := put_bad (e := e) h19
    refine G.seq ?_
    refine G.region ?_
    refine G.op rfl (G.val rfl rfl (pv_move rfl) ?_)
    refine G.op rfl (G.val rfl rfl (pv_assign rfl) ?_)
    refine G.op rfl (G.val rfl rfl (pv_assign rfl) ?_)
    refine G.nil ?_
    refine G.nThen ?_
    refine G.ret ?_
    refine G.rThen ?_
    refine G.datNil 5 ?_
    refine G.ownNil 31 5 ?_
    exact G.doneX2 ((.slice none 0 0, [])) (by first | exact trivial | ((try dsimp only); exact (by rw [hbad]; rfl))) rfl rfl rfl (by rw [hbad]; first | done | rfl) (by repeat (first | exact Sub.nil | (apply Sub.cons; (repeat (first | with_reducible exact Sel.here | exact Sel.here | apply Sel.there)))))
  · have hx0 : (checkT (ens xs)).1 = 0 := Decidable.of_not_not (by assumption)
    obtain ⟨hx1, hx2, -⟩ := checkT_zero hx0
    have hsx := sort_all hx2
    have hpe : ens (putT xs (e, d)) = putL (ens xs) e := putT_ens hsx
    refine G.skip ?_
    refine G.nThen ?_
    refine G.seq ?_
    refine G.region ?_
    refine G.op rfl (G.val rfl rfl (pv_move rfl) ?_)
    refine G.op rfl (G.val rfl rfl (pv_fieldAddrK (sz := 0) (k := 0) Try.underlying31 rfl (by kernel_rfl) rfl rfl) ?_)
    refine G.op rfl (G.val rfl rfl (pv_load Try.underlying9 rfl rfl (by first | exact blk_cell (by (repeat (first | with_reducible exact Sel.here | exact Sel.here | apply Sel.there)); done) (by rfl) | exact rng_cell (by (repeat (first | with_reducible exact Sel.here | exact Sel.here | apply Sel.there)); done) (by rfl) | exact ro_blk (by assumption) (by rfl) | exact ro_rngC (by assumption) (by rfl) | exact ro_int (by assumption) | exact ro_byte (by assumption) | exact ro_str (by assumption) | with_reducible assumption | assumption)) ?_)
    refine G.op rfl (G.cR rfl rfl rfl rfl Try.func40 rfl rfl (may1 (by first | (apply May.old; first | with_reducible assumption | assumption) | (apply Sel.may; (repeat (first | with_reducible exact Sel.here | exact Sel.here | apply Sel.there)); done) | (apply may_own; (repeat (first | with_reducible exact Sel.here | exact Sel.here | apply Sel.there)); exact rfl; exact (fun _ _ => trivial); done) | (apply may_ownB; (repeat (first | with_reducible exact Sel.here | exact Sel.here | apply Sel.there)); done) | (apply may_tree; (repeat (first | with_reducible exact Sel.here | exact Sel.here | apply Sel.there)); (repeat (first | with_reducible exact Sel.here | exact Sel.here | apply Sel.there)); assumption; done))) (place_tr _ xs _ (by omega) hsx (by omega)) ?_)
    refine G.op rfl (G.val rfl rfl (pv_move rfl) ?_)
    refine G.op rfl (G.val rfl rfl (pv_extract rfl rfl) ?_)
    refine G.op rfl (G.val rfl rfl (pv_extract rfl rfl) ?_)
    refine G.op rfl (G.val rfl rfl (pv_assign rfl) ?_)
    refine G.op rfl (G.val rfl rfl (pv_assign rfl) ?_)
    refine G.nil ?_
    refine G.nThen ?_
    refine G.seq ?_
    refine G.region ?_
    refine G.op rfl (G.val rfl rfl (pv_move rfl) ?_)
    refine G.op rfl (G.cS rfl rfl rfl rfl Try.func55 rfl rfl (by repeat (first | exact Sub.nil | (apply Sub.cons; (repeat (first | with_reducible exact Sel.here | exact Sel.here | apply Sel.there))))) (may1 (by first | (apply May.old; first | with_reducible assumption | assumption) | (apply Sel.may; (repeat (first | with_reducible exact Sel.here | exact Sel.here | apply Sel.there)); done) | (apply may_own; (repeat (first | with_reducible exact Sel.here | exact Sel.here | apply Sel.there)); exact rfl; exact (fun _ _ => trivial); done) | (apply may_ownB; (repeat (first | with_reducible exact Sel.here | exact Sel.here | apply Sel.there)); done) | (apply may_tree; (repeat (first | with_reducible exact Sel.here | exact Sel.here | apply Sel.there)); (repeat (first | with_reducible exact Sel.here | exact Sel.here | apply Sel.there)); assumption; done))) (cloneE_tr _ _ (by omega)) (by repeat (first | exact Ap.nil | apply Ap.cons)) ?_)
    intro x29 hJ
    try dsimp only at hJ
    try dsimp only
    refine G.op rfl (G.val rfl rfl (pv_assign rfl) ?_)
    refine G.nil ?_
    refine G.nThen ?_
    refine G.seq ?_
    refine G.cutK (X := Value) (ts := [4, 5]) (p := [ownT 31 x29 _]) (fun vo => True) (fun vo => [(10, vo)]) (fun vo => [ownT 31 vo (putT xs (e, d))]) (.cons rfl (.cons rfl .nil)) (by repeat (first | exact Sub.nil | (apply Sub.cons; (repeat (first | with_reducible exact Sel.here | exact Sel.here | apply Sel.there))))) (.cons .nil) (by repeat (first | exact Ap.nil | apply Ap.cons)) ?_ ?_
    · refine G.seq ?_
      refine G.region ?_
      refine G.op rfl (G.val rfl rfl (pv_move rfl) ?_)
      refine G.nil ?_
      refine G.nThen ?_
      refine G.condP rfl (fun h30 => ?_) (fun h30 => ?_)
      · have hat : isAt (ens xs) e.path := by assumption
        obtain ⟨hkl, hkp⟩ := placeK_spec hsx hat
        have hpt : putT xs (e, d) = xs.set (placeK (ens xs) e.path) (e, d) := if_pos hat
        obtain ⟨k, hk⟩ : ∃ k, placeK (ens xs) e.path = k := ⟨_, rfl⟩
        simp only [hk] at hkl hpt
        rw [hk]
        rw [show ownT 31 x29 xs = own 31 5 x29 xs.length (flatT xs) from rfl]
        refine G.ownTo (v := x29) (by repeat (first | with_reducible exact Sel.here | exact Sel.here | apply Sel.there)) (by omega) (fun g cap sp hvv hkc hmx hl hlen => ?_)
        subst hvv
        refine G.region ?_
        refine G.op rfl (G.val rfl rfl (pv_move rfl) ?_)
        refine G.op rfl (G.val rfl rfl (pv_move rfl) ?_)
        refine G.op rfl (G.val rfl rfl (pv_loadN (cs := [_, _, _, _, _]) Try.underlying31 rfl (by kernel_rfl) rfl (by first | exact blk_range (k := 5) (by (repeat (first | with_reducible exact Sel.here | exact Sel.here | apply Sel.there)); done) (by rfl) | exact ro_rng0 (by assumption) | exact rng_range (k := 5) (by (repeat (first | with_reducible exact Sel.here | exact Sel.here | apply Sel.there)); done) (by rfl) | exact ro_range (k := 5) (by assumption) (by rfl) | exact ro_rngR (k := 5) (by assumption) (by rfl))) ?_)
        refine G.op rfl (G.val rfl rfl (pv_ixSl (sz := 5) (k := k) Try.underlying22 (by kernel_rfl) rfl rfl (fun _ => rfl) (by omega) (by omega)) ?_)
        refine G.op rfl (G.storeN (vs := evC (e, d)) (by kernel_rfl) rfl rfl (by exact (all1_cons rfl (all1_cons rfl (all1_cons rfl (all1_cons hd1 (all1_cons rfl all1_nil)))))) (by repeat (first | with_reducible exact Sel.here | exact Sel.here | apply Sel.there)) (by rw [evC_length, List.length_append, flatT_length]; omega) ?_)
        rw [flat_put (show k < xs.length by omega), ← hpt]
        refine G.ownOf (sz := 5) (k := (putT xs (e, d)).length) (cs := flatT (putT xs (e, d))) (sp := sp) (cap := cap) (by repeat (first | with_reducible exact Sel.here | exact Sel.here | apply Sel.there)) (flatT_length _) (by rw [hpt, List.length_set]; omega) hmx (by rw [List.length_append, flatT_length, hpt, List.length_set]; rw [List.length_append, flatT_length] at hl; exact hl) ?_
        refine G.nil ?_
        exact G.meet ((.slice (some ⟨g, 0, none⟩) (putT xs (e, d)).length cap)) (by first | exact trivial | ((try dsimp only); exact trivial)) (.consE rfl (by rw [hpt, List.length_set]) (.cons rfl (.cons rfl .nil))) (by repeat (first | exact Sub.nil | (apply Sub.cons; (repeat (first | with_reducible exact Sel.here | exact Sel.here | apply Sel.there)))))
      · have hnat : ¬ isAt (ens xs) e.path := by assumption
        have hpt : putT xs (e, d) = insT xs (placeK (ens xs) e.path) (e, d) := if_neg hnat
        have hple : placeK (ens xs) e.path ≤ xs.length := by have := List.findIdx_le_length (p := fun q : En => ! decide (compareM q.path e.path < 0)) (xs := ens xs); rw [ens_length] at this; exact this
        rw [hpt]
        refine G.region ?_
        refine G.op rfl (G.val rfl rfl (pv_move rfl) ?_)
        refine G.op rfl (G.val rfl rfl (pv_move rfl) ?_)
        refine G.op rfl (G.val rfl rfl (pv_loadN (cs := [_, _, _, _, _]) Try.underlying31 rfl (by kernel_rfl) rfl (by first | exact blk_range (k := 5) (by (repeat (first | with_reducible exact Sel.here | exact Sel.here | apply Sel.there)); done) (by rfl) | exact ro_rng0 (by assumption) | exact rng_range (k := 5) (by (repeat (first | with_reducible exact Sel.here | exact Sel.here | apply Sel.there)); done) (by rfl) | exact ro_range (k := 5) (by assumption) (by rfl) | exact ro_rngR (k := 5) (by assumption) (by rfl))) ?_)
        refine G.op rfl (G.buildSlice (z := .agg #[.string ⟨#[]⟩, .int .i64 0, .int .i64 0, .slice none 0 0, .string ⟨#[]⟩]) (sz := 5) (cs := evC (e, d)) rfl Try.underlying22 (by kernel_rfl) (by decide) (by decide) rfl (by kernel_rfl) ?_)
        intro b38
        refine G.op rfl (G.cS rfl rfl rfl rfl Try.func56 rfl rfl (by repeat (first | exact Sub.nil | (apply Sub.cons; (repeat (first | with_reducible exact Sel.here | exact Sel.here | apply Sel.there))))) (may1 (by first | (apply May.old; first | with_reducible assumption | assumption) | (apply Sel.may; (repeat (first | with_reducible exact Sel.here | exact Sel.here | apply Sel.there)); done) | (apply may_own; (repeat (first | with_reducible exact Sel.here | exact Sel.here | apply Sel.there)); exact rfl; exact (fun _ _ => trivial); done) | (apply may_ownB; (repeat (first | with_reducible exact Sel.here | exact Sel.here | apply Sel.there)); done) | (apply may_tree; (repeat (first | with_reducible exact Sel.here | exact Sel.here | apply Sel.there)); (repeat (first | with_reducible exact Sel.here | exact Sel.here | apply Sel.there)); assumption; done))) (ins_tr _ xs (placeK (ens xs) e.path) b38 (e, d) hple (by omega) hd1 (fun y hy => (Ro.allEO (P := Try.prog) helv y hy).2)) (by repeat (first | exact Ap.nil | apply Ap.cons)) ?_)
        intro x39 hJ
        try dsimp only at hJ
        try dsimp only
        refine G.op rfl (G.val rfl rfl (pv_assign rfl) ?_)
        refine G.nil ?_
        exact G.meet (x39) (by first | exact trivial | ((try dsimp only); exact trivial)) (.consE rfl (by first | rfl | exact int_eq (by first | omega | (dsimp only; omega)) | exact congrArg _ (by omega)) (.cons rfl (.cons rfl .nil))) (by repeat (first | exact Sub.nil | (apply Sub.cons; (repeat (first | with_reducible exact Sel.here | exact Sel.here | apply Sel.there)))))
    · intro vo hJ
      try dsimp only at hJ
      try dsimp only
      refine G.seq ?_
      refine G.seq ?_
      refine G.region ?_
      refine G.op rfl (G.val rfl rfl (pv_move rfl) ?_)
      refine G.op rfl (G.cR rfl rfl rfl rfl Try.func11 rfl rfl (may1 (may_treeR (by repeat (first | with_reducible exact Sel.here | exact Sel.here | apply Sel.there)) hokp hPp hdp)) (tcheck_tr _ (putT xs (e, d))) ?_)
      rw [hpe]
      refine G.op rfl (G.val rfl rfl (pv_move rfl) ?_)
      refine G.op rfl (G.val rfl rfl (pv_extract rfl rfl) ?_)
      refine G.op rfl (G.val rfl rfl (pv_extract rfl rfl) ?_)
      refine G.op rfl (G.val rfl rfl (pv_assign rfl) ?_)
      refine G.op rfl (G.val rfl rfl (pv_assign rfl) ?_)
      refine G.nil ?_
      refine G.nThen ?_
      refine G.seq ?_
      refine G.region ?_
      refine G.op rfl (G.val rfl rfl (pv_move rfl) ?_)
      refine G.op rfl (G.val rfl rfl (pv_neq rfl rfl) ?_)
      refine G.nil ?_
      refine G.nThen ?_
      refine G.condP rfl (fun h46 => ?_) (fun h46 => ?_)
      · have hbad2 := put_bad2 hx0 (by assumption)
        refine G.seq ?_
        refine G.region ?_
        refine G.op rfl (G.val rfl rfl (pv_move rfl) ?_)
        refine G.op rfl (G.val rfl rfl (pv_assign rfl) ?_)
        refine G.op rfl (G.val rfl rfl (pv_assign rfl) ?_)
        refine G.nil ?_
        refine G.nThen ?_
        refine G.ret ?_
        refine G.rThen ?_
        refine G.datNil 5 ?_
        refine G.ownNil 31 5 ?_
        exact G.doneX2 ((.slice none 0 0, [])) (by first | exact trivial | ((try dsimp only); exact (by rw [hbad2]; rfl))) rfl rfl rfl (by rw [hbad2]; first | done | rfl) (by repeat (first | exact Sub.nil | (apply Sub.cons; (repeat (first | with_reducible exact Sel.here | exact Sel.here | apply Sel.there)))))
      · have hgood := put_ok hx0 (Decidable.of_not_not (by assumption))
        have hcz : (checkT (putL (ens xs) e)).1 = 0 := Decidable.of_not_not (by assumption)
        have hpl : (putT xs (e, d)).length ≤ 200 := by have := (checkT_zero hcz).1; rw [← hpe, ens_length] at this; exact this
        refine G.skip ?_
        refine G.nThen ?_
        refine G.seq ?_
        refine G.region ?_
        refine G.op rfl (G.val rfl rfl (pv_move rfl) ?_)
        refine G.op rfl (G.cS rfl rfl rfl rfl Try.func41 rfl rfl (by repeat (first | exact Sub.nil | (apply Sub.cons; (repeat (first | with_reducible exact Sel.here | exact Sel.here | apply Sel.there))))) (may1 (may_treeR (by repeat (first | with_reducible exact Sel.here | exact Sel.here | apply Sel.there)) hokp hPp hdp)) (clone_tr _ (putT xs (e, d)) (by omega)) (by repeat (first | exact Ap.nil | apply Ap.cons)) ?_)
        intro x49 hJ
        obtain ⟨v', zs⟩ := x49
        try dsimp only at hJ
        try dsimp only
        refine G.op rfl (G.val rfl rfl (pv_assign rfl) ?_)
        refine G.op rfl (G.val rfl rfl (pv_assign rfl) ?_)
        refine G.nil ?_
        refine G.nThen ?_
        refine G.ret ?_
        exact G.doneX2 ((v', zs)) (by first | exact trivial | ((try dsimp only); exact (by rw [hgood, hJ, hpe]))) rfl rfl rfl (by rw [hgood]) (by repeat (first | exact Sub.nil | (apply Sub.cons; (repeat (first | with_reducible exact Sel.here | exact Sel.here | apply Sel.there)))))
end Go.Proofs.Ytchgaedidfefoaa

/- Layer 8's statements: TreePuts. Conditions: none. -/
set_option linter.unusedVariables false
set_option linter.unusedSimpArgs false
namespace Go.Proofs.Ytchgaedidfefoaa
open Go.RowKit

theorem put_len (es : List En) (e : En) : (putM es e).1.length ≤ 200 := by
  unfold putM
  split
  · split
    · exact (checkT_zero (by assumption)).1
    · exact Nat.zero_le _
  · exact Nat.zero_le _
theorem putL_mem {es : List En} {e x : En} (h : x ∈ putL es e) : x = e ∨ x ∈ es := by
  unfold putL restL at h
  rcases List.mem_append.1 h with h | h
  · rcases List.mem_append.1 h with h | h
    · exact .inr (List.mem_of_mem_take h)
    · exact .inl (by simpa using h)
  · split at h
    · exact .inr (List.mem_of_mem_drop h)
    · exact .inr (List.mem_of_mem_drop h)
theorem put_okE {es : List En} {e : En} (h : ∀ x ∈ es, EnOk x) (he : EnOk e) : ∀ x ∈ (putM es e).1, EnOk x := by
  unfold putM
  split
  · split
    · intro x hx
      rcases putL_mem hx with rfl | hx
      · exact he
      · exact h x hx
    · intro x hx
      cases hx
  · intro x hx
    cases hx
theorem drop_len (es : List En) (s : List UInt8) : (dropM es s).1.length ≤ es.length := by
  unfold dropM
  split
  · split
    · exact List.length_filter_le ..
    · exact Nat.zero_le _
  · exact Nat.zero_le _
theorem drop_okE {es : List En} {s : List UInt8} (h : ∀ x ∈ es, EnOk x) : ∀ x ∈ (dropM es s).1, EnOk x := by
  unfold dropM
  split
  · split
    · exact fun x hx => h x (List.mem_filter.1 hx).1
    · intro x hx
      cases hx
  · intro x hx
    cases hx
theorem ens_oneT {us : List ET} {e : En} {d : Value} (h : ens us = ens [(e, d)]) : ∃ d', us = [(e, d')] := by
  have hl := len_ens h
  match us, hl with
  | [(e', d')], _ =>
    obtain rfl : e' = e := (List.cons.inj h).1
    exact ⟨d', rfl⟩
set_option maxRecDepth 20000 in
set_option maxHeartbeats 4000000 in

theorem tputs {Ps Pd : Nat → Prop} (v : Value) (xs : List ET) (e : En) (d : Value) (s : List UInt8) (hok : EnOk e) (hs : s.length ≤ 9223372036854775807) : Tr Try.prog 6 #[v, .agg #[.string (sB e.path), .int .i64 e.kind, .int .i64 e.mode, d, .string (sB e.to)], .string (sB s)] [slc rEV Ps v xs, slc rByte Pd d e.data] [] (T0 (.bool true)) := by
  refine Tr.of (l := [(0, v), (1, .agg #[.string (sB e.path), .int .i64 e.kind, .int .i64 e.mode, d, .string (sB e.to)]), (2, .string (sB s))]) Try.func6 rfl (n := 99) rfl (.cons rfl (.cons rfl (.cons rfl .nil))) (fun w0 hro => ?_)
  obtain ⟨hv0, hd0⟩ := ro2 hro
  have hv := hv0
  have hv' := hv
  obtain ⟨av, cv, bv, fv, rfl, hcapv, hmaxv, hnilv, hadv, helv⟩ := Ro.openT hv
  have hlx := ens_length xs
  have hd1 := Ro.one1 hd0
  have hokl : ∀ x ∈ [(e, d)], EnOk x.1 := fun x hx => by obtain rfl : x = (e, d) := (by simpa using hx); exact hok
  have hdl : ∀ x ∈ [(e, d)], Ro w0 (U []) (slc rByte Pd x.2 x.1.data) := fun x hx => by obtain rfl : x = (e, d) := (by simpa using hx); exact hd0
  refine G.seq ?_
  refine G.region ?_
  refine G.op rfl (G.box rfl rfl (cs := [_, _, _, _, _]) rfl ?_)
  intro b4
  refine G.op rfl (G.val rfl rfl (pv_assign rfl) ?_)
  refine G.nil ?_
  refine G.nThen ?_
  refine G.seq ?_
  refine G.seq ?_
  refine G.cutK (X := Unit) (ts := [0, 2, 4, 6]) (p := []) (fun _ => True) (fun _ => [(29, .bool (decide (bigM (ens xs) 100 6000 ∨ bigM (ens [(e, d)]) 1 6000 ∨ 300 < s.length)))]) (fun _ => []) (.cons rfl (.cons rfl (.cons rfl (.cons rfl .nil)))) (by repeat (first | exact Sub.nil | (apply Sub.cons; (repeat (first | with_reducible exact Sel.here | exact Sel.here | apply Sel.there))))) (.cons .nil) (by repeat (first | exact Ap.nil | apply Ap.cons)) ?_ ?_
  · refine G.region ?_
    refine G.op rfl (G.val rfl rfl (pv_move rfl) ?_)
    refine G.op rfl (G.cR rfl rfl rfl rfl Try.func12 rfl rfl (may1 (by first | (apply May.old; first | with_reducible assumption | assumption) | (apply Sel.may; (repeat (first | with_reducible exact Sel.here | exact Sel.here | apply Sel.there)); done) | (apply may_own; (repeat (first | with_reducible exact Sel.here | exact Sel.here | apply Sel.there)); exact rfl; exact (fun _ _ => trivial); done) | (apply may_ownB; (repeat (first | with_reducible exact Sel.here | exact Sel.here | apply Sel.there)); done) | (apply may_tree; (repeat (first | with_reducible exact Sel.here | exact Sel.here | apply Sel.there)); (repeat (first | with_reducible exact Sel.here | exact Sel.here | apply Sel.there)); assumption; done))) (big_tr _ _ _ _ (by omega)) ?_)
    refine G.op rfl (G.val rfl rfl (pv_move rfl) ?_)
    refine G.partP (t := 20) rfl (fun h20 => ?_) (fun h20 => ?_)
    · refine G.pass rfl rfl rfl rfl rfl rfl ?_
      refine G.pass rfl rfl rfl rfl rfl rfl ?_
      refine G.pass rfl rfl rfl rfl rfl rfl ?_
      refine G.op rfl (G.val rfl rfl (pv_pick rfl rfl) ?_)
      refine G.op rfl (G.val rfl rfl (pv_move rfl) ?_)
      refine G.pass rfl rfl rfl rfl rfl rfl ?_
      refine G.pass rfl rfl rfl rfl rfl rfl ?_
      refine G.pass rfl rfl rfl rfl rfl rfl ?_
      refine G.op rfl (G.val rfl rfl (pv_pick rfl rfl) ?_)
      refine G.nil ?_
      exact G.meet (()) (by first | exact trivial | ((try dsimp only); exact trivial)) (.consE rfl (by first | exact dec_t (.inl (by assumption)) | exact dec_t (.inr (.inl (by assumption))) | exact dec_e ⟨fun h => .inr (.inr (by omega)), fun h => by rcases h with h | h | h; exact absurd h (by assumption); exact absurd h (by assumption); omega⟩) (.cons rfl (.cons rfl (.cons rfl (.cons rfl .nil))))) (by repeat (first | exact Sub.nil | (apply Sub.cons; (repeat (first | with_reducible exact Sel.here | exact Sel.here | apply Sel.there)))))
    · refine G.want rfl rfl rfl (G.val rfl rfl (pv_loadN (cs := [_, _, _, _, _]) Try.underlying31 rfl (by kernel_rfl) rfl (by first | exact blk_range (k := 5) (by (repeat (first | with_reducible exact Sel.here | exact Sel.here | apply Sel.there)); done) (by rfl) | exact ro_rng0 (by assumption) | exact rng_range (k := 5) (by (repeat (first | with_reducible exact Sel.here | exact Sel.here | apply Sel.there)); done) (by rfl) | exact ro_range (k := 5) (by assumption) (by rfl) | exact ro_rngR (k := 5) (by assumption) (by rfl))) ?_)
      refine G.want rfl rfl rfl (G.buildSlice (z := .agg #[.string ⟨#[]⟩, .int .i64 0, .int .i64 0, .slice none 0 0, .string ⟨#[]⟩]) (sz := 5) (cs := evC (e, d)) rfl Try.underlying22 (by kernel_rfl) (by decide) (by decide) rfl (by kernel_rfl) ?_)
      intro b22
      refine G.ownBlk (b := b22) (k := 1) (sz := 5) (by repeat (first | with_reducible exact Sel.here | exact Sel.here | apply Sel.there)) rfl (by omega) ?_
      rw [show own 31 5 (.slice (some ⟨b22, 0, none⟩) 1 1) 1 (evC (e, d)) = ownT 31 (.slice (some ⟨b22, 0, none⟩) 1 1) [(e, d)] from rfl]
      refine G.want rfl rfl rfl (G.cR rfl rfl rfl rfl Try.func12 rfl rfl (may1 (may_treeR (by repeat (first | with_reducible exact Sel.here | exact Sel.here | apply Sel.there)) hokl hd0.2 hdl)) (big_tr _ [(e, d)] _ _ (by omega)) ?_)
      refine G.op rfl (G.val rfl rfl (pv_pick rfl rfl) ?_)
      refine G.op rfl (G.val rfl rfl (pv_move rfl) ?_)
      refine G.partP (t := 25) rfl (fun h25 => ?_) (fun h25 => ?_)
      · refine G.pass rfl rfl rfl rfl rfl rfl ?_
        refine G.pass rfl rfl rfl rfl rfl rfl ?_
        refine G.pass rfl rfl rfl rfl rfl rfl ?_
        refine G.op rfl (G.val rfl rfl (pv_pick rfl rfl) ?_)
        refine G.nil ?_
        exact G.meet (()) (by first | exact trivial | ((try dsimp only); exact trivial)) (.consE rfl (by first | exact dec_t (.inl (by assumption)) | exact dec_t (.inr (.inl (by assumption))) | exact dec_e ⟨fun h => .inr (.inr (by omega)), fun h => by rcases h with h | h | h; exact absurd h (by assumption); exact absurd h (by assumption); omega⟩) (.cons rfl (.cons rfl (.cons rfl (.cons rfl .nil))))) (by repeat (first | exact Sub.nil | (apply Sub.cons; (repeat (first | with_reducible exact Sel.here | exact Sel.here | apply Sel.there)))))
      · refine G.want rfl rfl rfl (G.val rfl rfl (pv_move rfl) ?_)
        refine G.want rfl rfl rfl (G.val rfl rfl (pv_lenS Try.underlying9 rfl) ?_)
        refine G.want rfl rfl rfl (G.val rfl rfl (pv_gtr rfl rfl) ?_)
        refine G.op rfl (G.val rfl rfl (pv_pick rfl rfl) ?_)
        refine G.nil ?_
        exact G.meet (()) (by first | exact trivial | ((try dsimp only); exact trivial)) (.consE rfl (by first | exact dec_t (.inl (by assumption)) | exact dec_t (.inr (.inl (by assumption))) | exact dec_e ⟨fun h => .inr (.inr (by omega)), fun h => by rcases h with h | h | h; exact absurd h (by assumption); exact absurd h (by assumption); omega⟩) (.cons rfl (.cons rfl (.cons rfl (.cons rfl .nil))))) (by repeat (first | exact Sub.nil | (apply Sub.cons; (repeat (first | with_reducible exact Sel.here | exact Sel.here | apply Sel.there)))))
  · intro _ hJ
    try dsimp only at hJ
    try dsimp only
    refine G.condP rfl (fun h29 => ?_) (fun h29 => ?_)
    · refine G.seq ?_
      refine G.region ?_
      refine G.op rfl (G.cR rfl rfl rfl rfl Try.func10 rfl rfl may0 (awake_tr) ?_)
      refine G.op rfl (G.val rfl rfl (pv_assign rfl) ?_)
      refine G.nil ?_
      refine G.nThen ?_
      refine G.ret ?_
      refine G.rThen ?_
      exact G.done0G rfl (Rv.tmp rfl Rv.nil) (by first | rfl | exact int_eq (by omega) | (simp; done))
    · have hb1 : ¬ bigM (ens xs) 100 6000 := fun h => h29 (.inl h)
      have hs3 : s.length ≤ 300 := by have : ¬ 300 < s.length := (fun h => h29 (.inr (.inr h))); omega
      have hnx : xs.length ≤ 100 := by unfold bigM at hb1; omega
      refine G.skip ?_
      refine G.nThen ?_
      refine G.seq ?_
      refine G.cutK (X := Value × (List ET) × Value × (List ET)) (ts := [0, 2, 4, 6]) (p := []) (fun st => ens st.2.1 = ens xs ∧ ens st.2.2.2 = ens [(e, d)]) (fun st => [(7, st.1), (8, st.2.2.1)]) (fun st => [ownT 31 st.1 st.2.1, datC 5 st.2.1, ownT 31 st.2.2.1 st.2.2.2, datC 5 st.2.2.2]) (.cons rfl (.cons rfl (.cons rfl (.cons rfl .nil)))) (by repeat (first | exact Sub.nil | (apply Sub.cons; (repeat (first | with_reducible exact Sel.here | exact Sel.here | apply Sel.there))))) (.cons (.cons .nil)) (by repeat (first | exact Ap.nil | apply Ap.cons)) ?_ ?_
      · refine G.drawT (nn := 7) (p := []) (rem := 127) [0, 1, 0, 4, 10, 19, 63] [0, 1, 0, 4, 8, 2, 16] (by kernel_rfl) ⟨rfl, by kernel_rfl, by kernel_rfl⟩ (by repeat (first | exact Sub.nil | (apply Sub.cons; (repeat (first | with_reducible exact Sel.here | exact Sel.here | apply Sel.there))))) (by kernel_rfl) (fun hT3 => ?_)
        refine G.takeT hT3 (i := 0) (rem' := 126) rfl rfl rfl (by kernel_rfl) (fun _ _ _ h => h) rfl (pv_move rfl) (by repeat (first | exact Sub.nil | (apply Sub.cons; (repeat (first | with_reducible exact Sel.here | exact Sel.here | apply Sel.there))))) ?_
        refine G.takeT hT3 (i := 2) (rem' := 122) rfl rfl rfl (by kernel_rfl) (fun _ _ _ h => h) rfl (pv_loadN (cs := [_, _, _, _, _]) Try.underlying31 rfl (by kernel_rfl) rfl (by first | exact blk_range (k := 5) (by (repeat (first | with_reducible exact Sel.here | exact Sel.here | apply Sel.there)); done) (by rfl) | exact ro_rng0 (by assumption) | exact rng_range (k := 5) (by (repeat (first | with_reducible exact Sel.here | exact Sel.here | apply Sel.there)); done) (by rfl) | exact ro_range (k := 5) (by assumption) (by rfl) | exact ro_rngR (k := 5) (by assumption) (by rfl))) (by repeat (first | exact Sub.nil | (apply Sub.cons; (repeat (first | with_reducible exact Sel.here | exact Sel.here | apply Sel.there))))) ?_
        refine G.twoT hT3 (i := 1) (j := 3) (rem' := 120) (rem'' := 114) (by kernel_rfl) (by kernel_rfl) (by kernel_rfl) ?_ ?_
        · refine G.turnOp rfl rfl (G.cS rfl rfl rfl rfl Try.func18 rfl rfl (by repeat (first | exact Sub.nil | (apply Sub.cons; (repeat (first | with_reducible exact Sel.here | exact Sel.here | apply Sel.there))))) (may1 (by first | (apply May.old; first | with_reducible assumption | assumption) | (apply Sel.may; (repeat (first | with_reducible exact Sel.here | exact Sel.here | apply Sel.there)); done) | (apply may_own; (repeat (first | with_reducible exact Sel.here | exact Sel.here | apply Sel.there)); exact rfl; exact (fun _ _ => trivial); done) | (apply may_ownB; (repeat (first | with_reducible exact Sel.here | exact Sel.here | apply Sel.there)); done) | (apply may_tree; (repeat (first | with_reducible exact Sel.here | exact Sel.here | apply Sel.there)); (repeat (first | with_reducible exact Sel.here | exact Sel.here | apply Sel.there)); assumption; done))) (copyT_tr _ _ (by omega)) (by repeat (first | exact Ap.nil | apply Ap.cons)) ?_)
          intro x32 hJ
          obtain ⟨v', zs⟩ := x32
          try dsimp only at hJ
          try dsimp only
          have hez : ens zs = ens xs := hJ
          refine G.back (by repeat (first | exact Sub.nil | (apply Sub.cons; (repeat (first | with_reducible exact Sel.here | exact Sel.here | apply Sel.there))))) ?_
          refine G.upT (p := []) (by repeat (first | exact Sub.nil | (apply Sub.cons; (repeat (first | with_reducible exact Sel.here | exact Sel.here | apply Sel.there))))) (by repeat (first | exact Sub.nil | (apply Sub.cons; (repeat (first | with_reducible exact Sel.here | exact Sel.here | apply Sel.there))))) ?_
          refine G.oneT hT3 (i := 3) (rem' := 112) (by kernel_rfl) (by kernel_rfl) ?_
          refine G.turnOp rfl rfl (G.buildSlice (z := .agg #[.string ⟨#[]⟩, .int .i64 0, .int .i64 0, .slice none 0 0, .string ⟨#[]⟩]) (sz := 5) (cs := evC (e, d)) rfl Try.underlying22 (by kernel_rfl) (by decide) (by decide) rfl (by kernel_rfl) ?_)
          intro b34
          refine G.ownBlk (b := b34) (k := 1) (sz := 5) (by repeat (first | with_reducible exact Sel.here | exact Sel.here | apply Sel.there)) rfl (by omega) ?_
          rw [show own 31 5 (.slice (some ⟨b34, 0, none⟩) 1 1) 1 (evC (e, d)) = ownT 31 (.slice (some ⟨b34, 0, none⟩) 1 1) [(e, d)] from rfl]
          refine G.back (by repeat (first | exact Sub.nil | (apply Sub.cons; (repeat (first | with_reducible exact Sel.here | exact Sel.here | apply Sel.there))))) ?_
          refine G.upT (p := []) (by repeat (first | exact Sub.nil | (apply Sub.cons; (repeat (first | with_reducible exact Sel.here | exact Sel.here | apply Sel.there))))) (by repeat (first | exact Sub.nil | (apply Sub.cons; (repeat (first | with_reducible exact Sel.here | exact Sel.here | apply Sel.there))))) ?_
          refine G.oneT hT3 (i := 4) (rem' := 96) (by kernel_rfl) (by kernel_rfl) ?_
          refine G.turnOp rfl rfl (G.cS rfl rfl rfl rfl Try.func18 rfl rfl (by repeat (first | exact Sub.nil | (apply Sub.cons; (repeat (first | with_reducible exact Sel.here | exact Sel.here | apply Sel.there))))) (may1 (may_treeR (by repeat (first | with_reducible exact Sel.here | exact Sel.here | apply Sel.there)) hokl hd0.2 hdl)) (copyT_tr _ [(e, d)] (by show 1 ≤ 1000; omega)) (by repeat (first | exact Ap.nil | apply Ap.cons)) ?_)
          intro x35 hJ
          obtain ⟨u', us⟩ := x35
          try dsimp only at hJ
          try dsimp only
          have heu : ens us = ens [(e, d)] := hJ
          refine G.back (by repeat (first | exact Sub.nil | (apply Sub.cons; (repeat (first | with_reducible exact Sel.here | exact Sel.here | apply Sel.there))))) ?_
          refine G.upT (p := []) (by repeat (first | exact Sub.nil | (apply Sub.cons; (repeat (first | with_reducible exact Sel.here | exact Sel.here | apply Sel.there))))) (by repeat (first | exact Sub.nil | (apply Sub.cons; (repeat (first | with_reducible exact Sel.here | exact Sel.here | apply Sel.there))))) ?_
          refine G.takeT hT3 (i := 5) (rem' := 64) rfl rfl rfl (by kernel_rfl) (fun _ _ _ h => h) rfl (pv_assign rfl) (by repeat (first | exact Sub.nil | (apply Sub.cons; (repeat (first | with_reducible exact Sel.here | exact Sel.here | apply Sel.there))))) ?_
          refine G.takeT hT3 (i := 6) (rem' := 0) rfl rfl rfl (by kernel_rfl) (fun _ _ _ h => h) rfl (pv_assign rfl) (by repeat (first | exact Sub.nil | (apply Sub.cons; (repeat (first | with_reducible exact Sel.here | exact Sel.here | apply Sel.there))))) ?_
          refine G.overT hT3 (by kernel_rfl) ?_
          exact G.meet ((v', zs, u', us)) (by first | exact trivial | ((try dsimp only); exact ⟨hez, heu⟩)) (.consE rfl (by first | rfl | exact int_eq (by first | omega | (dsimp only; omega)) | exact congrArg _ (by omega)) (.consE rfl (by first | rfl | exact int_eq (by first | omega | (dsimp only; omega)) | exact congrArg _ (by omega)) (.cons rfl (.cons rfl (.cons rfl (.cons rfl .nil)))))) (by repeat (first | exact Sub.nil | (apply Sub.cons; (repeat (first | with_reducible exact Sel.here | exact Sel.here | apply Sel.there)))))
        · refine G.turnOp rfl rfl (G.buildSlice (z := .agg #[.string ⟨#[]⟩, .int .i64 0, .int .i64 0, .slice none 0 0, .string ⟨#[]⟩]) (sz := 5) (cs := evC (e, d)) rfl Try.underlying22 (by kernel_rfl) (by decide) (by decide) rfl (by kernel_rfl) ?_)
          intro b34
          refine G.ownBlk (b := b34) (k := 1) (sz := 5) (by repeat (first | with_reducible exact Sel.here | exact Sel.here | apply Sel.there)) rfl (by omega) ?_
          rw [show own 31 5 (.slice (some ⟨b34, 0, none⟩) 1 1) 1 (evC (e, d)) = ownT 31 (.slice (some ⟨b34, 0, none⟩) 1 1) [(e, d)] from rfl]
          refine G.back (by repeat (first | exact Sub.nil | (apply Sub.cons; (repeat (first | with_reducible exact Sel.here | exact Sel.here | apply Sel.there))))) ?_
          refine G.upT (p := []) (by repeat (first | exact Sub.nil | (apply Sub.cons; (repeat (first | with_reducible exact Sel.here | exact Sel.here | apply Sel.there))))) (by repeat (first | exact Sub.nil | (apply Sub.cons; (repeat (first | with_reducible exact Sel.here | exact Sel.here | apply Sel.there))))) ?_
          refine G.oneT hT3 (i := 1) (rem' := 112) (by kernel_rfl) (by kernel_rfl) ?_
          refine G.turnOp rfl rfl (G.cS rfl rfl rfl rfl Try.func18 rfl rfl (by repeat (first | exact Sub.nil | (apply Sub.cons; (repeat (first | with_reducible exact Sel.here | exact Sel.here | apply Sel.there))))) (may1 (by first | (apply May.old; first | with_reducible assumption | assumption) | (apply Sel.may; (repeat (first | with_reducible exact Sel.here | exact Sel.here | apply Sel.there)); done) | (apply may_own; (repeat (first | with_reducible exact Sel.here | exact Sel.here | apply Sel.there)); exact rfl; exact (fun _ _ => trivial); done) | (apply may_ownB; (repeat (first | with_reducible exact Sel.here | exact Sel.here | apply Sel.there)); done) | (apply may_tree; (repeat (first | with_reducible exact Sel.here | exact Sel.here | apply Sel.there)); (repeat (first | with_reducible exact Sel.here | exact Sel.here | apply Sel.there)); assumption; done))) (copyT_tr _ _ (by omega)) (by repeat (first | exact Ap.nil | apply Ap.cons)) ?_)
          intro x32 hJ
          obtain ⟨v', zs⟩ := x32
          try dsimp only at hJ
          try dsimp only
          have hez : ens zs = ens xs := hJ
          refine G.back (by repeat (first | exact Sub.nil | (apply Sub.cons; (repeat (first | with_reducible exact Sel.here | exact Sel.here | apply Sel.there))))) ?_
          refine G.upT (p := []) (by repeat (first | exact Sub.nil | (apply Sub.cons; (repeat (first | with_reducible exact Sel.here | exact Sel.here | apply Sel.there))))) (by repeat (first | exact Sub.nil | (apply Sub.cons; (repeat (first | with_reducible exact Sel.here | exact Sel.here | apply Sel.there))))) ?_
          refine G.oneT hT3 (i := 4) (rem' := 96) (by kernel_rfl) (by kernel_rfl) ?_
          refine G.turnOp rfl rfl (G.cS rfl rfl rfl rfl Try.func18 rfl rfl (by repeat (first | exact Sub.nil | (apply Sub.cons; (repeat (first | with_reducible exact Sel.here | exact Sel.here | apply Sel.there))))) (may1 (may_treeR (by repeat (first | with_reducible exact Sel.here | exact Sel.here | apply Sel.there)) hokl hd0.2 hdl)) (copyT_tr _ [(e, d)] (by show 1 ≤ 1000; omega)) (by repeat (first | exact Ap.nil | apply Ap.cons)) ?_)
          intro x35 hJ
          obtain ⟨u', us⟩ := x35
          try dsimp only at hJ
          try dsimp only
          have heu : ens us = ens [(e, d)] := hJ
          refine G.back (by repeat (first | exact Sub.nil | (apply Sub.cons; (repeat (first | with_reducible exact Sel.here | exact Sel.here | apply Sel.there))))) ?_
          refine G.upT (p := []) (by repeat (first | exact Sub.nil | (apply Sub.cons; (repeat (first | with_reducible exact Sel.here | exact Sel.here | apply Sel.there))))) (by repeat (first | exact Sub.nil | (apply Sub.cons; (repeat (first | with_reducible exact Sel.here | exact Sel.here | apply Sel.there))))) ?_
          refine G.takeT hT3 (i := 5) (rem' := 64) rfl rfl rfl (by kernel_rfl) (fun _ _ _ h => h) rfl (pv_assign rfl) (by repeat (first | exact Sub.nil | (apply Sub.cons; (repeat (first | with_reducible exact Sel.here | exact Sel.here | apply Sel.there))))) ?_
          refine G.takeT hT3 (i := 6) (rem' := 0) rfl rfl rfl (by kernel_rfl) (fun _ _ _ h => h) rfl (pv_assign rfl) (by repeat (first | exact Sub.nil | (apply Sub.cons; (repeat (first | with_reducible exact Sel.here | exact Sel.here | apply Sel.there))))) ?_
          refine G.overT hT3 (by kernel_rfl) ?_
          exact G.meet ((v', zs, u', us)) (by first | exact trivial | ((try dsimp only); exact ⟨hez, heu⟩)) (.consE rfl (by first | rfl | exact int_eq (by first | omega | (dsimp only; omega)) | exact congrArg _ (by omega)) (.consE rfl (by first | rfl | exact int_eq (by first | omega | (dsimp only; omega)) | exact congrArg _ (by omega)) (.cons rfl (.cons rfl (.cons rfl (.cons rfl .nil)))))) (by repeat (first | exact Sub.nil | (apply Sub.cons; (repeat (first | with_reducible exact Sel.here | exact Sel.here | apply Sel.there)))))
      · intro st hJ
        obtain ⟨v', zs, u', us⟩ := st
        try dsimp only at hJ
        try dsimp only
        obtain ⟨hez, heu⟩ := hJ
        have hokz := ok_ens hez (Ro.allOk helv)
        obtain ⟨d', rfl⟩ := ens_oneT heu
        refine G.datOne (x := (e, d')) (by repeat (first | with_reducible exact Sel.here | exact Sel.here | apply Sel.there)) ?_
        rw [show (ownB 5 (e, d').2 (e, d').1.data) = ownB 5 d' e.data from rfl]
        refine G.ownBFact (by repeat (first | with_reducible exact Sel.here | exact Sel.here | apply Sel.there)) (v := d') (fun hd'1 => ?_)
        rw [show ownT 31 u' [(e, d')] = own 31 5 u' 1 (evC (e, d')) from rfl]
        refine G.ownTo (v := u') (by repeat (first | with_reducible exact Sel.here | exact Sel.here | apply Sel.there)) (by omega) (fun g cap sp hvv hkc hmx hl hlen => ?_)
        subst hvv
        refine G.seq ?_
        refine G.region ?_
        refine G.op rfl (G.val rfl rfl (pv_move rfl) ?_)
        refine G.op rfl (G.val rfl rfl (pv_move rfl) ?_)
        refine G.op rfl (G.val rfl rfl (pv_ixSl (sz := 5) (k := 0) Try.underlying22 (by kernel_rfl) rfl rfl (fun _ => rfl) (by omega) (by omega)) ?_)
        refine G.op rfl (G.val rfl rfl (pv_loadN (cs := evC (e, d')) Try.underlying31 rfl (by kernel_rfl) rfl (by exact blk_range (k := 5) (by (repeat (first | with_reducible exact Sel.here | exact Sel.here | apply Sel.there)); done) (by rfl))) ?_)
        refine G.ownOf (sz := 5) (k := 1) (cs := evC (e, d')) (sp := sp) (by repeat (first | with_reducible exact Sel.here | exact Sel.here | apply Sel.there)) rfl hkc hmx hl ?_
        rw [show own 31 5 (.slice (some ⟨g, 0, none⟩) 1 cap) 1 (evC (e, d')) = ownT 31 (.slice (some ⟨g, 0, none⟩) 1 cap) [(e, d')] from rfl]
        refine G.op rfl (G.cS rfl rfl rfl rfl Try.func30 rfl rfl (by repeat (first | exact Sub.nil | (apply Sub.cons; (repeat (first | with_reducible exact Sel.here | exact Sel.here | apply Sel.there))))) (may2 (by first | (apply May.old; first | with_reducible assumption | assumption) | (apply Sel.may; (repeat (first | with_reducible exact Sel.here | exact Sel.here | apply Sel.there)); done) | (apply may_own; (repeat (first | with_reducible exact Sel.here | exact Sel.here | apply Sel.there)); exact rfl; exact (fun _ _ => trivial); done) | (apply may_ownB; (repeat (first | with_reducible exact Sel.here | exact Sel.here | apply Sel.there)); done) | (apply may_tree; (repeat (first | with_reducible exact Sel.here | exact Sel.here | apply Sel.there)); (repeat (first | with_reducible exact Sel.here | exact Sel.here | apply Sel.there)); assumption; done)) (by first | (apply May.old; first | with_reducible assumption | assumption) | (apply Sel.may; (repeat (first | with_reducible exact Sel.here | exact Sel.here | apply Sel.there)); done) | (apply may_own; (repeat (first | with_reducible exact Sel.here | exact Sel.here | apply Sel.there)); exact rfl; exact (fun _ _ => trivial); done) | (apply may_ownB; (repeat (first | with_reducible exact Sel.here | exact Sel.here | apply Sel.there)); done) | (apply may_tree; (repeat (first | with_reducible exact Sel.here | exact Sel.here | apply Sel.there)); (repeat (first | with_reducible exact Sel.here | exact Sel.here | apply Sel.there)); assumption; done))) (put_tr _ _ _ _ (by assumption)) (by repeat (first | exact Ap.nil | apply Ap.cons)) ?_)
        intro x41 hJ
        obtain ⟨p1, ps⟩ := x41
        try dsimp only at hJ
        try dsimp only
        rw [hez] at hJ ⊢
        have hep : ens ps = (putM (ens xs) e).1 := hJ
        have hokp := ok_list hep (put_okE (ok_ensl (Ro.allOk helv)) hok)
        have hlp : ps.length ≤ 200 := by have := put_len (ens xs) e; rw [← hep, ens_length] at this; exact this
        refine G.op rfl (G.val rfl rfl (pv_move rfl) ?_)
        refine G.op rfl (G.val rfl rfl (pv_extract rfl rfl) ?_)
        refine G.op rfl (G.val rfl rfl (pv_extract rfl rfl) ?_)
        refine G.op rfl (G.val rfl rfl (pv_assign rfl) ?_)
        refine G.op rfl (G.val rfl rfl (pv_assign rfl) ?_)
        refine G.nil ?_
        refine G.nThen ?_
        refine G.seq ?_
        refine G.region ?_
        refine G.op rfl (G.val rfl rfl (pv_move rfl) ?_)
        refine G.op rfl (G.val rfl rfl (pv_loadN (cs := [_, _, _, _, _]) Try.underlying31 rfl (by kernel_rfl) rfl (by first | exact blk_range (k := 5) (by (repeat (first | with_reducible exact Sel.here | exact Sel.here | apply Sel.there)); done) (by rfl) | exact ro_rng0 (by assumption) | exact rng_range (k := 5) (by (repeat (first | with_reducible exact Sel.here | exact Sel.here | apply Sel.there)); done) (by rfl) | exact ro_range (k := 5) (by assumption) (by rfl) | exact ro_rngR (k := 5) (by assumption) (by rfl))) ?_)
        refine G.op rfl (G.cS rfl rfl rfl rfl Try.func31 rfl rfl (by repeat (first | exact Sub.nil | (apply Sub.cons; (repeat (first | with_reducible exact Sel.here | exact Sel.here | apply Sel.there))))) (may2 (by first | (apply May.old; first | with_reducible assumption | assumption) | (apply Sel.may; (repeat (first | with_reducible exact Sel.here | exact Sel.here | apply Sel.there)); done) | (apply may_own; (repeat (first | with_reducible exact Sel.here | exact Sel.here | apply Sel.there)); exact rfl; exact (fun _ _ => trivial); done) | (apply may_ownB; (repeat (first | with_reducible exact Sel.here | exact Sel.here | apply Sel.there)); done) | (apply may_tree; (repeat (first | with_reducible exact Sel.here | exact Sel.here | apply Sel.there)); (repeat (first | with_reducible exact Sel.here | exact Sel.here | apply Sel.there)); assumption; done)) (by first | (apply May.old; first | with_reducible assumption | assumption) | (apply Sel.may; (repeat (first | with_reducible exact Sel.here | exact Sel.here | apply Sel.there)); done) | (apply may_own; (repeat (first | with_reducible exact Sel.here | exact Sel.here | apply Sel.there)); exact rfl; exact (fun _ _ => trivial); done) | (apply may_ownB; (repeat (first | with_reducible exact Sel.here | exact Sel.here | apply Sel.there)); done) | (apply may_tree; (repeat (first | with_reducible exact Sel.here | exact Sel.here | apply Sel.there)); (repeat (first | with_reducible exact Sel.here | exact Sel.here | apply Sel.there)); assumption; done))) (putR_tr _ _ _ _ (by assumption)) (by repeat (first | exact Ap.nil | apply Ap.cons)) ?_)
        intro x47 hJ
        obtain ⟨q1, qs⟩ := x47
        try dsimp only at hJ
        try dsimp only
        have heq : ens qs = (putM (ens xs) e).1 := hJ
        have hokq := ok_list heq (put_okE (ok_ensl (Ro.allOk helv)) hok)
        refine G.op rfl (G.val rfl rfl (pv_move rfl) ?_)
        refine G.op rfl (G.val rfl rfl (pv_extract rfl rfl) ?_)
        refine G.op rfl (G.val rfl rfl (pv_extract rfl rfl) ?_)
        refine G.op rfl (G.val rfl rfl (pv_assign rfl) ?_)
        refine G.op rfl (G.val rfl rfl (pv_assign rfl) ?_)
        refine G.nil ?_
        refine G.nThen ?_
        refine G.seq ?_
        refine G.region ?_
        refine G.op rfl (G.val rfl rfl (pv_move rfl) ?_)
        refine G.op rfl (G.val rfl rfl (pv_move rfl) ?_)
        refine G.op rfl (G.cS rfl rfl rfl rfl Try.func32 rfl rfl (by repeat (first | exact Sub.nil | (apply Sub.cons; (repeat (first | with_reducible exact Sel.here | exact Sel.here | apply Sel.there))))) (may1 (by first | (apply May.old; first | with_reducible assumption | assumption) | (apply Sel.may; (repeat (first | with_reducible exact Sel.here | exact Sel.here | apply Sel.there)); done) | (apply may_own; (repeat (first | with_reducible exact Sel.here | exact Sel.here | apply Sel.there)); exact rfl; exact (fun _ _ => trivial); done) | (apply may_ownB; (repeat (first | with_reducible exact Sel.here | exact Sel.here | apply Sel.there)); done) | (apply may_tree; (repeat (first | with_reducible exact Sel.here | exact Sel.here | apply Sel.there)); (repeat (first | with_reducible exact Sel.here | exact Sel.here | apply Sel.there)); assumption; done))) (drop_tr _ _ _ (by omega)) (by repeat (first | exact Ap.nil | apply Ap.cons)) ?_)
        intro x53 hJ
        obtain ⟨z1, rs⟩ := x53
        try dsimp only at hJ
        try dsimp only
        rw [hez] at hJ ⊢
        have her : ens rs = (dropM (ens xs) s).1 := hJ
        have hokr := ok_list her (drop_okE (ok_ensl (Ro.allOk helv)))
        have hlr : rs.length ≤ 100 := by have := drop_len (ens xs) s; rw [← her, ens_length, ens_length] at this; omega
        refine G.op rfl (G.val rfl rfl (pv_move rfl) ?_)
        refine G.op rfl (G.val rfl rfl (pv_extract rfl rfl) ?_)
        refine G.op rfl (G.val rfl rfl (pv_extract rfl rfl) ?_)
        refine G.op rfl (G.val rfl rfl (pv_assign rfl) ?_)
        refine G.op rfl (G.val rfl rfl (pv_assign rfl) ?_)
        refine G.nil ?_
        refine G.nThen ?_
        refine G.seq ?_
        refine G.region ?_
        refine G.op rfl (G.val rfl rfl (pv_move rfl) ?_)
        refine G.op rfl (G.val rfl rfl (pv_move rfl) ?_)
        refine G.op rfl (G.cS rfl rfl rfl rfl Try.func33 rfl rfl (by repeat (first | exact Sub.nil | (apply Sub.cons; (repeat (first | with_reducible exact Sel.here | exact Sel.here | apply Sel.there))))) (may1 (by first | (apply May.old; first | with_reducible assumption | assumption) | (apply Sel.may; (repeat (first | with_reducible exact Sel.here | exact Sel.here | apply Sel.there)); done) | (apply may_own; (repeat (first | with_reducible exact Sel.here | exact Sel.here | apply Sel.there)); exact rfl; exact (fun _ _ => trivial); done) | (apply may_ownB; (repeat (first | with_reducible exact Sel.here | exact Sel.here | apply Sel.there)); done) | (apply may_tree; (repeat (first | with_reducible exact Sel.here | exact Sel.here | apply Sel.there)); (repeat (first | with_reducible exact Sel.here | exact Sel.here | apply Sel.there)); assumption; done))) (dropR_tr _ _ _ (by omega)) (by repeat (first | exact Ap.nil | apply Ap.cons)) ?_)
        intro x59 hJ
        obtain ⟨w1, ws⟩ := x59
        try dsimp only at hJ
        try dsimp only
        have hew : ens ws = (dropM (ens xs) s).1 := hJ
        have hokw := ok_list hew (drop_okE (ok_ensl (Ro.allOk helv)))
        refine G.op rfl (G.val rfl rfl (pv_move rfl) ?_)
        refine G.op rfl (G.val rfl rfl (pv_extract rfl rfl) ?_)
        refine G.op rfl (G.val rfl rfl (pv_extract rfl rfl) ?_)
        refine G.op rfl (G.val rfl rfl (pv_assign rfl) ?_)
        refine G.op rfl (G.val rfl rfl (pv_assign rfl) ?_)
        refine G.nil ?_
        refine G.nThen ?_
        refine G.seq ?_
        refine G.region ?_
        refine G.op rfl (G.val rfl rfl (pv_move rfl) ?_)
        refine G.op rfl (G.val rfl rfl (pv_move rfl) ?_)
        refine G.op rfl (G.val rfl rfl ((pv_eql rfl rfl).cast (v' := .bool true) (congrArg Value.bool (by simp))) ?_)
        refine G.op rfl (G.val rfl rfl (pv_move rfl) ?_)
        refine G.want rfl rfl rfl (G.val rfl rfl (pv_move rfl) ?_)
        refine G.want rfl rfl rfl (G.val rfl rfl (pv_move rfl) ?_)
        refine G.want rfl rfl rfl (G.val rfl rfl ((pv_eql rfl rfl).cast (v' := .bool true) (congrArg Value.bool (by simp))) ?_)
        refine G.op rfl (G.val rfl rfl (pv_pick rfl rfl) ?_)
        refine G.op rfl (G.val rfl rfl (pv_move rfl) ?_)
        refine G.want rfl rfl rfl (G.val rfl rfl (pv_move rfl) ?_)
        refine G.want rfl rfl rfl (G.val rfl rfl (pv_move rfl) ?_)
        refine G.want rfl rfl rfl (G.cR rfl rfl rfl rfl Try.func16 rfl rfl (may2 (by first | (apply May.old; first | with_reducible assumption | assumption) | (apply Sel.may; (repeat (first | with_reducible exact Sel.here | exact Sel.here | apply Sel.there)); done) | (apply may_own; (repeat (first | with_reducible exact Sel.here | exact Sel.here | apply Sel.there)); exact rfl; exact (fun _ _ => trivial); done) | (apply may_ownB; (repeat (first | with_reducible exact Sel.here | exact Sel.here | apply Sel.there)); done) | (apply may_tree; (repeat (first | with_reducible exact Sel.here | exact Sel.here | apply Sel.there)); (repeat (first | with_reducible exact Sel.here | exact Sel.here | apply Sel.there)); assumption; done)) (by first | (apply May.old; first | with_reducible assumption | assumption) | (apply Sel.may; (repeat (first | with_reducible exact Sel.here | exact Sel.here | apply Sel.there)); done) | (apply may_own; (repeat (first | with_reducible exact Sel.here | exact Sel.here | apply Sel.there)); exact rfl; exact (fun _ _ => trivial); done) | (apply may_ownB; (repeat (first | with_reducible exact Sel.here | exact Sel.here | apply Sel.there)); done) | (apply may_tree; (repeat (first | with_reducible exact Sel.here | exact Sel.here | apply Sel.there)); (repeat (first | with_reducible exact Sel.here | exact Sel.here | apply Sel.there)); assumption; done))) (tree_yes _ _ ps qs (hep.trans heq.symm)) ?_)
        refine G.op rfl (G.val rfl rfl (pv_pick rfl rfl) ?_)
        refine G.op rfl (G.val rfl rfl (pv_move rfl) ?_)
        refine G.want rfl rfl rfl (G.val rfl rfl (pv_move rfl) ?_)
        refine G.want rfl rfl rfl (G.val rfl rfl (pv_move rfl) ?_)
        refine G.want rfl rfl rfl (G.cR rfl rfl rfl rfl Try.func16 rfl rfl (may2 (by first | (apply May.old; first | with_reducible assumption | assumption) | (apply Sel.may; (repeat (first | with_reducible exact Sel.here | exact Sel.here | apply Sel.there)); done) | (apply may_own; (repeat (first | with_reducible exact Sel.here | exact Sel.here | apply Sel.there)); exact rfl; exact (fun _ _ => trivial); done) | (apply may_ownB; (repeat (first | with_reducible exact Sel.here | exact Sel.here | apply Sel.there)); done) | (apply may_tree; (repeat (first | with_reducible exact Sel.here | exact Sel.here | apply Sel.there)); (repeat (first | with_reducible exact Sel.here | exact Sel.here | apply Sel.there)); assumption; done)) (by first | (apply May.old; first | with_reducible assumption | assumption) | (apply Sel.may; (repeat (first | with_reducible exact Sel.here | exact Sel.here | apply Sel.there)); done) | (apply may_own; (repeat (first | with_reducible exact Sel.here | exact Sel.here | apply Sel.there)); exact rfl; exact (fun _ _ => trivial); done) | (apply may_ownB; (repeat (first | with_reducible exact Sel.here | exact Sel.here | apply Sel.there)); done) | (apply may_tree; (repeat (first | with_reducible exact Sel.here | exact Sel.here | apply Sel.there)); (repeat (first | with_reducible exact Sel.here | exact Sel.here | apply Sel.there)); assumption; done))) (tree_yes _ _ rs ws (her.trans hew.symm)) ?_)
        refine G.op rfl (G.val rfl rfl (pv_pick rfl rfl) ?_)
        refine G.op rfl (G.val rfl rfl (pv_assign rfl) ?_)
        refine G.nil ?_
        refine G.nThen ?_
        refine G.seq ?_
        refine G.region ?_
        refine G.op rfl (G.val rfl rfl (pv_move rfl) ?_)
        refine G.op rfl (G.cS rfl rfl rfl rfl Try.func34 rfl rfl (by repeat (first | exact Sub.nil | (apply Sub.cons; (repeat (first | with_reducible exact Sel.here | exact Sel.here | apply Sel.there))))) may0 (overT_tr _ _ (by omega)) (by repeat (first | exact Ap.nil | apply Ap.cons)) ?_)
        intro x81 hJ
        try dsimp only at hJ
        try dsimp only
        refine G.nil ?_
        refine G.nThen ?_
        refine G.seq ?_
        refine G.region ?_
        refine G.op rfl (G.val rfl rfl (pv_move rfl) ?_)
        refine G.op rfl (G.cS rfl rfl rfl rfl Try.func34 rfl rfl (by repeat (first | exact Sub.nil | (apply Sub.cons; (repeat (first | with_reducible exact Sel.here | exact Sel.here | apply Sel.there))))) may0 (overT_tr _ _ (by omega)) (by repeat (first | exact Ap.nil | apply Ap.cons)) ?_)
        intro x83 hJ
        try dsimp only at hJ
        try dsimp only
        refine G.nil ?_
        refine G.nThen ?_
        refine G.seq ?_
        refine G.region ?_
        refine G.op rfl (G.val rfl rfl (pv_move rfl) ?_)
        refine G.op rfl (G.val rfl rfl (pv_move rfl) ?_)
        refine G.want rfl rfl rfl (G.val rfl rfl (pv_move rfl) ?_)
        refine G.want rfl rfl rfl (G.val rfl rfl (pv_move rfl) ?_)
        refine G.want rfl rfl rfl (G.cR rfl rfl rfl rfl Try.func16 rfl rfl (may2 (by first | (apply May.old; first | with_reducible assumption | assumption) | (apply Sel.may; (repeat (first | with_reducible exact Sel.here | exact Sel.here | apply Sel.there)); done) | (apply may_own; (repeat (first | with_reducible exact Sel.here | exact Sel.here | apply Sel.there)); exact rfl; exact (fun _ _ => trivial); done) | (apply may_ownB; (repeat (first | with_reducible exact Sel.here | exact Sel.here | apply Sel.there)); done) | (apply may_tree; (repeat (first | with_reducible exact Sel.here | exact Sel.here | apply Sel.there)); (repeat (first | with_reducible exact Sel.here | exact Sel.here | apply Sel.there)); assumption; done)) (by first | (apply May.old; first | with_reducible assumption | assumption) | (apply Sel.may; (repeat (first | with_reducible exact Sel.here | exact Sel.here | apply Sel.there)); done) | (apply may_own; (repeat (first | with_reducible exact Sel.here | exact Sel.here | apply Sel.there)); exact rfl; exact (fun _ _ => trivial); done) | (apply may_ownB; (repeat (first | with_reducible exact Sel.here | exact Sel.here | apply Sel.there)); done) | (apply may_tree; (repeat (first | with_reducible exact Sel.here | exact Sel.here | apply Sel.there)); (repeat (first | with_reducible exact Sel.here | exact Sel.here | apply Sel.there)); assumption; done))) (tree_yes _ _ zs xs hez) ?_)
        refine G.op rfl (G.val rfl rfl (pv_pick rfl rfl) ?_)
        refine G.op rfl (G.val rfl rfl (pv_move rfl) ?_)
        refine G.want rfl rfl rfl (G.val rfl rfl (pv_move rfl) ?_)
        refine G.want rfl rfl rfl (G.val rfl rfl (pv_loadN (cs := [_, _, _, _, _]) Try.underlying31 rfl (by kernel_rfl) rfl (by first | exact blk_range (k := 5) (by (repeat (first | with_reducible exact Sel.here | exact Sel.here | apply Sel.there)); done) (by rfl) | exact ro_rng0 (by assumption) | exact rng_range (k := 5) (by (repeat (first | with_reducible exact Sel.here | exact Sel.here | apply Sel.there)); done) (by rfl) | exact ro_range (k := 5) (by assumption) (by rfl) | exact ro_rngR (k := 5) (by assumption) (by rfl))) ?_)
        refine G.want rfl rfl rfl (G.buildSlice (z := .agg #[.string ⟨#[]⟩, .int .i64 0, .int .i64 0, .slice none 0 0, .string ⟨#[]⟩]) (sz := 5) (cs := evC (e, d)) rfl Try.underlying22 (by kernel_rfl) (by decide) (by decide) rfl (by kernel_rfl) ?_)
        intro b93
        refine G.ownBlk (b := b93) (k := 1) (sz := 5) (by repeat (first | with_reducible exact Sel.here | exact Sel.here | apply Sel.there)) rfl (by omega) ?_
        rw [show own 31 5 (.slice (some ⟨b93, 0, none⟩) 1 1) 1 (evC (e, d)) = ownT 31 (.slice (some ⟨b93, 0, none⟩) 1 1) [(e, d)] from rfl]
        refine G.want rfl rfl rfl (G.cR rfl rfl rfl rfl Try.func16 rfl rfl (may2 (may_one (x := (e, d')) (by repeat (first | with_reducible exact Sel.here | exact Sel.here | apply Sel.there)) (by repeat (first | with_reducible exact Sel.here | exact Sel.here | apply Sel.there)) hok) (may_treeR (by repeat (first | with_reducible exact Sel.here | exact Sel.here | apply Sel.there)) hokl hd0.2 hdl)) (tree_yes _ _ [(e, d')] [(e, d)] rfl) ?_)
        refine G.op rfl (G.val rfl rfl (pv_pick rfl rfl) ?_)
        refine G.op rfl (G.val rfl rfl (pv_move rfl) ?_)
        refine G.want rfl rfl rfl (G.cR rfl rfl rfl rfl Try.func10 rfl rfl may0 (awake_tr) ?_)
        refine G.op rfl (G.val rfl rfl (pv_pick rfl rfl) ?_)
        refine G.op rfl (G.val rfl rfl (pv_assign rfl) ?_)
        refine G.nil ?_
        refine G.nThen ?_
        refine G.ret ?_
        exact G.done0G rfl (Rv.tmp rfl Rv.nil) (by first | rfl | exact int_eq (by omega) | (simp; done))
end Go.Proofs.Ytchgaedidfefoaa
