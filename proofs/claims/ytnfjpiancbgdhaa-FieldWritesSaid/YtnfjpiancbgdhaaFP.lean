/- The statement FieldWrites. Conditions: none. -/
import Derived.Test.YtnfjpiancbgdhaaFQ
set_option linter.unusedVariables false
set_option linter.unusedSimpArgs false
namespace Go.Proofs.Ytnfjpiancbgdhaa
open Go.RowKit

set_option maxRecDepth 20000 in

theorem writes_tr (u : Value) (l : List Step) (hll : l.length ≤ 140737488355328) {Pu : Nat → Prop} : Tr Try.prog 4 #[u] [slc rStep Pu u l] [] (T0 (.bool true)) := by
  refine Tr.of (l := [(0, u)]) Try.func4 rfl (n := 145) rfl (.cons rfl .nil) (fun w0 hro => ?_)
  have hu := ro1 hro
  have hu' := hu
  obtain ⟨ad, cap, bb, off, rfl, hcap, hmax, hnil, had, hel⟩ := Ro.open hu
  refine G.seq ?_
  refine G.region ?_
  refine G.op rfl (G.val rfl rfl (pv_assign rfl) ?_)
  refine G.nil ?_
  refine G.nThen ?_
  refine G.seq ?_
  refine G.region ?_
  refine G.op rfl (G.cN rfl rfl rfl rfl Try.func12 rfl rfl (new_tr) .nil may0 ?_)
  rintro D -
  simp only [List.cons_append, List.nil_append]
  refine G.op rfl (G.val rfl rfl (pv_assign rfl) ?_)
  refine G.nil ?_
  refine G.nThen ?_
  refine G.seq ?_
  refine G.seq ?_
  refine G.region ?_
  refine G.op rfl (G.val rfl rfl (pv_move rfl) ?_)
  refine G.op rfl (G.val rfl rfl (pv_eqlP0 Try.underlying29 rfl rfl) ?_)
  refine G.nil ?_
  refine G.nThen ?_
  refine G.condF rfl (rfl) ?_
  refine G.skip ?_
  refine G.nThen ?_
  refine G.seq ?_
  refine G.seq ?_
  refine G.region ?_
  refine G.op rfl (G.val rfl rfl (pv_move rfl) ?_)
  refine G.op rfl (G.call0 rfl rfl rfl rfl Try.func13 rfl rfl (large_tr _ l (Pu := Pu)) (may1 (.old hu')) ?_)
  refine G.nil ?_
  refine G.nThen ?_
  refine G.cond rfl (fun h15 => ?_) (fun h15 => ?_)
  · refine G.seq ?_
    refine G.region ?_
    refine G.op rfl (G.call0 rfl rfl rfl rfl Try.func8 rfl rfl (awake_tr) may0 ?_)
    refine G.op rfl (G.val rfl rfl (pv_assign rfl) ?_)
    refine G.nil ?_
    refine G.nThen ?_
    refine G.ret ?_
    refine G.rThen ?_
    exact G.done1 rfl rfl .nil ⟨rfl, rfl⟩
  · have hl1 : ¬ 40 < (l.length : Int) := fun h => by rw [largeM, decide_eq_true h] at h15; cases h15
    have hl2 : ¬ 3000 < (sumM l : Int) := fun h => by rw [largeM, decide_eq_true h, Bool.or_true] at h15; cases h15
    refine G.skip ?_
    refine G.nThen ?_
    refine G.seq ?_
    refine G.region ?_
    refine G.op rfl (G.val rfl rfl (pv_build (cells := #[.slice none 0 0, .bool false]) (fun a ha => ha.pevs rfl) (by kernel_rfl)) ?_)
    refine G.op rfl (G.box rfl rfl (cs := [.slice none 0 0, .bool false]) rfl ?_)
    intro b18
    refine G.ownNil 5 1 ?_
    refine G.op rfl (G.val rfl rfl (pv_assign rfl) ?_)
    refine G.nil ?_
    refine G.nThen ?_
    refine G.seq ?_
    refine G.seq ?_
    refine G.region ?_
    refine G.op rfl (G.val rfl rfl (pv_assign rfl) ?_)
    refine G.nil ?_
    refine G.nThen ?_
    refine G.block ?_
    refine G.loop (X := Nat × Value × Value × List UInt8 × Bool) (fun (k, v, vr, bs, bad) => k ≤ l.length ∧ bs.length ≤ 3005 * k) (fun (k, v, vr, bs, bad) => [(5, .int .i64 (k : Int)), (3, .pointer (some ⟨D, 0, none⟩)), (4, .pointer (some ⟨b18, 0, none⟩)), (0, .slice ad l.length cap)]) (fun (k, v, vr, bs, bad) => [blk D 60 [.bool true, .bool bad, v], own 5 1 v bs.length (bs.map vByte), blk b18 34 [vr, .bool bad], own 5 1 vr bs.length (bs.map vByte)]) (fun (k, v, vr, bs, bad) => l.length - k) (x0 := (0, .slice none 0 0, .slice none 0 0, [], false)) (⟨Nat.zero_le _, Nat.zero_le _⟩) (.consE rfl (by first | rfl | exact int_eq (by omega) | exact congrArg _ (by omega)) (.consE rfl (by first | rfl | exact int_eq (by omega) | exact congrArg _ (by omega)) (.consE rfl (by first | rfl | exact int_eq (by omega) | exact congrArg _ (by omega)) (.consE rfl (by first | rfl | exact int_eq (by omega) | exact congrArg _ (by omega)) .nil)))) (.cons (by repeat (first | with_reducible exact Sel.here | exact Sel.here | apply Sel.there)) (.cons (by repeat (first | with_reducible exact Sel.here | exact Sel.here | apply Sel.there)) (.cons (by repeat (first | with_reducible exact Sel.here | exact Sel.here | apply Sel.there)) (.cons (by repeat (first | with_reducible exact Sel.here | exact Sel.here | apply Sel.there)) .nil)))) (fun ⟨k, v, vr, bs, bad⟩ hJ => ?_)
    show G _ _ _ [(5, .int .i64 (k : Int)), (3, .pointer (some ⟨D, 0, none⟩)), (4, .pointer (some ⟨b18, 0, none⟩)), (0, .slice ad l.length cap)] [blk D 60 [.bool true, .bool bad, v], own 5 1 v bs.length (bs.map vByte), blk b18 34 [vr, .bool bad], own 5 1 vr bs.length (bs.map vByte)] _
    obtain ⟨hk, hbs⟩ := hJ
    refine G.seq ?_
    refine G.seq ?_
    refine G.region ?_
    refine G.op rfl (G.val rfl rfl (pv_move rfl) ?_)
    refine G.op rfl (G.val rfl rfl (pv_move rfl) ?_)
    refine G.op rfl (G.val rfl rfl (pv_lenSl Try.underlying28 rfl) ?_)
    refine G.op rfl (G.val rfl rfl (pv_lss rfl rfl) ?_)
    refine G.nil ?_
    refine G.nThen ?_
    refine G.condP rfl (fun h22 => ?_) (fun h22 => ?_)
    · have hlt : k < l.length := by omega
      have hK := (hel k hlt).fst
      have hN := (hel k hlt).snd.fst
      obtain ⟨vB, hcB, hB, -⟩ := Ro.cellSl (hel k hlt).snd.snd.snd.fst
      have hB' := hB
      obtain ⟨aB, cB, b2, o2, rfl, -⟩ := Ro.open hB'
      obtain ⟨hid, hI⟩ := Ro.arr8 (hel k hlt).snd.snd.snd.snd.fst
      have hid : l[k].id.length = 16 := hid
      have hBs : l[k].b.length ≤ 3000 := by have := sumM_mem hlt; omega
      have hN5 := sizeM_le l[k].n
      have hB5 := sizeM_le (l[k].b.length : Int)
      have hbs1 : bs.length ≤ 3005 * (k + 1) := by omega
      refine G.skip ?_
      refine G.nThen ?_
      refine G.seq ?_
      refine G.block ?_
      refine G.seq ?_
      refine G.region ?_
      refine G.op rfl (G.val rfl rfl (pv_move rfl) ?_)
      refine G.op rfl (G.val rfl rfl (pv_move rfl) ?_)
      refine G.op rfl (G.val rfl rfl (pv_ixSl (sz := 20) (k := k) Try.underlying28 (by kernel_rfl) rfl rfl had rfl hlt) ?_)
      refine G.op rfl (G.val rfl rfl (pv_fieldAddr (sz := 0) Try.underlying39 rfl (by kernel_rfl) rfl) ?_)
      refine G.op rfl (G.val rfl rfl (pv_load Try.underlying23 rfl rfl hcB) ?_)
      refine G.op rfl (G.cN rfl rfl rfl rfl Try.func14 rfl rfl (lent_tr _ l[k].b (by omega)) .nil (may1 (.old hB)) ?_)
      rintro bl -
      simp only [List.cons_append, List.nil_append]
      refine G.op rfl (G.val rfl rfl (pv_assign rfl) ?_)
      refine G.nil ?_
      refine G.nThen ?_
      refine G.seq ?_
      refine G.cut (X := Value × Value × List UInt8 × Bool) (fun (v, vr, bs, bad) => bs.length ≤ 3005 * (k + 1)) (fun (v, vr, bs, bad) => [(6, (.slice (some ⟨bl, 0, none⟩) l[k].b.length (l[k].b.length + 3))), (5, .int .i64 (k : Int)), (3, .pointer (some ⟨D, 0, none⟩)), (4, .pointer (some ⟨b18, 0, none⟩)), (0, .slice ad l.length cap)]) (fun (v, vr, bs, bad) => [blk D 60 [.bool true, .bool bad, v], own 5 1 v bs.length (bs.map vByte), blk b18 34 [vr, .bool bad], own 5 1 vr bs.length (bs.map vByte), blk bl 5 ((lentM l[k].b).map vByte)]) ?_ ?_
      · refine G.seq ?_
        refine G.region ?_
        refine G.op rfl (G.val rfl rfl (pv_move rfl) ?_)
        refine G.op rfl (G.val rfl rfl (pv_move rfl) ?_)
        refine G.op rfl (G.val rfl rfl (pv_ixSl (sz := 20) (k := k) Try.underlying28 (by kernel_rfl) rfl rfl had rfl hlt) ?_)
        refine G.op rfl (G.val rfl rfl (pv_fieldAddr (sz := 0) Try.underlying39 rfl (by kernel_rfl) rfl) ?_)
        refine G.op rfl (G.val rfl rfl (pv_load Try.underlying3 rfl rfl (ro_int hK)) ?_)
        refine G.nil ?_
        refine G.nThen ?_
        refine G.block ?_
        refine G.seq ?_
        refine G.region ?_
        refine G.op rfl (G.val rfl rfl (pv_eql rfl rfl) ?_)
        refine G.op rfl (G.val rfl rfl (pv_assign rfl) ?_)
        refine G.nil ?_
        refine G.nThen ?_
        refine G.condP rfl (fun h36 => ?_) (fun h36 => ?_)
        · refine G.seq ?_
          refine G.region ?_
          refine G.op rfl (G.val rfl rfl (pv_move rfl) ?_)
          refine G.op rfl (G.val rfl rfl (pv_move rfl) ?_)
          refine G.op rfl (G.val rfl rfl (pv_move rfl) ?_)
          refine G.op rfl (G.val rfl rfl (pv_ixSl (sz := 20) (k := k) Try.underlying28 (by kernel_rfl) rfl rfl had rfl hlt) ?_)
          refine G.op rfl (G.val rfl rfl (pv_fieldAddr (sz := 0) Try.underlying39 rfl (by kernel_rfl) rfl) ?_)
          refine G.op rfl (G.val rfl rfl (pv_load Try.underlying3 rfl rfl (ro_int hN)) ?_)
          refine G.op rfl (G.cN rfl rfl rfl rfl Try.func15 rfl rfl (wint_any D bad v bs l[k].n (by omega)) (.cons (by repeat (first | with_reducible exact Sel.here | exact Sel.here | apply Sel.there)) (.cons (by repeat (first | with_reducible exact Sel.here | exact Sel.here | apply Sel.there)) .nil)) may0 ?_)
          rintro v1 -
          simp only [List.cons_append, List.nil_append]
          refine G.nil ?_
          refine G.nThen ?_
          refine G.region ?_
          refine G.op rfl (G.val rfl rfl (pv_move rfl) ?_)
          refine G.op rfl (G.val rfl rfl (pv_move rfl) ?_)
          refine G.op rfl (G.val rfl rfl (pv_move rfl) ?_)
          refine G.op rfl (G.val rfl rfl (pv_ixSl (sz := 20) (k := k) Try.underlying28 (by kernel_rfl) rfl rfl had rfl hlt) ?_)
          refine G.op rfl (G.val rfl rfl (pv_fieldAddr (sz := 0) Try.underlying39 rfl (by kernel_rfl) rfl) ?_)
          refine G.op rfl (G.val rfl rfl (pv_load Try.underlying3 rfl rfl (ro_int hN)) ?_)
          refine G.op rfl (G.cN rfl rfl rfl rfl Try.func16 rfl rfl (wintR_any b18 bad vr bs l[k].n (by omega)) (.cons (by repeat (first | with_reducible exact Sel.here | exact Sel.here | apply Sel.there)) (.cons (by repeat (first | with_reducible exact Sel.here | exact Sel.here | apply Sel.there)) .nil)) may0 ?_)
          rintro v2 -
          simp only [List.cons_append, List.nil_append]
          refine G.nil ?_
          refine G.nBlock ?_
          exact G.meet (v1, v2, bs ++ putM l[k].n, bad || decide (sizeM l[k].n = 0)) (by first | exact hbs1 | (simp only [List.length_append, bytesM, putM_length] at *; omega)) (.cons rfl (.cons rfl (.cons rfl (.cons rfl (.cons rfl .nil))))) (.cons (by (repeat (first | with_reducible exact Sel.here | exact Sel.here | apply Sel.there)); done) (.cons (by (repeat (first | with_reducible exact Sel.here | exact Sel.here | apply Sel.there)); done) (.cons (by (repeat (first | with_reducible exact Sel.here | exact Sel.here | apply Sel.there)); done) (.cons (by (repeat (first | with_reducible exact Sel.here | exact Sel.here | apply Sel.there)); done) (.cons (by (repeat (first | with_reducible exact Sel.here | exact Sel.here | apply Sel.there)); done) .nil)))))
        · refine G.seq ?_
          refine G.region ?_
          refine G.op rfl (G.val rfl rfl (pv_eql rfl rfl) ?_)
          refine G.op rfl (G.val rfl rfl (pv_assign rfl) ?_)
          refine G.nil ?_
          refine G.nThen ?_
          refine G.condP rfl (fun h52 => ?_) (fun h52 => ?_)
          · refine G.seq ?_
            refine G.region ?_
            refine G.op rfl (G.val rfl rfl (pv_move rfl) ?_)
            refine G.op rfl (G.val rfl rfl (pv_move rfl) ?_)
            refine G.op rfl (G.cN rfl rfl rfl rfl Try.func17 rfl rfl (wbytes_tr D bad v _ bs l[k].b (Pu := (· = bl)) (by omega) (by omega)) (.cons (by repeat (first | with_reducible exact Sel.here | exact Sel.here | apply Sel.there)) (.cons (by repeat (first | with_reducible exact Sel.here | exact Sel.here | apply Sel.there)) .nil)) (may1 (may_pre (f := vByte) (p := fun _ => True) (xs := lentM l[k].b) (b := bl) (by repeat (first | with_reducible exact Sel.here | exact Sel.here | apply Sel.there)) (by unfold lentM; simp) (fun _ _ => trivial) (by rw [lentM_length]; omega) (by omega) (by omega))) ?_)
            rintro v1 -
            simp only [List.cons_append, List.nil_append]
            refine G.nil ?_
            refine G.nThen ?_
            refine G.region ?_
            refine G.op rfl (G.val rfl rfl (pv_move rfl) ?_)
            refine G.op rfl (G.val rfl rfl (pv_move rfl) ?_)
            refine G.op rfl (G.val rfl rfl (pv_move rfl) ?_)
            refine G.op rfl (G.val rfl rfl (pv_ixSl (sz := 20) (k := k) Try.underlying28 (by kernel_rfl) rfl rfl had rfl hlt) ?_)
            refine G.op rfl (G.val rfl rfl (pv_fieldAddr (sz := 0) Try.underlying39 rfl (by kernel_rfl) rfl) ?_)
            refine G.op rfl (G.val rfl rfl (pv_load Try.underlying23 rfl rfl hcB) ?_)
            refine G.op rfl (G.cN rfl rfl rfl rfl Try.func18 rfl rfl (wbytesR_tr b18 bad vr _ bs l[k].b (Pu := Pu) (by omega) (by omega)) (.cons (by repeat (first | with_reducible exact Sel.here | exact Sel.here | apply Sel.there)) (.cons (by repeat (first | with_reducible exact Sel.here | exact Sel.here | apply Sel.there)) .nil)) (may1 (.old hB)) ?_)
            rintro v2 -
            simp only [List.cons_append, List.nil_append]
            refine G.nil ?_
            refine G.nBlock ?_
            exact G.meet (v1, v2, bs ++ bytesM l[k].b, bad || decide (sizeM (l[k].b.length : Int) = 0)) (by first | exact hbs1 | (simp only [List.length_append, bytesM, putM_length] at *; omega)) (.cons rfl (.cons rfl (.cons rfl (.cons rfl (.cons rfl .nil))))) (.cons (by (repeat (first | with_reducible exact Sel.here | exact Sel.here | apply Sel.there)); done) (.cons (by (repeat (first | with_reducible exact Sel.here | exact Sel.here | apply Sel.there)); done) (.cons (by (repeat (first | with_reducible exact Sel.here | exact Sel.here | apply Sel.there)); done) (.cons (by (repeat (first | with_reducible exact Sel.here | exact Sel.here | apply Sel.there)); done) (.cons (by (repeat (first | with_reducible exact Sel.here | exact Sel.here | apply Sel.there)); done) .nil)))))
          · refine G.seq ?_
            refine G.region ?_
            refine G.op rfl (G.val rfl rfl (pv_eql rfl rfl) ?_)
            refine G.op rfl (G.val rfl rfl (pv_assign rfl) ?_)
            refine G.nil ?_
            refine G.nThen ?_
            refine G.condP rfl (fun h64 => ?_) (fun h64 => ?_)
            · refine G.seq ?_
              refine G.region ?_
              refine G.op rfl (G.val rfl rfl (pv_move rfl) ?_)
              refine G.op rfl (G.val rfl rfl (pv_move rfl) ?_)
              refine G.op rfl (G.val rfl rfl (pv_move rfl) ?_)
              refine G.op rfl (G.val rfl rfl (pv_ixSl (sz := 20) (k := k) Try.underlying28 (by kernel_rfl) rfl rfl had rfl hlt) ?_)
              refine G.op rfl (G.val rfl rfl (pv_fieldAddr (sz := 0) Try.underlying39 rfl (by kernel_rfl) rfl) ?_)
              refine G.op rfl (G.val rfl rfl (pv_load Try.underlying23 rfl rfl hcB) ?_)
              refine G.op rfl (G.val rfl rfl (pv_toStr (xs := l[k].b) Try.underlying23 Try.underlying5 Try.underlying9 rfl (ro_sl hB)) ?_)
              refine G.op rfl (G.cN rfl rfl rfl rfl Try.func19 rfl rfl (wtext_tr D bad v bs l[k].b (by omega) (by omega)) (.cons (by repeat (first | with_reducible exact Sel.here | exact Sel.here | apply Sel.there)) (.cons (by repeat (first | with_reducible exact Sel.here | exact Sel.here | apply Sel.there)) .nil)) may0 ?_)
              rintro v1 -
              simp only [List.cons_append, List.nil_append]
              refine G.nil ?_
              refine G.nThen ?_
              refine G.region ?_
              refine G.op rfl (G.val rfl rfl (pv_move rfl) ?_)
              refine G.op rfl (G.val rfl rfl (pv_move rfl) ?_)
              refine G.op rfl (G.val rfl rfl (pv_move rfl) ?_)
              refine G.op rfl (G.val rfl rfl (pv_ixSl (sz := 20) (k := k) Try.underlying28 (by kernel_rfl) rfl rfl had rfl hlt) ?_)
              refine G.op rfl (G.val rfl rfl (pv_fieldAddr (sz := 0) Try.underlying39 rfl (by kernel_rfl) rfl) ?_)
              refine G.op rfl (G.val rfl rfl (pv_load Try.underlying23 rfl rfl hcB) ?_)
              refine G.op rfl (G.val rfl rfl (pv_toStr (xs := l[k].b) Try.underlying23 Try.underlying5 Try.underlying9 rfl (ro_sl hB)) ?_)
              refine G.op rfl (G.cN rfl rfl rfl rfl Try.func20 rfl rfl (wtextR_tr b18 bad vr bs l[k].b (by omega) (by omega)) (.cons (by repeat (first | with_reducible exact Sel.here | exact Sel.here | apply Sel.there)) (.cons (by repeat (first | with_reducible exact Sel.here | exact Sel.here | apply Sel.there)) .nil)) may0 ?_)
              rintro v2 -
              simp only [List.cons_append, List.nil_append]
              refine G.nil ?_
              refine G.nBlock ?_
              exact G.meet (v1, v2, bs ++ bytesM l[k].b, bad || decide (sizeM (l[k].b.length : Int) = 0)) (by first | exact hbs1 | (simp only [List.length_append, bytesM, putM_length] at *; omega)) (.cons rfl (.cons rfl (.cons rfl (.cons rfl (.cons rfl .nil))))) (.cons (by (repeat (first | with_reducible exact Sel.here | exact Sel.here | apply Sel.there)); done) (.cons (by (repeat (first | with_reducible exact Sel.here | exact Sel.here | apply Sel.there)); done) (.cons (by (repeat (first | with_reducible exact Sel.here | exact Sel.here | apply Sel.there)); done) (.cons (by (repeat (first | with_reducible exact Sel.here | exact Sel.here | apply Sel.there)); done) (.cons (by (repeat (first | with_reducible exact Sel.here | exact Sel.here | apply Sel.there)); done) .nil)))))
            · refine G.seq ?_
              refine G.region ?_
              refine G.op rfl (G.val rfl rfl (pv_eql rfl rfl) ?_)
              refine G.op rfl (G.val rfl rfl (pv_assign rfl) ?_)
              refine G.nil ?_
              refine G.nThen ?_
              refine G.condP rfl (fun h82 => ?_) (fun h82 => ?_)
              · refine G.seq ?_
                refine G.region ?_
                refine G.op rfl (G.val rfl rfl (pv_move rfl) ?_)
                refine G.op rfl (G.val rfl rfl (pv_move rfl) ?_)
                refine G.op rfl (G.val rfl rfl (pv_move rfl) ?_)
                refine G.op rfl (G.val rfl rfl (pv_ixSl (sz := 20) (k := k) Try.underlying28 (by kernel_rfl) rfl rfl had rfl hlt) ?_)
                refine G.op rfl (G.val rfl rfl (pv_fieldAddr (sz := 15) Try.underlying39 rfl (by kernel_rfl) rfl) ?_)
                refine G.op rfl (G.val rfl rfl (pv_loadN (cs := l[k].id.map vByte) Try.underlying37 rfl (by rw [List.length_map, hid]; kernel_rfl) rfl hI) ?_)
                refine G.op rfl (G.cN rfl rfl rfl rfl Try.func21 rfl rfl (wid_tr D bad v bs l[k].id hid (by omega)) (.cons (by repeat (first | with_reducible exact Sel.here | exact Sel.here | apply Sel.there)) (.cons (by repeat (first | with_reducible exact Sel.here | exact Sel.here | apply Sel.there)) .nil)) may0 ?_)
                rintro v1 -
                simp only [List.cons_append, List.nil_append]
                refine G.nil ?_
                refine G.nThen ?_
                refine G.region ?_
                refine G.op rfl (G.val rfl rfl (pv_move rfl) ?_)
                refine G.op rfl (G.val rfl rfl (pv_move rfl) ?_)
                refine G.op rfl (G.val rfl rfl (pv_move rfl) ?_)
                refine G.op rfl (G.val rfl rfl (pv_ixSl (sz := 20) (k := k) Try.underlying28 (by kernel_rfl) rfl rfl had rfl hlt) ?_)
                refine G.op rfl (G.val rfl rfl (pv_fieldAddr (sz := 15) Try.underlying39 rfl (by kernel_rfl) rfl) ?_)
                refine G.op rfl (G.val rfl rfl (pv_loadN (cs := l[k].id.map vByte) Try.underlying37 rfl (by rw [List.length_map, hid]; kernel_rfl) rfl hI) ?_)
                refine G.op rfl (G.cN rfl rfl rfl rfl Try.func22 rfl rfl (widR_tr b18 bad vr bs l[k].id hid (by omega)) (.cons (by repeat (first | with_reducible exact Sel.here | exact Sel.here | apply Sel.there)) (.cons (by repeat (first | with_reducible exact Sel.here | exact Sel.here | apply Sel.there)) .nil)) may0 ?_)
                rintro v2 -
                simp only [List.cons_append, List.nil_append]
                refine G.nil ?_
                refine G.nBlock ?_
                exact G.meet (v1, v2, bs ++ l[k].id, bad) (by first | exact hbs1 | (simp only [List.length_append, bytesM, putM_length] at *; omega)) (.cons rfl (.cons rfl (.cons rfl (.cons rfl (.cons rfl .nil))))) (.cons (by (repeat (first | with_reducible exact Sel.here | exact Sel.here | apply Sel.there)); done) (.cons (by (repeat (first | with_reducible exact Sel.here | exact Sel.here | apply Sel.there)); done) (.cons (by (repeat (first | with_reducible exact Sel.here | exact Sel.here | apply Sel.there)); done) (.cons (by (repeat (first | with_reducible exact Sel.here | exact Sel.here | apply Sel.there)); done) (.cons (by (repeat (first | with_reducible exact Sel.here | exact Sel.here | apply Sel.there)); done) .nil)))))
              · refine G.skip ?_
                refine G.nBlock ?_
                exact G.meet (v, vr, bs, bad) (by first | exact hbs1 | (simp only [List.length_append, bytesM, putM_length] at *; omega)) (.cons rfl (.cons rfl (.cons rfl (.cons rfl (.cons rfl .nil))))) (.cons (by (repeat (first | with_reducible exact Sel.here | exact Sel.here | apply Sel.there)); done) (.cons (by (repeat (first | with_reducible exact Sel.here | exact Sel.here | apply Sel.there)); done) (.cons (by (repeat (first | with_reducible exact Sel.here | exact Sel.here | apply Sel.there)); done) (.cons (by (repeat (first | with_reducible exact Sel.here | exact Sel.here | apply Sel.there)); done) (.cons (by (repeat (first | with_reducible exact Sel.here | exact Sel.here | apply Sel.there)); done) .nil)))))
      · rintro ⟨v, vr, bs, bad⟩ hbs
        show G _ _ _ [(6, (.slice (some ⟨bl, 0, none⟩) l[k].b.length (l[k].b.length + 3))), (5, .int .i64 (k : Int)), (3, .pointer (some ⟨D, 0, none⟩)), (4, .pointer (some ⟨b18, 0, none⟩)), (0, .slice ad l.length cap)] [blk D 60 [.bool true, .bool bad, v], own 5 1 v bs.length (bs.map vByte), blk b18 34 [vr, .bool bad], own 5 1 vr bs.length (bs.map vByte), blk bl 5 ((lentM l[k].b).map vByte)] _
        refine G.seq ?_
        refine G.seq ?_
        refine G.region ?_
        refine G.op rfl (G.val rfl rfl (pv_move rfl) ?_)
        refine G.op rfl (G.val rfl rfl (pv_move rfl) ?_)
        refine G.op rfl (G.val rfl rfl (pv_move rfl) ?_)
        refine G.op rfl (G.val rfl rfl (pv_ixSl (sz := 20) (k := k) Try.underlying28 (by kernel_rfl) rfl rfl had rfl hlt) ?_)
        refine G.op rfl (G.val rfl rfl (pv_fieldAddr (sz := 0) Try.underlying39 rfl (by kernel_rfl) rfl) ?_)
        refine G.op rfl (G.val rfl rfl (pv_load Try.underlying23 rfl rfl hcB) ?_)
        refine G.op rfl (G.call0 rfl rfl rfl rfl Try.func23 rfl rfl (kept_tr (Pv := Pu) _ bl l[k].b (by omega)) (may2 (.old hB) (may_all (f := vByte) (p := fun _ => True) (xs := lentM l[k].b) (b := bl) (by repeat (first | with_reducible exact Sel.here | exact Sel.here | apply Sel.there)) (fun _ _ => trivial) rfl (by rw [lentM_length]; exact Nat.le_refl _) (by omega))) ?_)
        refine G.op rfl (G.val rfl rfl (pv_not rfl) ?_)
        refine G.nil ?_
        refine G.nThen ?_
        refine G.condF rfl (rfl) ?_
        refine G.skip ?_
        refine G.nThen ?_
        refine G.seq ?_
        refine G.region ?_
        refine G.op rfl (G.val rfl rfl (pv_move rfl) ?_)
        refine G.op rfl (G.cN rfl rfl rfl rfl Try.func24 rfl rfl (over_tr bl l[k].b.length (l[k].b.length + 3) (lentM l[k].b) (lentM_length _) (by omega) (by omega)) (.cons (by repeat (first | with_reducible exact Sel.here | exact Sel.here | apply Sel.there)) .nil) may0 ?_)
        rintro a' -
        simp only [List.cons_append, List.nil_append]
        refine G.nil ?_
        refine G.nThen ?_
        refine G.seq ?_
        refine G.region ?_
        refine G.op rfl (G.val rfl rfl (pv_move rfl) ?_)
        refine G.op rfl (G.cN rfl rfl rfl rfl Try.func25 rfl rfl (woutB_tr D bad v bs (by omega)) .nil (may2 (Sel.may (by repeat (first | with_reducible exact Sel.here | exact Sel.here | apply Sel.there))) (Sel.may (by repeat (first | with_reducible exact Sel.here | exact Sel.here | apply Sel.there)))) ?_)
        rintro v7 -
        simp only [List.cons_append, List.nil_append]
        refine G.op rfl (G.val rfl rfl (pv_move rfl) ?_)
        refine G.op rfl (G.val rfl rfl (pv_extract rfl rfl) ?_)
        refine G.op rfl (G.val rfl rfl (pv_extract rfl rfl) ?_)
        refine G.op rfl (G.val rfl rfl (pv_assign rfl) ?_)
        refine G.op rfl (G.val rfl rfl (pv_assign rfl) ?_)
        refine G.nil ?_
        refine G.nThen ?_
        refine G.seq ?_
        refine G.region ?_
        refine G.op rfl (G.val rfl rfl (pv_move rfl) ?_)
        refine G.op rfl (G.cN rfl rfl rfl rfl Try.func26 rfl rfl (woutRB_tr b18 bad vr bs (by omega)) .nil (may2 (Sel.may (by repeat (first | with_reducible exact Sel.here | exact Sel.here | apply Sel.there))) (Sel.may (by repeat (first | with_reducible exact Sel.here | exact Sel.here | apply Sel.there)))) ?_)
        rintro v9 -
        simp only [List.cons_append, List.nil_append]
        refine G.op rfl (G.val rfl rfl (pv_move rfl) ?_)
        refine G.op rfl (G.val rfl rfl (pv_extract rfl rfl) ?_)
        refine G.op rfl (G.val rfl rfl (pv_extract rfl rfl) ?_)
        refine G.op rfl (G.val rfl rfl (pv_assign rfl) ?_)
        refine G.op rfl (G.val rfl rfl (pv_assign rfl) ?_)
        refine G.nil ?_
        refine G.nThen ?_
        refine G.seq ?_
        refine G.seq ?_
        refine G.drawn (by kernel_rfl) (k := 24) rfl [] ?_
        refine G.take (i := 0) rfl rfl rfl (by kernel_rfl) (by kernel_rfl) (by kernel_rfl) (fun _ _ _ h => h) rfl (pv_move rfl) Sub.nil ?_
        refine G.take (i := 1) rfl rfl rfl (by kernel_rfl) (by kernel_rfl) (by kernel_rfl) (fun _ _ _ h => h) rfl (pv_move rfl) Sub.nil ?_
        refine G.take (i := 2) rfl rfl rfl (by kernel_rfl) (by kernel_rfl) (by kernel_rfl) (fun _ _ _ h => h) rfl ((pv_neq rfl rfl).cast (v' := .bool false) (congrArg Value.bool (by simp))) Sub.nil ?_
        refine G.take (i := 3) rfl rfl rfl (by kernel_rfl) (by kernel_rfl) (by kernel_rfl) (fun _ _ _ h => h) rfl (pv_move rfl) Sub.nil ?_
        refine G.take (i := 4) rfl rfl rfl (by kernel_rfl) (by kernel_rfl) (by kernel_rfl) (fun _ _ _ h => h) rfl (pv_move rfl) Sub.nil ?_
        refine G.take (i := 5) rfl rfl rfl (by kernel_rfl) (by kernel_rfl) (by kernel_rfl) (fun _ _ _ h => h) rfl (pv_move rfl) Sub.nil ?_
        refine G.one (i := 6) (by kernel_rfl) ?_
        refine G.turnOp rfl rfl (G.call0 rfl rfl rfl rfl Try.func11 rfl rfl (same_self _ _ (outW bad bs)) (may2 (may_ownB (by repeat (first | with_reducible exact Sel.here | exact Sel.here | apply Sel.there))) (may_ownB (by repeat (first | with_reducible exact Sel.here | exact Sel.here | apply Sel.there)))) ?_)
        refine G.back Sub.nil ?_
        refine G.take (i := 7) rfl rfl rfl (by kernel_rfl) (by kernel_rfl) (by kernel_rfl) (fun _ _ _ h => h) rfl (pv_not rfl) Sub.nil ?_
        refine G.take (i := 8) rfl rfl rfl (by kernel_rfl) (by kernel_rfl) (by kernel_rfl) (fun _ _ _ h => h) rfl (pv_pick rfl rfl) Sub.nil ?_
        refine G.take (i := 9) rfl rfl rfl (by kernel_rfl) (by kernel_rfl) (by kernel_rfl) (fun _ _ _ h => h) rfl (pv_move rfl) Sub.nil ?_
        refine G.take (i := 10) rfl rfl rfl (by kernel_rfl) (by kernel_rfl) (by kernel_rfl) (fun _ _ _ h => h) rfl (pv_move rfl) Sub.nil ?_
        refine G.take (i := 11) rfl rfl rfl (by kernel_rfl) (by kernel_rfl) (by kernel_rfl) (fun _ _ _ h => h) rfl (pv_move rfl) Sub.nil ?_
        refine G.take (i := 12) rfl rfl rfl (by kernel_rfl) (by kernel_rfl) (by kernel_rfl) (fun _ _ _ h => h) rfl (pv_ixSl (sz := 20) (k := k) Try.underlying28 (by kernel_rfl) rfl rfl had rfl hlt) Sub.nil ?_
        refine G.take (i := 13) rfl rfl rfl (by kernel_rfl) (by kernel_rfl) (by kernel_rfl) (fun _ _ _ h => h) rfl (pv_fieldAddr (sz := 0) Try.underlying39 rfl (by kernel_rfl) rfl) Sub.nil ?_
        refine G.take (i := 14) rfl rfl rfl (by kernel_rfl) (by kernel_rfl) (by kernel_rfl) (fun _ _ _ h => h) rfl (pv_load Try.underlying3 rfl rfl (ro_int hN)) Sub.nil ?_
        refine G.take (i := 16) rfl rfl rfl (by kernel_rfl) (by kernel_rfl) (by kernel_rfl) (fun _ _ _ h => h) rfl (pv_move rfl) Sub.nil ?_
        refine G.take (i := 17) rfl rfl rfl (by kernel_rfl) (by kernel_rfl) (by kernel_rfl) (fun _ _ _ h => h) rfl (pv_move rfl) Sub.nil ?_
        refine G.take (i := 18) rfl rfl rfl (by kernel_rfl) (by kernel_rfl) (by kernel_rfl) (fun _ _ _ h => h) rfl (pv_ixSl (sz := 20) (k := k) Try.underlying28 (by kernel_rfl) rfl rfl had rfl hlt) Sub.nil ?_
        refine G.take (i := 19) rfl rfl rfl (by kernel_rfl) (by kernel_rfl) (by kernel_rfl) (fun _ _ _ h => h) rfl (pv_fieldAddr (sz := 0) Try.underlying39 rfl (by kernel_rfl) rfl) Sub.nil ?_
        refine G.take (i := 20) rfl rfl rfl (by kernel_rfl) (by kernel_rfl) (by kernel_rfl) (fun _ _ _ h => h) rfl (pv_load Try.underlying3 rfl rfl (ro_int hN)) Sub.nil ?_
        refine G.one (i := 15) (by kernel_rfl) ?_
        refine G.turnOp rfl rfl (G.call0 rfl rfl rfl rfl Try.func10 rfl rfl (size_tr l[k].n) may0 ?_)
        refine G.back Sub.nil ?_
        refine G.one (i := 21) (by kernel_rfl) ?_
        refine G.turnOp rfl rfl (G.call0 rfl rfl rfl rfl Try.func27 rfl rfl (sizeR_tr l[k].n) may0 ?_)
        refine G.back Sub.nil ?_
        refine G.take (i := 22) rfl rfl rfl (by kernel_rfl) (by kernel_rfl) (by kernel_rfl) (fun _ _ _ h => h) rfl ((pv_neq rfl rfl).cast (v' := .bool false) (congrArg Value.bool (by simp))) Sub.nil ?_
        refine G.take (i := 23) rfl rfl rfl (by kernel_rfl) (by kernel_rfl) (by kernel_rfl) (fun _ _ _ h => h) rfl (pv_pick rfl rfl) Sub.nil ?_
        refine G.over (by kernel_rfl) ?_
        refine G.nThen ?_
        refine G.condF rfl (rfl) ?_
        refine G.skip ?_
        refine G.nThen ?_
        refine G.region ?_
        refine G.op rfl (G.val rfl rfl (pv_move rfl) ?_)
        refine G.op rfl (G.cN rfl rfl rfl rfl Try.func24 rfl rfl (overB_tr v7 (outW bad bs)) (.cons (by repeat (first | with_reducible exact Sel.here | exact Sel.here | apply Sel.there)) .nil) may0 ?_)
        rintro ⟨⟩ -
        simp only [List.cons_append, List.nil_append]
        refine G.nil ?_
        refine G.nBlock ?_
        refine G.nThen ?_
        refine G.region ?_
        refine G.op rfl (G.val rfl rfl (pv_move rfl) ?_)
        refine G.op rfl (G.val rfl rfl (pv_add64 rfl rfl (by omega)) ?_)
        refine G.op rfl (G.val rfl rfl (pv_assign rfl) ?_)
        refine G.nil ?_
        exact G.next ((k + 1, v, vr, bs, bad)) (by exact ⟨hlt, hbs⟩) (by dsimp only; omega) (.consE rfl (by first | rfl | exact int_eq (by omega) | exact congrArg _ (by omega)) (.consE rfl (by first | rfl | exact int_eq (by omega) | exact congrArg _ (by omega)) (.consE rfl (by first | rfl | exact int_eq (by omega) | exact congrArg _ (by omega)) (.consE rfl (by first | rfl | exact int_eq (by omega) | exact congrArg _ (by omega)) .nil)))) (.cons (by repeat (first | with_reducible exact Sel.here | exact Sel.here | apply Sel.there)) (.cons (by repeat (first | with_reducible exact Sel.here | exact Sel.here | apply Sel.there)) (.cons (by repeat (first | with_reducible exact Sel.here | exact Sel.here | apply Sel.there)) (.cons (by repeat (first | with_reducible exact Sel.here | exact Sel.here | apply Sel.there)) .nil))))
    · refine G.exit ?_
      refine G.eThen ?_
      refine G.eThen ?_
      refine G.eBlock ?_
      refine G.nThen ?_
      refine G.seq ?_
      refine G.region ?_
      refine G.op rfl (G.call0 rfl rfl rfl rfl Try.func8 rfl rfl (awake_tr) may0 ?_)
      refine G.op rfl (G.val rfl rfl (pv_assign rfl) ?_)
      refine G.nil ?_
      refine G.nThen ?_
      refine G.ret ?_
      exact G.done1 rfl rfl .nil ⟨rfl, rfl⟩
end Go.Proofs.Ytnfjpiancbgdhaa
