/- The statement NoteShapes. Conditions: none. -/
import Derived.Test.YtakcffhknnailaaNJ
set_option linter.unusedVariables false
set_option linter.unusedSimpArgs false
namespace Go.Proofs.Ytakcffhknnailaa
open Go.RowKit

def extN (ns : List Int) : Nat → List Int
  | 0 => ns
  | j + 1 => extN ns j ++ [0]
def extI (ids : List (List UInt8)) : Nat → List (List UInt8)
  | 0 => ids
  | j + 1 => extI ids j ++ [List.replicate 16 0]
def extB (bs : List UInt8) : Nat → List UInt8
  | 0 => bs
  | j + 1 => extB bs j ++ [0]
theorem extN_len (ns : List Int) : ∀ j, (extN ns j).length = ns.length + j
  | 0 => rfl
  | j + 1 => by show (extN ns j ++ [0]).length = _; rw [List.length_append, extN_len ns j]; rfl
theorem extI_len (ids : List (List UInt8)) : ∀ j, (extI ids j).length = ids.length + j
  | 0 => rfl
  | j + 1 => by show (extI ids j ++ [_]).length = _; rw [List.length_append, extI_len ids j]; rfl
theorem extB_len (bs : List UInt8) : ∀ j, (extB bs j).length = bs.length + j
  | 0 => rfl
  | j + 1 => by show (extB bs j ++ [0]).length = _; rw [List.length_append, extB_len bs j]; rfl
theorem extN_i64 {ns : List Int} (h : ∀ x ∈ ns, I64 x) : ∀ j, ∀ x ∈ extN ns j, I64 x
  | 0, x, hx => h x hx
  | j + 1, x, hx => by
    have hx : x ∈ extN ns j ++ [0] := hx
    rcases List.mem_append.1 hx with h1 | h1
    · exact extN_i64 h j x h1
    · obtain rfl : x = 0 := by simpa using h1
      exact ⟨by decide, by decide⟩
theorem extI_16 {ids : List (List UInt8)} (h : all16 ids) : ∀ j, all16 (extI ids j)
  | 0 => h
  | j + 1 => (extI_16 h j).snoc rfl
theorem extN_app (ns : List Int) (j : Nat) (e : TypeId) (v : Value) : own e 1 v ((extN ns j).length + 1) ((extN ns j).map vInt ++ [vInt 0]) = own e 1 v (extN ns (j + 1)).length ((extN ns (j + 1)).map vInt) := by
  have e1 : extN ns (j + 1) = extN ns j ++ [0] := rfl
  rw [e1, List.map_append, List.length_append]; rfl
theorem extI_app (ids : List (List UInt8)) (j : Nat) (e : TypeId) (v : Value) : own e 16 v ((extI ids j).length + 1) (flatI (extI ids j) ++ (List.replicate 16 (0 : UInt8)).map vByte) = own e 16 v (extI ids (j + 1)).length (flatI (extI ids (j + 1))) := by
  have e1 : extI ids (j + 1) = extI ids j ++ [List.replicate 16 0] := rfl
  rw [e1, flatI_app, List.length_append]
  congr 2
theorem extB_app (bs : List UInt8) (j : Nat) (e : TypeId) (v : Value) : own e 1 v ((extB bs j).length + 1) ((extB bs j).map vByte ++ [vByte 0]) = own e 1 v (extB bs (j + 1)).length ((extB bs (j + 1)).map vByte) := by
  have e1 : extB bs (j + 1) = extB bs j ++ [0] := rfl
  rw [e1, List.map_append, List.length_append]; rfl
theorem chk_five {k : Int} {s : Sh} {a : List Int} {b c : Nat} (hs : shM k = some s) (h : checkM k a b c ≠ 0) : checkM k a b c = 5 := by
  unfold checkM at h ⊢
  rw [hs] at h ⊢
  simp only at h ⊢
  unfold checkS at h ⊢
  split
  · rfl
  · rename_i h1
    rw [if_neg h1] at h
    split
    · rename_i h2
      rw [if_pos h2] at h
      exact absurd rfl h
    · rfl
theorem chk_neg {k : Int} {ns : List Int} {il bl i : Nat} (h : checkM k ns il bl = 0) (hi : i < ns.length) : checkM k (ns.set i (-1)) il bl = 5 := by
  obtain ⟨h1, h2, _⟩ := checkM_ok h
  obtain ⟨s, hs⟩ := shM_near h1 h2
  refine chk_five hs fun h0 => ?_
  have := (checkM_ok h0).2.2.1 (-1) (List.mem_of_getElem? (i := i) (by simp [hi]))
  omega
theorem set_i64 {ns : List Int} (h : ∀ x ∈ ns, I64 x) (i : Nat) : ∀ x ∈ ns.set i (-1), I64 x := fun x hx => by
  rcases List.mem_or_eq_of_mem_set hx with h1 | rfl
  · exact h x h1
  · exact ⟨by decide, by decide⟩
section
variable {P : Program} {n : Nat} {w0 : World} {S : Nat → Prop} {l : Fr} {m : List Ck} {Q : Exit → Act → World → Prop} {K : Act → World → Prop}
/-- into a slice of the call's own -/
theorem G.storeO {ty : TypeId} {pos : String} {after : Array Edge} {g : Option (Nat × Bool)} {t e : TypeId} {x y : Operand} {b i k cap : Nat} {cs : List Value} {r : List Ck} {v : Value} (hi : (P.info? t).map (·.size) = some 1) (hx : ev l x = some (.pointer (some ⟨b, i, none⟩))) (hy : ev l y = some v) (hv : v.oneCell' = true) (hs : Sel m (own e 1 (.slice (some ⟨b, 0, none⟩) k cap) k cs) r) (hik : i < k)
    (h : G n w0 S l (own e 1 (.slice (some ⟨b, 0, none⟩) k cap) k (cs.set i v) :: r) K) : G n w0 S l m (fun a w => Oper.wp P ⟨none, .store t x y, ty, pos, after, g⟩ a w K Q) := fun a w ha hw => by
  have hw' := hw.sel hs
  obtain ⟨h1, h2⟩ : w.ownsRow 0 e 1 (.slice (some ⟨b, 0, none⟩) k cap) k cs := hw'.holds _ (List.mem_cons_self ..)
  rcases h2 with ⟨h2, _⟩ | ⟨g', cap', cur, hv', hb0, hg, hc, hm, hsz, ht⟩
  · cases h2
  · injection hv' with e1 e2 e3
    injection e1 with e1
    injection e1 with e1
    subst e1 e3
    have hb : ∀ q, (own e 1 (.slice (some ⟨b, 0, none⟩) k cap) k cs).S q ↔ q = b := fun q => by
      show some b = some q ↔ q = b
      constructor <;> intro h
      · exact (Option.some.inj h).symm
      · rw [h]
    have hw2 : Hp w0 S w (blk b e cur.toList :: r) := hp_view hw' (fun _ => by show w.heap[b]? = some (.cells cur.toList.toArray e (0, 0)); simpa using hg) fun q hq => (hb q).2 hq
    have step := G.store (P := P) (n := n) (w0 := w0) (S := S) (Q := Q) (K := K) (ty := ty) (pos := pos) (after := after) (g := g) (t := t) (l := l) (m := blk b e cur.toList :: r) (T := e) (b := b) (o := i) (v := v) hi hx hy hv .here (by simp only [Array.length_toList]; omega) (fun a2 w2 ha2 hw3 => ?_)
    · exact step a w ha hw2
    · refine h a2 w2 ha2 (hp_view (c := blk b e (cur.toList.set i v)) (d := own e 1 (.slice (some ⟨b, 0, none⟩) k cap) k (cs.set i v)) hw3 (fun hh => ?_) fun q hq => (hb q).1 hq)
      refine ⟨by rw [List.length_set]; exact h1, .inr ⟨b, cap, (cur.toList.set i v).toArray, rfl, hb0, hh, hc, hm, by simpa using hsz, ?_⟩⟩
      rw [← ht]
      simp [List.take_set]
end
set_option maxRecDepth 20000 in
set_option maxHeartbeats 4000000 in

theorem nshapes {Pv1 Pv2 Pv3 : Nat → Prop} (k which : Int) (v1 v2 v3 : Value) (ns : List Int) (ids : List (List UInt8)) (bs : List UInt8) : Tr Try.prog 7 #[.agg #[.int .i64 k, v1, v2, v3], .int .i64 which] [slc rInt Pv1 v1 ns, slc rID Pv2 v2 ids, slc rByte Pv3 v3 bs] [] (T0 (.bool true)) := by
  refine Tr.of (l := [(0, .agg #[.int .i64 k, v1, v2, v3]), (1, .int .i64 which)]) Try.func7 rfl (n := 117) rfl (.cons rfl (.cons rfl .nil)) (fun w0 hro => ?_)
  obtain ⟨hA, hB, hC⟩ := ro3 hro
  have h64 := Ro.i64s hA
  have h16 := Ro.all16 hB
  have oA := Ro.open hA
  obtain ⟨aA, cA, qA, oA, rfl, -⟩ := oA
  have oB := Ro.open hB
  obtain ⟨aB, cB, qB, oB, rfl, -⟩ := oB
  have oC := Ro.open hC
  obtain ⟨aC, cC, qC, oC, rfl, -⟩ := oC
  refine G.seq ?_
  refine G.region ?_
  refine G.op rfl (G.box rfl rfl (cs := [_, _, _, _]) rfl ?_)
  intro b2
  refine G.op rfl (G.val rfl rfl (pv_assign rfl) ?_)
  refine G.nil ?_
  refine G.nThen ?_
  refine G.seq ?_
  refine G.region ?_
  refine G.op rfl (G.cR rfl rfl rfl rfl Try.func20 rfl rfl may0 (awake10) ?_)
  refine G.op rfl (G.val rfl rfl (pv_assign rfl) ?_)
  refine G.nil ?_
  refine G.nThen ?_
  refine G.seq ?_
  refine G.seq ?_
  refine G.region ?_
  refine G.op rfl (G.val rfl rfl (pv_loadN (cs := [_, _, _, _]) Try.underlying26 rfl (by kernel_rfl) rfl (by first | exact blk_range (k := 4) (by (repeat (first | with_reducible exact Sel.here | exact Sel.here | apply Sel.there)); done) (by rfl) | exact rng_range (k := 4) (by (repeat (first | with_reducible exact Sel.here | exact Sel.here | apply Sel.there)); done) (by rfl) | exact ro_range (k := 4) (by assumption) (by rfl) | exact ro_rngR (k := 4) (by assumption) (by rfl))) ?_)
  refine G.op rfl (G.cR rfl rfl rfl rfl Try.func11 rfl rfl (may3 (by first | (apply May.old; first | with_reducible assumption | assumption) | (apply Sel.may; (repeat (first | with_reducible exact Sel.here | exact Sel.here | apply Sel.there)); done) | (apply may_own; (repeat (first | with_reducible exact Sel.here | exact Sel.here | apply Sel.there)); exact rfl; exact (fun _ _ => trivial); done) | (apply may_ownB; (repeat (first | with_reducible exact Sel.here | exact Sel.here | apply Sel.there)); done) | exact may_nil | (apply may_ownI; (repeat (first | with_reducible exact Sel.here | exact Sel.here | apply Sel.there)); assumption; done) | (apply may_ownN; (repeat (first | with_reducible exact Sel.here | exact Sel.here | apply Sel.there)); assumption; done)) (by first | (apply May.old; first | with_reducible assumption | assumption) | (apply Sel.may; (repeat (first | with_reducible exact Sel.here | exact Sel.here | apply Sel.there)); done) | (apply may_own; (repeat (first | with_reducible exact Sel.here | exact Sel.here | apply Sel.there)); exact rfl; exact (fun _ _ => trivial); done) | (apply may_ownB; (repeat (first | with_reducible exact Sel.here | exact Sel.here | apply Sel.there)); done) | exact may_nil | (apply may_ownI; (repeat (first | with_reducible exact Sel.here | exact Sel.here | apply Sel.there)); assumption; done) | (apply may_ownN; (repeat (first | with_reducible exact Sel.here | exact Sel.here | apply Sel.there)); assumption; done)) (by first | (apply May.old; first | with_reducible assumption | assumption) | (apply Sel.may; (repeat (first | with_reducible exact Sel.here | exact Sel.here | apply Sel.there)); done) | (apply may_own; (repeat (first | with_reducible exact Sel.here | exact Sel.here | apply Sel.there)); exact rfl; exact (fun _ _ => trivial); done) | (apply may_ownB; (repeat (first | with_reducible exact Sel.here | exact Sel.here | apply Sel.there)); done) | exact may_nil | (apply may_ownI; (repeat (first | with_reducible exact Sel.here | exact Sel.here | apply Sel.there)); assumption; done) | (apply may_ownN; (repeat (first | with_reducible exact Sel.here | exact Sel.here | apply Sel.there)); assumption; done))) (longNote_tr _ _ _ _ _ _ _) ?_)
  refine G.op rfl (G.val rfl rfl (pv_move rfl) ?_)
  refine G.partP (t := 13) rfl (fun h13 => ?_) (fun h13 => ?_)
  · refine G.pass rfl rfl rfl rfl rfl rfl ?_
    refine G.pass rfl rfl rfl rfl rfl rfl ?_
    refine G.pass rfl rfl rfl rfl rfl rfl ?_
    refine G.op rfl (G.val rfl rfl (pv_pick rfl rfl) ?_)
    refine G.nil ?_
    refine G.nThen ?_
    refine G.condT rfl (rfl) ?_
    refine G.seq ?_
    refine G.region ?_
    refine G.op rfl (G.val rfl rfl (pv_move rfl) ?_)
    refine G.op rfl (G.val rfl rfl (pv_assign rfl) ?_)
    refine G.nil ?_
    refine G.nThen ?_
    refine G.ret ?_
    refine G.rThen ?_
    exact G.done0G rfl (Rv.tmp rfl Rv.nil) (by first | rfl | exact int_eq (by omega) | (simp; done))
  · refine G.want rfl rfl rfl (G.val rfl rfl (pv_loadN (cs := [_, _, _, _]) Try.underlying26 rfl (by kernel_rfl) rfl (by first | exact blk_range (k := 4) (by (repeat (first | with_reducible exact Sel.here | exact Sel.here | apply Sel.there)); done) (by rfl) | exact rng_range (k := 4) (by (repeat (first | with_reducible exact Sel.here | exact Sel.here | apply Sel.there)); done) (by rfl) | exact ro_range (k := 4) (by assumption) (by rfl) | exact ro_rngR (k := 4) (by assumption) (by rfl))) ?_)
    refine G.want rfl rfl rfl (G.cR rfl rfl rfl rfl Try.func16 rfl rfl (may3 (by first | (apply May.old; first | with_reducible assumption | assumption) | (apply Sel.may; (repeat (first | with_reducible exact Sel.here | exact Sel.here | apply Sel.there)); done) | (apply may_own; (repeat (first | with_reducible exact Sel.here | exact Sel.here | apply Sel.there)); exact rfl; exact (fun _ _ => trivial); done) | (apply may_ownB; (repeat (first | with_reducible exact Sel.here | exact Sel.here | apply Sel.there)); done) | exact may_nil | (apply may_ownI; (repeat (first | with_reducible exact Sel.here | exact Sel.here | apply Sel.there)); assumption; done) | (apply may_ownN; (repeat (first | with_reducible exact Sel.here | exact Sel.here | apply Sel.there)); assumption; done)) (by first | (apply May.old; first | with_reducible assumption | assumption) | (apply Sel.may; (repeat (first | with_reducible exact Sel.here | exact Sel.here | apply Sel.there)); done) | (apply may_own; (repeat (first | with_reducible exact Sel.here | exact Sel.here | apply Sel.there)); exact rfl; exact (fun _ _ => trivial); done) | (apply may_ownB; (repeat (first | with_reducible exact Sel.here | exact Sel.here | apply Sel.there)); done) | exact may_nil | (apply may_ownI; (repeat (first | with_reducible exact Sel.here | exact Sel.here | apply Sel.there)); assumption; done) | (apply may_ownN; (repeat (first | with_reducible exact Sel.here | exact Sel.here | apply Sel.there)); assumption; done)) (by first | (apply May.old; first | with_reducible assumption | assumption) | (apply Sel.may; (repeat (first | with_reducible exact Sel.here | exact Sel.here | apply Sel.there)); done) | (apply may_own; (repeat (first | with_reducible exact Sel.here | exact Sel.here | apply Sel.there)); exact rfl; exact (fun _ _ => trivial); done) | (apply may_ownB; (repeat (first | with_reducible exact Sel.here | exact Sel.here | apply Sel.there)); done) | exact may_nil | (apply may_ownI; (repeat (first | with_reducible exact Sel.here | exact Sel.here | apply Sel.there)); assumption; done) | (apply may_ownN; (repeat (first | with_reducible exact Sel.here | exact Sel.here | apply Sel.there)); assumption; done))) (checkF _ _ _ _ _ _ _) ?_)
    refine G.want rfl rfl rfl (G.val rfl rfl (pv_neq rfl rfl) ?_)
    refine G.op rfl (G.val rfl rfl (pv_pick rfl rfl) ?_)
    refine G.nil ?_
    refine G.nThen ?_
    refine G.condP rfl (fun h17 => ?_) (fun h17 => ?_)
    · refine G.seq ?_
      refine G.region ?_
      refine G.op rfl (G.val rfl rfl (pv_move rfl) ?_)
      refine G.op rfl (G.val rfl rfl (pv_assign rfl) ?_)
      refine G.nil ?_
      refine G.nThen ?_
      refine G.ret ?_
      refine G.rThen ?_
      exact G.done0G rfl (Rv.tmp rfl Rv.nil) (by first | rfl | exact int_eq (by omega) | (simp; done))
    · have h0 : checkM k ns ids.length bs.length = 0 := by omega
      obtain ⟨hk1, hk2, hall, hn, hi, hbs⟩ := checkM_ok h0
      obtain ⟨s, hs⟩ := shM_near hk1 hk2
      refine G.skip ?_
      refine G.nThen ?_
      refine G.seq ?_
      refine G.region ?_
      refine G.op rfl (G.val rfl rfl (pv_loadN (cs := [_, _, _, _]) Try.underlying26 rfl (by kernel_rfl) rfl (by first | exact blk_range (k := 4) (by (repeat (first | with_reducible exact Sel.here | exact Sel.here | apply Sel.there)); done) (by rfl) | exact rng_range (k := 4) (by (repeat (first | with_reducible exact Sel.here | exact Sel.here | apply Sel.there)); done) (by rfl) | exact ro_range (k := 4) (by assumption) (by rfl) | exact ro_rngR (k := 4) (by assumption) (by rfl))) ?_)
      refine G.op rfl (G.cS rfl rfl rfl rfl Try.func12 rfl rfl (by repeat (first | exact Sub.nil | (apply Sub.cons; (repeat (first | with_reducible exact Sel.here | exact Sel.here | apply Sel.there))))) (may3 (by first | (apply May.old; first | with_reducible assumption | assumption) | (apply Sel.may; (repeat (first | with_reducible exact Sel.here | exact Sel.here | apply Sel.there)); done) | (apply may_own; (repeat (first | with_reducible exact Sel.here | exact Sel.here | apply Sel.there)); exact rfl; exact (fun _ _ => trivial); done) | (apply may_ownB; (repeat (first | with_reducible exact Sel.here | exact Sel.here | apply Sel.there)); done) | exact may_nil | (apply may_ownI; (repeat (first | with_reducible exact Sel.here | exact Sel.here | apply Sel.there)); assumption; done) | (apply may_ownN; (repeat (first | with_reducible exact Sel.here | exact Sel.here | apply Sel.there)); assumption; done)) (by first | (apply May.old; first | with_reducible assumption | assumption) | (apply Sel.may; (repeat (first | with_reducible exact Sel.here | exact Sel.here | apply Sel.there)); done) | (apply may_own; (repeat (first | with_reducible exact Sel.here | exact Sel.here | apply Sel.there)); exact rfl; exact (fun _ _ => trivial); done) | (apply may_ownB; (repeat (first | with_reducible exact Sel.here | exact Sel.here | apply Sel.there)); done) | exact may_nil | (apply may_ownI; (repeat (first | with_reducible exact Sel.here | exact Sel.here | apply Sel.there)); assumption; done) | (apply may_ownN; (repeat (first | with_reducible exact Sel.here | exact Sel.here | apply Sel.there)); assumption; done)) (by first | (apply May.old; first | with_reducible assumption | assumption) | (apply Sel.may; (repeat (first | with_reducible exact Sel.here | exact Sel.here | apply Sel.there)); done) | (apply may_own; (repeat (first | with_reducible exact Sel.here | exact Sel.here | apply Sel.there)); exact rfl; exact (fun _ _ => trivial); done) | (apply may_ownB; (repeat (first | with_reducible exact Sel.here | exact Sel.here | apply Sel.there)); done) | exact may_nil | (apply may_ownI; (repeat (first | with_reducible exact Sel.here | exact Sel.here | apply Sel.there)); assumption; done) | (apply may_ownN; (repeat (first | with_reducible exact Sel.here | exact Sel.here | apply Sel.there)); assumption; done))) (copyNote_tr _ _ _ _ _ _ _ (by omega) (by omega) (by omega)) (by repeat (first | exact Ap.nil | apply Ap.cons)) ?_)
      intro x20 hJ
      obtain ⟨yN, yI, yB⟩ := x20
      try dsimp only at hJ
      try dsimp only
      refine G.ownFact (v := yN) (by repeat (first | with_reducible exact Sel.here | exact Sel.here | apply Sel.there)) (fun hfyN _ => ?_)
      refine G.ownFact (v := yI) (by repeat (first | with_reducible exact Sel.here | exact Sel.here | apply Sel.there)) (fun hfyI _ => ?_)
      refine G.ownFact (v := yB) (by repeat (first | with_reducible exact Sel.here | exact Sel.here | apply Sel.there)) (fun hfyB _ => ?_)
      refine G.op rfl (G.alloc (z := .agg #[.int .i64 0, .slice none 0 0, .slice none 0 0, .slice none 0 0]) (cs := [.int .i64 0, .slice none 0 0, .slice none 0 0, .slice none 0 0]) rfl (by kernel_rfl) rfl ?_)
      intro b6
      refine G.op rfl (G.storeN (by kernel_rfl) rfl rfl (by first | exact (all1_cons (by first | rfl | with_reducible assumption) (all1_cons (by first | rfl | with_reducible assumption) (all1_cons (by first | rfl | with_reducible assumption) (all1_cons (by first | rfl | with_reducible assumption) all1_nil)))) | exact List.all_eq_true.2 (vByte_one _) | rfl) (by repeat (first | with_reducible exact Sel.here | exact Sel.here | apply Sel.there)) (by first | (simp; done) | exact Nat.le_of_ble_eq_true rfl) ?_)
      refine G.nil ?_
      refine G.nThen ?_
      refine G.seq ?_
      refine G.cutK (X := Value × Nat) (ts := [1, 2, 4, 5, 6]) (p := [blk b6 _ _, own 3 1 yN _ _]) (fun st => checkM k (extN ns st.2) ids.length bs.length = 5 ∧ (extN ns st.2).length ≤ 129) (fun st => []) (fun st => [blk b6 26 [.int .i64 k, st.1, yI, yB], own 3 1 st.1 (extN ns st.2).length ((extN ns st.2).map vInt)]) (.cons rfl (.cons rfl (.cons rfl (.cons rfl (.cons rfl .nil))))) (by repeat (first | exact Sub.nil | (apply Sub.cons; (repeat (first | with_reducible exact Sel.here | exact Sel.here | apply Sel.there))))) Ap.nil (by repeat (first | exact Ap.nil | apply Ap.cons)) ?_ ?_
      · refine G.block ?_
        refine G.loopK (X := Value × Nat) (ts := [1, 2, 4, 5, 6]) (fun st => st.2 = 0 ∨ checkM k (extN ns (st.2 - 1)) ids.length bs.length = 0) (fun st => []) (fun st => [blk b6 26 [.int .i64 k, st.1, yI, yB], own 3 1 st.1 (extN ns st.2).length ((extN ns st.2).map vInt)]) (fun st => 300 - (ns.length + st.2)) (x0 := (yN, 0)) (.cons rfl (.cons rfl (.cons rfl (.cons rfl (.cons rfl .nil))))) (by repeat (first | exact Sub.nil | (apply Sub.cons; (repeat (first | with_reducible exact Sel.here | exact Sel.here | apply Sel.there))))) Ap.nil (by repeat (first | exact Ap.nil | apply Ap.cons)) (by first | exact trivial | ((try dsimp only); exact Or.inl rfl)) .nil (fun st hJ => ?_)
        obtain ⟨vn, j⟩ := st
        try dsimp only at hJ
        try dsimp only
        refine G.ownOpen (v := vn) (by repeat (first | with_reducible exact Sel.here | exact Sel.here | apply Sel.there)) (fun ad0 cap0 hv_vn _ _ => ?_)
        subst hv_vn
        have hx64 := extN_i64 h64 j
        have hxl := extN_len ns j
        refine G.seq ?_
        refine G.seq ?_
        refine G.region ?_
        refine G.op rfl (G.val rfl rfl (pv_loadN (cs := [_, _, _, _]) Try.underlying26 rfl (by kernel_rfl) rfl (by first | exact blk_range (k := 4) (by (repeat (first | with_reducible exact Sel.here | exact Sel.here | apply Sel.there)); done) (by rfl) | exact rng_range (k := 4) (by (repeat (first | with_reducible exact Sel.here | exact Sel.here | apply Sel.there)); done) (by rfl) | exact ro_range (k := 4) (by assumption) (by rfl) | exact ro_rngR (k := 4) (by assumption) (by rfl))) ?_)
        refine G.op rfl (G.cR rfl rfl rfl rfl Try.func16 rfl rfl (may3 (by first | (apply May.old; first | with_reducible assumption | assumption) | (apply Sel.may; (repeat (first | with_reducible exact Sel.here | exact Sel.here | apply Sel.there)); done) | (apply may_own; (repeat (first | with_reducible exact Sel.here | exact Sel.here | apply Sel.there)); exact rfl; exact (fun _ _ => trivial); done) | (apply may_ownB; (repeat (first | with_reducible exact Sel.here | exact Sel.here | apply Sel.there)); done) | exact may_nil | (apply may_ownI; (repeat (first | with_reducible exact Sel.here | exact Sel.here | apply Sel.there)); assumption; done) | (apply may_ownN; (repeat (first | with_reducible exact Sel.here | exact Sel.here | apply Sel.there)); assumption; done)) (by first | (apply May.old; first | with_reducible assumption | assumption) | (apply Sel.may; (repeat (first | with_reducible exact Sel.here | exact Sel.here | apply Sel.there)); done) | (apply may_own; (repeat (first | with_reducible exact Sel.here | exact Sel.here | apply Sel.there)); exact rfl; exact (fun _ _ => trivial); done) | (apply may_ownB; (repeat (first | with_reducible exact Sel.here | exact Sel.here | apply Sel.there)); done) | exact may_nil | (apply may_ownI; (repeat (first | with_reducible exact Sel.here | exact Sel.here | apply Sel.there)); assumption; done) | (apply may_ownN; (repeat (first | with_reducible exact Sel.here | exact Sel.here | apply Sel.there)); assumption; done)) (by first | (apply May.old; first | with_reducible assumption | assumption) | (apply Sel.may; (repeat (first | with_reducible exact Sel.here | exact Sel.here | apply Sel.there)); done) | (apply may_own; (repeat (first | with_reducible exact Sel.here | exact Sel.here | apply Sel.there)); exact rfl; exact (fun _ _ => trivial); done) | (apply may_ownB; (repeat (first | with_reducible exact Sel.here | exact Sel.here | apply Sel.there)); done) | exact may_nil | (apply may_ownI; (repeat (first | with_reducible exact Sel.here | exact Sel.here | apply Sel.there)); assumption; done) | (apply may_ownN; (repeat (first | with_reducible exact Sel.here | exact Sel.here | apply Sel.there)); assumption; done))) (checkF _ _ _ _ _ _ _) ?_)
        refine G.op rfl (G.val rfl rfl (pv_eql rfl rfl) ?_)
        refine G.op rfl (G.val rfl rfl (pv_move rfl) ?_)
        refine G.partP (t := 24) rfl (fun h24 => ?_) (fun h24 => ?_)
        · refine G.want rfl rfl rfl (G.val rfl rfl (pv_fieldAddrK (sz := 0) (k := 1) Try.underlying26 rfl (by kernel_rfl) rfl rfl) ?_)
          refine G.want rfl rfl rfl (G.val rfl rfl (pv_load Try.underlying22 rfl rfl (by first | exact blk_cell (by (repeat (first | with_reducible exact Sel.here | exact Sel.here | apply Sel.there)); done) (by rfl) | exact rng_cell (by (repeat (first | with_reducible exact Sel.here | exact Sel.here | apply Sel.there)); done) (by rfl) | exact ro_blk (by assumption) (by rfl) | exact ro_rngC (by assumption) (by rfl) | exact ro_int (by assumption) | exact ro_byte (by assumption) | exact ro_str (by assumption) | with_reducible assumption | assumption)) ?_)
          refine G.want rfl rfl rfl (G.val rfl rfl (pv_lenSl Try.underlying22 rfl) ?_)
          refine G.want rfl rfl rfl (G.val rfl rfl (pv_lss rfl rfl) ?_)
          refine G.op rfl (G.val rfl rfl (pv_pick rfl rfl) ?_)
          refine G.nil ?_
          refine G.nThen ?_
          refine G.condP rfl (fun h29 => ?_) (fun h29 => ?_)
          · refine G.skip ?_
            refine G.nThen ?_
            refine G.block ?_
            refine G.region ?_
            refine G.op rfl (G.val rfl rfl (pv_fieldAddrK (sz := 0) (k := 1) Try.underlying26 rfl (by kernel_rfl) rfl rfl) ?_)
            refine G.op rfl (G.val rfl rfl (pv_load Try.underlying22 rfl rfl (by first | exact blk_cell (by (repeat (first | with_reducible exact Sel.here | exact Sel.here | apply Sel.there)); done) (by rfl) | exact rng_cell (by (repeat (first | with_reducible exact Sel.here | exact Sel.here | apply Sel.there)); done) (by rfl) | exact ro_blk (by assumption) (by rfl) | exact ro_rngC (by assumption) (by rfl) | exact ro_int (by assumption) | exact ro_byte (by assumption) | exact ro_str (by assumption) | with_reducible assumption | assumption)) ?_)
            refine G.op rfl (G.lit1 (vs := [_]) rfl Try.underlying22 (by kernel_rfl) rfl (by decide) (by decide) rfl rfl ?_)
            intro b32
            refine G.op rfl (G.append (k := (extN ns j).length) (j := 1) (cs := (extN ns j).map vInt) (news := [vInt 0]) (b := b32) (off := 0) rfl Try.underlying22 Try.infoInt' rfl rfl rfl (by repeat (first | with_reducible exact Sel.here | exact Sel.here | apply Sel.there)) (fun _ => rfl) (fun h => by cases h) rfl (blk_news (k := 1) (by repeat (first | with_reducible exact Sel.here | exact Sel.here | apply Sel.there)) rfl) (by intro u hu; obtain rfl : u = _ := (by simpa using hu); rfl) (by omega) (by omega) ?_)
            intro vn2
            rw [extN_app]
            refine G.ownFact (v := vn2) (by repeat (first | with_reducible exact Sel.here | exact Sel.here | apply Sel.there)) (fun hfvn2 _ => ?_)
            refine G.op rfl (G.val rfl rfl (pv_fieldAddrK (sz := 0) (k := 1) Try.underlying26 rfl (by kernel_rfl) rfl rfl) ?_)
            refine G.op rfl (G.store (by kernel_rfl) rfl rfl (by first | rfl | with_reducible assumption) (by repeat (first | with_reducible exact Sel.here | exact Sel.here | apply Sel.there)) (by first | (simp; done) | exact Nat.le_of_ble_eq_true rfl) ?_)
            refine G.nil ?_
            refine G.nBlock ?_
            exact G.next (vn2, j + 1) (by first | exact trivial | ((try dsimp only); exact Or.inr h24)) (by (try dsimp only); omega) (.cons rfl (.cons rfl (.cons rfl (.cons rfl (.cons rfl .nil))))) (by repeat (first | exact Sub.nil | (apply Sub.cons; (repeat (first | with_reducible exact Sel.here | exact Sel.here | apply Sel.there)))))
          · refine G.exit ?_
            refine G.eThen ?_
            refine G.eThen ?_
            refine G.eBlock ?_
            exfalso; have := (checkM_ok h24).2.2.2.1; omega
        · refine G.pass rfl rfl rfl rfl rfl rfl ?_
          refine G.pass rfl rfl rfl rfl rfl rfl ?_
          refine G.pass rfl rfl rfl rfl rfl rfl ?_
          refine G.pass rfl rfl rfl rfl rfl rfl ?_
          refine G.op rfl (G.val rfl rfl (pv_pick rfl rfl) ?_)
          refine G.nil ?_
          refine G.nThen ?_
          refine G.condF rfl (rfl) ?_
          refine G.exit ?_
          refine G.eThen ?_
          refine G.eThen ?_
          refine G.eBlock ?_
          exact G.meet (.slice ad0 (extN ns j).length cap0, j) (by first | exact trivial | ((try dsimp only); exact ⟨chk_five hs h24, by rcases hJ with rfl | hJ; exact absurd h0 h24; have := (checkM_ok hJ).2.2.2.1; rw [extN_len] at this ⊢; omega⟩)) (.cons rfl (.cons rfl (.cons rfl (.cons rfl (.cons rfl .nil))))) (by repeat (first | exact Sub.nil | (apply Sub.cons; (repeat (first | with_reducible exact Sel.here | exact Sel.here | apply Sel.there)))))
      · intro st hJ
        obtain ⟨vn, j⟩ := st
        try dsimp only at hJ
        try dsimp only
        obtain ⟨hY5, hYl⟩ := hJ
        refine G.ownOpen (v := vn) (by repeat (first | with_reducible exact Sel.here | exact Sel.here | apply Sel.there)) (fun ya yc hv_vn _ _ => ?_)
        subst hv_vn
        have hY64 := extN_i64 h64 j
        refine G.seq ?_
        refine G.region ?_
        refine G.op rfl (G.val rfl rfl (pv_loadN (cs := [_, _, _, _]) Try.underlying26 rfl (by kernel_rfl) rfl (by first | exact blk_range (k := 4) (by (repeat (first | with_reducible exact Sel.here | exact Sel.here | apply Sel.there)); done) (by rfl) | exact rng_range (k := 4) (by (repeat (first | with_reducible exact Sel.here | exact Sel.here | apply Sel.there)); done) (by rfl) | exact ro_range (k := 4) (by assumption) (by rfl) | exact ro_rngR (k := 4) (by assumption) (by rfl))) ?_)
        refine G.op rfl (G.cS rfl rfl rfl rfl Try.func12 rfl rfl (by repeat (first | exact Sub.nil | (apply Sub.cons; (repeat (first | with_reducible exact Sel.here | exact Sel.here | apply Sel.there))))) (may3 (by first | (apply May.old; first | with_reducible assumption | assumption) | (apply Sel.may; (repeat (first | with_reducible exact Sel.here | exact Sel.here | apply Sel.there)); done) | (apply may_own; (repeat (first | with_reducible exact Sel.here | exact Sel.here | apply Sel.there)); exact rfl; exact (fun _ _ => trivial); done) | (apply may_ownB; (repeat (first | with_reducible exact Sel.here | exact Sel.here | apply Sel.there)); done) | exact may_nil | (apply may_ownI; (repeat (first | with_reducible exact Sel.here | exact Sel.here | apply Sel.there)); assumption; done) | (apply may_ownN; (repeat (first | with_reducible exact Sel.here | exact Sel.here | apply Sel.there)); assumption; done)) (by first | (apply May.old; first | with_reducible assumption | assumption) | (apply Sel.may; (repeat (first | with_reducible exact Sel.here | exact Sel.here | apply Sel.there)); done) | (apply may_own; (repeat (first | with_reducible exact Sel.here | exact Sel.here | apply Sel.there)); exact rfl; exact (fun _ _ => trivial); done) | (apply may_ownB; (repeat (first | with_reducible exact Sel.here | exact Sel.here | apply Sel.there)); done) | exact may_nil | (apply may_ownI; (repeat (first | with_reducible exact Sel.here | exact Sel.here | apply Sel.there)); assumption; done) | (apply may_ownN; (repeat (first | with_reducible exact Sel.here | exact Sel.here | apply Sel.there)); assumption; done)) (by first | (apply May.old; first | with_reducible assumption | assumption) | (apply Sel.may; (repeat (first | with_reducible exact Sel.here | exact Sel.here | apply Sel.there)); done) | (apply may_own; (repeat (first | with_reducible exact Sel.here | exact Sel.here | apply Sel.there)); exact rfl; exact (fun _ _ => trivial); done) | (apply may_ownB; (repeat (first | with_reducible exact Sel.here | exact Sel.here | apply Sel.there)); done) | exact may_nil | (apply may_ownI; (repeat (first | with_reducible exact Sel.here | exact Sel.here | apply Sel.there)); assumption; done) | (apply may_ownN; (repeat (first | with_reducible exact Sel.here | exact Sel.here | apply Sel.there)); assumption; done))) (copyNote_tr _ _ _ _ _ _ _ (by omega) (by omega) (by omega)) (by repeat (first | exact Ap.nil | apply Ap.cons)) ?_)
        intro x36 hJ
        obtain ⟨zN, zI, zB⟩ := x36
        try dsimp only at hJ
        try dsimp only
        refine G.ownFact (v := zN) (by repeat (first | with_reducible exact Sel.here | exact Sel.here | apply Sel.there)) (fun hfzN _ => ?_)
        refine G.ownFact (v := zI) (by repeat (first | with_reducible exact Sel.here | exact Sel.here | apply Sel.there)) (fun hfzI _ => ?_)
        refine G.ownFact (v := zB) (by repeat (first | with_reducible exact Sel.here | exact Sel.here | apply Sel.there)) (fun hfzB _ => ?_)
        refine G.op rfl (G.alloc (z := .agg #[.int .i64 0, .slice none 0 0, .slice none 0 0, .slice none 0 0]) (cs := [.int .i64 0, .slice none 0 0, .slice none 0 0, .slice none 0 0]) rfl (by kernel_rfl) rfl ?_)
        intro b7
        refine G.op rfl (G.storeN (by kernel_rfl) rfl rfl (by first | exact (all1_cons (by first | rfl | with_reducible assumption) (all1_cons (by first | rfl | with_reducible assumption) (all1_cons (by first | rfl | with_reducible assumption) (all1_cons (by first | rfl | with_reducible assumption) all1_nil)))) | exact List.all_eq_true.2 (vByte_one _) | rfl) (by repeat (first | with_reducible exact Sel.here | exact Sel.here | apply Sel.there)) (by first | (simp; done) | exact Nat.le_of_ble_eq_true rfl) ?_)
        refine G.nil ?_
        refine G.nThen ?_
        refine G.seq ?_
        refine G.cutK (X := Value × Nat) (ts := [1, 2, 4, 5, 6, 7]) (p := [blk b7 _ _, own 49 16 zI _ _]) (fun st => checkM k ns (extI ids st.2).length bs.length = 5 ∧ (extI ids st.2).length ≤ 17) (fun st => []) (fun st => [blk b7 26 [.int .i64 k, zN, st.1, zB], own 49 16 st.1 (extI ids st.2).length (flatI (extI ids st.2))]) (.cons rfl (.cons rfl (.cons rfl (.cons rfl (.cons rfl (.cons rfl .nil)))))) (by repeat (first | exact Sub.nil | (apply Sub.cons; (repeat (first | with_reducible exact Sel.here | exact Sel.here | apply Sel.there))))) Ap.nil (by repeat (first | exact Ap.nil | apply Ap.cons)) ?_ ?_
        · refine G.block ?_
          refine G.loopK (X := Value × Nat) (ts := [1, 2, 4, 5, 6, 7]) (fun st => st.2 = 0 ∨ checkM k ns (extI ids (st.2 - 1)).length bs.length = 0) (fun st => []) (fun st => [blk b7 26 [.int .i64 k, zN, st.1, zB], own 49 16 st.1 (extI ids st.2).length (flatI (extI ids st.2))]) (fun st => 300 - (ids.length + st.2)) (x0 := (zI, 0)) (.cons rfl (.cons rfl (.cons rfl (.cons rfl (.cons rfl (.cons rfl .nil)))))) (by repeat (first | exact Sub.nil | (apply Sub.cons; (repeat (first | with_reducible exact Sel.here | exact Sel.here | apply Sel.there))))) Ap.nil (by repeat (first | exact Ap.nil | apply Ap.cons)) (by first | exact trivial | ((try dsimp only); exact Or.inl rfl)) .nil (fun st hJ => ?_)
          obtain ⟨vi, q⟩ := st
          try dsimp only at hJ
          try dsimp only
          refine G.ownOpen (v := vi) (by repeat (first | with_reducible exact Sel.here | exact Sel.here | apply Sel.there)) (fun ad1 cap1 hv_vi _ _ => ?_)
          subst hv_vi
          have hx16 := extI_16 h16 q
          have hxl := extI_len ids q
          refine G.seq ?_
          refine G.seq ?_
          refine G.region ?_
          refine G.op rfl (G.val rfl rfl (pv_loadN (cs := [_, _, _, _]) Try.underlying26 rfl (by kernel_rfl) rfl (by first | exact blk_range (k := 4) (by (repeat (first | with_reducible exact Sel.here | exact Sel.here | apply Sel.there)); done) (by rfl) | exact rng_range (k := 4) (by (repeat (first | with_reducible exact Sel.here | exact Sel.here | apply Sel.there)); done) (by rfl) | exact ro_range (k := 4) (by assumption) (by rfl) | exact ro_rngR (k := 4) (by assumption) (by rfl))) ?_)
          refine G.op rfl (G.cR rfl rfl rfl rfl Try.func16 rfl rfl (may3 (by first | (apply May.old; first | with_reducible assumption | assumption) | (apply Sel.may; (repeat (first | with_reducible exact Sel.here | exact Sel.here | apply Sel.there)); done) | (apply may_own; (repeat (first | with_reducible exact Sel.here | exact Sel.here | apply Sel.there)); exact rfl; exact (fun _ _ => trivial); done) | (apply may_ownB; (repeat (first | with_reducible exact Sel.here | exact Sel.here | apply Sel.there)); done) | exact may_nil | (apply may_ownI; (repeat (first | with_reducible exact Sel.here | exact Sel.here | apply Sel.there)); assumption; done) | (apply may_ownN; (repeat (first | with_reducible exact Sel.here | exact Sel.here | apply Sel.there)); assumption; done)) (by first | (apply May.old; first | with_reducible assumption | assumption) | (apply Sel.may; (repeat (first | with_reducible exact Sel.here | exact Sel.here | apply Sel.there)); done) | (apply may_own; (repeat (first | with_reducible exact Sel.here | exact Sel.here | apply Sel.there)); exact rfl; exact (fun _ _ => trivial); done) | (apply may_ownB; (repeat (first | with_reducible exact Sel.here | exact Sel.here | apply Sel.there)); done) | exact may_nil | (apply may_ownI; (repeat (first | with_reducible exact Sel.here | exact Sel.here | apply Sel.there)); assumption; done) | (apply may_ownN; (repeat (first | with_reducible exact Sel.here | exact Sel.here | apply Sel.there)); assumption; done)) (by first | (apply May.old; first | with_reducible assumption | assumption) | (apply Sel.may; (repeat (first | with_reducible exact Sel.here | exact Sel.here | apply Sel.there)); done) | (apply may_own; (repeat (first | with_reducible exact Sel.here | exact Sel.here | apply Sel.there)); exact rfl; exact (fun _ _ => trivial); done) | (apply may_ownB; (repeat (first | with_reducible exact Sel.here | exact Sel.here | apply Sel.there)); done) | exact may_nil | (apply may_ownI; (repeat (first | with_reducible exact Sel.here | exact Sel.here | apply Sel.there)); assumption; done) | (apply may_ownN; (repeat (first | with_reducible exact Sel.here | exact Sel.here | apply Sel.there)); assumption; done))) (checkF _ _ _ _ _ _ _) ?_)
          refine G.op rfl (G.val rfl rfl (pv_eql rfl rfl) ?_)
          refine G.op rfl (G.val rfl rfl (pv_move rfl) ?_)
          refine G.partP (t := 40) rfl (fun h40 => ?_) (fun h40 => ?_)
          · refine G.want rfl rfl rfl (G.val rfl rfl (pv_fieldAddrK (sz := 0) (k := 2) Try.underlying26 rfl (by kernel_rfl) rfl rfl) ?_)
            refine G.want rfl rfl rfl (G.val rfl rfl (pv_load Try.underlying23 rfl rfl (by first | exact blk_cell (by (repeat (first | with_reducible exact Sel.here | exact Sel.here | apply Sel.there)); done) (by rfl) | exact rng_cell (by (repeat (first | with_reducible exact Sel.here | exact Sel.here | apply Sel.there)); done) (by rfl) | exact ro_blk (by assumption) (by rfl) | exact ro_rngC (by assumption) (by rfl) | exact ro_int (by assumption) | exact ro_byte (by assumption) | exact ro_str (by assumption) | with_reducible assumption | assumption)) ?_)
            refine G.want rfl rfl rfl (G.val rfl rfl (pv_lenSl Try.underlying23 rfl) ?_)
            refine G.want rfl rfl rfl (G.val rfl rfl (pv_lss rfl rfl) ?_)
            refine G.op rfl (G.val rfl rfl (pv_pick rfl rfl) ?_)
            refine G.nil ?_
            refine G.nThen ?_
            refine G.condP rfl (fun h45 => ?_) (fun h45 => ?_)
            · refine G.skip ?_
              refine G.nThen ?_
              refine G.block ?_
              refine G.region ?_
              refine G.op rfl (G.val rfl rfl (pv_fieldAddrK (sz := 0) (k := 2) Try.underlying26 rfl (by kernel_rfl) rfl rfl) ?_)
              refine G.op rfl (G.val rfl rfl (pv_load Try.underlying23 rfl rfl (by first | exact blk_cell (by (repeat (first | with_reducible exact Sel.here | exact Sel.here | apply Sel.there)); done) (by rfl) | exact rng_cell (by (repeat (first | with_reducible exact Sel.here | exact Sel.here | apply Sel.there)); done) (by rfl) | exact ro_blk (by assumption) (by rfl) | exact ro_rngC (by assumption) (by rfl) | exact ro_int (by assumption) | exact ro_byte (by assumption) | exact ro_str (by assumption) | with_reducible assumption | assumption)) ?_)
              refine G.op rfl (G.val rfl rfl (pv_build (cells := ((List.replicate 16 (0 : UInt8)).map vByte).toArray) (fun a ha => ha.pevs rfl) (by kernel_rfl)) ?_)
              refine G.op rfl (G.buildSlice (sz := 16) (cs := ((List.replicate 16 (0 : UInt8)).map vByte)) rfl Try.underlying23 Try.infoIDz (by decide) (by decide) rfl (fill16 _ rfl) ?_)
              intro b49
              refine G.op rfl (G.append (k := (extI ids q).length) (j := 1) (cs := flatI (extI ids q)) (news := ((List.replicate 16 (0 : UInt8)).map vByte)) (b := b49) (off := 0) rfl Try.underlying23 Try.infoID' rfl rfl rfl (by repeat (first | with_reducible exact Sel.here | exact Sel.here | apply Sel.there)) (fun _ => rfl) (fun h => by cases h) rfl (blk_news (k := 16) (by repeat (first | with_reducible exact Sel.here | exact Sel.here | apply Sel.there)) rfl) (vByte_one _) (by omega) (by omega) ?_)
              intro vi2
              rw [extI_app]
              refine G.ownFact (v := vi2) (by repeat (first | with_reducible exact Sel.here | exact Sel.here | apply Sel.there)) (fun hfvi2 _ => ?_)
              refine G.op rfl (G.val rfl rfl (pv_fieldAddrK (sz := 0) (k := 2) Try.underlying26 rfl (by kernel_rfl) rfl rfl) ?_)
              refine G.op rfl (G.store (by kernel_rfl) rfl rfl (by first | rfl | with_reducible assumption) (by repeat (first | with_reducible exact Sel.here | exact Sel.here | apply Sel.there)) (by first | (simp; done) | exact Nat.le_of_ble_eq_true rfl) ?_)
              refine G.nil ?_
              refine G.nBlock ?_
              exact G.next (vi2, q + 1) (by first | exact trivial | ((try dsimp only); exact Or.inr h40)) (by (try dsimp only); omega) (.cons rfl (.cons rfl (.cons rfl (.cons rfl (.cons rfl (.cons rfl .nil)))))) (by repeat (first | exact Sub.nil | (apply Sub.cons; (repeat (first | with_reducible exact Sel.here | exact Sel.here | apply Sel.there)))))
            · refine G.exit ?_
              refine G.eThen ?_
              refine G.eThen ?_
              refine G.eBlock ?_
              exfalso; have := (checkM_ok h40).2.2.2.2.1; omega
          · refine G.pass rfl rfl rfl rfl rfl rfl ?_
            refine G.pass rfl rfl rfl rfl rfl rfl ?_
            refine G.pass rfl rfl rfl rfl rfl rfl ?_
            refine G.pass rfl rfl rfl rfl rfl rfl ?_
            refine G.op rfl (G.val rfl rfl (pv_pick rfl rfl) ?_)
            refine G.nil ?_
            refine G.nThen ?_
            refine G.condF rfl (rfl) ?_
            refine G.exit ?_
            refine G.eThen ?_
            refine G.eThen ?_
            refine G.eBlock ?_
            exact G.meet (.slice ad1 (extI ids q).length cap1, q) (by first | exact trivial | ((try dsimp only); exact ⟨chk_five hs h40, by rcases hJ with rfl | hJ; exact absurd h0 h40; have := (checkM_ok hJ).2.2.2.2.1; rw [extI_len] at this ⊢; omega⟩)) (.cons rfl (.cons rfl (.cons rfl (.cons rfl (.cons rfl (.cons rfl .nil)))))) (by repeat (first | exact Sub.nil | (apply Sub.cons; (repeat (first | with_reducible exact Sel.here | exact Sel.here | apply Sel.there)))))
        · intro st hJ
          obtain ⟨vi, q⟩ := st
          try dsimp only at hJ
          try dsimp only
          obtain ⟨hZ5, hZl⟩ := hJ
          refine G.ownOpen (v := vi) (by repeat (first | with_reducible exact Sel.here | exact Sel.here | apply Sel.there)) (fun za zc hv_vi _ _ => ?_)
          subst hv_vi
          have hZ16 := extI_16 h16 q
          refine G.seq ?_
          refine G.region ?_
          refine G.op rfl (G.val rfl rfl (pv_loadN (cs := [_, _, _, _]) Try.underlying26 rfl (by kernel_rfl) rfl (by first | exact blk_range (k := 4) (by (repeat (first | with_reducible exact Sel.here | exact Sel.here | apply Sel.there)); done) (by rfl) | exact rng_range (k := 4) (by (repeat (first | with_reducible exact Sel.here | exact Sel.here | apply Sel.there)); done) (by rfl) | exact ro_range (k := 4) (by assumption) (by rfl) | exact ro_rngR (k := 4) (by assumption) (by rfl))) ?_)
          refine G.op rfl (G.cS rfl rfl rfl rfl Try.func12 rfl rfl (by repeat (first | exact Sub.nil | (apply Sub.cons; (repeat (first | with_reducible exact Sel.here | exact Sel.here | apply Sel.there))))) (may3 (by first | (apply May.old; first | with_reducible assumption | assumption) | (apply Sel.may; (repeat (first | with_reducible exact Sel.here | exact Sel.here | apply Sel.there)); done) | (apply may_own; (repeat (first | with_reducible exact Sel.here | exact Sel.here | apply Sel.there)); exact rfl; exact (fun _ _ => trivial); done) | (apply may_ownB; (repeat (first | with_reducible exact Sel.here | exact Sel.here | apply Sel.there)); done) | exact may_nil | (apply may_ownI; (repeat (first | with_reducible exact Sel.here | exact Sel.here | apply Sel.there)); assumption; done) | (apply may_ownN; (repeat (first | with_reducible exact Sel.here | exact Sel.here | apply Sel.there)); assumption; done)) (by first | (apply May.old; first | with_reducible assumption | assumption) | (apply Sel.may; (repeat (first | with_reducible exact Sel.here | exact Sel.here | apply Sel.there)); done) | (apply may_own; (repeat (first | with_reducible exact Sel.here | exact Sel.here | apply Sel.there)); exact rfl; exact (fun _ _ => trivial); done) | (apply may_ownB; (repeat (first | with_reducible exact Sel.here | exact Sel.here | apply Sel.there)); done) | exact may_nil | (apply may_ownI; (repeat (first | with_reducible exact Sel.here | exact Sel.here | apply Sel.there)); assumption; done) | (apply may_ownN; (repeat (first | with_reducible exact Sel.here | exact Sel.here | apply Sel.there)); assumption; done)) (by first | (apply May.old; first | with_reducible assumption | assumption) | (apply Sel.may; (repeat (first | with_reducible exact Sel.here | exact Sel.here | apply Sel.there)); done) | (apply may_own; (repeat (first | with_reducible exact Sel.here | exact Sel.here | apply Sel.there)); exact rfl; exact (fun _ _ => trivial); done) | (apply may_ownB; (repeat (first | with_reducible exact Sel.here | exact Sel.here | apply Sel.there)); done) | exact may_nil | (apply may_ownI; (repeat (first | with_reducible exact Sel.here | exact Sel.here | apply Sel.there)); assumption; done) | (apply may_ownN; (repeat (first | with_reducible exact Sel.here | exact Sel.here | apply Sel.there)); assumption; done))) (copyNote_tr _ _ _ _ _ _ _ (by omega) (by omega) (by omega)) (by repeat (first | exact Ap.nil | apply Ap.cons)) ?_)
          intro x53 hJ
          obtain ⟨wN, wI, wB⟩ := x53
          try dsimp only at hJ
          try dsimp only
          refine G.ownFact (v := wN) (by repeat (first | with_reducible exact Sel.here | exact Sel.here | apply Sel.there)) (fun hfwN _ => ?_)
          refine G.ownFact (v := wI) (by repeat (first | with_reducible exact Sel.here | exact Sel.here | apply Sel.there)) (fun hfwI _ => ?_)
          refine G.ownFact (v := wB) (by repeat (first | with_reducible exact Sel.here | exact Sel.here | apply Sel.there)) (fun hfwB _ => ?_)
          refine G.op rfl (G.alloc (z := .agg #[.int .i64 0, .slice none 0 0, .slice none 0 0, .slice none 0 0]) (cs := [.int .i64 0, .slice none 0 0, .slice none 0 0, .slice none 0 0]) rfl (by kernel_rfl) rfl ?_)
          intro b8
          refine G.op rfl (G.storeN (by kernel_rfl) rfl rfl (by first | exact (all1_cons (by first | rfl | with_reducible assumption) (all1_cons (by first | rfl | with_reducible assumption) (all1_cons (by first | rfl | with_reducible assumption) (all1_cons (by first | rfl | with_reducible assumption) all1_nil)))) | exact List.all_eq_true.2 (vByte_one _) | rfl) (by repeat (first | with_reducible exact Sel.here | exact Sel.here | apply Sel.there)) (by first | (simp; done) | exact Nat.le_of_ble_eq_true rfl) ?_)
          refine G.nil ?_
          refine G.nThen ?_
          refine G.seq ?_
          refine G.cutK (X := Value × Nat) (ts := [1, 2, 4, 5, 6, 7, 8]) (p := [blk b8 _ _, own 5 1 wB _ _]) (fun st => checkM k ns ids.length (extB bs st.2).length = 5 ∧ (extB bs st.2).length ≤ 1025) (fun st => []) (fun st => [blk b8 26 [.int .i64 k, wN, wI, st.1], own 5 1 st.1 (extB bs st.2).length ((extB bs st.2).map vByte)]) (.cons rfl (.cons rfl (.cons rfl (.cons rfl (.cons rfl (.cons rfl (.cons rfl .nil))))))) (by repeat (first | exact Sub.nil | (apply Sub.cons; (repeat (first | with_reducible exact Sel.here | exact Sel.here | apply Sel.there))))) Ap.nil (by repeat (first | exact Ap.nil | apply Ap.cons)) ?_ ?_
          · refine G.block ?_
            refine G.loopK (X := Value × Nat) (ts := [1, 2, 4, 5, 6, 7, 8]) (fun st => st.2 = 0 ∨ checkM k ns ids.length (extB bs (st.2 - 1)).length = 0) (fun st => []) (fun st => [blk b8 26 [.int .i64 k, wN, wI, st.1], own 5 1 st.1 (extB bs st.2).length ((extB bs st.2).map vByte)]) (fun st => 3000 - (bs.length + st.2)) (x0 := (wB, 0)) (.cons rfl (.cons rfl (.cons rfl (.cons rfl (.cons rfl (.cons rfl (.cons rfl .nil))))))) (by repeat (first | exact Sub.nil | (apply Sub.cons; (repeat (first | with_reducible exact Sel.here | exact Sel.here | apply Sel.there))))) Ap.nil (by repeat (first | exact Ap.nil | apply Ap.cons)) (by first | exact trivial | ((try dsimp only); exact Or.inl rfl)) .nil (fun st hJ => ?_)
            obtain ⟨vb, p⟩ := st
            try dsimp only at hJ
            try dsimp only
            refine G.ownOpen (v := vb) (by repeat (first | with_reducible exact Sel.here | exact Sel.here | apply Sel.there)) (fun ad2 cap2 hv_vb _ _ => ?_)
            subst hv_vb
            have hxl := extB_len bs p
            refine G.seq ?_
            refine G.seq ?_
            refine G.region ?_
            refine G.op rfl (G.val rfl rfl (pv_loadN (cs := [_, _, _, _]) Try.underlying26 rfl (by kernel_rfl) rfl (by first | exact blk_range (k := 4) (by (repeat (first | with_reducible exact Sel.here | exact Sel.here | apply Sel.there)); done) (by rfl) | exact rng_range (k := 4) (by (repeat (first | with_reducible exact Sel.here | exact Sel.here | apply Sel.there)); done) (by rfl) | exact ro_range (k := 4) (by assumption) (by rfl) | exact ro_rngR (k := 4) (by assumption) (by rfl))) ?_)
            refine G.op rfl (G.cR rfl rfl rfl rfl Try.func16 rfl rfl (may3 (by first | (apply May.old; first | with_reducible assumption | assumption) | (apply Sel.may; (repeat (first | with_reducible exact Sel.here | exact Sel.here | apply Sel.there)); done) | (apply may_own; (repeat (first | with_reducible exact Sel.here | exact Sel.here | apply Sel.there)); exact rfl; exact (fun _ _ => trivial); done) | (apply may_ownB; (repeat (first | with_reducible exact Sel.here | exact Sel.here | apply Sel.there)); done) | exact may_nil | (apply may_ownI; (repeat (first | with_reducible exact Sel.here | exact Sel.here | apply Sel.there)); assumption; done) | (apply may_ownN; (repeat (first | with_reducible exact Sel.here | exact Sel.here | apply Sel.there)); assumption; done)) (by first | (apply May.old; first | with_reducible assumption | assumption) | (apply Sel.may; (repeat (first | with_reducible exact Sel.here | exact Sel.here | apply Sel.there)); done) | (apply may_own; (repeat (first | with_reducible exact Sel.here | exact Sel.here | apply Sel.there)); exact rfl; exact (fun _ _ => trivial); done) | (apply may_ownB; (repeat (first | with_reducible exact Sel.here | exact Sel.here | apply Sel.there)); done) | exact may_nil | (apply may_ownI; (repeat (first | with_reducible exact Sel.here | exact Sel.here | apply Sel.there)); assumption; done) | (apply may_ownN; (repeat (first | with_reducible exact Sel.here | exact Sel.here | apply Sel.there)); assumption; done)) (by first | (apply May.old; first | with_reducible assumption | assumption) | (apply Sel.may; (repeat (first | with_reducible exact Sel.here | exact Sel.here | apply Sel.there)); done) | (apply may_own; (repeat (first | with_reducible exact Sel.here | exact Sel.here | apply Sel.there)); exact rfl; exact (fun _ _ => trivial); done) | (apply may_ownB; (repeat (first | with_reducible exact Sel.here | exact Sel.here | apply Sel.there)); done) | exact may_nil | (apply may_ownI; (repeat (first | with_reducible exact Sel.here | exact Sel.here | apply Sel.there)); assumption; done) | (apply may_ownN; (repeat (first | with_reducible exact Sel.here | exact Sel.here | apply Sel.there)); assumption; done))) (checkF _ _ _ _ _ _ _) ?_)
            refine G.op rfl (G.val rfl rfl (pv_eql rfl rfl) ?_)
            refine G.op rfl (G.val rfl rfl (pv_move rfl) ?_)
            refine G.partP (t := 57) rfl (fun h57 => ?_) (fun h57 => ?_)
            · refine G.want rfl rfl rfl (G.val rfl rfl (pv_fieldAddrK (sz := 0) (k := 3) Try.underlying26 rfl (by kernel_rfl) rfl rfl) ?_)
              refine G.want rfl rfl rfl (G.val rfl rfl (pv_load Try.underlying24 rfl rfl (by first | exact blk_cell (by (repeat (first | with_reducible exact Sel.here | exact Sel.here | apply Sel.there)); done) (by rfl) | exact rng_cell (by (repeat (first | with_reducible exact Sel.here | exact Sel.here | apply Sel.there)); done) (by rfl) | exact ro_blk (by assumption) (by rfl) | exact ro_rngC (by assumption) (by rfl) | exact ro_int (by assumption) | exact ro_byte (by assumption) | exact ro_str (by assumption) | with_reducible assumption | assumption)) ?_)
              refine G.want rfl rfl rfl (G.val rfl rfl (pv_lenSl Try.underlying24 rfl) ?_)
              refine G.want rfl rfl rfl (G.val rfl rfl (pv_lss rfl rfl) ?_)
              refine G.op rfl (G.val rfl rfl (pv_pick rfl rfl) ?_)
              refine G.nil ?_
              refine G.nThen ?_
              refine G.condP rfl (fun h62 => ?_) (fun h62 => ?_)
              · refine G.skip ?_
                refine G.nThen ?_
                refine G.block ?_
                refine G.region ?_
                refine G.op rfl (G.val rfl rfl (pv_fieldAddrK (sz := 0) (k := 3) Try.underlying26 rfl (by kernel_rfl) rfl rfl) ?_)
                refine G.op rfl (G.val rfl rfl (pv_load Try.underlying24 rfl rfl (by first | exact blk_cell (by (repeat (first | with_reducible exact Sel.here | exact Sel.here | apply Sel.there)); done) (by rfl) | exact rng_cell (by (repeat (first | with_reducible exact Sel.here | exact Sel.here | apply Sel.there)); done) (by rfl) | exact ro_blk (by assumption) (by rfl) | exact ro_rngC (by assumption) (by rfl) | exact ro_int (by assumption) | exact ro_byte (by assumption) | exact ro_str (by assumption) | with_reducible assumption | assumption)) ?_)
                refine G.op rfl (G.lit1 (vs := [_]) rfl Try.underlying24 (by kernel_rfl) rfl (by decide) (by decide) rfl rfl ?_)
                intro b65
                refine G.op rfl (G.append (k := (extB bs p).length) (j := 1) (cs := (extB bs p).map vByte) (news := [vByte 0]) (b := b65) (off := 0) rfl Try.underlying24 Try.infoByte' rfl rfl rfl (by repeat (first | with_reducible exact Sel.here | exact Sel.here | apply Sel.there)) (fun _ => rfl) (fun h => by cases h) rfl (blk_news (k := 1) (by repeat (first | with_reducible exact Sel.here | exact Sel.here | apply Sel.there)) rfl) (by intro u hu; obtain rfl : u = _ := (by simpa using hu); rfl) (by omega) (by omega) ?_)
                intro vb2
                rw [extB_app]
                refine G.ownFact (v := vb2) (by repeat (first | with_reducible exact Sel.here | exact Sel.here | apply Sel.there)) (fun hfvb2 _ => ?_)
                refine G.op rfl (G.val rfl rfl (pv_fieldAddrK (sz := 0) (k := 3) Try.underlying26 rfl (by kernel_rfl) rfl rfl) ?_)
                refine G.op rfl (G.store (by kernel_rfl) rfl rfl (by first | rfl | with_reducible assumption) (by repeat (first | with_reducible exact Sel.here | exact Sel.here | apply Sel.there)) (by first | (simp; done) | exact Nat.le_of_ble_eq_true rfl) ?_)
                refine G.nil ?_
                refine G.nBlock ?_
                exact G.next (vb2, p + 1) (by first | exact trivial | ((try dsimp only); exact Or.inr h57)) (by (try dsimp only); omega) (.cons rfl (.cons rfl (.cons rfl (.cons rfl (.cons rfl (.cons rfl (.cons rfl .nil))))))) (by repeat (first | exact Sub.nil | (apply Sub.cons; (repeat (first | with_reducible exact Sel.here | exact Sel.here | apply Sel.there)))))
              · refine G.exit ?_
                refine G.eThen ?_
                refine G.eThen ?_
                refine G.eBlock ?_
                exfalso; have := (checkM_ok h57).2.2.2.2.2; omega
            · refine G.pass rfl rfl rfl rfl rfl rfl ?_
              refine G.pass rfl rfl rfl rfl rfl rfl ?_
              refine G.pass rfl rfl rfl rfl rfl rfl ?_
              refine G.pass rfl rfl rfl rfl rfl rfl ?_
              refine G.op rfl (G.val rfl rfl (pv_pick rfl rfl) ?_)
              refine G.nil ?_
              refine G.nThen ?_
              refine G.condF rfl (rfl) ?_
              refine G.exit ?_
              refine G.eThen ?_
              refine G.eThen ?_
              refine G.eBlock ?_
              exact G.meet (.slice ad2 (extB bs p).length cap2, p) (by first | exact trivial | ((try dsimp only); exact ⟨chk_five hs h57, by rcases hJ with rfl | hJ; exact absurd h0 h57; have := (checkM_ok hJ).2.2.2.2.2; rw [extB_len] at this ⊢; omega⟩)) (.cons rfl (.cons rfl (.cons rfl (.cons rfl (.cons rfl (.cons rfl (.cons rfl .nil))))))) (by repeat (first | exact Sub.nil | (apply Sub.cons; (repeat (first | with_reducible exact Sel.here | exact Sel.here | apply Sel.there)))))
          · intro st hJ
            obtain ⟨vb, p⟩ := st
            try dsimp only at hJ
            try dsimp only
            obtain ⟨hW5, hWl⟩ := hJ
            refine G.ownOpen (v := vb) (by repeat (first | with_reducible exact Sel.here | exact Sel.here | apply Sel.there)) (fun wa wc hv_vb _ _ => ?_)
            subst hv_vb
            refine G.seq ?_
            refine G.seq ?_
            refine G.region ?_
            refine G.op rfl (G.val rfl rfl (pv_fieldAddrK (sz := 0) (k := 1) Try.underlying26 rfl (by kernel_rfl) rfl rfl) ?_)
            refine G.op rfl (G.val rfl rfl (pv_load Try.underlying22 rfl rfl (by first | exact blk_cell (by (repeat (first | with_reducible exact Sel.here | exact Sel.here | apply Sel.there)); done) (by rfl) | exact rng_cell (by (repeat (first | with_reducible exact Sel.here | exact Sel.here | apply Sel.there)); done) (by rfl) | exact ro_blk (by assumption) (by rfl) | exact ro_rngC (by assumption) (by rfl) | exact ro_int (by assumption) | exact ro_byte (by assumption) | exact ro_str (by assumption) | with_reducible assumption | assumption)) ?_)
            refine G.op rfl (G.val rfl rfl (pv_lenSl Try.underlying22 rfl) ?_)
            refine G.op rfl (G.val rfl rfl (pv_gtr rfl rfl) ?_)
            refine G.op rfl (G.val rfl rfl (pv_move rfl) ?_)
            refine G.partP (t := 72) rfl (fun h72 => ?_) (fun h72 => ?_)
            · exfalso; omega
            · refine G.want rfl rfl rfl (G.val rfl rfl (pv_fieldAddrK (sz := 0) (k := 2) Try.underlying26 rfl (by kernel_rfl) rfl rfl) ?_)
              refine G.want rfl rfl rfl (G.val rfl rfl (pv_load Try.underlying23 rfl rfl (by first | exact blk_cell (by (repeat (first | with_reducible exact Sel.here | exact Sel.here | apply Sel.there)); done) (by rfl) | exact rng_cell (by (repeat (first | with_reducible exact Sel.here | exact Sel.here | apply Sel.there)); done) (by rfl) | exact ro_blk (by assumption) (by rfl) | exact ro_rngC (by assumption) (by rfl) | exact ro_int (by assumption) | exact ro_byte (by assumption) | exact ro_str (by assumption) | with_reducible assumption | assumption)) ?_)
              refine G.want rfl rfl rfl (G.val rfl rfl (pv_lenSl Try.underlying23 rfl) ?_)
              refine G.want rfl rfl rfl (G.val rfl rfl (pv_gtr rfl rfl) ?_)
              refine G.op rfl (G.val rfl rfl (pv_pick rfl rfl) ?_)
              refine G.op rfl (G.val rfl rfl (pv_move rfl) ?_)
              refine G.partP (t := 78) rfl (fun h78 => ?_) (fun h78 => ?_)
              · exfalso; omega
              · refine G.want rfl rfl rfl (G.val rfl rfl (pv_fieldAddrK (sz := 0) (k := 3) Try.underlying26 rfl (by kernel_rfl) rfl rfl) ?_)
                refine G.want rfl rfl rfl (G.val rfl rfl (pv_load Try.underlying24 rfl rfl (by first | exact blk_cell (by (repeat (first | with_reducible exact Sel.here | exact Sel.here | apply Sel.there)); done) (by rfl) | exact rng_cell (by (repeat (first | with_reducible exact Sel.here | exact Sel.here | apply Sel.there)); done) (by rfl) | exact ro_blk (by assumption) (by rfl) | exact ro_rngC (by assumption) (by rfl) | exact ro_int (by assumption) | exact ro_byte (by assumption) | exact ro_str (by assumption) | with_reducible assumption | assumption)) ?_)
                refine G.want rfl rfl rfl (G.val rfl rfl (pv_lenSl Try.underlying24 rfl) ?_)
                refine G.want rfl rfl rfl (G.val rfl rfl (pv_gtr rfl rfl) ?_)
                refine G.op rfl (G.val rfl rfl (pv_pick rfl rfl) ?_)
                refine G.nil ?_
                refine G.nThen ?_
                refine G.condP rfl (fun h83 => ?_) (fun h83 => ?_)
                · exfalso; omega
                · refine G.skip ?_
                  refine G.nThen ?_
                  refine G.seq ?_
                  refine G.cutK (X := Unit) (ts := [5, 6, 7, 8]) (p := []) (fun _ => True) (fun _ => []) (fun _ => []) (.cons rfl (.cons rfl (.cons rfl (.cons rfl .nil)))) (by repeat (first | exact Sub.nil | (apply Sub.cons; (repeat (first | with_reducible exact Sel.here | exact Sel.here | apply Sel.there))))) Ap.nil (by repeat (first | exact Ap.nil | apply Ap.cons)) ?_ ?_
                  · refine G.seq ?_
                    refine G.region ?_
                    refine G.op rfl (G.val rfl rfl (pv_fieldAddrK (sz := 0) (k := 1) Try.underlying26 rfl (by kernel_rfl) rfl rfl) ?_)
                    refine G.op rfl (G.val rfl rfl (pv_load Try.underlying22 rfl rfl (by first | exact blk_cell (by (repeat (first | with_reducible exact Sel.here | exact Sel.here | apply Sel.there)); done) (by rfl) | exact rng_cell (by (repeat (first | with_reducible exact Sel.here | exact Sel.here | apply Sel.there)); done) (by rfl) | exact ro_blk (by assumption) (by rfl) | exact ro_rngC (by assumption) (by rfl) | exact ro_int (by assumption) | exact ro_byte (by assumption) | exact ro_str (by assumption) | with_reducible assumption | assumption)) ?_)
                    refine G.op rfl (G.val rfl rfl (pv_lenSl Try.underlying22 rfl) ?_)
                    refine G.op rfl (G.val rfl rfl (pv_gtr rfl rfl) ?_)
                    refine G.nil ?_
                    refine G.nThen ?_
                    refine G.condP rfl (fun h87 => ?_) (fun h87 => ?_)
                    · refine G.seq ?_
                      refine G.region ?_
                      refine G.op rfl (G.val rfl rfl (pv_loadN (cs := [_, _, _, _]) Try.underlying26 rfl (by kernel_rfl) rfl (by first | exact blk_range (k := 4) (by (repeat (first | with_reducible exact Sel.here | exact Sel.here | apply Sel.there)); done) (by rfl) | exact rng_range (k := 4) (by (repeat (first | with_reducible exact Sel.here | exact Sel.here | apply Sel.there)); done) (by rfl) | exact ro_range (k := 4) (by assumption) (by rfl) | exact ro_rngR (k := 4) (by assumption) (by rfl))) ?_)
                      refine G.op rfl (G.cS rfl rfl rfl rfl Try.func12 rfl rfl (by repeat (first | exact Sub.nil | (apply Sub.cons; (repeat (first | with_reducible exact Sel.here | exact Sel.here | apply Sel.there))))) (may3 (by first | (apply May.old; first | with_reducible assumption | assumption) | (apply Sel.may; (repeat (first | with_reducible exact Sel.here | exact Sel.here | apply Sel.there)); done) | (apply may_own; (repeat (first | with_reducible exact Sel.here | exact Sel.here | apply Sel.there)); exact rfl; exact (fun _ _ => trivial); done) | (apply may_ownB; (repeat (first | with_reducible exact Sel.here | exact Sel.here | apply Sel.there)); done) | exact may_nil | (apply may_ownI; (repeat (first | with_reducible exact Sel.here | exact Sel.here | apply Sel.there)); assumption; done) | (apply may_ownN; (repeat (first | with_reducible exact Sel.here | exact Sel.here | apply Sel.there)); assumption; done)) (by first | (apply May.old; first | with_reducible assumption | assumption) | (apply Sel.may; (repeat (first | with_reducible exact Sel.here | exact Sel.here | apply Sel.there)); done) | (apply may_own; (repeat (first | with_reducible exact Sel.here | exact Sel.here | apply Sel.there)); exact rfl; exact (fun _ _ => trivial); done) | (apply may_ownB; (repeat (first | with_reducible exact Sel.here | exact Sel.here | apply Sel.there)); done) | exact may_nil | (apply may_ownI; (repeat (first | with_reducible exact Sel.here | exact Sel.here | apply Sel.there)); assumption; done) | (apply may_ownN; (repeat (first | with_reducible exact Sel.here | exact Sel.here | apply Sel.there)); assumption; done)) (by first | (apply May.old; first | with_reducible assumption | assumption) | (apply Sel.may; (repeat (first | with_reducible exact Sel.here | exact Sel.here | apply Sel.there)); done) | (apply may_own; (repeat (first | with_reducible exact Sel.here | exact Sel.here | apply Sel.there)); exact rfl; exact (fun _ _ => trivial); done) | (apply may_ownB; (repeat (first | with_reducible exact Sel.here | exact Sel.here | apply Sel.there)); done) | exact may_nil | (apply may_ownI; (repeat (first | with_reducible exact Sel.here | exact Sel.here | apply Sel.there)); assumption; done) | (apply may_ownN; (repeat (first | with_reducible exact Sel.here | exact Sel.here | apply Sel.there)); assumption; done))) (copyNote_tr _ _ _ _ _ _ _ (by omega) (by omega) (by omega)) (by repeat (first | exact Ap.nil | apply Ap.cons)) ?_)
                      intro x89 hJ
                      obtain ⟨uN, uI, uB⟩ := x89
                      try dsimp only at hJ
                      try dsimp only
                      refine G.ownFact (v := uN) (by repeat (first | with_reducible exact Sel.here | exact Sel.here | apply Sel.there)) (fun hfuN _ => ?_)
                      refine G.ownFact (v := uI) (by repeat (first | with_reducible exact Sel.here | exact Sel.here | apply Sel.there)) (fun hfuI _ => ?_)
                      refine G.ownFact (v := uB) (by repeat (first | with_reducible exact Sel.here | exact Sel.here | apply Sel.there)) (fun hfuB _ => ?_)
                      refine G.op rfl (G.alloc (z := .agg #[.int .i64 0, .slice none 0 0, .slice none 0 0, .slice none 0 0]) (cs := [.int .i64 0, .slice none 0 0, .slice none 0 0, .slice none 0 0]) rfl (by kernel_rfl) rfl ?_)
                      intro b9
                      refine G.op rfl (G.storeN (by kernel_rfl) rfl rfl (by first | exact (all1_cons (by first | rfl | with_reducible assumption) (all1_cons (by first | rfl | with_reducible assumption) (all1_cons (by first | rfl | with_reducible assumption) (all1_cons (by first | rfl | with_reducible assumption) all1_nil)))) | exact List.all_eq_true.2 (vByte_one _) | rfl) (by repeat (first | with_reducible exact Sel.here | exact Sel.here | apply Sel.there)) (by first | (simp; done) | exact Nat.le_of_ble_eq_true rfl) ?_)
                      refine G.ownNews (v := uN) (by repeat (first | with_reducible exact Sel.here | exact Sel.here | apply Sel.there)) (fun ua uc ub huv huc hum hua hun hunw => ?_)
                      obtain rfl := hua (by omega)
                      subst huv
                      obtain ⟨ip, hip⟩ : ∃ c, pickN which ns.length = c := ⟨_, rfl⟩
                      have hipl : ip < ns.length := by rw [← hip]; exact pickN_lt _ (by omega)
                      refine G.nil ?_
                      refine G.nThen ?_
                      refine G.seq ?_
                      refine G.drawT (nn := 9) (p := [own 3 1 (.slice (some ⟨ub, 0, none⟩) ns.length uc) _ _]) (rem := 511) [0, 1, 0, 0, 8, 16, 36, 127, 255] [0, 1, 0, 0, 8, 16, 36, 66, 128] (by kernel_rfl) ⟨rfl, by kernel_rfl, by kernel_rfl⟩ (by repeat (first | exact Sub.nil | (apply Sub.cons; (repeat (first | with_reducible exact Sel.here | exact Sel.here | apply Sel.there))))) (by kernel_rfl) (fun hT17 => ?_)
                      refine G.takeT hT17 (i := 0) (rem' := 510) rfl rfl rfl (by kernel_rfl) (fun _ _ _ h => h) rfl (pv_fieldAddrK (sz := 0) (k := 1) Try.underlying26 rfl (by kernel_rfl) rfl rfl) (by repeat (first | exact Sub.nil | (apply Sub.cons; (repeat (first | with_reducible exact Sel.here | exact Sel.here | apply Sel.there))))) ?_
                      refine G.takeT hT17 (i := 2) (rem' := 506) rfl rfl rfl (by kernel_rfl) (fun _ _ _ h => h) rfl (pv_move rfl) (by repeat (first | exact Sub.nil | (apply Sub.cons; (repeat (first | with_reducible exact Sel.here | exact Sel.here | apply Sel.there))))) ?_
                      refine G.takeT hT17 (i := 3) (rem' := 498) rfl rfl rfl (by kernel_rfl) (fun _ _ _ h => h) rfl (pv_fieldAddrK (sz := 0) (k := 1) Try.underlying26 rfl (by kernel_rfl) rfl rfl) (by repeat (first | exact Sub.nil | (apply Sub.cons; (repeat (first | with_reducible exact Sel.here | exact Sel.here | apply Sel.there))))) ?_
                      refine G.takeT hT17 (i := 1) (rem' := 496) rfl rfl rfl (by kernel_rfl) (fun _ _ _ h => h) rfl (pv_load Try.underlying22 rfl rfl (by first | exact blk_cell (by (repeat (first | with_reducible exact Sel.here | exact Sel.here | apply Sel.there)); done) (by rfl) | exact rng_cell (by (repeat (first | with_reducible exact Sel.here | exact Sel.here | apply Sel.there)); done) (by rfl) | exact ro_blk (by assumption) (by rfl) | exact ro_rngC (by assumption) (by rfl) | exact ro_int (by assumption) | exact ro_byte (by assumption) | exact ro_str (by assumption) | with_reducible assumption | assumption)) (by repeat (first | exact Sub.nil | (apply Sub.cons; (repeat (first | with_reducible exact Sel.here | exact Sel.here | apply Sel.there))))) ?_
                      refine G.oneT hT17 (i := 4) (rem' := 480) (by kernel_rfl) (by kernel_rfl) ?_
                      refine G.turnOp rfl rfl (G.val rfl rfl (pv_load Try.underlying22 rfl rfl (by first | exact blk_cell (by (repeat (first | with_reducible exact Sel.here | exact Sel.here | apply Sel.there)); done) (by rfl) | exact rng_cell (by (repeat (first | with_reducible exact Sel.here | exact Sel.here | apply Sel.there)); done) (by rfl) | exact ro_blk (by assumption) (by rfl) | exact ro_rngC (by assumption) (by rfl) | exact ro_int (by assumption) | exact ro_byte (by assumption) | exact ro_str (by assumption) | with_reducible assumption | assumption)) ?_)
                      refine G.back (by repeat (first | exact Sub.nil | (apply Sub.cons; (repeat (first | with_reducible exact Sel.here | exact Sel.here | apply Sel.there))))) ?_
                      refine G.takeT hT17 (i := 5) (rem' := 448) rfl rfl rfl (by kernel_rfl) (fun _ _ _ h => h) rfl (pv_lenSl Try.underlying22 rfl) (by repeat (first | exact Sub.nil | (apply Sub.cons; (repeat (first | with_reducible exact Sel.here | exact Sel.here | apply Sel.there))))) ?_
                      refine G.oneT hT17 (i := 6) (rem' := 384) (by kernel_rfl) (by kernel_rfl) ?_
                      refine G.turnOp rfl rfl (G.cR rfl rfl rfl rfl Try.func26 rfl rfl may0 (pick_tr which ns.length (by omega) (by omega)) ?_)
                      rw [hip]
                      refine G.back (by repeat (first | exact Sub.nil | (apply Sub.cons; (repeat (first | with_reducible exact Sel.here | exact Sel.here | apply Sel.there))))) ?_
                      refine G.takeT hT17 (i := 7) (rem' := 256) rfl rfl rfl (by kernel_rfl) (fun _ _ _ h => h) rfl (pv_ixSl (sz := 1) (k := ip) Try.underlying22 (by kernel_rfl) rfl rfl (fun _ => rfl) rfl (by omega)) (by repeat (first | exact Sub.nil | (apply Sub.cons; (repeat (first | with_reducible exact Sel.here | exact Sel.here | apply Sel.there))))) ?_
                      refine G.oneT hT17 (i := 8) (rem' := 0) (by kernel_rfl) (by kernel_rfl) ?_
                      refine G.turnOp rfl rfl (G.storeO (i := 0 + ip * 1) (b := ub) (cap := uc) (k := ns.length) (cs := ns.map vInt) (by kernel_rfl) rfl rfl rfl (by repeat (first | with_reducible exact Sel.here | exact Sel.here | apply Sel.there)) (by omega) ?_)
                      rw [show (ns.map vInt).set (0 + ip * 1) (.int .i64 (-1)) = (ns.set ip (-1)).map vInt by rw [List.map_set, Nat.zero_add, Nat.mul_one]; rfl, show own 3 1 (.slice (some ⟨ub, 0, none⟩) ns.length uc) ns.length ((ns.set ip (-1)).map vInt) = own 3 1 (.slice (some ⟨ub, 0, none⟩) ns.length uc) (ns.set ip (-1)).length ((ns.set ip (-1)).map vInt) by rw [List.length_set]]
                      have hu64 := set_i64 h64 ip
                      have hU5 := chk_neg h0 hipl
                      refine G.back (by repeat (first | exact Sub.nil | (apply Sub.cons; (repeat (first | with_reducible exact Sel.here | exact Sel.here | apply Sel.there))))) ?_
                      refine G.overT hT17 (by kernel_rfl) ?_
                      refine G.nThen ?_
                      refine G.seq ?_
                      refine G.region ?_
                      refine G.op rfl (G.val rfl rfl (pv_loadN (cs := [_, _, _, _]) Try.underlying26 rfl (by kernel_rfl) rfl (by first | exact blk_range (k := 4) (by (repeat (first | with_reducible exact Sel.here | exact Sel.here | apply Sel.there)); done) (by rfl) | exact rng_range (k := 4) (by (repeat (first | with_reducible exact Sel.here | exact Sel.here | apply Sel.there)); done) (by rfl) | exact ro_range (k := 4) (by assumption) (by rfl) | exact ro_rngR (k := 4) (by assumption) (by rfl))) ?_)
                      refine G.op rfl (G.cR rfl rfl rfl rfl Try.func16 rfl rfl (may3 (by first | (apply May.old; first | with_reducible assumption | assumption) | (apply Sel.may; (repeat (first | with_reducible exact Sel.here | exact Sel.here | apply Sel.there)); done) | (apply may_own; (repeat (first | with_reducible exact Sel.here | exact Sel.here | apply Sel.there)); exact rfl; exact (fun _ _ => trivial); done) | (apply may_ownB; (repeat (first | with_reducible exact Sel.here | exact Sel.here | apply Sel.there)); done) | exact may_nil | (apply may_ownI; (repeat (first | with_reducible exact Sel.here | exact Sel.here | apply Sel.there)); assumption; done) | (apply may_ownN; (repeat (first | with_reducible exact Sel.here | exact Sel.here | apply Sel.there)); assumption; done)) (by first | (apply May.old; first | with_reducible assumption | assumption) | (apply Sel.may; (repeat (first | with_reducible exact Sel.here | exact Sel.here | apply Sel.there)); done) | (apply may_own; (repeat (first | with_reducible exact Sel.here | exact Sel.here | apply Sel.there)); exact rfl; exact (fun _ _ => trivial); done) | (apply may_ownB; (repeat (first | with_reducible exact Sel.here | exact Sel.here | apply Sel.there)); done) | exact may_nil | (apply may_ownI; (repeat (first | with_reducible exact Sel.here | exact Sel.here | apply Sel.there)); assumption; done) | (apply may_ownN; (repeat (first | with_reducible exact Sel.here | exact Sel.here | apply Sel.there)); assumption; done)) (by first | (apply May.old; first | with_reducible assumption | assumption) | (apply Sel.may; (repeat (first | with_reducible exact Sel.here | exact Sel.here | apply Sel.there)); done) | (apply may_own; (repeat (first | with_reducible exact Sel.here | exact Sel.here | apply Sel.there)); exact rfl; exact (fun _ _ => trivial); done) | (apply may_ownB; (repeat (first | with_reducible exact Sel.here | exact Sel.here | apply Sel.there)); done) | exact may_nil | (apply may_ownI; (repeat (first | with_reducible exact Sel.here | exact Sel.here | apply Sel.there)); assumption; done) | (apply may_ownN; (repeat (first | with_reducible exact Sel.here | exact Sel.here | apply Sel.there)); assumption; done))) (checkF k _ _ _ (ns.set ip (-1)) ids bs) ?_)
                      refine G.op rfl (G.val rfl rfl (pv_neq rfl rfl) ?_)
                      refine G.nil ?_
                      refine G.nThen ?_
                      refine G.condP rfl (fun h100 => ?_) (fun h100 => ?_)
                      · exact absurd hU5 h100
                      · refine G.skip ?_
                        exact G.meet (()) (by first | exact trivial | ((try dsimp only); exact trivial)) (.cons rfl (.cons rfl (.cons rfl (.cons rfl .nil)))) (by repeat (first | exact Sub.nil | (apply Sub.cons; (repeat (first | with_reducible exact Sel.here | exact Sel.here | apply Sel.there)))))
                    · refine G.skip ?_
                      exact G.meet (()) (by first | exact trivial | ((try dsimp only); exact trivial)) (.cons rfl (.cons rfl (.cons rfl (.cons rfl .nil)))) (by repeat (first | exact Sub.nil | (apply Sub.cons; (repeat (first | with_reducible exact Sel.here | exact Sel.here | apply Sel.there)))))
                  · intro _ hJ
                    try dsimp only at hJ
                    try dsimp only
                    refine G.seq ?_
                    refine G.region ?_
                    refine G.op rfl (G.val rfl rfl (pv_move rfl) ?_)
                    refine G.op rfl (G.val rfl rfl (pv_move rfl) ?_)
                    refine G.want rfl rfl rfl (G.val rfl rfl (pv_loadN (cs := [_, _, _, _]) Try.underlying26 rfl (by kernel_rfl) rfl (by first | exact blk_range (k := 4) (by (repeat (first | with_reducible exact Sel.here | exact Sel.here | apply Sel.there)); done) (by rfl) | exact rng_range (k := 4) (by (repeat (first | with_reducible exact Sel.here | exact Sel.here | apply Sel.there)); done) (by rfl) | exact ro_range (k := 4) (by assumption) (by rfl) | exact ro_rngR (k := 4) (by assumption) (by rfl))) ?_)
                    refine G.want rfl rfl rfl (G.cR rfl rfl rfl rfl Try.func16 rfl rfl (may3 (by first | (apply May.old; first | with_reducible assumption | assumption) | (apply Sel.may; (repeat (first | with_reducible exact Sel.here | exact Sel.here | apply Sel.there)); done) | (apply may_own; (repeat (first | with_reducible exact Sel.here | exact Sel.here | apply Sel.there)); exact rfl; exact (fun _ _ => trivial); done) | (apply may_ownB; (repeat (first | with_reducible exact Sel.here | exact Sel.here | apply Sel.there)); done) | exact may_nil | (apply may_ownI; (repeat (first | with_reducible exact Sel.here | exact Sel.here | apply Sel.there)); assumption; done) | (apply may_ownN; (repeat (first | with_reducible exact Sel.here | exact Sel.here | apply Sel.there)); assumption; done)) (by first | (apply May.old; first | with_reducible assumption | assumption) | (apply Sel.may; (repeat (first | with_reducible exact Sel.here | exact Sel.here | apply Sel.there)); done) | (apply may_own; (repeat (first | with_reducible exact Sel.here | exact Sel.here | apply Sel.there)); exact rfl; exact (fun _ _ => trivial); done) | (apply may_ownB; (repeat (first | with_reducible exact Sel.here | exact Sel.here | apply Sel.there)); done) | exact may_nil | (apply may_ownI; (repeat (first | with_reducible exact Sel.here | exact Sel.here | apply Sel.there)); assumption; done) | (apply may_ownN; (repeat (first | with_reducible exact Sel.here | exact Sel.here | apply Sel.there)); assumption; done)) (by first | (apply May.old; first | with_reducible assumption | assumption) | (apply Sel.may; (repeat (first | with_reducible exact Sel.here | exact Sel.here | apply Sel.there)); done) | (apply may_own; (repeat (first | with_reducible exact Sel.here | exact Sel.here | apply Sel.there)); exact rfl; exact (fun _ _ => trivial); done) | (apply may_ownB; (repeat (first | with_reducible exact Sel.here | exact Sel.here | apply Sel.there)); done) | exact may_nil | (apply may_ownI; (repeat (first | with_reducible exact Sel.here | exact Sel.here | apply Sel.there)); assumption; done) | (apply may_ownN; (repeat (first | with_reducible exact Sel.here | exact Sel.here | apply Sel.there)); assumption; done))) (checkF _ _ _ _ _ _ _) ?_)
                    refine G.want rfl rfl rfl (G.val rfl rfl ((pv_eql rfl rfl).cast (v' := .bool true) (congrArg Value.bool (decide_eq_true hY5))) ?_)
                    refine G.op rfl (G.val rfl rfl (pv_pick rfl rfl) ?_)
                    refine G.op rfl (G.val rfl rfl (pv_move rfl) ?_)
                    refine G.want rfl rfl rfl (G.val rfl rfl (pv_loadN (cs := [_, _, _, _]) Try.underlying26 rfl (by kernel_rfl) rfl (by first | exact blk_range (k := 4) (by (repeat (first | with_reducible exact Sel.here | exact Sel.here | apply Sel.there)); done) (by rfl) | exact rng_range (k := 4) (by (repeat (first | with_reducible exact Sel.here | exact Sel.here | apply Sel.there)); done) (by rfl) | exact ro_range (k := 4) (by assumption) (by rfl) | exact ro_rngR (k := 4) (by assumption) (by rfl))) ?_)
                    refine G.want rfl rfl rfl (G.cR rfl rfl rfl rfl Try.func16 rfl rfl (may3 (by first | (apply May.old; first | with_reducible assumption | assumption) | (apply Sel.may; (repeat (first | with_reducible exact Sel.here | exact Sel.here | apply Sel.there)); done) | (apply may_own; (repeat (first | with_reducible exact Sel.here | exact Sel.here | apply Sel.there)); exact rfl; exact (fun _ _ => trivial); done) | (apply may_ownB; (repeat (first | with_reducible exact Sel.here | exact Sel.here | apply Sel.there)); done) | exact may_nil | (apply may_ownI; (repeat (first | with_reducible exact Sel.here | exact Sel.here | apply Sel.there)); assumption; done) | (apply may_ownN; (repeat (first | with_reducible exact Sel.here | exact Sel.here | apply Sel.there)); assumption; done)) (by first | (apply May.old; first | with_reducible assumption | assumption) | (apply Sel.may; (repeat (first | with_reducible exact Sel.here | exact Sel.here | apply Sel.there)); done) | (apply may_own; (repeat (first | with_reducible exact Sel.here | exact Sel.here | apply Sel.there)); exact rfl; exact (fun _ _ => trivial); done) | (apply may_ownB; (repeat (first | with_reducible exact Sel.here | exact Sel.here | apply Sel.there)); done) | exact may_nil | (apply may_ownI; (repeat (first | with_reducible exact Sel.here | exact Sel.here | apply Sel.there)); assumption; done) | (apply may_ownN; (repeat (first | with_reducible exact Sel.here | exact Sel.here | apply Sel.there)); assumption; done)) (by first | (apply May.old; first | with_reducible assumption | assumption) | (apply Sel.may; (repeat (first | with_reducible exact Sel.here | exact Sel.here | apply Sel.there)); done) | (apply may_own; (repeat (first | with_reducible exact Sel.here | exact Sel.here | apply Sel.there)); exact rfl; exact (fun _ _ => trivial); done) | (apply may_ownB; (repeat (first | with_reducible exact Sel.here | exact Sel.here | apply Sel.there)); done) | exact may_nil | (apply may_ownI; (repeat (first | with_reducible exact Sel.here | exact Sel.here | apply Sel.there)); assumption; done) | (apply may_ownN; (repeat (first | with_reducible exact Sel.here | exact Sel.here | apply Sel.there)); assumption; done))) (checkF _ _ _ _ _ _ _) ?_)
                    refine G.want rfl rfl rfl (G.val rfl rfl ((pv_eql rfl rfl).cast (v' := .bool true) (congrArg Value.bool (decide_eq_true hZ5))) ?_)
                    refine G.op rfl (G.val rfl rfl (pv_pick rfl rfl) ?_)
                    refine G.op rfl (G.val rfl rfl (pv_move rfl) ?_)
                    refine G.want rfl rfl rfl (G.val rfl rfl (pv_loadN (cs := [_, _, _, _]) Try.underlying26 rfl (by kernel_rfl) rfl (by first | exact blk_range (k := 4) (by (repeat (first | with_reducible exact Sel.here | exact Sel.here | apply Sel.there)); done) (by rfl) | exact rng_range (k := 4) (by (repeat (first | with_reducible exact Sel.here | exact Sel.here | apply Sel.there)); done) (by rfl) | exact ro_range (k := 4) (by assumption) (by rfl) | exact ro_rngR (k := 4) (by assumption) (by rfl))) ?_)
                    refine G.want rfl rfl rfl (G.cR rfl rfl rfl rfl Try.func16 rfl rfl (may3 (by first | (apply May.old; first | with_reducible assumption | assumption) | (apply Sel.may; (repeat (first | with_reducible exact Sel.here | exact Sel.here | apply Sel.there)); done) | (apply may_own; (repeat (first | with_reducible exact Sel.here | exact Sel.here | apply Sel.there)); exact rfl; exact (fun _ _ => trivial); done) | (apply may_ownB; (repeat (first | with_reducible exact Sel.here | exact Sel.here | apply Sel.there)); done) | exact may_nil | (apply may_ownI; (repeat (first | with_reducible exact Sel.here | exact Sel.here | apply Sel.there)); assumption; done) | (apply may_ownN; (repeat (first | with_reducible exact Sel.here | exact Sel.here | apply Sel.there)); assumption; done)) (by first | (apply May.old; first | with_reducible assumption | assumption) | (apply Sel.may; (repeat (first | with_reducible exact Sel.here | exact Sel.here | apply Sel.there)); done) | (apply may_own; (repeat (first | with_reducible exact Sel.here | exact Sel.here | apply Sel.there)); exact rfl; exact (fun _ _ => trivial); done) | (apply may_ownB; (repeat (first | with_reducible exact Sel.here | exact Sel.here | apply Sel.there)); done) | exact may_nil | (apply may_ownI; (repeat (first | with_reducible exact Sel.here | exact Sel.here | apply Sel.there)); assumption; done) | (apply may_ownN; (repeat (first | with_reducible exact Sel.here | exact Sel.here | apply Sel.there)); assumption; done)) (by first | (apply May.old; first | with_reducible assumption | assumption) | (apply Sel.may; (repeat (first | with_reducible exact Sel.here | exact Sel.here | apply Sel.there)); done) | (apply may_own; (repeat (first | with_reducible exact Sel.here | exact Sel.here | apply Sel.there)); exact rfl; exact (fun _ _ => trivial); done) | (apply may_ownB; (repeat (first | with_reducible exact Sel.here | exact Sel.here | apply Sel.there)); done) | exact may_nil | (apply may_ownI; (repeat (first | with_reducible exact Sel.here | exact Sel.here | apply Sel.there)); assumption; done) | (apply may_ownN; (repeat (first | with_reducible exact Sel.here | exact Sel.here | apply Sel.there)); assumption; done))) (checkF _ _ _ _ _ _ _) ?_)
                    refine G.want rfl rfl rfl (G.val rfl rfl ((pv_eql rfl rfl).cast (v' := .bool true) (congrArg Value.bool (decide_eq_true hW5))) ?_)
                    refine G.op rfl (G.val rfl rfl (pv_pick rfl rfl) ?_)
                    refine G.op rfl (G.val rfl rfl (pv_assign rfl) ?_)
                    refine G.nil ?_
                    refine G.nThen ?_
                    refine G.ret ?_
                    exact G.done0G rfl (Rv.tmp rfl Rv.nil) (by first | rfl | exact int_eq (by omega) | (simp; done))
end Go.Proofs.Ytakcffhknnailaa
