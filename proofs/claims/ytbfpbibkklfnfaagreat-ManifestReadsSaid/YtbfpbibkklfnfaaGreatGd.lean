/- Merged of VE, TC, TD, TE, TF, TG, TreeB, TH, WM, VG, VH, TV, VI, VJ, VA. Conditions: none. -/
import Derived.Test.YtbfpbibkklfnfaaGreatGc
import Derived.Maps.Keyed
import Derived.DeepKeys4
set_option linter.unusedVariables false
set_option linter.unusedSimpArgs false
namespace Go.Proofs.YtbfpbibkklfnfaaGreat
open Go.RowKit
abbrev LT := List (List UInt8 × Value)
/-- byte strings of the call's own -/
def datB (e : TypeId) (l : LT) : Ck := star (l.map fun x => ownB e x.2 x.1)
section
variable {P : Program} {n : Nat} {w0 : World} {S : Nat → Prop} {l : Fr} {m : List Ck} {K : Act → World → Prop}
theorem G.datBNil (e : TypeId) (h : G n w0 S l (datB e [] :: m) K) : G n w0 S l m K := G.mem (fun w hw => Hp.star (m := []) hw) h
theorem G.datBSnoc {e : TypeId} {ys : LT} {x : List UInt8} {u : Value} {r r' : List Ck} (h1 : Sel m (datB e ys) r) (h2 : Sel r (ownB e u x) r') (h : G n w0 S l (datB e (ys ++ [(x, u)]) :: r') K) : G n w0 S l m K := G.mem (fun w hw => by
  have h3 := Hp.unstar (hw.sel h1)
  have p : (ys.map (fun x : List UInt8 × Value => ownB e x.2 x.1) ++ r).Perm (((ys ++ [(x, u)]).map fun x : List UInt8 × Value => ownB e x.2 x.1) ++ r') := by
    rw [List.map_append, List.append_assoc]
    exact List.Perm.append_left _ h2.perm
  exact Hp.star (h3.perm p)) h
theorem G.datBCons {e : TypeId} {x : List UInt8} {u : Value} {xs : LT} {r : List Ck} (h1 : Sel m (datB e ((x, u) :: xs)) r) (h : G n w0 S l (ownB e u x :: datB e xs :: r) K) : G n w0 S l m K := G.mem (fun w hw => by
  have h2 : Hp w0 S w ((ownB e u x :: xs.map fun x => ownB e x.2 x.1) ++ r) := Hp.unstar (hw.sel h1)
  have h3 : Hp w0 S w ((xs.map fun x => ownB e x.2 x.1) ++ (ownB e u x :: r)) := h2.perm (by
    rw [List.cons_append]
    exact List.perm_middle.symm)
  exact (Hp.star h3).perm (List.Perm.swap ..)) h
theorem datB_sl {w : World} {e : TypeId} {xs : LT} (h : (datB e xs).φ w) : ∀ x ∈ xs, IsSl rByte (datB e xs).S w x.2 x.1 := fun x hx => by
  have h1 : (ownB e x.2 x.1).φ w := h.1 _ (List.mem_map.2 ⟨x, hx, rfl⟩)
  exact (own_isSl' (p := fun _ => True) (OwnB.own h1) rfl (fun _ _ => trivial)).mono fun k hk => ⟨_, List.mem_map.2 ⟨x, hx, rfl⟩, hk⟩
/-- one of the byte strings may be read -/
theorem may_datB {e : TypeId} {xs : LT} {r : List Ck} (h : Sel m (datB e xs) r) {x : List UInt8} {u : Value} (hx : (x, u) ∈ xs) : May w0 S m (slc rByte (datB e xs).S u x) :=
  .view h.mem (fun w hw => datB_sl hw _ hx) fun b hb => hb
end
/-- where the k-th chunk begins -/
def atC (b : List UInt8) (k : Nat) : Nat := (0 :: cutL b).getD k 0
def pieceC (b : List UInt8) (k : Nat) : List UInt8 := (b.take (atC b (k + 1))).drop (atC b k)
def piecesC (b : List UInt8) (k : Nat) : List (List UInt8) := (List.range k).map (pieceC b)
/-- the chunks of bytes -/
def chunksC (b : List UInt8) : List (List UInt8) := piecesC b (cutL b).length ++ (if atC b (cutL b).length < b.length then [b.drop (atC b (cutL b).length)] else [])
theorem piecesC_succ (b : List UInt8) (k : Nat) : piecesC b (k + 1) = piecesC b k ++ [pieceC b k] := by
  unfold piecesC
  rw [List.range_succ, List.map_append]
  rfl
theorem atC_succ (b : List UInt8) (k : Nat) : atC b (k + 1) = (cutL b).getD k 0 := by
  unfold atC
  rw [List.getD_cons_succ]
theorem cutTo_mono (b : List UInt8) : ∀ i, (cutTo b i).Pairwise (· < ·)
  | 0 => .nil
  | i + 1 => by
    unfold cutTo
    split
    · refine List.pairwise_append.2 ⟨cutTo_mono b i, by simp, fun x hx y hy => ?_⟩
      obtain rfl : y = i + 1 := by simpa using hy
      exact Nat.lt_succ_of_le (cut_le b i x hx)
    exact cutTo_mono b i
theorem atC_le (b : List UInt8) (k : Nat) : atC b k ≤ b.length := by
  cases k with
  | zero => exact Nat.zero_le _
  | succ k =>
    rw [atC_succ]
    rcases Nat.lt_or_ge k (cutL b).length with h | h
    · rw [List.getD_eq_getElem?_getD, List.getElem?_eq_getElem h]
      exact cut_le b _ _ (List.getElem_mem h)
    rw [List.getD_eq_getElem?_getD, List.getElem?_eq_none h]
    exact Nat.zero_le _
theorem atC_mono {b : List UInt8} {k : Nat} (h : k < (cutL b).length) : atC b k ≤ atC b (k + 1) := by
  cases k with
  | zero => exact Nat.zero_le _
  | succ k =>
    rw [atC_succ, atC_succ, List.getD_eq_getElem?_getD, List.getD_eq_getElem?_getD, List.getElem?_eq_getElem h, List.getElem?_eq_getElem (show k < (cutL b).length by omega)]
    exact Nat.le_of_lt ((List.pairwise_iff_getElem.1 (cutTo_mono b _)) k (k + 1) (by show k < (cutL b).length; omega) h (by omega))
theorem cutL_len (b : List UInt8) : ∀ i, (cutTo b i).length ≤ i
  | 0 => Nat.le_refl _
  | i + 1 => by
    unfold cutTo
    have := cutL_len b i
    split
    · rw [List.length_append, List.length_singleton]; omega
    omega
theorem Tryz.infoSlB : (Tryz.prog.info? 39).map (fun i => (i.zero.map (·.cells.size), i.size, i.bytes)) = some (some 1, 1, 24) := by kernel_rfl
set_option maxRecDepth 20000 in
set_option maxHeartbeats 4000000 in
theorem csplit_tr {Pv : Nat → Prop} (v : Value) (bs : List UInt8) (hb : bs.length ≤ 1000000) : Tr Tryz.prog 81 #[v] [slc rByte Pv v bs] []
    (TX (fun z : Value × LT => z.2.map (·.1) = chunksC bs) (fun z => z.1) (fun z => [own 39 1 z.1 z.2.length (z.2.map (·.2)), datB 5 z.2])) := by
  refine Tr.ofM (l := [(0, v)]) Tryz.func81 rfl (n := 32) rfl (.cons rfl .nil) (fun w0 hro => ?_)
  have hv0 := ro1 hro
  obtain ⟨ad, cap, b0, off, rfl, hcap, hmax, hnil, had, hel⟩ := Ro.open hv0
  have hv1 : (Value.slice ad bs.length cap).oneCell' = true := rfl
  have hcl : (cutL bs).length ≤ bs.length := cutL_len bs bs.length
  refine I.seq ?_
  refine I.region kr (by rintro ⟨_, _, h⟩; first | exact h | exact noOut h) ?_
  refine G.op rfl (G.box rfl rfl (cs := [_]) rfl ?_)
  intro b1
  refine G.asT rfl rfl ?_
  refine I.nil ?_
  refine I.nThen ?_
  refine I.seq ?_
  refine I.region kr (by rintro ⟨_, _, h⟩; first | exact h | exact noOut h) ?_
  refine G.op rfl (G.alloc (z := .slice none 0 0) (cs := [.slice none 0 0]) rfl kr rfl ?_)
  intro b3
  refine I.nil ?_
  refine I.nThen ?_
  refine I.seq ?_
  refine I.region kr (by rintro ⟨_, _, h⟩; first | exact h | exact noOut h) ?_
  refine G.op rfl (G.cR rfl rfl rfl rfl Tryz.func119 rfl rfl may0 (fresh_tr) ?_)
  refine G.op rfl (G.alloc (z := .agg #[.int .u8 0, .int .u8 0, .int .u8 0, .int .u8 0, .int .u8 0, .int .u8 0, .int .u8 0, .int .u8 0, .int .u8 0, .int .u8 0, .int .u8 0, .int .u8 0, .int .u8 0, .int .u8 0, .int .u8 0, .int .u8 0, .int .i64 0, .int .u32 0, .bool false, .int .i64 0]) (cs := [.int .u8 0, .int .u8 0, .int .u8 0, .int .u8 0, .int .u8 0, .int .u8 0, .int .u8 0, .int .u8 0, .int .u8 0, .int .u8 0, .int .u8 0, .int .u8 0, .int .u8 0, .int .u8 0, .int .u8 0, .int .u8 0, .int .i64 0, .int .u32 0, .bool false, .int .i64 0]) rfl kr rfl ?_)
  intro b4
  refine G.op rfl (G.alloc (z := .int .i64 0) (cs := [.int .i64 0]) rfl kr rfl ?_)
  intro b5
  refine G.op rfl (G.storeN (vs := edge0) kr rfl rfl (by rfl) selT (by simp [edge0, rollC]) ?_)
  rw [putN_whole _ _ (by rfl)]
  refine G.op rfl (G.store kr rfl rfl eqT selT leT ?_)
  refine I.nil ?_
  refine I.nThen ?_
  refine I.seq ?_
  refine I.seq ?_
  refine I.region kr (by rintro ⟨_, _, h⟩; first | exact h | exact noOut h) ?_
  refine G.op rfl (G.val rfl rfl (pv_load Tryz.underlying39 rfl rfl celT) ?_)
  refine G.op rfl (G.cS rfl rfl rfl rfl Tryz.func120 rfl rfl subT may0 (cuts_tr _ _ rfl hv1) apT ?_)
  intro x9 hJ
  obtain ⟨bb, be⟩ := x9
  try dsimp only at hJ
  try dsimp only
  refine I.nil ?_
  refine I.nThen ?_
  refine I.block ?_
  refine G.datBNil 5 ?_
  refine G.ownNil 39 1 ?_
  refine I.rangeK1 (X := Value × LT) (rr := [slc rByte Pv (.slice ad bs.length cap) bs]) (encs := fun i => .int .i64 ((cutL bs).getD i 0 : Int)) (ts := [1, 3, 5]) (fun b i st => b = true ∧ st.2.map (·.1) = piecesC bs i) (fun b i st => [blk b3 82 [st.1], own 39 1 st.1 st.2.length (st.2.map (·.2)), datB 5 st.2, blk b5 3 [.int .i64 (atC bs i : Int)], blk b1 39 [.slice ad bs.length cap]]) (fun st => .ret) (fun i => [(6, .int .i64 ((cutL bs).getD i 0 : Int))]) (x0 := (.slice none 0 0, [])) rfl Tryz.func149 rfl rfl (cut_seq (Pv := Pv) (.slice ad bs.length cap) bs hb bb be b4) (by show Sub _ [blk b3 82 [.slice none 0 0], own 39 1 (.slice none 0 0) 0 [], datB 5 [], blk b5 3 [.int .i64 0], blk b1 39 [.slice ad bs.length cap], blk bb 39 [.slice ad bs.length cap], blk be 160 [.pointer (some ⟨b4, 0, none⟩)], blk b4 155 edge0] _; repeat (first | exact Sub.nil | (apply Sub.cons; (repeat (first | with_reducible exact Sel.here | exact Sel.here | apply Sel.there))))) (may2 (.old hv0) (.old hv0)) (by first | exact trivial | (exact ⟨rfl, rfl⟩)) rfl (.cons rfl (.cons rfl (.cons rfl .nil))) (.cons .nil) ?_ ?_ ?_ ?_
  · intro w1 S1 lp m1 i hi
    try dsimp only at hJ
    try dsimp only
    refine I.region kr (by rintro ⟨_, _, h⟩; first | exact h | exact noOut h) ?_
    refine G.asT rfl rfl ?_
    refine I.nil ?_
    exact I.asg (.consE rfl veqT (.cons rfl (.cons rfl (.cons rfl .nil))))
  · intro w1 S1 lp c i st hi hJ hrr
    obtain ⟨ov, l⟩ := st
    try dsimp only at hJ
    try dsimp only
    obtain ⟨hct, hl⟩ := hJ
    have hlen : l.length = i := by have := congrArg List.length hl; simpa [piecesC] using this
    have hlm : (l.map (fun z : List UInt8 × Value => z.2)).length = l.length := List.length_map _
    have hvb := hrr _ (List.mem_cons_self ..)
    have hle1 := atC_mono hi
    have hle2 := atC_le bs (i + 1)
    rw [atC_succ] at hle1 hle2
    refine G.ownFact (v := ov) selT (fun hov _ => ?_)
    have hsub := Ro.sub hvb hle1 hle2
    rw [← atC_succ] at hsub
    have hpl : (pieceC bs i).length ≤ bs.length := by unfold pieceC; rw [List.length_drop, List.length_take]; omega
    refine I.block ?_
    refine I.drawT (nn := 11) (p := [blk b3 _ _, blk b5 _ _, own 39 1 ov _ _]) (rem := 2047) [0, 0, 0, 0, 14, 16, 32, 97, 0, 255, 1023] [0, 0, 0, 0, 14, 16, 32, 65, 0, 128, 256] kr (by rintro ⟨_, _, h⟩; first | exact h | exact noOut h) kr ⟨rfl, by kernel_rfl, by kernel_rfl⟩ subT kr (fun hT5 => ?_)
    refine G.takeT hT5 (i := 3) (rem' := 2039) rfl rfl rfl kr (fun _ _ _ h => h) rfl (pv_move rfl) subT ?_
    refine G.takeT hT5 (i := 8) (rem' := 1783) rfl rfl rfl kr (fun _ _ _ h => h) rfl (pv_move rfl) subT ?_
    refine G.takeT hT5 (i := 1) (rem' := 1781) rfl rfl rfl kr (fun _ _ _ h => h) rfl (pv_load Tryz.underlying39 rfl rfl celT) subT ?_
    refine G.twoT hT5 (i := 0) (j := 2) (rem' := 1780) (rem'' := 1777) kr kr kr ?_ ?_
    · refine G.turnOp rfl rfl (G.val rfl rfl (pv_load Tryz.underlying82 rfl rfl celT) ?_)
      refine G.back subT ?_
      refine G.oneT hT5 (i := 2) (rem' := 1776) kr kr ?_
      refine G.turnOp rfl rfl (G.val rfl rfl (pv_load Tryz.underlying3 rfl rfl celT) ?_)
      refine G.back subT ?_
      refine G.takeT hT5 (i := 4) (rem' := 1760) rfl rfl rfl kr (fun _ _ _ h => h) rfl (pv_subLH (sz := 1) (k := atC bs i) (k' := (cutL bs).getD i 0) Tryz.underlying39 kr rfl rfl rfl rfl rfl hle1 (Nat.le_trans hle2 hcap)) subT ?_
      refine G.oneT hT5 (i := 5) (rem' := 1728) kr kr ?_
      refine G.ownBNil 5 ?_
      refine G.turnOp rfl rfl (G.appendB (xs := []) (ys := pieceC bs i) (Ps := Pv) rfl Tryz.underlying39 Tryz.infoByte rfl rfl selT (ro_sl hsub) (by simp; omega) (by simp; omega) ?_)
      intro v16
      rw [List.nil_append (pieceC bs i)]
      refine G.back subT ?_
      refine G.oneT hT5 (i := 6) (rem' := 1664) kr kr ?_
      refine G.ownBFact (v := v16) selT (fun hv16 => ?_)
      refine G.turnOp rfl rfl (G.lit1 (vs := [v16]) rfl Tryz.underlying82 kr rfl (by decide) (by decide) rfl (all1_cons hv16 all1_nil) ?_)
      intro b17
      refine G.back subT ?_
      refine G.oneT hT5 (i := 7) (rem' := 1536) kr kr ?_
      refine G.turnOp rfl rfl (G.append (k := l.length) (j := 1) (cs := l.map (·.2)) (news := [v16]) (b := b17) (off := 0) rfl Tryz.underlying82 Tryz.infoSlB rfl rfl rfl selT (fun _ => rfl) (fun h => by cases h) rfl (blk_news (k := 1) selT rfl) (by intro u hu; obtain rfl : u = v16 := (by simpa using hu); exact hv16) (by omega) (by omega) ?_)
      intro v18
      refine G.ownFact (v := v18) selT (fun hv18 _ => ?_)
      refine G.back subT ?_
      refine G.oneT hT5 (i := 9) (rem' := 1024) kr kr ?_
      refine G.turnOp rfl rfl (G.store kr rfl rfl eqT selT leT ?_)
      refine G.back subT ?_
      refine G.oneT hT5 (i := 10) (rem' := 0) kr kr ?_
      refine G.turnOp rfl rfl (G.store kr rfl rfl eqT selT leT ?_)
      rw [← atC_succ]
      refine G.back subT ?_
      refine I.over hT5 kr ?_
      refine I.nBlock ?_
      refine G.datBSnoc (ys := l) (x := pieceC bs i) (u := v16) selT selT ?_
      rw [show l.map (fun z : List UInt8 × Value => z.2) ++ [v16] = (l ++ [(pieceC bs i, v16)]).map (·.2) from by rw [List.map_append]; rfl, show l.length + 1 = (l ++ [(pieceC bs i, v16)]).length from by rw [List.length_append]; rfl]
      exact I.rN ((v18, l ++ [(pieceC bs i, v16)])) (by first | exact trivial | ((try dsimp only) <;> exact ⟨rfl, by rw [piecesC_succ, List.map_append, hl]; rfl⟩)) subT
    refine G.turnOp rfl rfl (G.val rfl rfl (pv_load Tryz.underlying3 rfl rfl celT) ?_)
    refine G.back subT ?_
    refine G.takeT hT5 (i := 4) (rem' := 1761) rfl rfl rfl kr (fun _ _ _ h => h) rfl (pv_subLH (sz := 1) (k := atC bs i) (k' := (cutL bs).getD i 0) Tryz.underlying39 kr rfl rfl rfl rfl rfl hle1 (Nat.le_trans hle2 hcap)) subT ?_
    refine G.twoT hT5 (i := 0) (j := 5) (rem' := 1760) (rem'' := 1729) kr kr kr ?_ ?_
    · refine G.turnOp rfl rfl (G.val rfl rfl (pv_load Tryz.underlying82 rfl rfl celT) ?_)
      refine G.back subT ?_
      refine G.oneT hT5 (i := 5) (rem' := 1728) kr kr ?_
      refine G.ownBNil 5 ?_
      refine G.turnOp rfl rfl (G.appendB (xs := []) (ys := pieceC bs i) (Ps := Pv) rfl Tryz.underlying39 Tryz.infoByte rfl rfl selT (ro_sl hsub) (by simp; omega) (by simp; omega) ?_)
      intro v16
      rw [List.nil_append (pieceC bs i)]
      refine G.back subT ?_
      refine G.oneT hT5 (i := 6) (rem' := 1664) kr kr ?_
      refine G.ownBFact (v := v16) selT (fun hv16 => ?_)
      refine G.turnOp rfl rfl (G.lit1 (vs := [v16]) rfl Tryz.underlying82 kr rfl (by decide) (by decide) rfl (all1_cons hv16 all1_nil) ?_)
      intro b17
      refine G.back subT ?_
      refine G.oneT hT5 (i := 7) (rem' := 1536) kr kr ?_
      refine G.turnOp rfl rfl (G.append (k := l.length) (j := 1) (cs := l.map (·.2)) (news := [v16]) (b := b17) (off := 0) rfl Tryz.underlying82 Tryz.infoSlB rfl rfl rfl selT (fun _ => rfl) (fun h => by cases h) rfl (blk_news (k := 1) selT rfl) (by intro u hu; obtain rfl : u = v16 := (by simpa using hu); exact hv16) (by omega) (by omega) ?_)
      intro v18
      refine G.ownFact (v := v18) selT (fun hv18 _ => ?_)
      refine G.back subT ?_
      refine G.oneT hT5 (i := 9) (rem' := 1024) kr kr ?_
      refine G.turnOp rfl rfl (G.store kr rfl rfl eqT selT leT ?_)
      refine G.back subT ?_
      refine G.oneT hT5 (i := 10) (rem' := 0) kr kr ?_
      refine G.turnOp rfl rfl (G.store kr rfl rfl eqT selT leT ?_)
      rw [← atC_succ]
      refine G.back subT ?_
      refine I.over hT5 kr ?_
      refine I.nBlock ?_
      refine G.datBSnoc (ys := l) (x := pieceC bs i) (u := v16) selT selT ?_
      rw [show l.map (fun z : List UInt8 × Value => z.2) ++ [v16] = (l ++ [(pieceC bs i, v16)]).map (·.2) from by rw [List.map_append]; rfl, show l.length + 1 = (l ++ [(pieceC bs i, v16)]).length from by rw [List.length_append]; rfl]
      exact I.rN ((v18, l ++ [(pieceC bs i, v16)])) (by first | exact trivial | ((try dsimp only) <;> exact ⟨rfl, by rw [piecesC_succ, List.map_append, hl]; rfl⟩)) subT
    refine G.ownBNil 5 ?_
    refine G.turnOp rfl rfl (G.appendB (xs := []) (ys := pieceC bs i) (Ps := Pv) rfl Tryz.underlying39 Tryz.infoByte rfl rfl selT (ro_sl hsub) (by simp; omega) (by simp; omega) ?_)
    intro v16
    rw [List.nil_append (pieceC bs i)]
    refine G.back subT ?_
    refine G.twoT hT5 (i := 0) (j := 6) (rem' := 1728) (rem'' := 1665) kr kr kr ?_ ?_
    · refine G.turnOp rfl rfl (G.val rfl rfl (pv_load Tryz.underlying82 rfl rfl celT) ?_)
      refine G.back subT ?_
      refine G.oneT hT5 (i := 6) (rem' := 1664) kr kr ?_
      refine G.ownBFact (v := v16) selT (fun hv16 => ?_)
      refine G.turnOp rfl rfl (G.lit1 (vs := [v16]) rfl Tryz.underlying82 kr rfl (by decide) (by decide) rfl (all1_cons hv16 all1_nil) ?_)
      intro b17
      refine G.back subT ?_
      refine G.oneT hT5 (i := 7) (rem' := 1536) kr kr ?_
      refine G.turnOp rfl rfl (G.append (k := l.length) (j := 1) (cs := l.map (·.2)) (news := [v16]) (b := b17) (off := 0) rfl Tryz.underlying82 Tryz.infoSlB rfl rfl rfl selT (fun _ => rfl) (fun h => by cases h) rfl (blk_news (k := 1) selT rfl) (by intro u hu; obtain rfl : u = v16 := (by simpa using hu); exact hv16) (by omega) (by omega) ?_)
      intro v18
      refine G.ownFact (v := v18) selT (fun hv18 _ => ?_)
      refine G.back subT ?_
      refine G.oneT hT5 (i := 9) (rem' := 1024) kr kr ?_
      refine G.turnOp rfl rfl (G.store kr rfl rfl eqT selT leT ?_)
      refine G.back subT ?_
      refine G.oneT hT5 (i := 10) (rem' := 0) kr kr ?_
      refine G.turnOp rfl rfl (G.store kr rfl rfl eqT selT leT ?_)
      rw [← atC_succ]
      refine G.back subT ?_
      refine I.over hT5 kr ?_
      refine I.nBlock ?_
      refine G.datBSnoc (ys := l) (x := pieceC bs i) (u := v16) selT selT ?_
      rw [show l.map (fun z : List UInt8 × Value => z.2) ++ [v16] = (l ++ [(pieceC bs i, v16)]).map (·.2) from by rw [List.map_append]; rfl, show l.length + 1 = (l ++ [(pieceC bs i, v16)]).length from by rw [List.length_append]; rfl]
      exact I.rN ((v18, l ++ [(pieceC bs i, v16)])) (by first | exact trivial | ((try dsimp only) <;> exact ⟨rfl, by rw [piecesC_succ, List.map_append, hl]; rfl⟩)) subT
    refine G.ownBFact (v := v16) selT (fun hv16 => ?_)
    refine G.turnOp rfl rfl (G.lit1 (vs := [v16]) rfl Tryz.underlying82 kr rfl (by decide) (by decide) rfl (all1_cons hv16 all1_nil) ?_)
    intro b17
    refine G.back subT ?_
    refine G.oneT hT5 (i := 0) (rem' := 1664) kr kr ?_
    refine G.turnOp rfl rfl (G.val rfl rfl (pv_load Tryz.underlying82 rfl rfl celT) ?_)
    refine G.back subT ?_
    refine G.oneT hT5 (i := 7) (rem' := 1536) kr kr ?_
    refine G.turnOp rfl rfl (G.append (k := l.length) (j := 1) (cs := l.map (·.2)) (news := [v16]) (b := b17) (off := 0) rfl Tryz.underlying82 Tryz.infoSlB rfl rfl rfl selT (fun _ => rfl) (fun h => by cases h) rfl (blk_news (k := 1) selT rfl) (by intro u hu; obtain rfl : u = v16 := (by simpa using hu); exact hv16) (by omega) (by omega) ?_)
    intro v18
    refine G.ownFact (v := v18) selT (fun hv18 _ => ?_)
    refine G.back subT ?_
    refine G.oneT hT5 (i := 9) (rem' := 1024) kr kr ?_
    refine G.turnOp rfl rfl (G.store kr rfl rfl eqT selT leT ?_)
    refine G.back subT ?_
    refine G.oneT hT5 (i := 10) (rem' := 0) kr kr ?_
    refine G.turnOp rfl rfl (G.store kr rfl rfl eqT selT leT ?_)
    rw [← atC_succ]
    refine G.back subT ?_
    refine I.over hT5 kr ?_
    refine I.nBlock ?_
    refine G.datBSnoc (ys := l) (x := pieceC bs i) (u := v16) selT selT ?_
    rw [show l.map (fun z : List UInt8 × Value => z.2) ++ [v16] = (l ++ [(pieceC bs i, v16)]).map (·.2) from by rw [List.map_append]; rfl, show l.length + 1 = (l ++ [(pieceC bs i, v16)]).length from by rw [List.length_append]; rfl]
    exact I.rN ((v18, l ++ [(pieceC bs i, v16)])) (by first | exact trivial | ((try dsimp only) <;> exact ⟨rfl, by rw [piecesC_succ, List.map_append, hl]; rfl⟩)) subT
  · intro D st hJ
    obtain ⟨ov, l⟩ := st
    try dsimp only at hJ
    try dsimp only
    obtain ⟨hct, hl⟩ := hJ
    have hlen : l.length = (cutL bs).length := by have := congrArg List.length hl; simpa [piecesC] using this
    have hlm : (l.map (fun z : List UInt8 × Value => z.2)).length = l.length := List.length_map _
    refine I.nBlock ?_
    refine I.nThen ?_
    refine I.seq ?_
    refine I.seq ?_
    refine I.region kr (by rintro ⟨_, _, h⟩; first | exact h | exact noOut h) ?_
    refine G.op rfl (G.val rfl rfl (pv_load Tryz.underlying3 rfl rfl celT) ?_)
    refine G.op rfl (G.val rfl rfl (pv_load Tryz.underlying39 rfl rfl celT) ?_)
    refine G.op rfl (G.val rfl rfl (pv_lenSl Tryz.underlying39 rfl) ?_)
    refine G.op rfl (G.val rfl rfl (pv_lss rfl rfl) ?_)
    refine I.nil ?_
    refine I.nThen ?_
    refine I.condP rfl (fun h23 => ?_) (fun h23 => ?_)
    · have hsub2 := Ro.sub hv0 (show atC bs (cutL bs).length ≤ bs.length by omega) (Nat.le_refl _)
      rw [List.take_length] at hsub2
      refine G.ownFact (v := ov) selT (fun hov _ => ?_)
      refine I.drawN (nn := 8) (p := [blk b3 _ _, own 39 1 ov _ _]) (rem := 255) [0, 0, 0, 6, 8, 16, 49, 127] [0, 0, 0, 6, 8, 16, 33, 64] kr kr ⟨rfl, by kernel_rfl, by kernel_rfl⟩ subT kr (fun hT7 => ?_)
      refine G.takeT hT7 (i := 1) (rem' := 253) rfl rfl rfl kr (fun _ _ _ h => h) rfl (pv_load Tryz.underlying39 rfl rfl celT) subT ?_
      refine G.takeT hT7 (i := 2) (rem' := 249) rfl rfl rfl kr (fun _ _ _ h => h) rfl (pv_load Tryz.underlying3 rfl rfl celT) subT ?_
      refine G.takeT hT7 (i := 3) (rem' := 241) rfl rfl rfl kr (fun _ _ _ h => h) rfl (pv_subL (sz := 1) (k := atC bs (cutL bs).length) Tryz.underlying39 kr rfl rfl rfl (by omega)) subT ?_
      refine G.twoT hT7 (i := 0) (j := 4) (rem' := 240) (rem'' := 225) kr kr kr ?_ ?_
      · refine G.turnOp rfl rfl (G.val rfl rfl (pv_load Tryz.underlying82 rfl rfl celT) ?_)
        refine G.back subT ?_
        refine G.oneT hT7 (i := 4) (rem' := 224) kr kr ?_
        refine G.ownBNil 5 ?_
        refine G.turnOp rfl rfl (G.appendB (xs := []) (ys := bs.drop (atC bs (cutL bs).length)) (Ps := Pv) rfl Tryz.underlying39 Tryz.infoByte rfl rfl selT (ro_sl hsub2) (by simp; omega) (by simp; omega) ?_)
        intro v28
        rw [List.nil_append (bs.drop (atC bs (cutL bs).length))]
        refine G.back subT ?_
        refine G.oneT hT7 (i := 5) (rem' := 192) kr kr ?_
        refine G.ownBFact (v := v28) selT (fun hv28 => ?_)
        refine G.turnOp rfl rfl (G.lit1 (vs := [v28]) rfl Tryz.underlying82 kr rfl (by decide) (by decide) rfl (all1_cons hv28 all1_nil) ?_)
        intro b29
        refine G.back subT ?_
        refine G.oneT hT7 (i := 6) (rem' := 128) kr kr ?_
        refine G.turnOp rfl rfl (G.append (k := l.length) (j := 1) (cs := l.map (·.2)) (news := [v28]) (b := b29) (off := 0) rfl Tryz.underlying82 Tryz.infoSlB rfl rfl rfl selT (fun _ => rfl) (fun h => by cases h) rfl (blk_news (k := 1) selT rfl) (by intro u hu; obtain rfl : u = v28 := (by simpa using hu); exact hv28) (by omega) (by omega) ?_)
        intro v30
        refine G.ownFact (v := v30) selT (fun hv30 _ => ?_)
        refine G.back subT ?_
        refine G.oneT hT7 (i := 7) (rem' := 0) kr kr ?_
        refine G.turnOp rfl rfl (G.store kr rfl rfl eqT selT leT ?_)
        refine G.back subT ?_
        refine I.overN hT7 kr ?_
        refine I.nThen ?_
        refine I.seq ?_
        refine I.region kr (by rintro ⟨_, _, h⟩; first | exact h | exact noOut h) ?_
        refine G.op rfl (G.val rfl rfl (pv_load Tryz.underlying82 rfl rfl celT) ?_)
        refine G.asT rfl rfl ?_
        refine I.nil ?_
        refine I.nThen ?_
        refine I.ret ?_
        refine G.datBSnoc (ys := l) (x := bs.drop (atC bs (cutL bs).length)) (u := v28) selT selT ?_
        rw [show l.map (fun z : List UInt8 × Value => z.2) ++ [v28] = (l ++ [(bs.drop (atC bs (cutL bs).length), v28)]).map (·.2) from by rw [List.map_append]; rfl, show l.length + 1 = (l ++ [(bs.drop (atC bs (cutL bs).length), v28)]).length from by rw [List.length_append]; rfl]
        exact I.doneM ((v30, l ++ [(bs.drop (atC bs (cutL bs).length), v28)])) (by first | exact trivial | ((try dsimp only) <;> exact (by unfold chunksC; rw [if_pos (by omega), List.map_append, hl]; rfl))) rfl (by (repeat (first | with_reducible exact Sel.here | exact Sel.here | apply Sel.there))) (Rv.tmp rfl Rv.nil) rfl subT
      refine G.ownBNil 5 ?_
      refine G.turnOp rfl rfl (G.appendB (xs := []) (ys := bs.drop (atC bs (cutL bs).length)) (Ps := Pv) rfl Tryz.underlying39 Tryz.infoByte rfl rfl selT (ro_sl hsub2) (by simp; omega) (by simp; omega) ?_)
      intro v28
      rw [List.nil_append (bs.drop (atC bs (cutL bs).length))]
      refine G.back subT ?_
      refine G.twoT hT7 (i := 0) (j := 5) (rem' := 224) (rem'' := 193) kr kr kr ?_ ?_
      · refine G.turnOp rfl rfl (G.val rfl rfl (pv_load Tryz.underlying82 rfl rfl celT) ?_)
        refine G.back subT ?_
        refine G.oneT hT7 (i := 5) (rem' := 192) kr kr ?_
        refine G.ownBFact (v := v28) selT (fun hv28 => ?_)
        refine G.turnOp rfl rfl (G.lit1 (vs := [v28]) rfl Tryz.underlying82 kr rfl (by decide) (by decide) rfl (all1_cons hv28 all1_nil) ?_)
        intro b29
        refine G.back subT ?_
        refine G.oneT hT7 (i := 6) (rem' := 128) kr kr ?_
        refine G.turnOp rfl rfl (G.append (k := l.length) (j := 1) (cs := l.map (·.2)) (news := [v28]) (b := b29) (off := 0) rfl Tryz.underlying82 Tryz.infoSlB rfl rfl rfl selT (fun _ => rfl) (fun h => by cases h) rfl (blk_news (k := 1) selT rfl) (by intro u hu; obtain rfl : u = v28 := (by simpa using hu); exact hv28) (by omega) (by omega) ?_)
        intro v30
        refine G.ownFact (v := v30) selT (fun hv30 _ => ?_)
        refine G.back subT ?_
        refine G.oneT hT7 (i := 7) (rem' := 0) kr kr ?_
        refine G.turnOp rfl rfl (G.store kr rfl rfl eqT selT leT ?_)
        refine G.back subT ?_
        refine I.overN hT7 kr ?_
        refine I.nThen ?_
        refine I.seq ?_
        refine I.region kr (by rintro ⟨_, _, h⟩; first | exact h | exact noOut h) ?_
        refine G.op rfl (G.val rfl rfl (pv_load Tryz.underlying82 rfl rfl celT) ?_)
        refine G.asT rfl rfl ?_
        refine I.nil ?_
        refine I.nThen ?_
        refine I.ret ?_
        refine G.datBSnoc (ys := l) (x := bs.drop (atC bs (cutL bs).length)) (u := v28) selT selT ?_
        rw [show l.map (fun z : List UInt8 × Value => z.2) ++ [v28] = (l ++ [(bs.drop (atC bs (cutL bs).length), v28)]).map (·.2) from by rw [List.map_append]; rfl, show l.length + 1 = (l ++ [(bs.drop (atC bs (cutL bs).length), v28)]).length from by rw [List.length_append]; rfl]
        exact I.doneM ((v30, l ++ [(bs.drop (atC bs (cutL bs).length), v28)])) (by first | exact trivial | ((try dsimp only) <;> exact (by unfold chunksC; rw [if_pos (by omega), List.map_append, hl]; rfl))) rfl (by (repeat (first | with_reducible exact Sel.here | exact Sel.here | apply Sel.there))) (Rv.tmp rfl Rv.nil) rfl subT
      refine G.ownBFact (v := v28) selT (fun hv28 => ?_)
      refine G.turnOp rfl rfl (G.lit1 (vs := [v28]) rfl Tryz.underlying82 kr rfl (by decide) (by decide) rfl (all1_cons hv28 all1_nil) ?_)
      intro b29
      refine G.back subT ?_
      refine G.oneT hT7 (i := 0) (rem' := 192) kr kr ?_
      refine G.turnOp rfl rfl (G.val rfl rfl (pv_load Tryz.underlying82 rfl rfl celT) ?_)
      refine G.back subT ?_
      refine G.oneT hT7 (i := 6) (rem' := 128) kr kr ?_
      refine G.turnOp rfl rfl (G.append (k := l.length) (j := 1) (cs := l.map (·.2)) (news := [v28]) (b := b29) (off := 0) rfl Tryz.underlying82 Tryz.infoSlB rfl rfl rfl selT (fun _ => rfl) (fun h => by cases h) rfl (blk_news (k := 1) selT rfl) (by intro u hu; obtain rfl : u = v28 := (by simpa using hu); exact hv28) (by omega) (by omega) ?_)
      intro v30
      refine G.ownFact (v := v30) selT (fun hv30 _ => ?_)
      refine G.back subT ?_
      refine G.oneT hT7 (i := 7) (rem' := 0) kr kr ?_
      refine G.turnOp rfl rfl (G.store kr rfl rfl eqT selT leT ?_)
      refine G.back subT ?_
      refine I.overN hT7 kr ?_
      refine I.nThen ?_
      refine I.seq ?_
      refine I.region kr (by rintro ⟨_, _, h⟩; first | exact h | exact noOut h) ?_
      refine G.op rfl (G.val rfl rfl (pv_load Tryz.underlying82 rfl rfl celT) ?_)
      refine G.asT rfl rfl ?_
      refine I.nil ?_
      refine I.nThen ?_
      refine I.ret ?_
      refine G.datBSnoc (ys := l) (x := bs.drop (atC bs (cutL bs).length)) (u := v28) selT selT ?_
      rw [show l.map (fun z : List UInt8 × Value => z.2) ++ [v28] = (l ++ [(bs.drop (atC bs (cutL bs).length), v28)]).map (·.2) from by rw [List.map_append]; rfl, show l.length + 1 = (l ++ [(bs.drop (atC bs (cutL bs).length), v28)]).length from by rw [List.length_append]; rfl]
      exact I.doneM ((v30, l ++ [(bs.drop (atC bs (cutL bs).length), v28)])) (by first | exact trivial | ((try dsimp only) <;> exact (by unfold chunksC; rw [if_pos (by omega), List.map_append, hl]; rfl))) rfl (by (repeat (first | with_reducible exact Sel.here | exact Sel.here | apply Sel.there))) (Rv.tmp rfl Rv.nil) rfl subT
    refine G.ownFact (v := ov) selT (fun hov _ => ?_)
    refine I.skip ?_
    refine I.nThen ?_
    refine I.seq ?_
    refine I.region kr (by rintro ⟨_, _, h⟩; first | exact h | exact noOut h) ?_
    refine G.op rfl (G.val rfl rfl (pv_load Tryz.underlying82 rfl rfl celT) ?_)
    refine G.asT rfl rfl ?_
    refine I.nil ?_
    refine I.nThen ?_
    refine I.ret ?_
    exact I.doneM ((ov, l)) (by first | exact trivial | ((try dsimp only) <;> exact (by unfold chunksC; rw [if_neg (by omega), List.append_nil, hl]))) rfl (by (repeat (first | with_reducible exact Sel.here | exact Sel.here | apply Sel.there))) (Rv.tmp rfl Rv.nil) rfl subT
  intro D i st hle hJ
  obtain ⟨ov, l⟩ := st
  try dsimp only at hJ
  try dsimp only
  obtain ⟨h, _⟩ := hJ
  cases h
end Go.Proofs.YtbfpbibkklfnfaaGreat

set_option linter.unusedVariables false
set_option linter.unusedSimpArgs false
namespace Go.Proofs.YtbfpbibkklfnfaaGreat
open Go.RowKit
instance : DecidableEq En := fun a b => decidable_of_iff (a.path = b.path ∧ a.kind = b.kind ∧ a.mode = b.mode ∧ a.data = b.data ∧ a.to = b.to) (by
  cases a
  cases b
  simp)
theorem en_eq {a b : En} : a = b ↔ a.path = b.path ∧ a.kind = b.kind ∧ a.mode = b.mode ∧ a.data = b.data ∧ a.to = b.to := by
  cases a
  cases b
  simp
end Go.Proofs.YtbfpbibkklfnfaaGreat

set_option linter.unusedVariables false
set_option linter.unusedSimpArgs false
namespace Go.Proofs.YtbfpbibkklfnfaaGreat
open Go.RowKit
theorem Ro.one1 {w0 : World} {S Ps : Nat → Prop} {v : Value} {a : List UInt8} (h : Ro w0 S (slc rByte Ps v a)) : v.oneCell' = true := by
  obtain ⟨ad, cap, rfl⟩ := Ro.slv h
  rfl
/-- entries in the order of their paths -/
def SortT (es : List En) : Prop := es.Pairwise fun a b => compareM a.path b.path = -1
/-- how many are ahead of a path -/
def placeK (es : List En) (s : List UInt8) : Nat := es.findIdx fun e => ! decide (compareM e.path s < 0)
def isAt (es : List En) (s : List UInt8) : Prop := ∃ e ∈ es, e.path = s
instance (es : List En) (s : List UInt8) : Decidable (isAt es s) := inferInstanceAs (Decidable (∃ e ∈ es, e.path = s))
theorem cmp_lt_iff (a b : List UInt8) : compareM a b < 0 ↔ compareM a b = -1 := by
  have := compareM_ord.rng a b
  omega
theorem sort_mono {es : List En} (h : SortT es) {s : List UInt8} {q r : Nat} (hr : r < es.length) (hq : q ≤ r) (hc : compareM es[r].path s < 0) : compareM (es[q]'(by omega)).path s < 0 := by
  rcases Nat.lt_or_ge q r with h1 | h1
  · have h2 := (List.pairwise_iff_getElem.1 h) q r (by omega) hr h1
    rw [cmp_lt_iff] at hc ⊢
    exact compareM_ord.trans _ _ _ h2 hc
  obtain rfl : q = r := by omega
  exact hc
theorem placeK_at {es : List En} {s : List UInt8} {k : Nat} (hk : k ≤ es.length) (h1 : ∀ q (hq : q < es.length), q < k → compareM es[q].path s < 0) (h2 : ∀ q (hq : q < es.length), k ≤ q → ¬ compareM es[q].path s < 0) : placeK es s = k := by
  unfold placeK
  rcases Nat.lt_or_ge k es.length with h | h
  · refine (List.findIdx_eq h).2 ⟨by simpa using h2 k h (Nat.le_refl _), fun j hj => ?_⟩
    simpa using h1 j (by omega) hj
  obtain rfl : k = es.length := by omega
  exact List.findIdx_eq_length_of_false fun x hx => by
    obtain ⟨j, hj, rfl⟩ := List.getElem_of_mem hx
    simpa using h1 j hj hj
theorem isAt_iff {es : List En} (hs : SortT es) {s : List UInt8} {k : Nat} (h1 : ∀ q (hq : q < es.length), q < k → compareM es[q].path s < 0) (hk : k < es.length) (h2 : ¬ compareM es[k].path s < 0) : isAt es s ↔ compareM es[k].path s = 0 := by
  constructor
  · rintro ⟨e, he, rfl⟩
    obtain ⟨j, hj, rfl⟩ := List.getElem_of_mem he
    have hjj : compareM es[j].path es[j].path = 0 := (compareM_ord.zero _ _).2 rfl
    rcases Nat.lt_or_ge j k with h | h
    · have := h1 j hj h
      omega
    rcases Nat.lt_or_ge k j with h3 | h3
    · have := (List.pairwise_iff_getElem.1 hs) k j hk hj h3
      omega
    obtain rfl : j = k := by omega
    exact hjj
  intro h
  exact ⟨es[k], List.getElem_mem hk, (compareM_ord.zero _ _).1 h⟩
theorem isAt_none {es : List En} {s : List UInt8} (h1 : ∀ q (hq : q < es.length), compareM es[q].path s < 0) : ¬ isAt es s := by
  rintro ⟨e, he, rfl⟩
  obtain ⟨j, hj, rfl⟩ := List.getElem_of_mem he
  have := h1 j hj
  have : compareM es[j].path es[j].path = 0 := (compareM_ord.zero _ _).2 rfl
  omega
theorem search_end {xs : List ET} {s : List UInt8} {i : Nat} (hso : SortT (ens xs)) (hlt : i < xs.length) (hlo : ∀ q (hq : q < xs.length), q < i → compareM xs[q].1.path s < 0) (hhi : ∀ q (hq : q < xs.length), i ≤ q → ¬ compareM xs[q].1.path s < 0) : placeK (ens xs) s = i ∧ (isAt (ens xs) s ↔ compareM xs[i].1.path s = 0) := by
  have hl := ens_length xs
  have g1 : ∀ q (hq : q < (ens xs).length), q < i → compareM (ens xs)[q].path s < 0 := fun q hq hqi => by
    rw [ens_get (by omega)]
    exact hlo q (by omega) hqi
  have g2 : ∀ q (hq : q < (ens xs).length), i ≤ q → ¬ compareM (ens xs)[q].path s < 0 := fun q hq hqi => by
    rw [ens_get (by omega)]
    exact hhi q (by omega) hqi
  have h := isAt_iff hso g1 (show i < (ens xs).length by omega) (g2 i (by omega) (Nat.le_refl _))
  rw [ens_get hlt] at h
  exact ⟨placeK_at (by omega) g1 g2, h⟩
theorem search_none {xs : List ET} {s : List UInt8} (hlo : ∀ q (hq : q < xs.length), q < xs.length → compareM xs[q].1.path s < 0) : placeK (ens xs) s = xs.length ∧ ¬ isAt (ens xs) s := by
  have hl := ens_length xs
  have g1 : ∀ q (hq : q < (ens xs).length), compareM (ens xs)[q].path s < 0 := fun q hq => by
    rw [ens_get (by omega)]
    exact hlo q (by omega) (by omega)
  exact ⟨placeK_at (by omega) (fun q hq _ => g1 q hq) (fun q hq h => by omega), isAt_none g1⟩
set_option maxRecDepth 20000 in
set_option maxHeartbeats 4000000 in
theorem place1_tr (e : En) (d : Value) (s : List UInt8) (hl : e.path.length ≤ 9223372036854775807) (hs : s.length ≤ 9223372036854775807) : Tr Tryz.prog 118 #[.agg #[.string (sB e.path), .int .i64 e.kind, .int .i64 e.mode, d, .string (sB e.to)], .string (sB s)] [] [] (T0 (.int .i64 (compareM e.path s))) := by
  refine Tr.of (l := [(0, .agg #[.string (sB e.path), .int .i64 e.kind, .int .i64 e.mode, d, .string (sB e.to)]), (1, .string (sB s))]) Tryz.func118 rfl (n := 9) rfl (.cons rfl (.cons rfl .nil)) (fun w0 hro => ?_)
  refine G.seq (G.region ?_)
  refine G.op rfl (G.box rfl rfl (cs := [_, _, _, _, _]) rfl ?_)
  intro b2
  refine G.asT rfl rfl ?_
  refine G.nil ?_
  refine G.nThen (G.seq (G.region ?_))
  refine G.op rfl (G.val rfl rfl (pv_fieldAddrK (sz := 0) (k := 0) Tryz.underlying68 rfl kr rfl rfl) ?_)
  refine G.op rfl (G.val rfl rfl (pv_load Tryz.underlying9 rfl rfl celT) ?_)
  refine G.mvT rfl rfl ?_
  refine G.op rfl (G.cR rfl rfl rfl rfl Tryz.func71 rfl rfl may0 (compare_tr _ _ (by omega) (by omega)) ?_)
  refine G.asT rfl rfl ?_
  refine G.nil ?_
  refine G.nThen ?_
  refine G.ret ?_
  exact G.done0G rfl (Rv.tmp rfl Rv.nil) (by first | rfl | exact int_eq (by omega) | (simp; done))
set_option maxRecDepth 20000 in
set_option maxHeartbeats 4000000 in
theorem search_tr {Ps : Nat → Prop} (v : Value) (xs : List ET) (s : List UInt8) (hs : s.length ≤ 9223372036854775807) (hn : xs.length ≤ 1000000) (hso : SortT (ens xs)) : Tr Tryz.prog 117 #[v, .string (sB s), .func (.func 118) #[] #[]] [slc rEV Ps v xs] [] (T0 (.tuple #[.int .i64 (placeK (ens xs) s : Int), .bool (decide (isAt (ens xs) s))])) := by
  refine Tr.of (l := [(0, v), (1, .string (sB s)), (2, .func (.func 118) #[] #[])]) Tryz.func117 rfl (n := 49) rfl (.cons rfl (.cons rfl (.cons rfl .nil))) (fun w0 hro => ?_)
  have hv := ro1 hro
  have hv' := hv
  obtain ⟨av, cv, bv, fv, rfl, hcapv, hmaxv, hnilv, hadv, helv⟩ := Ro.openT hv
  have hel' := ens_length xs
  refine G.seq (G.region ?_)
  refine G.asT rfl rfl ?_
  refine G.asT rfl rfl ?_
  refine G.nil ?_
  refine G.nThen (G.seq (G.region ?_))
  refine G.mvT rfl rfl ?_
  refine G.op rfl (G.val rfl rfl (pv_lenSl Tryz.underlying22 rfl) ?_)
  refine G.asT rfl rfl ?_
  refine G.nil ?_
  refine G.nThen (G.seq (G.region ?_))
  refine G.mvT rfl rfl ?_
  refine G.asT rfl rfl ?_
  refine G.asT rfl rfl ?_
  refine G.nil ?_
  refine G.nThen (G.seq ?_)
  refine G.block ?_
  refine G.loopK (X := Nat × Nat) (ts := [0, 1, 2, 6, 7, 8]) (fun st => st.1 ≤ st.2 ∧ st.2 ≤ xs.length ∧ (∀ q (hq : q < xs.length), q < st.1 → compareM xs[q].1.path s < 0) ∧ (∀ q (hq : q < xs.length), st.2 ≤ q → ¬ compareM xs[q].1.path s < 0)) (fun st => [(9, .int .i64 (st.1 : Int)), (10, .int .i64 (st.2 : Int))]) (fun st => []) (fun st => st.2 - st.1) (x0 := (0, xs.length)) (.cons rfl (.cons rfl (.cons rfl (.cons rfl (.cons rfl (.cons rfl .nil)))))) subT (.cons (.cons .nil)) apT (by first | exact trivial | ((try dsimp only); exact ⟨Nat.zero_le _, Nat.le_refl _, fun q _ h => absurd h (by omega), fun q h1 h2 => absurd h1 (by omega)⟩)) (.consE rfl veqT (.consE rfl veqT .nil)) (fun st hJ => ?_)
  obtain ⟨i, j⟩ := st
  try dsimp only at hJ
  try dsimp only
  obtain ⟨hij, hj, hlo, hhi⟩ := hJ
  refine G.seq (G.seq (G.region ?_))
  refine G.mvT rfl rfl ?_
  refine G.mvT rfl rfl ?_
  refine G.op rfl (G.val rfl rfl (pv_lss rfl rfl) ?_)
  refine G.nil ?_
  refine G.nThen ?_
  refine G.condP rfl (fun h17 => ?_) (fun h17 => ?_)
  · have hlt : (i + j) / 2 < xs.length := by omega
    have hEv := helv ((i + j) / 2) hlt
    have hRv := Ro.evRng hEv
    have hDv := Ro.evDat hEv
    obtain ⟨hk1v, hk2v, hlpv, hldv, hltv⟩ := Ro.evOk hEv
    have hCv := Ro.one1 hDv
    refine G.skip ?_
    refine G.nThen ?_
    refine G.block ?_
    refine G.seq (G.region ?_)
    refine G.mvT rfl rfl ?_
    refine G.mvT rfl rfl ?_
    refine G.op rfl (G.val rfl rfl (pv_add64 rfl rfl (by omega)) ?_)
    refine G.op rfl (G.val rfl rfl ((pv_conv (by rw [Tryz.underlying3]; rfl) Tryz.underlying174 rfl).int (b := ((i + j : Nat) : Int)) (by rw [IntWalk.u64_in _ (by omega)]; omega)) ?_)
    refine G.op rfl (G.val rfl rfl ((pv_shr (s := 1) rfl rfl (by decide)).int (b := (((i + j) / 2 : Nat) : Int)) (by omega)) ?_)
    refine G.op rfl (G.val rfl rfl ((pv_conv (by rw [Tryz.underlying174]; rfl) Tryz.underlying3 rfl).int (b := (((i + j) / 2 : Nat) : Int)) (by rw [IntWalk.i64_in _ (by omega)])) ?_)
    refine G.asT rfl rfl ?_
    refine G.nil ?_
    refine G.nThen (G.seq (G.region ?_))
    refine G.mvT rfl rfl ?_
    refine G.mvT rfl rfl ?_
    refine G.mvT rfl rfl ?_
    refine G.op rfl (G.val rfl rfl (pv_ixSl (sz := 5) Tryz.underlying22 kr rfl rfl (by first | with_reducible assumption | assumption | exact fun _ => rfl) rfl (by omega)) ?_)
    refine G.op rfl (G.val rfl rfl (pv_loadN (cs := [_, _, _, _, _]) Tryz.underlying68 rfl kr rfl (by first | exact blk_range (k := 5) selD (by rfl) | exact ro_rng0 (by assumption) | exact rng_range (k := 5) selD (by rfl) | exact ro_range (k := 5) (by assumption) (by rfl) | exact ro_rngR (k := 5) (by assumption) (by rfl))) ?_)
    refine G.mvT rfl rfl ?_
    refine G.op rfl (G.cRv rfl rfl rfl rfl rfl Tryz.func118 rfl rfl (by rfl) may0 (place1_tr xs[(i + j) / 2].1 _ s (by omega) hs) ?_)
    refine G.op rfl (G.val rfl rfl (pv_lss rfl rfl) ?_)
    refine G.nil ?_
    refine G.nThen ?_
    refine G.condP rfl (fun h31 => ?_) (fun h31 => ?_)
    · have hneg := h31
      refine G.region ?_
      refine G.mvT rfl rfl ?_
      refine G.op rfl (G.val rfl rfl (pv_add64 rfl rfl (by omega)) ?_)
      refine G.asT rfl rfl ?_
      refine G.nil ?_
      refine G.nBlock ?_
      exact G.next (((i + j) / 2 + 1, j)) (by first | exact trivial | ((try dsimp only); exact ⟨by omega, hj, fun q hq hqi => by have := sort_mono hso (r := (i + j) / 2) (q := q) (s := s) (by omega) (by omega) (by rw [ens_get hlt]; exact hneg); rwa [ens_get hq] at this, hhi⟩)) (by (try dsimp only); omega) (.consE rfl veqT (.consE rfl veqT (.cons rfl (.cons rfl (.cons rfl (.cons rfl (.cons rfl (.cons rfl .nil)))))))) subT
    have hneg := h31
    refine G.region ?_
    refine G.mvT rfl rfl ?_
    refine G.asT rfl rfl ?_
    refine G.nil ?_
    refine G.nBlock ?_
    exact G.next ((i, (i + j) / 2)) (by first | exact trivial | ((try dsimp only); exact ⟨by omega, by omega, hlo, fun q hq hqi h => hneg (by have := sort_mono hso (r := q) (q := (i + j) / 2) (s := s) (by omega) hqi (by rw [ens_get hq]; exact h); rwa [ens_get hlt] at this)⟩)) (by (try dsimp only); omega) (.consE rfl veqT (.consE rfl veqT (.cons rfl (.cons rfl (.cons rfl (.cons rfl (.cons rfl (.cons rfl .nil)))))))) subT
  refine G.exit ?_
  refine G.eThen ?_
  refine G.eThen ?_
  refine G.eBlock ?_
  refine G.nThen (G.seq (G.region ?_))
  refine G.mvT rfl rfl ?_
  refine G.mvT rfl rfl ?_
  refine G.mvT rfl rfl ?_
  refine G.op rfl (G.val rfl rfl (pv_lss rfl rfl) ?_)
  refine G.mvT rfl rfl ?_
  refine G.partP (t := 39) rfl (fun h39 => ?_) (fun h39 => ?_)
  · obtain rfl : i = j := by omega
    have hlt : i < xs.length := by omega
    have hEv := helv i hlt
    have hRv := Ro.evRng hEv
    have hDv := Ro.evDat hEv
    obtain ⟨hk1v, hk2v, hlpv, hldv, hltv⟩ := Ro.evOk hEv
    have hCv := Ro.one1 hDv
    refine G.want rfl rfl rfl (G.val rfl rfl (pv_move rfl) ?_)
    refine G.want rfl rfl rfl (G.val rfl rfl (pv_move rfl) ?_)
    refine G.want rfl rfl rfl (G.val rfl rfl (pv_move rfl) ?_)
    refine G.want rfl rfl rfl (G.val rfl rfl (pv_ixSl (sz := 5) Tryz.underlying22 kr rfl rfl (by first | with_reducible assumption | assumption | exact fun _ => rfl) rfl (by omega)) ?_)
    refine G.want rfl rfl rfl (G.val rfl rfl (pv_loadN (cs := [_, _, _, _, _]) Tryz.underlying68 rfl kr rfl (by first | exact blk_range (k := 5) selD (by rfl) | exact ro_rng0 (by assumption) | exact rng_range (k := 5) selD (by rfl) | exact ro_range (k := 5) (by assumption) (by rfl) | exact ro_rngR (k := 5) (by assumption) (by rfl))) ?_)
    refine G.want rfl rfl rfl (G.val rfl rfl (pv_move rfl) ?_)
    refine G.want rfl rfl rfl (G.cRv rfl rfl rfl rfl rfl Tryz.func118 rfl rfl (by rfl) may0 (place1_tr xs[i].1 _ s (by omega) hs) ?_)
    refine G.want rfl rfl rfl (G.val rfl rfl (pv_eql rfl rfl) ?_)
    refine G.op rfl (G.val rfl rfl (pv_pick rfl rfl) ?_)
    refine G.asT rfl rfl ?_
    refine G.asT rfl rfl ?_
    refine G.nil ?_
    refine G.nThen ?_
    refine G.ret ?_
    obtain ⟨hp, hi⟩ := search_end hso hlt hlo hhi
    exact G.done0G rfl (Rv.tmp rfl (Rv.tmp rfl Rv.nil)) (by rw [hp]; simp [retV2, hi])
  refine G.pass rfl rfl rfl rfl rfl rfl ?_
  refine G.pass rfl rfl rfl rfl rfl rfl ?_
  refine G.pass rfl rfl rfl rfl rfl rfl ?_
  refine G.pass rfl rfl rfl rfl rfl rfl ?_
  refine G.pass rfl rfl rfl rfl rfl rfl ?_
  refine G.pass rfl rfl rfl rfl rfl rfl ?_
  refine G.pass rfl rfl rfl rfl rfl rfl ?_
  refine G.pass rfl rfl rfl rfl rfl rfl ?_
  refine G.op rfl (G.val rfl rfl (pv_pick rfl rfl) ?_)
  refine G.asT rfl rfl ?_
  refine G.asT rfl rfl ?_
  refine G.nil ?_
  refine G.nThen ?_
  refine G.ret ?_
  obtain rfl : i = xs.length := by omega
  obtain ⟨hp, hi⟩ := search_none (s := s) hlo
  exact G.done0G rfl (Rv.tmp rfl (Rv.tmp rfl Rv.nil)) (by rw [hp, decide_eq_false hi]; rfl)
set_option maxRecDepth 20000 in
set_option maxHeartbeats 4000000 in
theorem place_tr {Ps : Nat → Prop} (v : Value) (xs : List ET) (s : List UInt8) (hn : xs.length ≤ 1000000) (hso : SortT (ens xs)) (hs : s.length ≤ 9223372036854775807) : Tr Tryz.prog 80 #[v, .string (sB s)] [slc rEV Ps v xs] [] (T0 (.tuple #[.int .i64 (placeK (ens xs) s : Int), .bool (decide (isAt (ens xs) s))])) := by
  refine Tr.of (l := [(0, v), (1, .string (sB s))]) Tryz.func80 rfl (n := 11) rfl (.cons rfl (.cons rfl .nil)) (fun w0 hro => ?_)
  have hv := ro1 hro
  refine G.seq (G.region ?_)
  refine G.asT rfl rfl ?_
  refine G.asT rfl rfl ?_
  refine G.nil ?_
  refine G.nThen (G.seq (G.region ?_))
  refine G.mvT rfl rfl ?_
  refine G.mvT rfl rfl ?_
  refine G.op rfl (G.cR rfl rfl rfl rfl Tryz.func117 rfl rfl (may1 (by first | (apply May.old; first | with_reducible assumption | assumption) | (apply Sel.may; (repeat (first | with_reducible exact Sel.here | exact Sel.here | apply Sel.there)); done) | (apply may_own; (repeat (first | with_reducible exact Sel.here | exact Sel.here | apply Sel.there)); exact rfl; exact (fun _ _ => trivial); done) | (apply may_ownB; (repeat (first | with_reducible exact Sel.here | exact Sel.here | apply Sel.there)); done) | (apply may_tree; (repeat (first | with_reducible exact Sel.here | exact Sel.here | apply Sel.there)); (repeat (first | with_reducible exact Sel.here | exact Sel.here | apply Sel.there)); assumption; done))) (search_tr _ xs s hs hn hso) ?_)
  refine G.op rfl (G.val rfl rfl (pv_extract rfl rfl) ?_)
  refine G.op rfl (G.val rfl rfl (pv_extract rfl rfl) ?_)
  refine G.asT rfl rfl ?_
  refine G.asT rfl rfl ?_
  refine G.nil ?_
  refine G.nThen ?_
  refine G.ret ?_
  exact G.done0G rfl (Rv.tmp rfl (Rv.tmp rfl Rv.nil)) (by first | rfl | exact int_eq (by omega) | (simp; done))
end Go.Proofs.YtbfpbibkklfnfaaGreat

set_option linter.unusedVariables false
set_option linter.unusedSimpArgs false
namespace Go.Proofs.YtbfpbibkklfnfaaGreat
open Go.RowKit
/-- is an entry's parent there, ahead of it, as a directory? -/
def heldM (l : List En) (e : En) : Prop := (parentM e.path).2 = false ∨ ∃ x ∈ l, x.path = (parentM e.path).1 ∧ x.kind = 1
instance (l : List En) (e : En) : Decidable (heldM l e) := inferInstanceAs (Decidable (_ ∨ _))
/-- is the entry ahead not ahead? -/
def prevBad (es : List En) (i : Nat) : Prop := 0 < i ∧ match es[i - 1]?, es[i]? with
  | some p, some e => 0 ≤ compareM p.path e.path
  | _, _ => False
instance (es : List En) (i : Nat) : Decidable (prevBad es i) := by
  unfold prevBad
  cases es[i - 1]? <;> cases es[i]? <;> exact inferInstance
theorem prev_pos {es : List En} {i : Nat} (h0 : 0 < i) (h : i < es.length) : prevBad es i ↔ 0 ≤ compareM (es[i - 1]'(by omega)).path es[i].path := by
  unfold prevBad
  rw [List.getElem?_eq_getElem h, List.getElem?_eq_getElem (show i - 1 < es.length by omega)]
  simp [h0]
theorem prev_zero {es : List En} {i : Nat} (h0 : ¬ 0 < i) : ¬ prevBad es i := fun h => h0 h.1
/-- what is wrong with the i-th entry of a tree -/
def errT (es : List En) (i : Nat) : Int := match es[i]? with
  | none => 0
  | some e => if (if oneM e = 0 ∧ prevBad es i then 7 else oneM e) = 0 ∧ ¬ heldM (es.take i) e then 6 else (if oneM e = 0 ∧ prevBad es i then 7 else oneM e)
theorem errT_get {es : List En} {i : Nat} (h : i < es.length) : errT es i = if (if oneM es[i] = 0 ∧ prevBad es i then 7 else oneM es[i]) = 0 ∧ ¬ heldM (es.take i) es[i] then 6 else (if oneM es[i] = 0 ∧ prevBad es i then 7 else oneM es[i]) := by
  unfold errT
  rw [List.getElem?_eq_getElem h]
theorem err_one {es : List En} {i : Nat} (h : i < es.length) (h1 : ¬ oneM es[i] = 0) : errT es i = oneM es[i] := by
  rw [errT_get h, if_neg (fun k => by rw [if_neg (fun k => h1 k.1)] at k; exact h1 k.1), if_neg (fun k => h1 k.1)]
theorem err_prev {es : List En} {i : Nat} (h : i < es.length) (h1 : oneM es[i] = 0) (h2 : prevBad es i) : errT es i = 7 := by
  rw [errT_get h, if_neg (fun k => by rw [if_pos ⟨h1, h2⟩] at k; cases k.1), if_pos ⟨h1, h2⟩]
theorem err_held {es : List En} {i : Nat} (h : i < es.length) (h1 : oneM es[i] = 0) (h2 : ¬ prevBad es i) (h3 : ¬ heldM (es.take i) es[i]) : errT es i = 6 := by
  rw [errT_get h, if_pos ⟨by rw [if_neg (fun k => h2 k.2), h1], h3⟩]
theorem err_ok {es : List En} {i : Nat} (h : i < es.length) (h1 : oneM es[i] = 0) (h2 : ¬ prevBad es i) (h3 : heldM (es.take i) es[i]) : errT es i = 0 := by
  rw [errT_get h, if_neg (fun k => k.2 h3), if_neg (fun k => h2 k.2), h1]
theorem err_zero {es : List En} {i : Nat} (h : i < es.length) (h0 : errT es i = 0) : oneM es[i] = 0 ∧ ¬ prevBad es i ∧ heldM (es.take i) es[i] := by
  have a : oneM es[i] = 0 := Decidable.byContradiction fun k => by rw [err_one h k] at h0; exact k h0
  have b : ¬ prevBad es i := fun k => by rw [err_prev h a k] at h0; cases h0
  exact ⟨a, b, Decidable.byContradiction fun k => by rw [err_held h a b k] at h0; cases h0⟩
/-- what is wrong with a tree, and with which entry -/
def checkT (es : List En) : Int × Int := if 200 < es.length then (3, 0) else
  let k := (List.range es.length).findIdx fun i => ! decide (errT es i = 0)
  (errT es k, if errT es k = 0 then 0 else (k : Int))
theorem checkT_many {es : List En} (h : 200 < es.length) : checkT es = (3, 0) := if_pos h
theorem range_idx {p : Nat → Bool} {n i : Nat} (hi : i < n) (hp : p i = true) (h : ∀ q, q < i → p q = false) : (List.range n).findIdx p = i := by
  refine (List.findIdx_eq (by simpa using hi)).2 ⟨by simpa using hp, fun j hj => ?_⟩
  simpa using h j hj
theorem checkT_bad {es : List En} {i : Nat} {e : Int} (h200 : ¬ 200 < es.length) (hi : i < es.length) (h : ∀ q, q < i → errT es q = 0) (he : errT es i = e) (h0 : ¬ e = 0) : checkT es = (e, (i : Int)) := by
  unfold checkT
  rw [if_neg h200]
  have e1 : (List.range es.length).findIdx (fun i => ! decide (errT es i = 0)) = i := range_idx hi (by simp [he, h0]) (fun q hq => by simp [h q hq])
  simp only [e1, he, if_neg h0]
theorem checkT_ok {es : List En} (h200 : ¬ 200 < es.length) (h : ∀ q, q < es.length → errT es q = 0) : checkT es = (0, 0) := by
  unfold checkT
  rw [if_neg h200]
  have e1 : (List.range es.length).findIdx (fun i => ! decide (errT es i = 0)) = es.length := by
    have := List.findIdx_eq_length_of_false (p := fun i => ! decide (errT es i = 0)) (xs := List.range es.length) (fun x hx => by
      have := h x (by simpa using hx)
      simp [this])
    simpa using this
  have e2 : errT es es.length = 0 := by
    unfold errT
    rw [List.getElem?_eq_none (Nat.le_refl _)]
  simp only [e1, e2, if_true]
theorem checkT_zero {es : List En} (h : (checkT es).1 = 0) : es.length ≤ 200 ∧ (∀ q, q < es.length → errT es q = 0) ∧ checkT es = (0, 0) := by
  by_cases h200 : 200 < es.length
  · rw [checkT_many h200] at h
    cases h
  have all : ∀ q, q < es.length → errT es q = 0 := by
    intro q
    induction q using Nat.strongRecOn with
    | _ q ih =>
      intro hq
      exact Decidable.byContradiction fun k => by
        rw [checkT_bad h200 hq (fun r hr => ih r hr (by omega)) rfl k] at h
        exact k h
  exact ⟨by omega, all, checkT_ok h200 all⟩
/-- a tree's beginning that may be is in order -/
theorem sort_take {es : List En} {i : Nat} (hi : i ≤ es.length) (h : ∀ q, q < i → errT es q = 0) : SortT (es.take i) := by
  have step : ∀ q (hq : q + 1 < i), compareM (es[q]'(by omega)).path (es[q + 1]'(by omega)).path = -1 := fun q hq => by
    have h1 := (err_zero (show q + 1 < es.length by omega) (h (q + 1) hq)).2.1
    rw [prev_pos (by omega) (by omega)] at h1
    have := compareM_ord.rng (es[q]'(by omega)).path (es[q + 1]'(by omega)).path
    simp only [Nat.add_sub_cancel] at h1
    omega
  have all : ∀ r q (hr : r < i) (hqr : q < r), compareM (es[q]'(by omega)).path (es[r]'(by omega)).path = -1 := by
    intro r
    induction r with
    | zero => intro q hr hq; omega
    | succ r ih =>
      intro q hr hq
      rcases Nat.lt_or_ge q r with h1 | h1
      · exact compareM_ord.trans _ _ _ (ih q (by omega) h1) (step r hr)
      obtain rfl : q = r := by omega
      exact step q hr
  refine List.pairwise_iff_getElem.2 fun q r hq hr hqr => ?_
  simp only [List.length_take] at hq hr
  rw [List.getElem_take, List.getElem_take]
  exact all r q (by omega) hqr
theorem placeK_spec {es : List En} (hs : SortT es) {s : List UInt8} (h : isAt es s) : ∃ hk : placeK es s < es.length, es[placeK es s].path = s := by
  obtain ⟨e, he, rfl⟩ := h
  obtain ⟨j, hj, rfl⟩ := List.getElem_of_mem he
  have hp : placeK es es[j].path = j := placeK_at (by omega) (fun q hq hqj => by rw [cmp_lt_iff]; exact (List.pairwise_iff_getElem.1 hs) q j hq hj hqj) (fun q hq hjq => by
    rcases Nat.lt_or_ge j q with h1 | h1
    · have h2 := (List.pairwise_iff_getElem.1 hs) j q hj hq h1
      have := compareM_ord.anti es[j].path es[q].path
      omega
    obtain rfl : j = q := by omega
    rw [(compareM_ord.zero _ _).2 rfl]
    omega)
  refine ⟨by omega, ?_⟩
  simp only [hp]
theorem sort_inj {es : List En} (hs : SortT es) {a b : En} (ha : a ∈ es) (hb : b ∈ es) (h : a.path = b.path) : a = b := by
  obtain ⟨i, hi, rfl⟩ := List.getElem_of_mem ha
  obtain ⟨j, hj, rfl⟩ := List.getElem_of_mem hb
  have hz : compareM es[i].path es[j].path = 0 := (compareM_ord.zero _ _).2 h
  rcases Nat.lt_trichotomy i j with h1 | h1 | h1
  · have := (List.pairwise_iff_getElem.1 hs) i j hi hj h1
    omega
  · subst h1
    rfl
  have h2 := (List.pairwise_iff_getElem.1 hs) j i hj hi h1
  have := compareM_ord.anti es[i].path es[j].path
  omega
theorem held_none {l : List En} {e : En} (h : (parentM e.path).2 = true) (h2 : ¬ isAt l (parentM e.path).1) : ¬ heldM l e := fun k => by
  rcases k with k | ⟨x, hx, k1, k2⟩
  · rw [h] at k
    cases k
  exact h2 ⟨x, hx, k1⟩
theorem held_kind {l : List En} {e : En} (hs : SortT l) (h : (parentM e.path).2 = true) (h2 : isAt l (parentM e.path).1) {x : En} (hx : l[placeK l (parentM e.path).1]? = some x) : heldM l e ↔ x.kind = 1 := by
  obtain ⟨hk, hp⟩ := placeK_spec hs h2
  rw [List.getElem?_eq_getElem hk] at hx
  injection hx with hx
  constructor
  · rintro (k | ⟨y, hy, k1, k2⟩)
    · rw [h] at k
      cases k
    have : x = y := sort_inj hs (hx ▸ List.getElem_mem hk) hy (by rw [← hx, hp, k1])
    rw [this]
    exact k2
  intro k
  exact .inr ⟨x, hx ▸ List.getElem_mem hk, by rw [← hx, hp], k⟩
theorem Ro.takeT {α : Type} {E : Rdr α} {w0 : World} {S Ps : Nat → Prop} {ad : Option Addr} {len cap i : Nat} {xs : List α} (h : Ro w0 S (slc E Ps (.slice ad len cap) xs)) (hi : i ≤ xs.length) : Ro w0 S (slc E Ps (.slice ad i cap) (xs.take i)) := by
  have := Ro.sub h (Nat.zero_le i) hi
  rwa [subV_zero, List.drop_zero] at this
theorem ens_take (xs : List ET) (i : Nat) : ens (xs.take i) = (ens xs).take i := by simp [ens, List.map_take]
theorem ens_at {xs : List ET} {i : Nat} (h : i < xs.length) : (ens xs)[i]? = some xs[i].1 := by simp [ens, h]
set_option maxRecDepth 20000 in
set_option maxHeartbeats 4000000 in
theorem tcheck_tr {Ps : Nat → Prop} (v : Value) (xs : List ET) : Tr Tryz.prog 45 #[v] [slc rEV Ps v xs] [] (T0 (.tuple #[.int .i64 (checkT (ens xs)).1, .int .i64 (checkT (ens xs)).2])) := by
  refine Tr.of (l := [(0, v)]) Tryz.func45 rfl (n := 69) rfl (.cons rfl .nil) (fun w0 hro => ?_)
  have hv := ro1 hro
  have hv' := hv
  obtain ⟨av, cv, bv, fv, rfl, hcapv, hmaxv, hnilv, hadv, helv⟩ := Ro.openT hv
  have hel' := ens_length xs
  refine G.seq (G.region ?_)
  refine G.asT rfl rfl ?_
  refine G.asT rfl rfl ?_
  refine G.nil ?_
  refine G.nThen (G.seq (G.seq (G.region ?_)))
  refine G.mvT rfl rfl ?_
  refine G.op rfl (G.val rfl rfl (pv_lenSl Tryz.underlying22 rfl) ?_)
  refine G.op rfl (G.val rfl rfl (pv_gtr rfl rfl) ?_)
  refine G.nil ?_
  refine G.nThen ?_
  refine G.condP rfl (fun h13 => ?_) (fun h13 => ?_)
  · refine G.seq (G.region ?_)
    refine G.asT rfl rfl ?_
    refine G.asT rfl rfl ?_
    refine G.nil ?_
    refine G.nThen ?_
    refine G.ret ?_
    refine G.rThen ?_
    exact G.done0G rfl (Rv.tmp rfl (Rv.tmp rfl Rv.nil)) (by rw [checkT_many (by omega)]; rfl)
  refine G.skip ?_
  refine G.nThen (G.seq (G.seq (G.region ?_)))
  refine G.mvT rfl rfl ?_
  refine G.op rfl (G.val rfl rfl (pv_lenSl Tryz.underlying22 rfl) ?_)
  refine G.mvT rfl rfl ?_
  refine G.nil ?_
  refine G.nThen ?_
  refine G.block ?_
  refine G.loopK (X := Nat) (ts := [0, 14, 15]) (fun i => i ≤ xs.length ∧ (∀ q, q < i → errT (ens xs) q = 0)) (fun i => [(16, .int .i64 (i : Int))]) (fun i => []) (fun i => xs.length - i) (x0 := 0) (.cons rfl (.cons rfl (.cons rfl .nil))) subT (.cons .nil) apT (by first | exact trivial | ((try dsimp only) <;> exact ⟨Nat.zero_le _, fun q h => absurd h (by omega)⟩)) (.consE rfl veqT .nil) (fun i hJ => ?_)
  try dsimp only at hJ
  try dsimp only
  obtain ⟨hki, hJ⟩ := hJ
  refine G.seq (G.region ?_)
  refine G.op rfl (G.val rfl rfl (pv_lss rfl rfl) ?_)
  refine G.nil ?_
  refine G.nThen (G.seq ?_)
  refine G.condP rfl (fun h17 => ?_) (fun h17 => ?_)
  · have hJ0 := hJ
    have hlt : i < xs.length := by omega
    have hlt' : i < (ens xs).length := by omega
    have hg := ens_get hlt
    have hso := sort_take (es := ens xs) (i := i) (by omega) hJ
    have hTk := Ro.takeT hv' (i := i) (by omega)
    have hEv := helv i hlt
    have hRv := Ro.evRng hEv
    have hDv := Ro.evDat hEv
    obtain ⟨hk1v, hk2v, hlpv, hldv, hltv⟩ := Ro.evOk hEv
    have hCv := Ro.one1 hDv
    refine G.skip ?_
    refine G.nThen (G.seq ?_)
    refine G.block ?_
    refine G.seq (G.region ?_)
    refine G.mvT rfl rfl ?_
    refine G.op rfl (G.val rfl rfl (pv_ixSl (sz := 5) Tryz.underlying22 kr rfl rfl (by first | with_reducible assumption | assumption | exact fun _ => rfl) rfl (by omega)) ?_)
    refine G.op rfl (G.val rfl rfl (pv_loadN (cs := [_, _, _, _, _]) Tryz.underlying68 rfl kr rfl (by first | exact blk_range (k := 5) selD (by rfl) | exact ro_rng0 (by assumption) | exact rng_range (k := 5) selD (by rfl) | exact ro_range (k := 5) (by assumption) (by rfl) | exact ro_rngR (k := 5) (by assumption) (by rfl))) ?_)
    refine G.op rfl (G.alloc (z := .agg #[.string ⟨#[]⟩, .int .i64 0, .int .i64 0, .slice none 0 0, .string ⟨#[]⟩]) (cs := [.string ⟨#[]⟩, .int .i64 0, .int .i64 0, .slice none 0 0, .string ⟨#[]⟩]) rfl kr rfl ?_)
    intro b5
    refine G.asT rfl rfl ?_
    refine G.op rfl (G.storeN kr rfl rfl allT selT leT ?_)
    refine G.nil ?_
    refine G.nThen (G.seq (G.seq (G.region ?_)))
    refine G.op rfl (G.val rfl rfl (pv_loadN (cs := [_, _, _, _, _]) Tryz.underlying68 rfl kr rfl (by first | exact blk_range (k := 5) selD (by rfl) | exact ro_rng0 (by assumption) | exact rng_range (k := 5) selD (by rfl) | exact ro_range (k := 5) (by assumption) (by rfl) | exact ro_rngR (k := 5) (by assumption) (by rfl))) ?_)
    refine G.op rfl (G.cR rfl rfl rfl rfl Tryz.func79 rfl rfl (may1 (by first | (apply May.old; first | with_reducible assumption | assumption) | (apply Sel.may; (repeat (first | with_reducible exact Sel.here | exact Sel.here | apply Sel.there)); done) | (apply may_own; (repeat (first | with_reducible exact Sel.here | exact Sel.here | apply Sel.there)); exact rfl; exact (fun _ _ => trivial); done) | (apply may_ownB; (repeat (first | with_reducible exact Sel.here | exact Sel.here | apply Sel.there)); done) | (apply may_tree; (repeat (first | with_reducible exact Sel.here | exact Sel.here | apply Sel.there)); (repeat (first | with_reducible exact Sel.here | exact Sel.here | apply Sel.there)); assumption; done))) (one_tr _ _ (by omega)) ?_)
    refine G.asT rfl rfl ?_
    refine G.nil ?_
    refine G.nThen (G.seq (G.region ?_))
    refine G.mvT rfl rfl ?_
    refine G.op rfl (G.val rfl rfl (pv_neq rfl rfl) ?_)
    refine G.nil ?_
    refine G.nThen ?_
    refine G.condP rfl (fun h24 => ?_) (fun h24 => ?_)
    · refine G.seq (G.region ?_)
      refine G.mvT rfl rfl ?_
      refine G.mvT rfl rfl ?_
      refine G.asT rfl rfl ?_
      refine G.asT rfl rfl ?_
      refine G.nil ?_
      refine G.nThen ?_
      refine G.ret ?_
      refine G.rThen ?_
      refine G.rBlock ?_
      refine G.rThen ?_
      refine G.rThen ?_
      refine G.rBlock ?_
      refine G.rThen ?_
      exact G.done0G rfl (Rv.tmp rfl (Rv.tmp rfl Rv.nil)) (by rw [checkT_bad (by omega) hlt' hJ0 (err_one hlt' (by rw [hg]; assumption)) (by rw [hg]; assumption), hg]; rfl)
    have h1 : oneM (ens xs)[i] = 0 := by rw [hg]; omega
    refine G.skip ?_
    refine G.nThen (G.seq (G.seq ?_))
    refine G.cutK (X := Unit) (ts := [0, 4, 5, 14, 15, 16]) (p := []) (fun _ => True) (fun _ => [(40, .bool (decide (prevBad (ens xs) i)))]) (fun _ => []) (.cons rfl (.cons rfl (.cons rfl (.cons rfl (.cons rfl (.cons rfl .nil)))))) subT (.cons .nil) apT ?_ ?_
    · refine G.drawT (nn := 14) (p := []) (rem := 16383) [0, 1, 2, 4, 4, 20, 44, 68, 132, 4, 516, 1284, 2052, 4100] [0, 1, 2, 4, 4, 20, 44, 68, 132, 4, 516, 1284, 2052, 4100] kr ⟨rfl, by kernel_rfl, by kernel_rfl⟩ subT kr (fun hT9 => ?_)
      refine G.takeT hT9 (i := 0) (rem' := 16382) rfl rfl rfl kr (fun _ _ _ h => h) rfl (pv_move rfl) subT ?_
      refine G.takeT hT9 (i := 1) (rem' := 16380) rfl rfl rfl kr (fun _ _ _ h => h) rfl (pv_gtr rfl rfl) subT ?_
      refine G.takeT hT9 (i := 2) (rem' := 16376) rfl rfl rfl kr (fun _ _ _ h => h) rfl (pv_move rfl) subT ?_
      refine G.partP (t := 29) rfl (fun h29 => ?_) (fun h29 => ?_)
      · have hi0 : 0 < i := by omega
        have hEp := helv (i - 1) (by omega)
        have hRp := Ro.evRng hEp
        have hDp := Ro.evDat hEp
        obtain ⟨hk1p, hk2p, hlpp, hldp, hltp⟩ := Ro.evOk hEp
        have hCp := Ro.one1 hDp
        have hpv := prev_pos hi0 hlt'
        rw [hg, ens_get (show i - 1 < xs.length by omega)] at hpv
        refine G.takeT hT9 (i := 3) (rem' := 16368) rfl rfl rfl kr (fun _ _ _ h => h) rfl (pv_move rfl) subT ?_
        refine G.takeT hT9 (i := 4) (rem' := 16352) rfl rfl rfl kr (fun _ _ _ h => h) rfl (pv_move rfl) subT ?_
        refine G.takeT hT9 (i := 5) (rem' := 16320) rfl rfl rfl kr (fun _ _ _ h => h) rfl (pv_sub64 rfl rfl (by omega)) subT ?_
        refine G.takeT hT9 (i := 6) (rem' := 16256) rfl rfl rfl kr (fun _ _ _ h => h) rfl (pv_ixSl (sz := 5) (k := i - 1) Tryz.underlying22 kr rfl rfl (by first | with_reducible assumption | assumption) (by omega) (by omega)) subT ?_
        refine G.takeT hT9 (i := 7) (rem' := 16128) rfl rfl rfl kr (fun _ _ _ h => h) rfl (pv_fieldAddrK (sz := 0) (k := 0) Tryz.underlying68 rfl kr rfl rfl) subT ?_
        refine G.takeT hT9 (i := 8) (rem' := 15872) rfl rfl rfl kr (fun _ _ _ h => h) rfl (pv_load Tryz.underlying9 rfl rfl celT) subT ?_
        refine G.takeT hT9 (i := 9) (rem' := 15360) rfl rfl rfl kr (fun _ _ _ h => h) rfl (pv_fieldAddrK (sz := 0) (k := 0) Tryz.underlying68 rfl kr rfl rfl) subT ?_
        refine G.oneT hT9 (i := 10) (rem' := 14336) kr kr ?_
        refine G.turnOp rfl rfl (G.val rfl rfl (pv_load Tryz.underlying9 rfl rfl celT) ?_)
        refine G.back subT ?_
        refine G.oneT hT9 (i := 11) (rem' := 12288) kr kr ?_
        refine G.turnOp rfl rfl (G.cR rfl rfl rfl rfl Tryz.func71 rfl rfl may0 (compare_tr _ _ (by omega) (by omega)) ?_)
        refine G.back subT ?_
        refine G.takeT hT9 (i := 12) (rem' := 8192) rfl rfl rfl kr (fun _ _ _ h => h) rfl (pv_geq rfl rfl) subT ?_
        refine G.takeT hT9 (i := 13) (rem' := 0) rfl rfl rfl kr (fun _ _ _ h => h) rfl (pv_pick rfl rfl) subT ?_
        refine G.overT hT9 kr ?_
        exact G.meet (()) trT (.consE rfl (dec_e hpv.symm) (.cons rfl (.cons rfl (.cons rfl (.cons rfl (.cons rfl (.cons rfl .nil))))))) subT
      refine G.takeFT hT9 (i := 3) (rem' := 16368) rfl rfl rfl kr (fun _ _ _ h => h) rfl subT ?_
      refine G.takeFT hT9 (i := 4) (rem' := 16352) rfl rfl rfl kr (fun _ _ _ h => h) rfl subT ?_
      refine G.takeFT hT9 (i := 5) (rem' := 16320) rfl rfl rfl kr (fun _ _ _ h => h) rfl subT ?_
      refine G.takeFT hT9 (i := 6) (rem' := 16256) rfl rfl rfl kr (fun _ _ _ h => h) rfl subT ?_
      refine G.takeFT hT9 (i := 7) (rem' := 16128) rfl rfl rfl kr (fun _ _ _ h => h) rfl subT ?_
      refine G.takeFT hT9 (i := 8) (rem' := 15872) rfl rfl rfl kr (fun _ _ _ h => h) rfl subT ?_
      refine G.takeFT hT9 (i := 9) (rem' := 15360) rfl rfl rfl kr (fun _ _ _ h => h) rfl subT ?_
      refine G.takeFT hT9 (i := 10) (rem' := 14336) rfl rfl rfl kr (fun _ _ _ h => h) rfl subT ?_
      refine G.takeFT hT9 (i := 11) (rem' := 12288) rfl rfl rfl kr (fun _ _ _ h => h) rfl subT ?_
      refine G.takeFT hT9 (i := 12) (rem' := 8192) rfl rfl rfl kr (fun _ _ _ h => h) rfl subT ?_
      refine G.takeT hT9 (i := 13) (rem' := 0) rfl rfl rfl kr (fun _ _ _ h => h) rfl (pv_pick rfl rfl) subT ?_
      refine G.overT hT9 kr ?_
      exact G.meet (()) trT (.consE rfl (dec_f (prev_zero (by omega))) (.cons rfl (.cons rfl (.cons rfl (.cons rfl (.cons rfl (.cons rfl .nil))))))) subT
    intro _ hJ
    try dsimp only at hJ
    try dsimp only
    refine G.condP rfl (fun h40 => ?_) (fun h40 => ?_)
    · refine G.seq (G.region ?_)
      refine G.mvT rfl rfl ?_
      refine G.asT rfl rfl ?_
      refine G.asT rfl rfl ?_
      refine G.nil ?_
      refine G.nThen ?_
      refine G.ret ?_
      refine G.rThen ?_
      refine G.rBlock ?_
      refine G.rThen ?_
      refine G.rThen ?_
      refine G.rBlock ?_
      refine G.rThen ?_
      exact G.done0G rfl (Rv.tmp rfl (Rv.tmp rfl Rv.nil)) (by rw [checkT_bad (by omega) hlt' hJ0 (err_prev hlt' h1 (by assumption)) (by omega)]; rfl)
    refine G.skip ?_
    refine G.nThen (G.seq (G.region ?_))
    refine G.op rfl (G.val rfl rfl (pv_fieldAddrK (sz := 0) (k := 0) Tryz.underlying68 rfl kr rfl rfl) ?_)
    refine G.op rfl (G.val rfl rfl (pv_load Tryz.underlying9 rfl rfl celT) ?_)
    refine G.op rfl (G.cR rfl rfl rfl rfl Tryz.func72 rfl rfl may0 (parent_tr _ (by omega)) ?_)
    have hpl := parentM_len xs[i].1.path
    refine G.mvT rfl rfl ?_
    refine G.op rfl (G.val rfl rfl (pv_extract rfl rfl) ?_)
    refine G.op rfl (G.val rfl rfl (pv_extract rfl rfl) ?_)
    refine G.asT rfl rfl ?_
    refine G.asT rfl rfl ?_
    refine G.nil ?_
    refine G.nThen (G.seq (G.region ?_))
    refine G.mvT rfl rfl ?_
    refine G.nil ?_
    refine G.nThen ?_
    refine G.cond rfl (fun h48 => ?_) (fun h48 => ?_)
    · have hpt : (parentM (ens xs)[i].path).2 = true := by rw [hg]; exact h48
      refine G.seq (G.region ?_)
      refine G.mvT rfl rfl ?_
      refine G.mvT rfl rfl ?_
      refine G.op rfl (G.val rfl rfl (pv_subH (sz := 5) (k := i) Tryz.underlying22 kr rfl rfl rfl (by omega)) ?_)
      refine G.mvT rfl rfl ?_
      refine G.op rfl (G.cR rfl rfl rfl rfl Tryz.func80 rfl rfl (may1 (by first | (apply May.old; first | with_reducible assumption | assumption) | (apply Sel.may; (repeat (first | with_reducible exact Sel.here | exact Sel.here | apply Sel.there)); done) | (apply may_own; (repeat (first | with_reducible exact Sel.here | exact Sel.here | apply Sel.there)); exact rfl; exact (fun _ _ => trivial); done) | (apply may_ownB; (repeat (first | with_reducible exact Sel.here | exact Sel.here | apply Sel.there)); done) | (apply may_tree; (repeat (first | with_reducible exact Sel.here | exact Sel.here | apply Sel.there)); (repeat (first | with_reducible exact Sel.here | exact Sel.here | apply Sel.there)); assumption; done))) (place_tr _ (xs.take i) _ (by rw [List.length_take]; omega) (by rw [ens_take]; exact hso) (by omega)) ?_)
      rw [ens_take]
      refine G.mvT rfl rfl ?_
      refine G.op rfl (G.val rfl rfl (pv_extract rfl rfl) ?_)
      refine G.op rfl (G.val rfl rfl (pv_extract rfl rfl) ?_)
      refine G.asT rfl rfl ?_
      refine G.asT rfl rfl ?_
      refine G.nil ?_
      refine G.nThen (G.seq ?_)
      refine G.cutK (X := Unit) (ts := [0, 4, 14, 15, 16]) (p := []) (fun _ => True) (fun _ => [(66, .bool (decide (¬ heldM ((ens xs).take i) (ens xs)[i])))]) (fun _ => []) (.cons rfl (.cons rfl (.cons rfl (.cons rfl (.cons rfl .nil))))) subT (.cons .nil) apT ?_ ?_
      · refine G.region ?_
        refine G.mvT rfl rfl ?_
        refine G.op rfl (G.val rfl rfl (pv_notP rfl) ?_)
        refine G.mvT rfl rfl ?_
        refine G.partP (t := 59) rfl (fun h59 => ?_) (fun h59 => ?_)
        · have hnh : ¬ heldM ((ens xs).take i) (ens xs)[i] := held_none hpt (by rw [hg]; assumption)
          refine G.pass rfl rfl rfl rfl rfl rfl ?_
          refine G.pass rfl rfl rfl rfl rfl rfl ?_
          refine G.pass rfl rfl rfl rfl rfl rfl ?_
          refine G.pass rfl rfl rfl rfl rfl rfl ?_
          refine G.pass rfl rfl rfl rfl rfl rfl ?_
          refine G.pass rfl rfl rfl rfl rfl rfl ?_
          refine G.op rfl (G.val rfl rfl (pv_pick rfl rfl) ?_)
          refine G.nil ?_
          exact G.meet (()) trT (.consE rfl (dec_t hnh) (.cons rfl (.cons rfl (.cons rfl (.cons rfl (.cons rfl .nil)))))) subT
        have hat : isAt ((ens xs).take i) (parentM xs[i].1.path).1 := Decidable.of_not_not (by assumption)
        obtain ⟨hkl, -⟩ := placeK_spec hso hat
        rw [List.length_take] at hkl
        obtain ⟨k, hk⟩ : ∃ k, placeK ((ens xs).take i) (parentM xs[i].1.path).1 = k := ⟨_, rfl⟩
        have hkk := held_kind hso hpt (x := (xs[k]'(by omega)).1) (by rw [hg]; exact hat) (by rw [hg, hk, List.getElem?_take_of_lt (by omega)]; exact ens_at (by omega))
        rw [hk] at hkl ⊢
        have hEk := helv k (by omega)
        have hRk := Ro.evRng hEk
        have hDk := Ro.evDat hEk
        obtain ⟨hk1k, hk2k, hlpk, hldk, hltk⟩ := Ro.evOk hEk
        have hCk := Ro.one1 hDk
        refine G.want rfl rfl rfl (G.val rfl rfl (pv_move rfl) ?_)
        refine G.want rfl rfl rfl (G.val rfl rfl (pv_move rfl) ?_)
        refine G.want rfl rfl rfl (G.val rfl rfl (pv_ixSl (sz := 5) (k := k) Tryz.underlying22 kr rfl rfl (by first | with_reducible assumption | assumption) (by omega) (by omega)) ?_)
        refine G.want rfl rfl rfl (G.val rfl rfl (pv_fieldAddrK (sz := 0) (k := 1) Tryz.underlying68 rfl kr rfl rfl) ?_)
        refine G.want rfl rfl rfl (G.val rfl rfl (pv_load Tryz.underlying3 rfl rfl celT) ?_)
        refine G.want rfl rfl rfl (G.val rfl rfl (pv_neq rfl rfl) ?_)
        refine G.op rfl (G.val rfl rfl (pv_pick rfl rfl) ?_)
        refine G.nil ?_
        exact G.meet (()) trT (.consE rfl (dec_e (not_congr hkk.symm)) (.cons rfl (.cons rfl (.cons rfl (.cons rfl (.cons rfl .nil)))))) subT
      intro _ hJ
      try dsimp only at hJ
      try dsimp only
      refine G.condP rfl (fun h66 => ?_) (fun h66 => ?_)
      · refine G.seq (G.region ?_)
        refine G.mvT rfl rfl ?_
        refine G.asT rfl rfl ?_
        refine G.asT rfl rfl ?_
        refine G.nil ?_
        refine G.nThen ?_
        refine G.ret ?_
        refine G.rBlock ?_
        refine G.rThen ?_
        refine G.rThen ?_
        refine G.rBlock ?_
        refine G.rThen ?_
        exact G.done0G rfl (Rv.tmp rfl (Rv.tmp rfl Rv.nil)) (by rw [checkT_bad (by omega) hlt' hJ0 (err_held hlt' h1 (by assumption) (by assumption)) (by omega)]; rfl)
      have hok0 : errT (ens xs) i = 0 := err_ok hlt' h1 (by assumption) (Decidable.of_not_not (by assumption))
      refine G.skip ?_
      refine G.nBlock ?_
      refine G.nThen (G.region ?_)
      refine G.op rfl (G.val rfl rfl (pv_add64 rfl rfl (by omega)) ?_)
      refine G.mvT rfl rfl ?_
      refine G.nil ?_
      exact G.next (i + 1) (by first | exact trivial | ((try dsimp only) <;> exact ⟨by omega, fun q hq => by rcases Nat.lt_or_ge q i with h1 | h1; exact hJ0 q h1; obtain rfl : q = i := (by omega); exact hok0⟩)) (by (try dsimp only); omega) (.consE rfl veqT (.cons rfl (.cons rfl (.cons rfl .nil)))) subT
    have hok0 : errT (ens xs) i = 0 := err_ok hlt' h1 (by assumption) (.inl (by rw [hg]; exact h48))
    refine G.skip ?_
    refine G.nBlock ?_
    refine G.nThen (G.region ?_)
    refine G.op rfl (G.val rfl rfl (pv_add64 rfl rfl (by omega)) ?_)
    refine G.mvT rfl rfl ?_
    refine G.nil ?_
    exact G.next (i + 1) (by first | exact trivial | ((try dsimp only) <;> exact ⟨by omega, fun q hq => by rcases Nat.lt_or_ge q i with h1 | h1; exact hJ0 q h1; obtain rfl : q = i := (by omega); exact hok0⟩)) (by (try dsimp only); omega) (.consE rfl veqT (.cons rfl (.cons rfl (.cons rfl .nil)))) subT
  refine G.exit ?_
  refine G.eThen ?_
  refine G.eThen ?_
  refine G.eBlock ?_
  refine G.nThen (G.seq (G.region ?_))
  refine G.asT rfl rfl ?_
  refine G.asT rfl rfl ?_
  refine G.nil ?_
  refine G.nThen ?_
  refine G.ret ?_
  exact G.done0G rfl (Rv.tmp rfl (Rv.tmp rfl Rv.nil)) (by rw [checkT_ok (by omega) (fun q hq => hJ q (by omega))]; rfl)
end Go.Proofs.YtbfpbibkklfnfaaGreat

set_option linter.unusedVariables false
set_option linter.unusedSimpArgs false
namespace Go.Proofs.YtbfpbibkklfnfaaGreat
open Go.RowKit
theorem ens_eq {xs ys : List ET} (hl : xs.length = ys.length) (h : ∀ q (hq : q < xs.length), xs[q].1 = (ys[q]'(by omega)).1) : ens xs = ens ys := by
  apply List.ext_getElem
  · rw [ens_length, ens_length, hl]
  intro i h1 h2
  rw [ens_length] at h1
  rw [ens_get h1, ens_get (by omega)]
  exact h i h1
theorem ens_ne {xs ys : List ET} {i : Nat} (hx : i < xs.length) (hy : i < ys.length) (h : xs[i].1 ≠ ys[i].1) : ¬ ens xs = ens ys := fun e => by
  have h1 := ens_get hx
  have h2 := ens_get hy
  simp only [e] at h1
  exact h (h1.symm.trans h2)
theorem ens_len_ne {xs ys : List ET} (h : ¬ (xs.length : Int) = ys.length) : ¬ ens xs = ens ys := fun e => h (by
  have := congrArg List.length e
  rw [ens_length, ens_length] at this
  omega)
end Go.Proofs.YtbfpbibkklfnfaaGreat

set_option linter.unusedVariables false
set_option linter.unusedSimpArgs false
namespace Go.Proofs.YtbfpbibkklfnfaaGreat
open Go.RowKit
set_option maxRecDepth 20000 in
set_option maxHeartbeats 4000000 in
theorem sameTree_tr {Ps Pu : Nat → Prop} (v u : Value) (xs ys : List ET) : Tr Tryz.prog 17 #[v, u] [slc rEV Ps v xs, slc rEV Pu u ys] [] (T0 (.bool (decide (ens xs = ens ys)))) := by
  refine Tr.of (l := [(0, v), (1, u)]) Tryz.func17 rfl (n := 81) rfl (.cons rfl (.cons rfl .nil)) (fun w0 hro => ?_)
  obtain ⟨hv0, hu0⟩ := ro2 hro
  have hv := hv0
  have hv' := hv
  obtain ⟨av, cv, bv, fv, rfl, hcapv, hmaxv, hnilv, hadv, helv⟩ := Ro.openT hv
  have hu := hu0
  have hu' := hu
  obtain ⟨au, cu, bu, fu, rfl, hcapu, hmaxu, hnilu, hadu, helu⟩ := Ro.openT hu
  refine G.seq (G.region ?_)
  refine G.asT rfl rfl ?_
  refine G.nil ?_
  refine G.nThen (G.seq (G.seq (G.region ?_)))
  refine G.mvT rfl rfl ?_
  refine G.op rfl (G.val rfl rfl (pv_lenSl Tryz.underlying22 rfl) ?_)
  refine G.mvT rfl rfl ?_
  refine G.op rfl (G.val rfl rfl (pv_lenSl Tryz.underlying22 rfl) ?_)
  refine G.op rfl (G.val rfl rfl (pv_neq rfl rfl) ?_)
  refine G.nil ?_
  refine G.nThen ?_
  refine G.condP rfl (fun h10 => ?_) (fun h10 => ?_)
  · refine G.seq (G.region ?_)
    refine G.asT rfl rfl ?_
    refine G.nil ?_
    refine G.nThen ?_
    refine G.ret ?_
    refine G.rThen ?_
    exact G.done0G rfl (Rv.tmp rfl Rv.nil) (by rw [decide_eq_false (ens_len_ne (by omega))]; rfl)
  have hxy : xs.length = ys.length := by omega
  refine G.skip ?_
  refine G.nThen (G.seq (G.seq (G.region ?_)))
  refine G.asT rfl rfl ?_
  refine G.nil ?_
  refine G.nThen ?_
  refine G.block ?_
  refine G.loopK (X := Nat) (ts := [0, 1]) (fun i => i ≤ xs.length ∧ (∀ q (hq : q < xs.length), q < i → xs[q].1 = (ys[q]'(by omega)).1)) (fun i => [(5, .int .i64 (i : Int))]) (fun i => []) (fun i => xs.length - i) (x0 := 0) (.cons rfl (.cons rfl .nil)) subT (.cons .nil) apT (by first | exact trivial | ((try dsimp only); exact ⟨Nat.zero_le _, fun q _ h => absurd h (by omega)⟩)) (.consE rfl veqT .nil) (fun i hJ => ?_)
  try dsimp only at hJ
  try dsimp only
  obtain ⟨hki, hJ⟩ := hJ
  refine G.seq (G.seq (G.region ?_))
  refine G.mvT rfl rfl ?_
  refine G.mvT rfl rfl ?_
  refine G.op rfl (G.val rfl rfl (pv_lenSl Tryz.underlying22 rfl) ?_)
  refine G.op rfl (G.val rfl rfl (pv_lss rfl rfl) ?_)
  refine G.nil ?_
  refine G.nThen ?_
  refine G.condP rfl (fun h14 => ?_) (fun h14 => ?_)
  · have hJ0 := hJ
    have hlt : i < xs.length := by omega
    have hlu : i < ys.length := by omega
    have hEv := helv i hlt
    have hRv := Ro.evRng hEv
    have hDv := Ro.evDat hEv
    obtain ⟨hk1v, hk2v, hlpv, hldv, hltv⟩ := Ro.evOk hEv
    have hCv := Ro.one1 hDv
    have hEu := helu i hlu
    have hRu := Ro.evRng hEu
    have hDu := Ro.evDat hEu
    obtain ⟨hk1u, hk2u, hlpu, hldu, hltu⟩ := Ro.evOk hEu
    have hCu := Ro.one1 hDu
    have he := en_eq (a := xs[i].1) (b := ys[i].1)
    refine G.skip ?_
    refine G.nThen (G.seq ?_)
    refine G.block ?_
    refine G.seq ?_
    refine G.cutK (X := Unit) (ts := [0, 1, 5]) (p := []) (fun _ => True) (fun _ => [(80, .bool (decide (xs[i].1 ≠ ys[i].1)))]) (fun _ => []) (.cons rfl (.cons rfl (.cons rfl .nil))) subT (.cons .nil) apT ?_ ?_
    · refine G.drawT (nn := 64) (p := []) (rem := 18446744073709551615) [0, 0, 3, 4, 8, 0, 0, 96, 128, 256, 528, 1024, 2048, 2048, 14336, 18432, 34816, 2048, 2048, 395264, 526336, 1050624, 2164736, 4196352, 8390656, 16777216, 16777216, 117440512, 150994944, 285212672, 16777216, 16777216, 3238002688, 4311744512, 8606711808, 17733517312, 34376515584, 68736253952, 137438953472, 137438953472, 962072674304, 1236950581248, 2336462209024, 137438953472, 137438953472, 26525718020096, 35321811042304, 70506183131136, 145272973819904, 281612415664128, 563087392374784, 1407374883553280, 2251799813685248, 2251799813685248, 15762598695796736, 20266198323167232, 38280596832649216, 2251799813685248, 2251799813685248, 434597364041252864, 578712552117108736, 1155173304420532224, 2380152403065307136, 4613937818241073152] [0, 0, 3, 4, 8, 0, 0, 96, 128, 256, 528, 1024, 2048, 2048, 14336, 18432, 34816, 2048, 2048, 395264, 526336, 1050624, 2164736, 4196352, 8388608, 16777216, 16777216, 117440512, 150994944, 285212672, 16777216, 16777216, 3238002688, 4311744512, 8606711808, 17733517312, 34376515584, 68719476736, 137438953472, 137438953472, 962072674304, 1236950581248, 2336462209024, 137438953472, 137438953472, 26525718020096, 35321811042304, 70506183131136, 145272973819904, 281612415664128, 563087392374784, 1125899906842624, 2251799813685248, 2251799813685248, 15762598695796736, 20266198323167232, 38280596832649216, 2251799813685248, 2251799813685248, 434597364041252864, 578712552117108736, 1155173304420532224, 2380152403065307136, 4613937818241073152] kr ⟨rfl, by kernel_rfl, by kernel_rfl⟩ subT kr (fun hT6 => ?_)
      refine G.takeT hT6 (i := 0) (rem' := 18446744073709551614) rfl rfl rfl kr (fun _ _ _ h => h) rfl (pv_move rfl) subT ?_
      refine G.takeT hT6 (i := 1) (rem' := 18446744073709551612) rfl rfl rfl kr (fun _ _ _ h => h) rfl (pv_move rfl) subT ?_
      refine G.takeT hT6 (i := 2) (rem' := 18446744073709551608) rfl rfl rfl kr (fun _ _ _ h => h) rfl (pv_ixSl (sz := 5) Tryz.underlying22 kr rfl rfl (by first | with_reducible assumption | assumption | exact fun _ => rfl) rfl (by omega)) subT ?_
      refine G.takeT hT6 (i := 3) (rem' := 18446744073709551600) rfl rfl rfl kr (fun _ _ _ h => h) rfl (pv_fieldAddrK (sz := 0) (k := 0) Tryz.underlying68 rfl kr rfl rfl) subT ?_
      refine G.takeT hT6 (i := 5) (rem' := 18446744073709551568) rfl rfl rfl kr (fun _ _ _ h => h) rfl (pv_move rfl) subT ?_
      refine G.takeT hT6 (i := 6) (rem' := 18446744073709551504) rfl rfl rfl kr (fun _ _ _ h => h) rfl (pv_move rfl) subT ?_
      refine G.takeT hT6 (i := 7) (rem' := 18446744073709551376) rfl rfl rfl kr (fun _ _ _ h => h) rfl (pv_ixSl (sz := 5) Tryz.underlying22 kr rfl rfl (by first | with_reducible assumption | assumption | exact fun _ => rfl) rfl (by omega)) subT ?_
      refine G.takeT hT6 (i := 8) (rem' := 18446744073709551120) rfl rfl rfl kr (fun _ _ _ h => h) rfl (pv_fieldAddrK (sz := 0) (k := 0) Tryz.underlying68 rfl kr rfl rfl) subT ?_
      refine G.takeT hT6 (i := 4) (rem' := 18446744073709551104) rfl rfl rfl kr (fun _ _ _ h => h) rfl (pv_load Tryz.underlying9 rfl rfl celT) subT ?_
      refine G.oneT hT6 (i := 9) (rem' := 18446744073709550592) kr kr ?_
      refine G.turnOp rfl rfl (G.val rfl rfl (pv_load Tryz.underlying9 rfl rfl celT) ?_)
      refine G.back subT ?_
      refine G.takeT hT6 (i := 10) (rem' := 18446744073709549568) rfl rfl rfl kr (fun _ _ _ h => h) rfl (pv_neqS rfl rfl) subT ?_
      refine G.takeT hT6 (i := 11) (rem' := 18446744073709547520) rfl rfl rfl kr (fun _ _ _ h => h) rfl (pv_move rfl) subT ?_
      refine G.partP (t := 28) rfl (fun h28 => ?_) (fun h28 => ?_)
      · refine G.takeFT hT6 (i := 12) (rem' := 18446744073709543424) rfl rfl rfl kr (fun _ _ _ h => h) rfl subT ?_
        refine G.takeFT hT6 (i := 13) (rem' := 18446744073709535232) rfl rfl rfl kr (fun _ _ _ h => h) rfl subT ?_
        refine G.takeFT hT6 (i := 14) (rem' := 18446744073709518848) rfl rfl rfl kr (fun _ _ _ h => h) rfl subT ?_
        refine G.takeFT hT6 (i := 15) (rem' := 18446744073709486080) rfl rfl rfl kr (fun _ _ _ h => h) rfl subT ?_
        refine G.takeFT hT6 (i := 16) (rem' := 18446744073709420544) rfl rfl rfl kr (fun _ _ _ h => h) rfl subT ?_
        refine G.takeFT hT6 (i := 17) (rem' := 18446744073709289472) rfl rfl rfl kr (fun _ _ _ h => h) rfl subT ?_
        refine G.takeFT hT6 (i := 18) (rem' := 18446744073709027328) rfl rfl rfl kr (fun _ _ _ h => h) rfl subT ?_
        refine G.takeFT hT6 (i := 19) (rem' := 18446744073708503040) rfl rfl rfl kr (fun _ _ _ h => h) rfl subT ?_
        refine G.takeFT hT6 (i := 20) (rem' := 18446744073707454464) rfl rfl rfl kr (fun _ _ _ h => h) rfl subT ?_
        refine G.takeFT hT6 (i := 21) (rem' := 18446744073705357312) rfl rfl rfl kr (fun _ _ _ h => h) rfl subT ?_
        refine G.takeFT hT6 (i := 22) (rem' := 18446744073701163008) rfl rfl rfl kr (fun _ _ _ h => h) rfl subT ?_
        refine G.takeT hT6 (i := 23) (rem' := 18446744073692774400) rfl rfl rfl kr (fun _ _ _ h => h) rfl (pv_pick rfl rfl) subT ?_
        refine G.takeT hT6 (i := 24) (rem' := 18446744073675997184) rfl rfl rfl kr (fun _ _ _ h => h) rfl (pv_move rfl) subT ?_
        refine G.takeFT hT6 (i := 25) (rem' := 18446744073642442752) rfl rfl rfl kr (fun _ _ _ h => h) rfl subT ?_
        refine G.takeFT hT6 (i := 26) (rem' := 18446744073575333888) rfl rfl rfl kr (fun _ _ _ h => h) rfl subT ?_
        refine G.takeFT hT6 (i := 27) (rem' := 18446744073441116160) rfl rfl rfl kr (fun _ _ _ h => h) rfl subT ?_
        refine G.takeFT hT6 (i := 28) (rem' := 18446744073172680704) rfl rfl rfl kr (fun _ _ _ h => h) rfl subT ?_
        refine G.takeFT hT6 (i := 29) (rem' := 18446744072635809792) rfl rfl rfl kr (fun _ _ _ h => h) rfl subT ?_
        refine G.takeFT hT6 (i := 30) (rem' := 18446744071562067968) rfl rfl rfl kr (fun _ _ _ h => h) rfl subT ?_
        refine G.takeFT hT6 (i := 31) (rem' := 18446744069414584320) rfl rfl rfl kr (fun _ _ _ h => h) rfl subT ?_
        refine G.takeFT hT6 (i := 32) (rem' := 18446744065119617024) rfl rfl rfl kr (fun _ _ _ h => h) rfl subT ?_
        refine G.takeFT hT6 (i := 33) (rem' := 18446744056529682432) rfl rfl rfl kr (fun _ _ _ h => h) rfl subT ?_
        refine G.takeFT hT6 (i := 34) (rem' := 18446744039349813248) rfl rfl rfl kr (fun _ _ _ h => h) rfl subT ?_
        refine G.takeFT hT6 (i := 35) (rem' := 18446744004990074880) rfl rfl rfl kr (fun _ _ _ h => h) rfl subT ?_
        refine G.takeT hT6 (i := 36) (rem' := 18446743936270598144) rfl rfl rfl kr (fun _ _ _ h => h) rfl (pv_pick rfl rfl) subT ?_
        refine G.takeT hT6 (i := 37) (rem' := 18446743798831644672) rfl rfl rfl kr (fun _ _ _ h => h) rfl (pv_move rfl) subT ?_
        refine G.takeFT hT6 (i := 38) (rem' := 18446743523953737728) rfl rfl rfl kr (fun _ _ _ h => h) rfl subT ?_
        refine G.takeFT hT6 (i := 39) (rem' := 18446742974197923840) rfl rfl rfl kr (fun _ _ _ h => h) rfl subT ?_
        refine G.takeFT hT6 (i := 40) (rem' := 18446741874686296064) rfl rfl rfl kr (fun _ _ _ h => h) rfl subT ?_
        refine G.takeFT hT6 (i := 41) (rem' := 18446739675663040512) rfl rfl rfl kr (fun _ _ _ h => h) rfl subT ?_
        refine G.takeFT hT6 (i := 42) (rem' := 18446735277616529408) rfl rfl rfl kr (fun _ _ _ h => h) rfl subT ?_
        refine G.takeFT hT6 (i := 43) (rem' := 18446726481523507200) rfl rfl rfl kr (fun _ _ _ h => h) rfl subT ?_
        refine G.takeFT hT6 (i := 44) (rem' := 18446708889337462784) rfl rfl rfl kr (fun _ _ _ h => h) rfl subT ?_
        refine G.takeFT hT6 (i := 45) (rem' := 18446673704965373952) rfl rfl rfl kr (fun _ _ _ h => h) rfl subT ?_
        refine G.takeFT hT6 (i := 46) (rem' := 18446603336221196288) rfl rfl rfl kr (fun _ _ _ h => h) rfl subT ?_
        refine G.takeFT hT6 (i := 47) (rem' := 18446462598732840960) rfl rfl rfl kr (fun _ _ _ h => h) rfl subT ?_
        refine G.takeFT hT6 (i := 48) (rem' := 18446181123756130304) rfl rfl rfl kr (fun _ _ _ h => h) rfl subT ?_
        refine G.takeFT hT6 (i := 49) (rem' := 18445618173802708992) rfl rfl rfl kr (fun _ _ _ h => h) rfl subT ?_
        refine G.takeT hT6 (i := 50) (rem' := 18444492273895866368) rfl rfl rfl kr (fun _ _ _ h => h) rfl (pv_pick rfl rfl) subT ?_
        refine G.takeT hT6 (i := 51) (rem' := 18442240474082181120) rfl rfl rfl kr (fun _ _ _ h => h) rfl (pv_move rfl) subT ?_
        refine G.takeFT hT6 (i := 52) (rem' := 18437736874454810624) rfl rfl rfl kr (fun _ _ _ h => h) rfl subT ?_
        refine G.takeFT hT6 (i := 53) (rem' := 18428729675200069632) rfl rfl rfl kr (fun _ _ _ h => h) rfl subT ?_
        refine G.takeFT hT6 (i := 54) (rem' := 18410715276690587648) rfl rfl rfl kr (fun _ _ _ h => h) rfl subT ?_
        refine G.takeFT hT6 (i := 55) (rem' := 18374686479671623680) rfl rfl rfl kr (fun _ _ _ h => h) rfl subT ?_
        refine G.takeFT hT6 (i := 56) (rem' := 18302628885633695744) rfl rfl rfl kr (fun _ _ _ h => h) rfl subT ?_
        refine G.takeFT hT6 (i := 57) (rem' := 18158513697557839872) rfl rfl rfl kr (fun _ _ _ h => h) rfl subT ?_
        refine G.takeFT hT6 (i := 58) (rem' := 17870283321406128128) rfl rfl rfl kr (fun _ _ _ h => h) rfl subT ?_
        refine G.takeFT hT6 (i := 59) (rem' := 17293822569102704640) rfl rfl rfl kr (fun _ _ _ h => h) rfl subT ?_
        refine G.takeFT hT6 (i := 60) (rem' := 16140901064495857664) rfl rfl rfl kr (fun _ _ _ h => h) rfl subT ?_
        refine G.takeFT hT6 (i := 61) (rem' := 13835058055282163712) rfl rfl rfl kr (fun _ _ _ h => h) rfl subT ?_
        refine G.takeFT hT6 (i := 62) (rem' := 9223372036854775808) rfl rfl rfl kr (fun _ _ _ h => h) rfl subT ?_
        refine G.takeT hT6 (i := 63) (rem' := 0) rfl rfl rfl kr (fun _ _ _ h => h) rfl (pv_pick rfl rfl) subT ?_
        refine G.overT hT6 kr ?_
        exact G.meet (()) (by first | exact trivial | ((try dsimp only); exact trivial)) (.consE rfl (by first | exact dec_t (by rw [ne_eq, he]; simp_all) | exact dec_e (by rw [ne_eq ys[i].1, he] at *; simp_all) | exact dec_e (by rw [ne_eq xs[i].1, he]; simp_all)) (.cons rfl (.cons rfl (.cons rfl .nil)))) subT
      refine G.takeT hT6 (i := 12) (rem' := 18446744073709543424) rfl rfl rfl kr (fun _ _ _ h => h) rfl (pv_move rfl) subT ?_
      refine G.takeT hT6 (i := 13) (rem' := 18446744073709535232) rfl rfl rfl kr (fun _ _ _ h => h) rfl (pv_move rfl) subT ?_
      refine G.takeT hT6 (i := 14) (rem' := 18446744073709518848) rfl rfl rfl kr (fun _ _ _ h => h) rfl (pv_ixSl (sz := 5) Tryz.underlying22 kr rfl rfl (by first | with_reducible assumption | assumption | exact fun _ => rfl) rfl (by omega)) subT ?_
      refine G.takeT hT6 (i := 15) (rem' := 18446744073709486080) rfl rfl rfl kr (fun _ _ _ h => h) rfl (pv_fieldAddrK (sz := 0) (k := 1) Tryz.underlying68 rfl kr rfl rfl) subT ?_
      refine G.takeT hT6 (i := 16) (rem' := 18446744073709420544) rfl rfl rfl kr (fun _ _ _ h => h) rfl (pv_load Tryz.underlying3 rfl rfl celT) subT ?_
      refine G.takeT hT6 (i := 17) (rem' := 18446744073709289472) rfl rfl rfl kr (fun _ _ _ h => h) rfl (pv_move rfl) subT ?_
      refine G.takeT hT6 (i := 18) (rem' := 18446744073709027328) rfl rfl rfl kr (fun _ _ _ h => h) rfl (pv_move rfl) subT ?_
      refine G.takeT hT6 (i := 19) (rem' := 18446744073708503040) rfl rfl rfl kr (fun _ _ _ h => h) rfl (pv_ixSl (sz := 5) Tryz.underlying22 kr rfl rfl (by first | with_reducible assumption | assumption | exact fun _ => rfl) rfl (by omega)) subT ?_
      refine G.takeT hT6 (i := 20) (rem' := 18446744073707454464) rfl rfl rfl kr (fun _ _ _ h => h) rfl (pv_fieldAddrK (sz := 0) (k := 1) Tryz.underlying68 rfl kr rfl rfl) subT ?_
      refine G.oneT hT6 (i := 21) (rem' := 18446744073705357312) kr kr ?_
      refine G.turnOp rfl rfl (G.val rfl rfl (pv_load Tryz.underlying3 rfl rfl celT) ?_)
      refine G.back subT ?_
      refine G.takeT hT6 (i := 22) (rem' := 18446744073701163008) rfl rfl rfl kr (fun _ _ _ h => h) rfl (pv_neq rfl rfl) subT ?_
      refine G.takeT hT6 (i := 23) (rem' := 18446744073692774400) rfl rfl rfl kr (fun _ _ _ h => h) rfl (pv_pick rfl rfl) subT ?_
      refine G.takeT hT6 (i := 24) (rem' := 18446744073675997184) rfl rfl rfl kr (fun _ _ _ h => h) rfl (pv_move rfl) subT ?_
      refine G.partP (t := 41) rfl (fun h41 => ?_) (fun h41 => ?_)
      · refine G.takeFT hT6 (i := 25) (rem' := 18446744073642442752) rfl rfl rfl kr (fun _ _ _ h => h) rfl subT ?_
        refine G.takeFT hT6 (i := 26) (rem' := 18446744073575333888) rfl rfl rfl kr (fun _ _ _ h => h) rfl subT ?_
        refine G.takeFT hT6 (i := 27) (rem' := 18446744073441116160) rfl rfl rfl kr (fun _ _ _ h => h) rfl subT ?_
        refine G.takeFT hT6 (i := 28) (rem' := 18446744073172680704) rfl rfl rfl kr (fun _ _ _ h => h) rfl subT ?_
        refine G.takeFT hT6 (i := 29) (rem' := 18446744072635809792) rfl rfl rfl kr (fun _ _ _ h => h) rfl subT ?_
        refine G.takeFT hT6 (i := 30) (rem' := 18446744071562067968) rfl rfl rfl kr (fun _ _ _ h => h) rfl subT ?_
        refine G.takeFT hT6 (i := 31) (rem' := 18446744069414584320) rfl rfl rfl kr (fun _ _ _ h => h) rfl subT ?_
        refine G.takeFT hT6 (i := 32) (rem' := 18446744065119617024) rfl rfl rfl kr (fun _ _ _ h => h) rfl subT ?_
        refine G.takeFT hT6 (i := 33) (rem' := 18446744056529682432) rfl rfl rfl kr (fun _ _ _ h => h) rfl subT ?_
        refine G.takeFT hT6 (i := 34) (rem' := 18446744039349813248) rfl rfl rfl kr (fun _ _ _ h => h) rfl subT ?_
        refine G.takeFT hT6 (i := 35) (rem' := 18446744004990074880) rfl rfl rfl kr (fun _ _ _ h => h) rfl subT ?_
        refine G.takeT hT6 (i := 36) (rem' := 18446743936270598144) rfl rfl rfl kr (fun _ _ _ h => h) rfl (pv_pick rfl rfl) subT ?_
        refine G.takeT hT6 (i := 37) (rem' := 18446743798831644672) rfl rfl rfl kr (fun _ _ _ h => h) rfl (pv_move rfl) subT ?_
        refine G.takeFT hT6 (i := 38) (rem' := 18446743523953737728) rfl rfl rfl kr (fun _ _ _ h => h) rfl subT ?_
        refine G.takeFT hT6 (i := 39) (rem' := 18446742974197923840) rfl rfl rfl kr (fun _ _ _ h => h) rfl subT ?_
        refine G.takeFT hT6 (i := 40) (rem' := 18446741874686296064) rfl rfl rfl kr (fun _ _ _ h => h) rfl subT ?_
        refine G.takeFT hT6 (i := 41) (rem' := 18446739675663040512) rfl rfl rfl kr (fun _ _ _ h => h) rfl subT ?_
        refine G.takeFT hT6 (i := 42) (rem' := 18446735277616529408) rfl rfl rfl kr (fun _ _ _ h => h) rfl subT ?_
        refine G.takeFT hT6 (i := 43) (rem' := 18446726481523507200) rfl rfl rfl kr (fun _ _ _ h => h) rfl subT ?_
        refine G.takeFT hT6 (i := 44) (rem' := 18446708889337462784) rfl rfl rfl kr (fun _ _ _ h => h) rfl subT ?_
        refine G.takeFT hT6 (i := 45) (rem' := 18446673704965373952) rfl rfl rfl kr (fun _ _ _ h => h) rfl subT ?_
        refine G.takeFT hT6 (i := 46) (rem' := 18446603336221196288) rfl rfl rfl kr (fun _ _ _ h => h) rfl subT ?_
        refine G.takeFT hT6 (i := 47) (rem' := 18446462598732840960) rfl rfl rfl kr (fun _ _ _ h => h) rfl subT ?_
        refine G.takeFT hT6 (i := 48) (rem' := 18446181123756130304) rfl rfl rfl kr (fun _ _ _ h => h) rfl subT ?_
        refine G.takeFT hT6 (i := 49) (rem' := 18445618173802708992) rfl rfl rfl kr (fun _ _ _ h => h) rfl subT ?_
        refine G.takeT hT6 (i := 50) (rem' := 18444492273895866368) rfl rfl rfl kr (fun _ _ _ h => h) rfl (pv_pick rfl rfl) subT ?_
        refine G.takeT hT6 (i := 51) (rem' := 18442240474082181120) rfl rfl rfl kr (fun _ _ _ h => h) rfl (pv_move rfl) subT ?_
        refine G.takeFT hT6 (i := 52) (rem' := 18437736874454810624) rfl rfl rfl kr (fun _ _ _ h => h) rfl subT ?_
        refine G.takeFT hT6 (i := 53) (rem' := 18428729675200069632) rfl rfl rfl kr (fun _ _ _ h => h) rfl subT ?_
        refine G.takeFT hT6 (i := 54) (rem' := 18410715276690587648) rfl rfl rfl kr (fun _ _ _ h => h) rfl subT ?_
        refine G.takeFT hT6 (i := 55) (rem' := 18374686479671623680) rfl rfl rfl kr (fun _ _ _ h => h) rfl subT ?_
        refine G.takeFT hT6 (i := 56) (rem' := 18302628885633695744) rfl rfl rfl kr (fun _ _ _ h => h) rfl subT ?_
        refine G.takeFT hT6 (i := 57) (rem' := 18158513697557839872) rfl rfl rfl kr (fun _ _ _ h => h) rfl subT ?_
        refine G.takeFT hT6 (i := 58) (rem' := 17870283321406128128) rfl rfl rfl kr (fun _ _ _ h => h) rfl subT ?_
        refine G.takeFT hT6 (i := 59) (rem' := 17293822569102704640) rfl rfl rfl kr (fun _ _ _ h => h) rfl subT ?_
        refine G.takeFT hT6 (i := 60) (rem' := 16140901064495857664) rfl rfl rfl kr (fun _ _ _ h => h) rfl subT ?_
        refine G.takeFT hT6 (i := 61) (rem' := 13835058055282163712) rfl rfl rfl kr (fun _ _ _ h => h) rfl subT ?_
        refine G.takeFT hT6 (i := 62) (rem' := 9223372036854775808) rfl rfl rfl kr (fun _ _ _ h => h) rfl subT ?_
        refine G.takeT hT6 (i := 63) (rem' := 0) rfl rfl rfl kr (fun _ _ _ h => h) rfl (pv_pick rfl rfl) subT ?_
        refine G.overT hT6 kr ?_
        exact G.meet (()) (by first | exact trivial | ((try dsimp only); exact trivial)) (.consE rfl (by first | exact dec_t (by rw [ne_eq, he]; simp_all) | exact dec_e (by rw [ne_eq ys[i].1, he] at *; simp_all) | exact dec_e (by rw [ne_eq xs[i].1, he]; simp_all)) (.cons rfl (.cons rfl (.cons rfl .nil)))) subT
      refine G.takeT hT6 (i := 25) (rem' := 18446744073642442752) rfl rfl rfl kr (fun _ _ _ h => h) rfl (pv_move rfl) subT ?_
      refine G.takeT hT6 (i := 26) (rem' := 18446744073575333888) rfl rfl rfl kr (fun _ _ _ h => h) rfl (pv_move rfl) subT ?_
      refine G.takeT hT6 (i := 27) (rem' := 18446744073441116160) rfl rfl rfl kr (fun _ _ _ h => h) rfl (pv_ixSl (sz := 5) Tryz.underlying22 kr rfl rfl (by first | with_reducible assumption | assumption | exact fun _ => rfl) rfl (by omega)) subT ?_
      refine G.takeT hT6 (i := 28) (rem' := 18446744073172680704) rfl rfl rfl kr (fun _ _ _ h => h) rfl (pv_fieldAddrK (sz := 0) (k := 2) Tryz.underlying68 rfl kr rfl rfl) subT ?_
      refine G.takeT hT6 (i := 29) (rem' := 18446744072635809792) rfl rfl rfl kr (fun _ _ _ h => h) rfl (pv_load Tryz.underlying3 rfl rfl celT) subT ?_
      refine G.takeT hT6 (i := 30) (rem' := 18446744071562067968) rfl rfl rfl kr (fun _ _ _ h => h) rfl (pv_move rfl) subT ?_
      refine G.takeT hT6 (i := 31) (rem' := 18446744069414584320) rfl rfl rfl kr (fun _ _ _ h => h) rfl (pv_move rfl) subT ?_
      refine G.takeT hT6 (i := 32) (rem' := 18446744065119617024) rfl rfl rfl kr (fun _ _ _ h => h) rfl (pv_ixSl (sz := 5) Tryz.underlying22 kr rfl rfl (by first | with_reducible assumption | assumption | exact fun _ => rfl) rfl (by omega)) subT ?_
      refine G.takeT hT6 (i := 33) (rem' := 18446744056529682432) rfl rfl rfl kr (fun _ _ _ h => h) rfl (pv_fieldAddrK (sz := 0) (k := 2) Tryz.underlying68 rfl kr rfl rfl) subT ?_
      refine G.oneT hT6 (i := 34) (rem' := 18446744039349813248) kr kr ?_
      refine G.turnOp rfl rfl (G.val rfl rfl (pv_load Tryz.underlying3 rfl rfl celT) ?_)
      refine G.back subT ?_
      refine G.takeT hT6 (i := 35) (rem' := 18446744004990074880) rfl rfl rfl kr (fun _ _ _ h => h) rfl (pv_neq rfl rfl) subT ?_
      refine G.takeT hT6 (i := 36) (rem' := 18446743936270598144) rfl rfl rfl kr (fun _ _ _ h => h) rfl (pv_pick rfl rfl) subT ?_
      refine G.takeT hT6 (i := 37) (rem' := 18446743798831644672) rfl rfl rfl kr (fun _ _ _ h => h) rfl (pv_move rfl) subT ?_
      refine G.partP (t := 54) rfl (fun h54 => ?_) (fun h54 => ?_)
      · refine G.takeFT hT6 (i := 38) (rem' := 18446743523953737728) rfl rfl rfl kr (fun _ _ _ h => h) rfl subT ?_
        refine G.takeFT hT6 (i := 39) (rem' := 18446742974197923840) rfl rfl rfl kr (fun _ _ _ h => h) rfl subT ?_
        refine G.takeFT hT6 (i := 40) (rem' := 18446741874686296064) rfl rfl rfl kr (fun _ _ _ h => h) rfl subT ?_
        refine G.takeFT hT6 (i := 41) (rem' := 18446739675663040512) rfl rfl rfl kr (fun _ _ _ h => h) rfl subT ?_
        refine G.takeFT hT6 (i := 42) (rem' := 18446735277616529408) rfl rfl rfl kr (fun _ _ _ h => h) rfl subT ?_
        refine G.takeFT hT6 (i := 43) (rem' := 18446726481523507200) rfl rfl rfl kr (fun _ _ _ h => h) rfl subT ?_
        refine G.takeFT hT6 (i := 44) (rem' := 18446708889337462784) rfl rfl rfl kr (fun _ _ _ h => h) rfl subT ?_
        refine G.takeFT hT6 (i := 45) (rem' := 18446673704965373952) rfl rfl rfl kr (fun _ _ _ h => h) rfl subT ?_
        refine G.takeFT hT6 (i := 46) (rem' := 18446603336221196288) rfl rfl rfl kr (fun _ _ _ h => h) rfl subT ?_
        refine G.takeFT hT6 (i := 47) (rem' := 18446462598732840960) rfl rfl rfl kr (fun _ _ _ h => h) rfl subT ?_
        refine G.takeFT hT6 (i := 48) (rem' := 18446181123756130304) rfl rfl rfl kr (fun _ _ _ h => h) rfl subT ?_
        refine G.takeFT hT6 (i := 49) (rem' := 18445618173802708992) rfl rfl rfl kr (fun _ _ _ h => h) rfl subT ?_
        refine G.takeT hT6 (i := 50) (rem' := 18444492273895866368) rfl rfl rfl kr (fun _ _ _ h => h) rfl (pv_pick rfl rfl) subT ?_
        refine G.takeT hT6 (i := 51) (rem' := 18442240474082181120) rfl rfl rfl kr (fun _ _ _ h => h) rfl (pv_move rfl) subT ?_
        refine G.takeFT hT6 (i := 52) (rem' := 18437736874454810624) rfl rfl rfl kr (fun _ _ _ h => h) rfl subT ?_
        refine G.takeFT hT6 (i := 53) (rem' := 18428729675200069632) rfl rfl rfl kr (fun _ _ _ h => h) rfl subT ?_
        refine G.takeFT hT6 (i := 54) (rem' := 18410715276690587648) rfl rfl rfl kr (fun _ _ _ h => h) rfl subT ?_
        refine G.takeFT hT6 (i := 55) (rem' := 18374686479671623680) rfl rfl rfl kr (fun _ _ _ h => h) rfl subT ?_
        refine G.takeFT hT6 (i := 56) (rem' := 18302628885633695744) rfl rfl rfl kr (fun _ _ _ h => h) rfl subT ?_
        refine G.takeFT hT6 (i := 57) (rem' := 18158513697557839872) rfl rfl rfl kr (fun _ _ _ h => h) rfl subT ?_
        refine G.takeFT hT6 (i := 58) (rem' := 17870283321406128128) rfl rfl rfl kr (fun _ _ _ h => h) rfl subT ?_
        refine G.takeFT hT6 (i := 59) (rem' := 17293822569102704640) rfl rfl rfl kr (fun _ _ _ h => h) rfl subT ?_
        refine G.takeFT hT6 (i := 60) (rem' := 16140901064495857664) rfl rfl rfl kr (fun _ _ _ h => h) rfl subT ?_
        refine G.takeFT hT6 (i := 61) (rem' := 13835058055282163712) rfl rfl rfl kr (fun _ _ _ h => h) rfl subT ?_
        refine G.takeFT hT6 (i := 62) (rem' := 9223372036854775808) rfl rfl rfl kr (fun _ _ _ h => h) rfl subT ?_
        refine G.takeT hT6 (i := 63) (rem' := 0) rfl rfl rfl kr (fun _ _ _ h => h) rfl (pv_pick rfl rfl) subT ?_
        refine G.overT hT6 kr ?_
        exact G.meet (()) (by first | exact trivial | ((try dsimp only); exact trivial)) (.consE rfl (by first | exact dec_t (by rw [ne_eq, he]; simp_all) | exact dec_e (by rw [ne_eq ys[i].1, he] at *; simp_all) | exact dec_e (by rw [ne_eq xs[i].1, he]; simp_all)) (.cons rfl (.cons rfl (.cons rfl .nil)))) subT
      refine G.takeT hT6 (i := 38) (rem' := 18446743523953737728) rfl rfl rfl kr (fun _ _ _ h => h) rfl (pv_move rfl) subT ?_
      refine G.takeT hT6 (i := 39) (rem' := 18446742974197923840) rfl rfl rfl kr (fun _ _ _ h => h) rfl (pv_move rfl) subT ?_
      refine G.takeT hT6 (i := 40) (rem' := 18446741874686296064) rfl rfl rfl kr (fun _ _ _ h => h) rfl (pv_ixSl (sz := 5) Tryz.underlying22 kr rfl rfl (by first | with_reducible assumption | assumption | exact fun _ => rfl) rfl (by omega)) subT ?_
      refine G.takeT hT6 (i := 41) (rem' := 18446739675663040512) rfl rfl rfl kr (fun _ _ _ h => h) rfl (pv_fieldAddrK (sz := 0) (k := 3) Tryz.underlying68 rfl kr rfl rfl) subT ?_
      refine G.takeT hT6 (i := 42) (rem' := 18446735277616529408) rfl rfl rfl kr (fun _ _ _ h => h) rfl (pv_load Tryz.underlying39 rfl rfl celT) subT ?_
      refine G.takeT hT6 (i := 43) (rem' := 18446726481523507200) rfl rfl rfl kr (fun _ _ _ h => h) rfl (pv_move rfl) subT ?_
      refine G.takeT hT6 (i := 44) (rem' := 18446708889337462784) rfl rfl rfl kr (fun _ _ _ h => h) rfl (pv_move rfl) subT ?_
      refine G.takeT hT6 (i := 45) (rem' := 18446673704965373952) rfl rfl rfl kr (fun _ _ _ h => h) rfl (pv_ixSl (sz := 5) Tryz.underlying22 kr rfl rfl (by first | with_reducible assumption | assumption | exact fun _ => rfl) rfl (by omega)) subT ?_
      refine G.takeT hT6 (i := 46) (rem' := 18446603336221196288) rfl rfl rfl kr (fun _ _ _ h => h) rfl (pv_fieldAddrK (sz := 0) (k := 3) Tryz.underlying68 rfl kr rfl rfl) subT ?_
      refine G.oneT hT6 (i := 47) (rem' := 18446462598732840960) kr kr ?_
      refine G.turnOp rfl rfl (G.val rfl rfl (pv_load Tryz.underlying39 rfl rfl celT) ?_)
      refine G.back subT ?_
      refine G.oneT hT6 (i := 48) (rem' := 18446181123756130304) kr kr ?_
      refine G.turnOp rfl rfl (G.cR rfl rfl rfl rfl Tryz.func32 rfl rfl (may2 (by first | (apply May.old; first | with_reducible assumption | assumption) | (apply Sel.may; (repeat (first | with_reducible exact Sel.here | exact Sel.here | apply Sel.there)); done) | (apply may_own; (repeat (first | with_reducible exact Sel.here | exact Sel.here | apply Sel.there)); exact rfl; exact (fun _ _ => trivial); done) | (apply may_ownB; (repeat (first | with_reducible exact Sel.here | exact Sel.here | apply Sel.there)); done) | (apply may_tree; (repeat (first | with_reducible exact Sel.here | exact Sel.here | apply Sel.there)); (repeat (first | with_reducible exact Sel.here | exact Sel.here | apply Sel.there)); assumption; done)) (by first | (apply May.old; first | with_reducible assumption | assumption) | (apply Sel.may; (repeat (first | with_reducible exact Sel.here | exact Sel.here | apply Sel.there)); done) | (apply may_own; (repeat (first | with_reducible exact Sel.here | exact Sel.here | apply Sel.there)); exact rfl; exact (fun _ _ => trivial); done) | (apply may_ownB; (repeat (first | with_reducible exact Sel.here | exact Sel.here | apply Sel.there)); done) | (apply may_tree; (repeat (first | with_reducible exact Sel.here | exact Sel.here | apply Sel.there)); (repeat (first | with_reducible exact Sel.here | exact Sel.here | apply Sel.there)); assumption; done))) (same_tr _ _ _ _) ?_)
      refine G.back subT ?_
      refine G.takeT hT6 (i := 49) (rem' := 18445618173802708992) rfl rfl rfl kr (fun _ _ _ h => h) rfl (pv_notP rfl) subT ?_
      refine G.takeT hT6 (i := 50) (rem' := 18444492273895866368) rfl rfl rfl kr (fun _ _ _ h => h) rfl (pv_pick rfl rfl) subT ?_
      refine G.takeT hT6 (i := 51) (rem' := 18442240474082181120) rfl rfl rfl kr (fun _ _ _ h => h) rfl (pv_move rfl) subT ?_
      refine G.partP (t := 68) rfl (fun h68 => ?_) (fun h68 => ?_)
      · refine G.takeFT hT6 (i := 52) (rem' := 18437736874454810624) rfl rfl rfl kr (fun _ _ _ h => h) rfl subT ?_
        refine G.takeFT hT6 (i := 53) (rem' := 18428729675200069632) rfl rfl rfl kr (fun _ _ _ h => h) rfl subT ?_
        refine G.takeFT hT6 (i := 54) (rem' := 18410715276690587648) rfl rfl rfl kr (fun _ _ _ h => h) rfl subT ?_
        refine G.takeFT hT6 (i := 55) (rem' := 18374686479671623680) rfl rfl rfl kr (fun _ _ _ h => h) rfl subT ?_
        refine G.takeFT hT6 (i := 56) (rem' := 18302628885633695744) rfl rfl rfl kr (fun _ _ _ h => h) rfl subT ?_
        refine G.takeFT hT6 (i := 57) (rem' := 18158513697557839872) rfl rfl rfl kr (fun _ _ _ h => h) rfl subT ?_
        refine G.takeFT hT6 (i := 58) (rem' := 17870283321406128128) rfl rfl rfl kr (fun _ _ _ h => h) rfl subT ?_
        refine G.takeFT hT6 (i := 59) (rem' := 17293822569102704640) rfl rfl rfl kr (fun _ _ _ h => h) rfl subT ?_
        refine G.takeFT hT6 (i := 60) (rem' := 16140901064495857664) rfl rfl rfl kr (fun _ _ _ h => h) rfl subT ?_
        refine G.takeFT hT6 (i := 61) (rem' := 13835058055282163712) rfl rfl rfl kr (fun _ _ _ h => h) rfl subT ?_
        refine G.takeFT hT6 (i := 62) (rem' := 9223372036854775808) rfl rfl rfl kr (fun _ _ _ h => h) rfl subT ?_
        refine G.takeT hT6 (i := 63) (rem' := 0) rfl rfl rfl kr (fun _ _ _ h => h) rfl (pv_pick rfl rfl) subT ?_
        refine G.overT hT6 kr ?_
        exact G.meet (()) (by first | exact trivial | ((try dsimp only); exact trivial)) (.consE rfl (by first | exact dec_t (by rw [ne_eq, he]; simp_all) | exact dec_e (by rw [ne_eq ys[i].1, he] at *; simp_all) | exact dec_e (by rw [ne_eq xs[i].1, he]; simp_all)) (.cons rfl (.cons rfl (.cons rfl .nil)))) subT
      refine G.takeT hT6 (i := 52) (rem' := 18437736874454810624) rfl rfl rfl kr (fun _ _ _ h => h) rfl (pv_move rfl) subT ?_
      refine G.takeT hT6 (i := 53) (rem' := 18428729675200069632) rfl rfl rfl kr (fun _ _ _ h => h) rfl (pv_move rfl) subT ?_
      refine G.takeT hT6 (i := 54) (rem' := 18410715276690587648) rfl rfl rfl kr (fun _ _ _ h => h) rfl (pv_ixSl (sz := 5) Tryz.underlying22 kr rfl rfl (by first | with_reducible assumption | assumption | exact fun _ => rfl) rfl (by omega)) subT ?_
      refine G.takeT hT6 (i := 55) (rem' := 18374686479671623680) rfl rfl rfl kr (fun _ _ _ h => h) rfl (pv_fieldAddrK (sz := 0) (k := 4) Tryz.underlying68 rfl kr rfl rfl) subT ?_
      refine G.takeT hT6 (i := 56) (rem' := 18302628885633695744) rfl rfl rfl kr (fun _ _ _ h => h) rfl (pv_load Tryz.underlying9 rfl rfl celT) subT ?_
      refine G.takeT hT6 (i := 57) (rem' := 18158513697557839872) rfl rfl rfl kr (fun _ _ _ h => h) rfl (pv_move rfl) subT ?_
      refine G.takeT hT6 (i := 58) (rem' := 17870283321406128128) rfl rfl rfl kr (fun _ _ _ h => h) rfl (pv_move rfl) subT ?_
      refine G.takeT hT6 (i := 59) (rem' := 17293822569102704640) rfl rfl rfl kr (fun _ _ _ h => h) rfl (pv_ixSl (sz := 5) Tryz.underlying22 kr rfl rfl (by first | with_reducible assumption | assumption | exact fun _ => rfl) rfl (by omega)) subT ?_
      refine G.takeT hT6 (i := 60) (rem' := 16140901064495857664) rfl rfl rfl kr (fun _ _ _ h => h) rfl (pv_fieldAddrK (sz := 0) (k := 4) Tryz.underlying68 rfl kr rfl rfl) subT ?_
      refine G.oneT hT6 (i := 61) (rem' := 13835058055282163712) kr kr ?_
      refine G.turnOp rfl rfl (G.val rfl rfl (pv_load Tryz.underlying9 rfl rfl celT) ?_)
      refine G.back subT ?_
      refine G.takeT hT6 (i := 62) (rem' := 9223372036854775808) rfl rfl rfl kr (fun _ _ _ h => h) rfl (pv_neqS rfl rfl) subT ?_
      refine G.takeT hT6 (i := 63) (rem' := 0) rfl rfl rfl kr (fun _ _ _ h => h) rfl (pv_pick rfl rfl) subT ?_
      refine G.overT hT6 kr ?_
      exact G.meet (()) (by first | exact trivial | ((try dsimp only); exact trivial)) (.consE rfl (by first | exact dec_t (by rw [ne_eq, he]; simp_all) | exact dec_e (by rw [ne_eq ys[i].1, he] at *; simp_all) | exact dec_e (by rw [ne_eq xs[i].1, he]; simp_all)) (.cons rfl (.cons rfl (.cons rfl .nil)))) subT
    intro _ hJ
    try dsimp only at hJ
    try dsimp only
    refine G.condP rfl (fun h80 => ?_) (fun h80 => ?_)
    · have hne : xs[i].1 ≠ ys[i].1 := by assumption
      refine G.seq (G.region ?_)
      refine G.asT rfl rfl ?_
      refine G.nil ?_
      refine G.nThen ?_
      refine G.ret ?_
      refine G.rBlock ?_
      refine G.rThen ?_
      refine G.rThen ?_
      refine G.rBlock ?_
      refine G.rThen ?_
      exact G.done0G rfl (Rv.tmp rfl Rv.nil) (by rw [decide_eq_false (ens_ne hlt hlu hne)]; rfl)
    have heq : xs[i].1 = ys[i].1 := Decidable.of_not_not (by assumption)
    refine G.skip ?_
    refine G.nBlock ?_
    refine G.nThen (G.region ?_)
    refine G.mvT rfl rfl ?_
    refine G.op rfl (G.val rfl rfl (pv_add64 rfl rfl (by omega)) ?_)
    refine G.asT rfl rfl ?_
    refine G.nil ?_
    exact G.next (i + 1) (by first | exact trivial | ((try dsimp only); exact ⟨by omega, fun q hq hqi => by rcases Nat.lt_or_ge q i with h1 | h1; exact hJ0 q hq h1; obtain rfl : q = i := (by omega); exact heq⟩)) (by (try dsimp only); omega) (.consE rfl veqT (.cons rfl (.cons rfl .nil))) subT
  refine G.exit ?_
  refine G.eThen ?_
  refine G.eThen ?_
  refine G.eBlock ?_
  refine G.nThen (G.seq (G.region ?_))
  refine G.asT rfl rfl ?_
  refine G.nil ?_
  refine G.nThen ?_
  refine G.ret ?_
  exact G.done0G rfl (Rv.tmp rfl Rv.nil) (by rw [decide_eq_true (ens_eq (by omega) (fun q hq => hJ q hq (by omega)))]; rfl)
end Go.Proofs.YtbfpbibkklfnfaaGreat

set_option linter.unusedVariables false
set_option linter.unusedSimpArgs false
namespace Go.Proofs.YtbfpbibkklfnfaaGreat
open Go.RowKit
section
variable {P : Program} {n : Nat} {w0 : World} {S : Nat → Prop} {l : Fr} {m : List Ck} {Q : Exit → Act → World → Prop} {K : Act → World → Prop}
theorem G.datNil (e : TypeId) (h : G n w0 S l (datC e [] :: m) K) : G n w0 S l m K := G.mem (fun w hw => Hp.star (m := []) hw) h
theorem G.datSnoc {e : TypeId} {ys : List ET} {x : ET} {r r' : List Ck} (h1 : Sel m (datC e ys) r) (h2 : Sel r (ownB e x.2 x.1.data) r') (h : G n w0 S l (datC e (ys ++ [x]) :: r') K) : G n w0 S l m K := G.mem (fun w hw => by
  have h3 := Hp.unstar (hw.sel h1)
  have p : (ys.map (fun x : ET => ownB e x.2 x.1.data) ++ r).Perm (((ys ++ [x]).map fun x : ET => ownB e x.2 x.1.data) ++ r') := by
    rw [List.map_append, List.append_assoc]
    exact List.Perm.append_left _ h2.perm
  exact Hp.star (h3.perm p)) h
end
end Go.Proofs.YtbfpbibkklfnfaaGreat

set_option linter.unusedVariables false
set_option linter.unusedSimpArgs false
namespace Go.Proofs.YtbfpbibkklfnfaaGreat
open Go.RowKit
theorem Tryz.infoEn' : (Tryz.prog.info? 68).map (fun i => (i.zero.map (·.cells.size), i.size, i.bytes)) = some (some 5, 5, 72) := by kernel_rfl
end Go.Proofs.YtbfpbibkklfnfaaGreat

set_option linter.unusedVariables false
set_option linter.unusedSimpArgs false
namespace Go.Proofs.YtbfpbibkklfnfaaGreat
open Go.RowKit
/-- keys of a type, as f writes them -/
structure KeyF (P : Program) (k : TypeId) {κ : Type} (f : κ → Value) (ok : κ → Prop) : Prop where
  keyed : Go.Maps.Keyed P k
  is : ∀ x, ok x → ∃ l, keyOf P k (f x) = some l
  inj : ∀ x y, f x = f y → x = y
section
variable {κ : Type} [DecidableEq κ]
def mget : List (κ × Value) → κ → Option Value
  | [], _ => none
  | (a, v) :: l, k => if a = k then some v else mget l k
def mset : List (κ × Value) → κ → Value → List (κ × Value)
  | [], k, v => [(k, v)]
  | (a, u) :: l, k, v => if a = k then (k, v) :: l else (a, u) :: mset l k v
theorem mget_mset (l : List (κ × Value)) (k : κ) (v : Value) (j : κ) : mget (mset l k v) j = if k = j then some v else mget l j := by
  induction l with
  | nil => simp [mset, mget]
  | cons p l ih =>
    obtain ⟨a, u⟩ := p
    unfold mset
    by_cases h : a = k
    · rw [if_pos h]
      subst h
      by_cases h2 : a = j <;> simp [mget, h2]
    rw [if_neg h]
    by_cases h2 : a = j
    · subst h2
      simp [mget, Ne.symm h, (show ¬ k = a from fun e => h e.symm)]
    simp [mget, h2, ih]
theorem mget_none {l : List (κ × Value)} {k : κ} (h : ∀ p ∈ l, p.1 ≠ k) : mget l k = none := by
  induction l with
  | nil => rfl
  | cons p l ih =>
    obtain ⟨a, u⟩ := p
    have := h (a, u) (List.mem_cons_self ..)
    simp [mget, this, ih fun q hq => h q (List.mem_cons_of_mem _ hq)]
theorem mget_at {l : List (κ × Value)} (hn : (l.map (·.1)).Nodup) {j : Nat} {k : κ} {v : Value} (h : l[j]? = some (k, v)) : mget l k = some v := by
  induction l generalizing j with
  | nil => simp at h
  | cons p l ih =>
    obtain ⟨a, u⟩ := p
    rw [List.map_cons, List.nodup_cons] at hn
    cases j with
    | zero =>
      rw [List.getElem?_cons_zero] at h
      injection h with h
      injection h with h1 h2
      subst h1 h2
      simp [mget]
    | succ j =>
      rw [List.getElem?_cons_succ] at h
      have hm : k ∈ l.map (·.1) := List.mem_map.2 ⟨_, List.mem_of_getElem? h, rfl⟩
      have : ¬ a = k := fun e => hn.1 (e ▸ hm)
      simp [mget, this, ih hn.2 h]
theorem mset_new {l : List (κ × Value)} {k : κ} {v : Value} (h : ∀ p ∈ l, p.1 ≠ k) : mset l k v = l ++ [(k, v)] := by
  induction l with
  | nil => rfl
  | cons p l ih =>
    obtain ⟨a, u⟩ := p
    have := h (a, u) (List.mem_cons_self ..)
    simp [mset, this, ih fun q hq => h q (List.mem_cons_of_mem _ hq)]
theorem mset_at {l : List (κ × Value)} (hn : (l.map (·.1)).Nodup) {j : Nat} {k : κ} {u v : Value} (h : l[j]? = some (k, u)) : mset l k v = l.set j (k, v) := by
  induction l generalizing j with
  | nil => simp at h
  | cons p l ih =>
    obtain ⟨a, w⟩ := p
    rw [List.map_cons, List.nodup_cons] at hn
    cases j with
    | zero =>
      rw [List.getElem?_cons_zero] at h
      injection h with h
      injection h with h1 h2
      subst h1
      simp [mset]
    | succ j =>
      rw [List.getElem?_cons_succ] at h
      have hm : k ∈ l.map (·.1) := List.mem_map.2 ⟨_, List.mem_of_getElem? h, rfl⟩
      have : ¬ a = k := fun e => hn.1 (e ▸ hm)
      simp [mset, this, ih hn.2 h]
theorem mset_keys (l : List (κ × Value)) (k : κ) (v : Value) : (mset l k v).map (·.1) = if k ∈ l.map (·.1) then l.map (·.1) else l.map (·.1) ++ [k] := by
  induction l with
  | nil => simp [mset]
  | cons p l ih =>
    obtain ⟨a, u⟩ := p
    unfold mset
    by_cases h : a = k
    · subst h
      simp
    rw [if_neg h, List.map_cons, ih]
    by_cases h2 : k ∈ l.map (·.1)
    · simp [h2]
    simp only [List.map_cons, List.mem_cons, if_neg h2]
    rw [if_neg (fun e => e.elim (fun e => h e.symm) h2)]
    rfl
theorem mset_nodup {l : List (κ × Value)} (hn : (l.map (·.1)).Nodup) (k : κ) (v : Value) : ((mset l k v).map (·.1)).Nodup := by
  rw [mset_keys]
  split
  · exact hn
  rename_i h
  exact List.nodup_append.2 ⟨hn, by simp, fun a ha b hb => by
    obtain rfl : b = k := by simpa using hb
    exact fun e => h (e ▸ ha)⟩
theorem mset_ok {ok : κ → Prop} {l : List (κ × Value)} (h : ∀ p ∈ l, ok p.1) {k : κ} (hk : ok k) (v : Value) : ∀ p ∈ mset l k v, ok p.1 := fun p hp => by
  have : p.1 ∈ (mset l k v).map (·.1) := List.mem_map.2 ⟨p, hp, rfl⟩
  rw [mset_keys] at this
  split at this
  · obtain ⟨q, hq, e⟩ := List.mem_map.1 this
    rw [← e]
    exact h q hq
  rcases List.mem_append.1 this with h1 | h1
  · obtain ⟨q, hq, e⟩ := List.mem_map.1 h1
    rw [← e]
    exact h q hq
  obtain rfl : p.1 = k := by simpa using h1
  exact hk
end
/-- a map's entries are these keys and values -/
structure MapIs {κ : Type} (f : κ → Value) (ok : κ → Prop) (es : Array MapEntry) (l : List (κ × Value)) : Prop where
  eq : es.toList.map (fun e => (e.key, e.val)) = l.map fun p => (f p.1, p.2)
  nodup : (l.map (·.1)).Nodup
  ok : ∀ p ∈ l, ok p.1
/-- a map of the call's own -/
def mpc {κ : Type} (f : κ → Value) (ok : κ → Prop) (b : Nat) (l : List (κ × Value)) : Ck := ⟨(· = b), fun w => ∃ es clock, w.heap[b]? = some (.map es clock) ∧ MapIs f ok es l, fun w w' h ⟨es, c, h1, h2⟩ => ⟨es, c, (h b rfl).trans h1, h2⟩⟩
section
variable {κ : Type} {f : κ → Value} {ok : κ → Prop} {es : Array MapEntry} {l : List (κ × Value)} {P : Program} {k : TypeId}
theorem MapIs.get (h : MapIs f ok es l) {j : Nat} {e : MapEntry} (he : es[j]? = some e) : ∃ x, l[j]? = some (x, e.val) ∧ f x = e.key := by
  have h1 : (es.toList.map (fun e => (e.key, e.val)))[j]? = some (e.key, e.val) := by rw [List.getElem?_map, Array.getElem?_toList, he]; rfl
  rw [h.eq, List.getElem?_map] at h1
  obtain ⟨p, hp, e2⟩ := Option.map_eq_some_iff.1 h1
  injection e2 with e3 e4
  exact ⟨p.1, by rw [hp, ← e4], e3⟩
theorem MapIs.mem (h : MapIs f ok es l) {e : MapEntry} (he : e ∈ es.toList) : ∃ x, (x, e.val) ∈ l ∧ f x = e.key := by
  obtain ⟨j, hj⟩ := List.getElem?_of_mem he
  obtain ⟨x, h1, h2⟩ := h.get (j := j) (by rw [← Array.getElem?_toList]; exact hj)
  exact ⟨x, List.mem_of_getElem? h1, h2⟩
theorem MapIs.back (h : MapIs f ok es l) {p : κ × Value} (hp : p ∈ l) : ∃ e ∈ es.toList, f p.1 = e.key ∧ p.2 = e.val := by
  have : (f p.1, p.2) ∈ l.map fun p => (f p.1, p.2) := List.mem_map.2 ⟨p, hp, rfl⟩
  rw [← h.eq] at this
  obtain ⟨e, he, e1⟩ := List.mem_map.1 this
  injection e1 with e2 e3
  exact ⟨e, he, e2.symm, e3.symm⟩
theorem MapIs.nil : MapIs f ok #[] [] := ⟨rfl, by simp, by simp⟩
theorem MapIs.find (K : KeyF P k f ok) (h : MapIs f ok es l) {x : κ} (hx : ok x) (w : World) :
    ((Instr.findKey k (f x) es.toList).run P w = .ok none w ∧ (∀ p ∈ l, p.1 ≠ x)) ∨ ∃ j e, (Instr.findKey k (f x) es.toList).run P w = .ok (some (j, e.val)) w ∧ es[j]? = some e ∧ e.key = f x ∧ l[j]? = some (x, e.val) := by
  obtain ⟨lx, hlx⟩ := K.is x hx
  rcases K.keyed.find w hlx es.toList (fun e he => by
    obtain ⟨y, hy, e1⟩ := h.mem he
    rw [← e1]
    exact K.is y (h.ok _ hy)) with ⟨h1, h2⟩ | ⟨j, e, h1, h2, h3⟩
  · exact .inl ⟨h1, fun p hp e1 => by
      obtain ⟨e, he, e2, _⟩ := h.back hp
      exact h2 e he (by rw [← e2, e1])⟩
  rw [Array.getElem?_toList] at h2
  obtain ⟨y, hy, e1⟩ := h.get h2
  have : y = x := K.inj _ _ (e1.trans h3)
  subst this
  exact .inr ⟨j, e, h1, h2, h3, hy⟩
variable [DecidableEq κ]
theorem run_mapGet {t e : TypeId} {w : World} {b : Nat} {clock : Nat} (K : KeyF P k f ok) (h : MapIs f ok es l) (hb : w.heap[b]? = some (.map es clock)) (ht : P.underlying t = some (.map k e)) {z : Value} (hz : (zeroValue e).run P w = .ok z w) {x : κ} (hx : ok x) (c : Bool) :
    (Instr.lookup t (.map (some b)) (f x) c).run P w = .ok (if c then .tuple #[(mget l x).getD z, .bool (mget l x).isSome] else (mget l x).getD z) w := by
  obtain ⟨lx, hlx⟩ := K.is x hx
  rcases h.find K hx w with ⟨h1, h2⟩ | ⟨j, e0, h1, h2, h3, h4⟩
  · rw [mget_none h2]
    simp [Instr.lookup, run_underlying ht, MapKept.run_getObj_map hb, K.keyed.check w _ hlx, h1, hz, Result.andThen]
  rw [mget_at h.nodup h4]
  simp [Instr.lookup, run_underlying ht, MapKept.run_getObj_map hb, K.keyed.check w _ hlx, h1, Result.andThen]
theorem run_mapSet {t e : TypeId} {w : World} {b : Nat} {clock : Nat} (K : KeyF P k f ok) (h : MapIs f ok es l) (hb : w.heap[b]? = some (.map es clock)) (ht : P.underlying t = some (.map k e)) {x : κ} (hx : ok x) (v : Value) :
    ∃ es' clock', (Instr.mapUpdate t (.map (some b)) (f x) v).run P w = .ok () (w.putObj b (.map es' clock')) ∧ MapIs f ok es' (mset l x v) := by
  obtain ⟨lx, hlx⟩ := K.is x hx
  rcases h.find K hx w with ⟨h1, h2⟩ | ⟨j, e0, h1, h2, h3, h4⟩
  · refine ⟨es.push ⟨f x, v, clock⟩, clock + 1, ?_, ?_, mset_nodup h.nodup x v, mset_ok h.ok hx v⟩
    · simp [Instr.mapUpdate, run_underlying ht, MapKept.run_getObj_map hb, K.keyed.check w false hlx, h1, MapKept.run_setObj_map _ hb, Result.andThen, World.putObj]
    rw [mset_new h2, Array.toList_push, List.map_append, List.map_append, h.eq]
    rfl
  have hst := K.keyed.stays w hlx
  refine ⟨es.modify j fun e => { e with key := f x, val := v }, clock, ?_, ?_, mset_nodup h.nodup x v, mset_ok h.ok hx v⟩
  · simp [Instr.mapUpdate, run_underlying ht, MapKept.run_getObj_map hb, K.keyed.check w false hlx, h1, h2, h3, hst, MapKept.run_setObj_map _ hb, Result.andThen, World.putObj]
  rw [mset_at h.nodup h4]
  apply List.ext_getElem?
  intro q
  rw [List.getElem?_map, List.getElem?_map, Array.getElem?_toList, Array.getElem?_modify]
  by_cases hq : j = q
  · subst hq
    have hl : j < l.length := (List.getElem?_eq_some_iff.1 h4).1
    rw [if_pos rfl, h2, List.getElem?_set_self hl]
    rfl
  rw [if_neg hq, List.getElem?_set_ne hq]
  have := congrArg (·[q]?) h.eq
  simp only [List.getElem?_map, Array.getElem?_toList] at this
  exact this
end
section
variable {P : Program} {n : Nat} {w0 : World} {S : Nat → Prop} {l : Fr} {m : List Ck} {Q : Exit → Act → World → Prop} {K : Act → World → Prop}
variable {dst : Option Tmp} {ty : TypeId} {pos : String} {after : Array Edge} {g : Option (Nat × Bool)}
/-- a map is made -/
theorem G.mapNew {κ : Type} (f : κ → Value) (ok : κ → Prop) {t d : Nat} (hn : Nat.blt d n = true) (h : ∀ b, G n w0 S ((d, .map (some b)) :: l) (mpc f ok b [] :: m) K) : G n w0 S l m (fun a w => Oper.wp P ⟨some d, .makeMap t none, ty, pos, after, g⟩ a w K Q) := G.eff rfl hn fun a w ha hw => by
  have hw' := hw.allocO (.map #[] 0)
  refine ⟨.map (some w.heap.size), w.alloc (.map #[] 0), mpc f ok w.heap.size [] :: m, run_v (run_makeMap t w), ?_, h _⟩
  refine ⟨hw'.chg, fun c hc => ?_, fun c hc b hb => ?_, ?_⟩
  · rcases List.mem_cons.1 hc with rfl | hc
    · have : (w.alloc (.map #[] 0)).heap[w.heap.size]? = some (.map #[] 0) := hw'.holds _ (List.mem_cons_self ..)
      exact ⟨#[], 0, this, MapIs.nil⟩
    exact hw'.holds c (List.mem_cons_of_mem _ hc)
  · rcases List.mem_cons.1 hc with rfl | hc
    · exact hw'.own _ (List.mem_cons_self ..) b hb
    exact hw'.own c (List.mem_cons_of_mem _ hc) b hb
  have hd := List.pairwise_cons.1 hw'.dis
  exact List.pairwise_cons.2 ⟨fun c hc b hb => hd.1 c hc b hb, hd.2⟩
theorem Hp.mapPut {κ : Type} {f : κ → Value} {ok : κ → Prop} {w : World} {b : Nat} {es es' : Array MapEntry} {clock clock' : Nat} {xs xs' : List (κ × Value)} {q : List Ck} (hw : Hp w0 S w (mpc f ok b xs :: q)) (hb : w.heap[b]? = some (.map es clock)) (h : MapIs f ok es' xs') : Hp w0 S (w.putObj b (.map es' clock')) (mpc f ok b xs' :: q) := by
  have hd := List.pairwise_cons.1 hw.dis
  have h1 : Hp w0 S w (obc b (.map es clock) :: q) := ⟨hw.chg, fun c hc => by
    rcases List.mem_cons.1 hc with rfl | hc
    · exact hb
    · exact hw.holds c (List.mem_cons_of_mem _ hc), fun c hc i hi => by
    rcases List.mem_cons.1 hc with rfl | hc
    · exact hw.own _ (List.mem_cons_self ..) i hi
    exact hw.own c (List.mem_cons_of_mem _ hc) i hi, List.pairwise_cons.2 ⟨fun c hc i hi => hd.1 c hc i hi, hd.2⟩⟩
  have h2 := h1.putO (.map es' clock')
  have hd2 := List.pairwise_cons.1 h2.dis
  refine ⟨h2.chg, fun c hc => ?_, fun c hc i hi => ?_, List.pairwise_cons.2 ⟨fun c hc i hi => hd2.1 c hc i hi, hd2.2⟩⟩
  · rcases List.mem_cons.1 hc with rfl | hc
    · exact ⟨es', clock', h2.holds _ (List.mem_cons_self ..), h⟩
    exact h2.holds c (List.mem_cons_of_mem _ hc)
  rcases List.mem_cons.1 hc with rfl | hc
  · exact h2.own _ (List.mem_cons_self ..) i hi
  exact h2.own c (List.mem_cons_of_mem _ hc) i hi
/-- a map of the call's own is written -/
theorem G.mapSet {κ : Type} [DecidableEq κ] {f : κ → Value} {ok : κ → Prop} {t k e b : Nat} {xm xk xv : Operand} {x : κ} {v : Value} {xs : List (κ × Value)} {r : List Ck} (Kf : KeyF P k f ok) (ht : P.underlying t = some (.map k e)) (hm : ev l xm = some (.map (some b))) (hk : ev l xk = some (f x)) (hv : ev l xv = some v) (hx : ok x) (hs : Sel m (mpc f ok b xs) r)
    (h : G n w0 S l (mpc f ok b (mset xs x v) :: r) K) : G n w0 S l m (fun a w => Oper.wp P ⟨none, .mapUpdate t xm xk xv, ty, pos, after, g⟩ a w K Q) := G.act rfl fun a w ha hw => by
  have hw' := hw.sel hs
  obtain ⟨es, clock, hb, hi⟩ : ∃ es clock, w.heap[b]? = some (.map es clock) ∧ MapIs f ok es xs := hw'.holds _ (List.mem_cons_self ..)
  obtain ⟨es', clock', hr, hi'⟩ := run_mapSet Kf hi hb ht hx v
  refine ⟨_, _, ?_, hw'.mapPut (clock' := clock') hb hi', h⟩
  have e1 := ha.eval hm
  have e2 := ha.eval hk
  have e3 := ha.eval hv
  show (execOp a.eval _).run P w = _
  simp only [execOp, e1, e2, e3]
  exact run_u hr
/-- .. and read -/
theorem pv_mapGet {κ : Type} [DecidableEq κ] {f : κ → Value} {ok : κ → Prop} {t k e b : Nat} {xm xk : Operand} {c : Bool} {x : κ} {z : Value} {xs : List (κ × Value)} (Kf : KeyF P k f ok) (ht : P.underlying t = some (.map k e)) (hz : ∀ w, (zeroValue e).run P w = .ok z w) (hm : ev l xm = some (.map (some b))) (hk : ev l xk = some (f x)) (hx : ok x)
    (hs : ∀ w, Hp w0 S w m → (mpc f ok b xs).φ w) : PV P n w0 S l m ⟨dst, .lookup t xm xk c, ty, pos, after, g⟩ (if c then .tuple #[(mget xs x).getD z, .bool (mget xs x).isSome] else (mget xs x).getD z) := fun a w ha hw => by
  obtain ⟨es, clock, hb, hi⟩ := hs w hw
  have e1 := ha.eval hm
  have e2 := ha.eval hk
  show (execOp a.eval _).run P w = _
  simp only [execOp, e1, e2]
  exact run_v (run_mapGet Kf hi hb ht (hz w) hx c)
theorem sel_map {κ : Type} {f : κ → Value} {ok : κ → Prop} {b : Nat} {xs : List (κ × Value)} {r : List Ck} (h : Sel m (mpc f ok b xs) r) : ∀ w, Hp w0 S w m → (mpc f ok b xs).φ w := fun w hw => hw.holds _ h.mem
end
end Go.Proofs.YtbfpbibkklfnfaaGreat

set_option linter.unusedVariables false
set_option linter.unusedSimpArgs false
namespace Go.Proofs.YtbfpbibkklfnfaaGreat
open Go.RowKit
/-- an item -/
structure It where
  path : List UInt8
  kind : Int
  mode : Int
  size : Int
  to : List UInt8
  ids : List (List UInt8)
/-- .. and the value of its IDs' slice -/
abbrev IT := It × Value
def itC (x : IT) : List Value := [vStr x.1.path, vInt x.1.kind, vInt x.1.mode, vInt x.1.size, vStr x.1.to, x.2]
theorem itC_len (x : IT) : (itC x).length = 6 := rfl
def ItOk (e : It) : Prop := I64 e.kind ∧ I64 e.mode ∧ I64 e.size ∧ e.path.length ≤ 140737488355328 ∧ e.to.length ≤ 140737488355328 ∧ e.ids.length ≤ 140737488355328
def rIT : Rdr IT where
  sz := 6
  R := fun Ps w b o x => Ps b ∧ w.rangeAt b o (itC x) ∧ IsSl rID Ps w x.2 x.1.ids ∧ ItOk x.1
  loc := fun h ⟨h1, h2, h3, h4⟩ => ⟨h1, rangeAt_loc (h _ h1) h2, h3.loc h, h4⟩
  mono := fun h ⟨h1, h2, h3, h4⟩ => ⟨h _ h1, h2, h3.mono h, h4⟩
def its (xs : List IT) : List It := xs.map (·.1)
theorem its_length (xs : List IT) : (its xs).length = xs.length := List.length_map ..
theorem its_get {xs : List IT} {i : Nat} (h : i < xs.length) : (its xs)[i]'(by rw [its_length]; exact h) = xs[i].1 := List.getElem_map ..
theorem it_eq {a b : It} : a = b ↔ a.path = b.path ∧ a.kind = b.kind ∧ a.mode = b.mode ∧ a.size = b.size ∧ a.to = b.to ∧ a.ids = b.ids := by
  cases a
  cases b
  simp
instance : DecidableEq It := fun a b => decidable_of_iff (a.path = b.path ∧ a.kind = b.kind ∧ a.mode = b.mode ∧ a.size = b.size ∧ a.to = b.to ∧ a.ids = b.ids) it_eq.symm
/-- a chunk: its name, its bytes, the value of its bytes' slice -/
abbrev CT := (List UInt8 × List UInt8) × Value
def pad16 (l : List UInt8) : List UInt8 := (l ++ List.replicate 16 0).take 16
theorem pad16_len (l : List UInt8) : (pad16 l).length = 16 := by
  unfold pad16
  rw [List.length_take, List.length_append, List.length_replicate]
  omega
theorem pad16_eq {l : List UInt8} (h : l.length = 16) : pad16 l = l := List.take_left' h
def chC (x : CT) : List Value := (pad16 x.1.1).map vByte ++ [x.2]
theorem chC_len (x : CT) : (chC x).length = 17 := by
  unfold chC
  rw [List.length_append, List.length_map, pad16_len]
  rfl
def rCT : Rdr CT where
  sz := 17
  R := fun Ps w b o x => Ps b ∧ w.rangeAt b o (chC x) ∧ IsSl rByte Ps w x.2 x.1.2 ∧ x.1.1.length = 16 ∧ x.1.2.length ≤ 140737488355328
  loc := fun h ⟨h1, h2, h3, h4⟩ => ⟨h1, rangeAt_loc (h _ h1) h2, h3.loc h, h4⟩
  mono := fun h ⟨h1, h2, h3, h4⟩ => ⟨h _ h1, h2, h3.mono h, h4⟩
def cks (xs : List CT) : List (List UInt8 × List UInt8) := xs.map (·.1)
theorem map1_ne {α β γ : Type} {xs : List (α × β)} {ys : List (α × γ)} {i : Nat} (h1 : i < xs.length) (h2 : i < ys.length) (h : xs[i].1 ≠ ys[i].1) : xs.map (·.1) ≠ ys.map (·.1) := fun e => h (by
  have e1 : (xs.map (·.1))[i]? = (ys.map (·.1))[i]? := by rw [e]
  rw [List.getElem?_map, List.getElem?_map, List.getElem?_eq_getElem h1, List.getElem?_eq_getElem h2] at e1
  exact Option.some.inj e1)
theorem map1_eq {α β γ : Type} {xs : List (α × β)} {ys : List (α × γ)} (hl : xs.length = ys.length) (h : ∀ q (h1 : q < xs.length), xs[q].1 = (ys[q]'(by omega)).1) : xs.map (·.1) = ys.map (·.1) := by
  apply List.ext_getElem (by simpa using hl)
  intro q h1 h2
  rw [List.getElem_map, List.getElem_map]
  exact h q (by simpa using h1)
/-- a manifest's numbers -/
structure Mh where
  c : Int
  k : Int
  n : Int
  t : Int
theorem mh_eq {a b : Mh} : a = b ↔ a.c = b.c ∧ a.k = b.k ∧ a.n = b.n ∧ a.t = b.t := by
  cases a
  cases b
  simp
instance : DecidableEq Mh := fun a b => decidable_of_iff (a.c = b.c ∧ a.k = b.k ∧ a.n = b.n ∧ a.t = b.t) mh_eq.symm
/-- the IDs of items -/
def datI (e : TypeId) (xs : List IT) : Ck := star (xs.map fun x => own e 16 x.2 x.1.ids.length (flatI x.1.ids))
/-- the bytes of chunks -/
def datD (e : TypeId) (xs : List CT) : Ck := star (xs.map fun x => ownB e x.2 x.1.2)
section
variable {P : Program} {n : Nat} {w0 : World} {S : Nat → Prop} {l : Fr} {m : List Ck} {K : Act → World → Prop}
theorem Ro.itRng {Ps : Nat → Prop} {b o : Nat} {x : IT} (h : Ro w0 S (elc rIT Ps b o x)) : Ro w0 S (rng b o [.string (sB x.1.path), .int .i64 x.1.kind, .int .i64 x.1.mode, .int .i64 x.1.size, .string (sB x.1.to), x.2]) := ⟨h.1.2.1, fun k hk => h.2 k (by obtain rfl : k = b := hk; exact h.1.1)⟩
theorem Ro.itIds {Ps : Nat → Prop} {b o : Nat} {x : IT} (h : Ro w0 S (elc rIT Ps b o x)) : Ro w0 S (slc rID Ps x.2 x.1.ids) := ⟨h.1.2.2.1, h.2⟩
theorem Ro.itOk {Ps : Nat → Prop} {b o : Nat} {x : IT} (h : Ro w0 S (elc rIT Ps b o x)) : ItOk x.1 := h.1.2.2.2
theorem Ro.ckRng {Ps : Nat → Prop} {b o : Nat} {x : CT} (h : Ro w0 S (elc rCT Ps b o x)) : Ro w0 S (rng b o (chC x)) := ⟨h.1.2.1, fun k hk => h.2 k (by obtain rfl : k = b := hk; exact h.1.1)⟩
theorem Ro.ckDat {Ps : Nat → Prop} {b o : Nat} {x : CT} (h : Ro w0 S (elc rCT Ps b o x)) : Ro w0 S (slc rByte Ps x.2 x.1.2) := ⟨h.1.2.2.1, h.2⟩
theorem Ro.ckID {Ps : Nat → Prop} {b o : Nat} {x : CT} (h : Ro w0 S (elc rCT Ps b o x)) : x.1.1.length = 16 := h.1.2.2.2.1
theorem Ro.ckLen {Ps : Nat → Prop} {b o : Nat} {x : CT} (h : Ro w0 S (elc rCT Ps b o x)) : x.1.2.length ≤ 140737488355328 := h.1.2.2.2.2
theorem Ro.one1I {Ps : Nat → Prop} {v : Value} {a : List (List UInt8)} (h : Ro w0 S (slc rID Ps v a)) : v.oneCell' = true := by
  obtain ⟨ad, cap, rfl⟩ := Ro.slv h
  rfl
theorem itC_one {x : IT} (h : x.2.oneCell' = true) : ∀ u ∈ itC x, u.oneCell' = true := fun u hu => by
  simp only [itC, List.mem_cons, List.not_mem_nil, or_false] at hu
  rcases hu with rfl | rfl | rfl | rfl | rfl | rfl
  · rfl
  · rfl
  · rfl
  · rfl
  · rfl
  exact h
theorem chC_one {x : CT} (h : x.2.oneCell' = true) : ∀ u ∈ chC x, u.oneCell' = true := fun u hu => by
  rcases List.mem_append.1 hu with hu | hu
  · exact vByte_one _ u hu
  obtain rfl : u = x.2 := by simpa using hu
  exact h
theorem Ro.allI {b o : Nat} {Ps : Nat → Prop} {xs : List IT} (hel : ∀ i (hi : i < xs.length), Ro w0 S (elc rIT Ps b (o + i * 6) xs[i])) : ∀ x ∈ xs, ItOk x.1 ∧ Go.Proofs.YtbfpbibkklfnfaaGreat.all16 x.1.ids ∧ x.2.oneCell' = true := fun x hx => by
  obtain ⟨i, hi, rfl⟩ := List.getElem_of_mem hx
  exact ⟨Ro.itOk (hel i hi), Ro.all16 (Ro.itIds (hel i hi)), Ro.one1I (Ro.itIds (hel i hi))⟩
theorem Ro.allCk {b o : Nat} {Ps : Nat → Prop} {xs : List CT} (hel : ∀ i (hi : i < xs.length), Ro w0 S (elc rCT Ps b (o + i * 17) xs[i])) : ∀ x ∈ xs, x.1.1.length = 16 ∧ x.1.2.length ≤ 140737488355328 ∧ x.2.oneCell' = true := fun x hx => by
  obtain ⟨i, hi, rfl⟩ := List.getElem_of_mem hx
  exact ⟨Ro.ckID (hel i hi), Ro.ckLen (hel i hi), Ro.one1 (Ro.ckDat (hel i hi))⟩
/-- one more of what lies in a star -/
theorem G.starNil (h : G n w0 S l (star [] :: m) K) : G n w0 S l m K := G.mem (fun w hw => Hp.star (m := []) hw) h
theorem G.starSnoc {α : Type} {f : α → Ck} {ys : List α} {x : α} {c : Ck} {r r' : List Ck} (hc : c = f x) (h1 : Sel m (star (ys.map f)) r) (h2 : Sel r c r') (h : G n w0 S l (star ((ys ++ [x]).map f) :: r') K) : G n w0 S l m K := G.mem (fun w hw => by
  subst hc
  have h3 := Hp.unstar (hw.sel h1)
  have p : (ys.map f ++ r).Perm (((ys ++ [x]).map f) ++ r') := by
    rw [List.map_append, List.append_assoc]
    exact List.Perm.append_left _ h2.perm
  exact Hp.star (h3.perm p)) h
theorem G.starCons {α : Type} {f : α → Ck} {x : α} {xs : List α} {r : List Ck} (h1 : Sel m (star ((x :: xs).map f)) r) (h : G n w0 S l (f x :: star (xs.map f) :: r) K) : G n w0 S l m K := G.mem (fun w hw => by
  have h2 : Hp w0 S w ((f x :: xs.map f) ++ r) := Hp.unstar (hw.sel h1)
  have h3 : Hp w0 S w (xs.map f ++ (f x :: r)) := h2.perm (by
    rw [List.cons_append]
    exact List.perm_middle.symm)
  exact (Hp.star h3).perm (List.Perm.swap ..)) h
theorem datI_sl {w : World} {e : TypeId} {xs : List IT} (h : (datI e xs).φ w) (h16 : ∀ x ∈ xs, all16 x.1.ids) : ∀ x ∈ xs, IsSl rID (datI e xs).S w x.2 x.1.ids := fun x hx => by
  have h1 : (own e 16 x.2 x.1.ids.length (flatI x.1.ids)).φ w := h.1 _ (List.mem_map.2 ⟨x, hx, rfl⟩)
  exact (own_isI h1 (h16 x hx)).mono fun k hk => ⟨_, List.mem_map.2 ⟨x, hx, rfl⟩, hk⟩
theorem datD_sl {w : World} {e : TypeId} {xs : List CT} (h : (datD e xs).φ w) : ∀ x ∈ xs, IsSl rByte (datD e xs).S w x.2 x.1.2 := fun x hx => by
  have h1 : (ownB e x.2 x.1.2).φ w := h.1 _ (List.mem_map.2 ⟨x, hx, rfl⟩)
  exact (own_isSl' (p := fun _ => True) (OwnB.own h1) rfl (fun _ _ => trivial)).mono fun k hk => ⟨_, List.mem_map.2 ⟨x, hx, rfl⟩, hk⟩
/-- rows of the call's own are read -/
theorem rows_sl {α : Type} {f : α → List Value} {k : Nat} {E : Rdr α} (hf : ∀ x, (f x).length = k) (hE : E.sz = k) {e : TypeId} {v : Value} {xs : List α} {w : World} {Ps : Nat → Prop} (h : w.ownsRow 0 e k v xs.length (xs.flatMap f)) (hP : ∀ b, v.ownBlock = some b → Ps b)
    (hx : ∀ b o x, x ∈ xs → Ps b → w.rangeAt b o (f x) → E.R Ps w b o x) : IsSl E Ps w v xs := by
  obtain ⟨ad, cap, b, hv, had, hnil, hnw⟩ := own_news h
  obtain ⟨h1, h2⟩ := h
  have hb : xs.length ≤ cap ∧ cap ≤ 9223372036854775807 := by
    rcases h2 with ⟨rfl, h0⟩ | ⟨g, cap', cur, rfl, _, _, hc, hm, _⟩
    · injection hv with e1 e2 e3
      subst e3
      omega
    injection hv with e1 e2 e3
    subst e3
    exact ⟨hc, by unfold maxLen at hm; omega⟩
  refine ⟨ad, cap, b, 0, hv, hb.1, hb.2, hnil, had, fun i hi => hx _ _ _ (List.getElem_mem hi) (hP b ?_) fun j u hj => ?_⟩
  · rw [hv, had (by omega)]
    rfl
  have hjk : j < k := by
    have := (List.getElem?_eq_some_iff.1 hj).1
    rwa [hf] at this
  have := hnw (i * k + j) u (by rw [flatMap_get f k hf xs i j hi hjk]; exact hj)
  rw [hE, show 0 + i * k + j = 0 + (i * k + j) from by omega]
  exact this
/-- items of the call's own may be read -/
theorem may_items {e e2 : TypeId} {v : Value} {xs : List IT} {r r' : List Ck} (h : Sel m (own e 6 v xs.length (xs.flatMap itC)) r) (h' : Sel m (datI e2 xs) r') (hok : ∀ x ∈ xs, ItOk x.1 ∧ all16 x.1.ids) : May w0 S m (slc rIT (fun b => v.ownBlock = some b ∨ (datI e2 xs).S b) v xs) :=
  .mix (fun w hw => rows_sl itC_len rfl (hw.holds _ h.mem) (fun b hb => .inl hb) fun b o x hx hP hr => ⟨hP, hr, (datI_sl (hw.holds _ h'.mem) (fun x hx => (hok x hx).2) x hx).mono fun k hk => .inr hk, (hok x hx).1⟩) fun b hb => .inr (by
    rcases hb with hb | hb
    · exact ⟨_, h.mem, hb⟩
    exact ⟨_, h'.mem, hb⟩)
theorem may_chunks {e e2 : TypeId} {v : Value} {xs : List CT} {r r' : List Ck} (h : Sel m (own e 17 v xs.length (xs.flatMap chC)) r) (h' : Sel m (datD e2 xs) r') (hok : ∀ x ∈ xs, x.1.1.length = 16 ∧ x.1.2.length ≤ 140737488355328) : May w0 S m (slc rCT (fun b => v.ownBlock = some b ∨ (datD e2 xs).S b) v xs) :=
  .mix (fun w hw => rows_sl chC_len rfl (hw.holds _ h.mem) (fun b hb => .inl hb) fun b o x hx hP hr => ⟨hP, hr, (datD_sl (hw.holds _ h'.mem) x hx).mono fun k hk => .inr hk, (hok x hx).1, (hok x hx).2⟩) fun b hb => .inr (by
    rcases hb with hb | hb
    · exact ⟨_, h.mem, hb⟩
    exact ⟨_, h'.mem, hb⟩)
end
theorem chC_id {x : CT} (h : x.1.1.length = 16) : ((chC x).drop 0).take 16 = x.1.1.map vByte := by
  unfold chC
  rw [List.drop_zero, pad16_eq h]
  exact List.take_left' (by rw [List.length_map]; exact h)
theorem chC_dat (x : CT) : (chC x)[16]? = some x.2 := by
  unfold chC
  rw [List.getElem?_append_right (by rw [List.length_map, pad16_len]; exact Nat.le_refl _), List.length_map, pad16_len]
  rfl
theorem Tryz.infoIt : (Tryz.prog.info? 80).map (fun i => (i.zero.map (·.cells.size), i.size, i.bytes)) = some (some 6, 6, 80) := by kernel_rfl
theorem Tryz.infoCk : (Tryz.prog.info? 71).map (fun i => (i.zero.map (·.cells.size), i.size, i.bytes)) = some (some 17, 17, 40) := by kernel_rfl
end Go.Proofs.YtbfpbibkklfnfaaGreat

set_option linter.unusedVariables false
set_option linter.unusedSimpArgs false
namespace Go.Proofs.YtbfpbibkklfnfaaGreat
open Go.RowKit
theorem neq_list (a b : List UInt8) : Value.bool (!(decide (a = b))) = .bool (decide (a ≠ b)) := by
  congr 1
  rw [Bool.eq_iff_iff]
  simp
set_option maxRecDepth 20000 in
set_option maxHeartbeats 4000000 in
theorem sameM_tr {Ps Pu : Nat → Prop} (a b : Mh) (v u : Value) (xs ys : List IT) : Tr Tryz.prog 13 #[.agg #[.int .i64 a.c, .int .i64 a.k, .int .i64 a.n, .int .i64 a.t, v], .agg #[.int .i64 b.c, .int .i64 b.k, .int .i64 b.n, .int .i64 b.t, u]] [slc rIT Ps v xs, slc rIT Pu u ys] [] (T0 (.bool (decide (a = b ∧ its xs = its ys)))) := by
  refine Tr.of (l := [(0, .agg #[.int .i64 a.c, .int .i64 a.k, .int .i64 a.n, .int .i64 a.t, v]), (1, .agg #[.int .i64 b.c, .int .i64 b.k, .int .i64 b.n, .int .i64 b.t, u])]) Tryz.func13 rfl (n := 101) rfl (.cons rfl (.cons rfl .nil)) (fun w0 hro => ?_)
  obtain ⟨hv0, hu0⟩ := ro2 hro
  have hv := hv0
  have hv' := hv
  obtain ⟨av, cv, bv, fv, rfl, hcapv, hmaxv, hnilv, hadv, helv⟩ := Ro.open hv
  have hu := hu0
  have hu' := hu
  obtain ⟨au, cu, bu, fu, rfl, hcapu, hmaxu, hnilu, hadu, helu⟩ := Ro.open hu
  have hmh := mh_eq (a := a) (b := b)
  refine G.seq (G.region ?_)
  refine G.op rfl (G.box rfl rfl (cs := [_, _, _, _, _]) rfl ?_)
  intro b2
  refine G.op rfl (G.box rfl rfl (cs := [_, _, _, _, _]) rfl ?_)
  intro b3
  refine G.asT rfl rfl ?_
  refine G.nil ?_
  refine G.nThen (G.seq (G.seq ?_))
  refine G.cutK (X := Unit) (ts := [2, 3, 4]) (p := []) (fun _ => True) (fun _ => [(42, .bool (decide (¬ (a = b ∧ xs.length = ys.length))))]) (fun _ => []) (.cons rfl (.cons rfl (.cons rfl .nil))) subT (.cons .nil) apT ?_ ?_
  · refine G.region ?_
    refine G.op rfl (G.val rfl rfl (pv_fieldAddrK (sz := 0) (k := 0) Tryz.underlying28 rfl kr rfl rfl) ?_)
    refine G.op rfl (G.val rfl rfl (pv_load Tryz.underlying3 rfl rfl celT) ?_)
    refine G.op rfl (G.val rfl rfl (pv_fieldAddrK (sz := 0) (k := 0) Tryz.underlying28 rfl kr rfl rfl) ?_)
    refine G.op rfl (G.val rfl rfl (pv_load Tryz.underlying3 rfl rfl celT) ?_)
    refine G.op rfl (G.val rfl rfl (pv_neq rfl rfl) ?_)
    refine G.mvT rfl rfl ?_
    refine G.partP (t := 13) rfl (fun h13 => ?_) (fun h13 => ?_)
    · refine G.pass rfl rfl rfl rfl rfl rfl ?_
      refine G.pass rfl rfl rfl rfl rfl rfl ?_
      refine G.pass rfl rfl rfl rfl rfl rfl ?_
      refine G.pass rfl rfl rfl rfl rfl rfl ?_
      refine G.pass rfl rfl rfl rfl rfl rfl ?_
      refine G.op rfl (G.val rfl rfl (pv_pick rfl rfl) ?_)
      refine G.mvT rfl rfl ?_
      refine G.pass rfl rfl rfl rfl rfl rfl ?_
      refine G.pass rfl rfl rfl rfl rfl rfl ?_
      refine G.pass rfl rfl rfl rfl rfl rfl ?_
      refine G.pass rfl rfl rfl rfl rfl rfl ?_
      refine G.pass rfl rfl rfl rfl rfl rfl ?_
      refine G.op rfl (G.val rfl rfl (pv_pick rfl rfl) ?_)
      refine G.mvT rfl rfl ?_
      refine G.pass rfl rfl rfl rfl rfl rfl ?_
      refine G.pass rfl rfl rfl rfl rfl rfl ?_
      refine G.pass rfl rfl rfl rfl rfl rfl ?_
      refine G.pass rfl rfl rfl rfl rfl rfl ?_
      refine G.pass rfl rfl rfl rfl rfl rfl ?_
      refine G.op rfl (G.val rfl rfl (pv_pick rfl rfl) ?_)
      refine G.mvT rfl rfl ?_
      refine G.pass rfl rfl rfl rfl rfl rfl ?_
      refine G.pass rfl rfl rfl rfl rfl rfl ?_
      refine G.pass rfl rfl rfl rfl rfl rfl ?_
      refine G.pass rfl rfl rfl rfl rfl rfl ?_
      refine G.pass rfl rfl rfl rfl rfl rfl ?_
      refine G.pass rfl rfl rfl rfl rfl rfl ?_
      refine G.pass rfl rfl rfl rfl rfl rfl ?_
      refine G.op rfl (G.val rfl rfl (pv_pick rfl rfl) ?_)
      refine G.nil ?_
      exact G.meet (()) trT (.consE rfl (by first | exact dec_t (fun h => by rw [hmh] at h; omega) | exact dec_e ⟨fun h k => by rw [hmh] at k; omega, fun h k => h ⟨hmh.2 ⟨by omega, by omega, by omega, by omega⟩, by omega⟩⟩) (.cons rfl (.cons rfl (.cons rfl .nil)))) subT
    refine G.want rfl rfl rfl (G.val rfl rfl (pv_fieldAddrK (sz := 0) (k := 1) Tryz.underlying28 rfl kr rfl rfl) ?_)
    refine G.want rfl rfl rfl (G.val rfl rfl (pv_load Tryz.underlying3 rfl rfl celT) ?_)
    refine G.want rfl rfl rfl (G.val rfl rfl (pv_fieldAddrK (sz := 0) (k := 1) Tryz.underlying28 rfl kr rfl rfl) ?_)
    refine G.want rfl rfl rfl (G.val rfl rfl (pv_load Tryz.underlying3 rfl rfl celT) ?_)
    refine G.want rfl rfl rfl (G.val rfl rfl (pv_neq rfl rfl) ?_)
    refine G.op rfl (G.val rfl rfl (pv_pick rfl rfl) ?_)
    refine G.mvT rfl rfl ?_
    refine G.partP (t := 20) rfl (fun h20 => ?_) (fun h20 => ?_)
    · refine G.pass rfl rfl rfl rfl rfl rfl ?_
      refine G.pass rfl rfl rfl rfl rfl rfl ?_
      refine G.pass rfl rfl rfl rfl rfl rfl ?_
      refine G.pass rfl rfl rfl rfl rfl rfl ?_
      refine G.pass rfl rfl rfl rfl rfl rfl ?_
      refine G.op rfl (G.val rfl rfl (pv_pick rfl rfl) ?_)
      refine G.mvT rfl rfl ?_
      refine G.pass rfl rfl rfl rfl rfl rfl ?_
      refine G.pass rfl rfl rfl rfl rfl rfl ?_
      refine G.pass rfl rfl rfl rfl rfl rfl ?_
      refine G.pass rfl rfl rfl rfl rfl rfl ?_
      refine G.pass rfl rfl rfl rfl rfl rfl ?_
      refine G.op rfl (G.val rfl rfl (pv_pick rfl rfl) ?_)
      refine G.mvT rfl rfl ?_
      refine G.pass rfl rfl rfl rfl rfl rfl ?_
      refine G.pass rfl rfl rfl rfl rfl rfl ?_
      refine G.pass rfl rfl rfl rfl rfl rfl ?_
      refine G.pass rfl rfl rfl rfl rfl rfl ?_
      refine G.pass rfl rfl rfl rfl rfl rfl ?_
      refine G.pass rfl rfl rfl rfl rfl rfl ?_
      refine G.pass rfl rfl rfl rfl rfl rfl ?_
      refine G.op rfl (G.val rfl rfl (pv_pick rfl rfl) ?_)
      refine G.nil ?_
      exact G.meet (()) trT (.consE rfl (by first | exact dec_t (fun h => by rw [hmh] at h; omega) | exact dec_e ⟨fun h k => by rw [hmh] at k; omega, fun h k => h ⟨hmh.2 ⟨by omega, by omega, by omega, by omega⟩, by omega⟩⟩) (.cons rfl (.cons rfl (.cons rfl .nil)))) subT
    refine G.want rfl rfl rfl (G.val rfl rfl (pv_fieldAddrK (sz := 0) (k := 2) Tryz.underlying28 rfl kr rfl rfl) ?_)
    refine G.want rfl rfl rfl (G.val rfl rfl (pv_load Tryz.underlying3 rfl rfl celT) ?_)
    refine G.want rfl rfl rfl (G.val rfl rfl (pv_fieldAddrK (sz := 0) (k := 2) Tryz.underlying28 rfl kr rfl rfl) ?_)
    refine G.want rfl rfl rfl (G.val rfl rfl (pv_load Tryz.underlying3 rfl rfl celT) ?_)
    refine G.want rfl rfl rfl (G.val rfl rfl (pv_neq rfl rfl) ?_)
    refine G.op rfl (G.val rfl rfl (pv_pick rfl rfl) ?_)
    refine G.mvT rfl rfl ?_
    refine G.partP (t := 27) rfl (fun h27 => ?_) (fun h27 => ?_)
    · refine G.pass rfl rfl rfl rfl rfl rfl ?_
      refine G.pass rfl rfl rfl rfl rfl rfl ?_
      refine G.pass rfl rfl rfl rfl rfl rfl ?_
      refine G.pass rfl rfl rfl rfl rfl rfl ?_
      refine G.pass rfl rfl rfl rfl rfl rfl ?_
      refine G.op rfl (G.val rfl rfl (pv_pick rfl rfl) ?_)
      refine G.mvT rfl rfl ?_
      refine G.pass rfl rfl rfl rfl rfl rfl ?_
      refine G.pass rfl rfl rfl rfl rfl rfl ?_
      refine G.pass rfl rfl rfl rfl rfl rfl ?_
      refine G.pass rfl rfl rfl rfl rfl rfl ?_
      refine G.pass rfl rfl rfl rfl rfl rfl ?_
      refine G.pass rfl rfl rfl rfl rfl rfl ?_
      refine G.pass rfl rfl rfl rfl rfl rfl ?_
      refine G.op rfl (G.val rfl rfl (pv_pick rfl rfl) ?_)
      refine G.nil ?_
      exact G.meet (()) trT (.consE rfl (by first | exact dec_t (fun h => by rw [hmh] at h; omega) | exact dec_e ⟨fun h k => by rw [hmh] at k; omega, fun h k => h ⟨hmh.2 ⟨by omega, by omega, by omega, by omega⟩, by omega⟩⟩) (.cons rfl (.cons rfl (.cons rfl .nil)))) subT
    refine G.want rfl rfl rfl (G.val rfl rfl (pv_fieldAddrK (sz := 0) (k := 3) Tryz.underlying28 rfl kr rfl rfl) ?_)
    refine G.want rfl rfl rfl (G.val rfl rfl (pv_load Tryz.underlying3 rfl rfl celT) ?_)
    refine G.want rfl rfl rfl (G.val rfl rfl (pv_fieldAddrK (sz := 0) (k := 3) Tryz.underlying28 rfl kr rfl rfl) ?_)
    refine G.want rfl rfl rfl (G.val rfl rfl (pv_load Tryz.underlying3 rfl rfl celT) ?_)
    refine G.want rfl rfl rfl (G.val rfl rfl (pv_neq rfl rfl) ?_)
    refine G.op rfl (G.val rfl rfl (pv_pick rfl rfl) ?_)
    refine G.mvT rfl rfl ?_
    refine G.partP (t := 34) rfl (fun h34 => ?_) (fun h34 => ?_)
    · refine G.pass rfl rfl rfl rfl rfl rfl ?_
      refine G.pass rfl rfl rfl rfl rfl rfl ?_
      refine G.pass rfl rfl rfl rfl rfl rfl ?_
      refine G.pass rfl rfl rfl rfl rfl rfl ?_
      refine G.pass rfl rfl rfl rfl rfl rfl ?_
      refine G.pass rfl rfl rfl rfl rfl rfl ?_
      refine G.pass rfl rfl rfl rfl rfl rfl ?_
      refine G.op rfl (G.val rfl rfl (pv_pick rfl rfl) ?_)
      refine G.nil ?_
      exact G.meet (()) trT (.consE rfl (by first | exact dec_t (fun h => by rw [hmh] at h; omega) | exact dec_e ⟨fun h k => by rw [hmh] at k; omega, fun h k => h ⟨hmh.2 ⟨by omega, by omega, by omega, by omega⟩, by omega⟩⟩) (.cons rfl (.cons rfl (.cons rfl .nil)))) subT
    refine G.want rfl rfl rfl (G.val rfl rfl (pv_fieldAddrK (sz := 0) (k := 4) Tryz.underlying28 rfl kr rfl rfl) ?_)
    refine G.want rfl rfl rfl (G.val rfl rfl (pv_load Tryz.underlying26 rfl rfl celT) ?_)
    refine G.want rfl rfl rfl (G.val rfl rfl (pv_lenSl Tryz.underlying26 rfl) ?_)
    refine G.want rfl rfl rfl (G.val rfl rfl (pv_fieldAddrK (sz := 0) (k := 4) Tryz.underlying28 rfl kr rfl rfl) ?_)
    refine G.want rfl rfl rfl (G.val rfl rfl (pv_load Tryz.underlying26 rfl rfl celT) ?_)
    refine G.want rfl rfl rfl (G.val rfl rfl (pv_lenSl Tryz.underlying26 rfl) ?_)
    refine G.want rfl rfl rfl (G.val rfl rfl (pv_neq rfl rfl) ?_)
    refine G.op rfl (G.val rfl rfl (pv_pick rfl rfl) ?_)
    refine G.nil ?_
    exact G.meet (()) trT (.consE rfl (by first | exact dec_t (fun h => by rw [hmh] at h; omega) | exact dec_e ⟨fun h k => by rw [hmh] at k; omega, fun h k => h ⟨hmh.2 ⟨by omega, by omega, by omega, by omega⟩, by omega⟩⟩) (.cons rfl (.cons rfl (.cons rfl .nil)))) subT
  intro _ hJ
  try dsimp only at hJ
  try dsimp only
  refine G.condP rfl (fun h42 => ?_) (fun h42 => ?_)
  · refine G.seq (G.region ?_)
    refine G.asT rfl rfl ?_
    refine G.nil ?_
    refine G.nThen ?_
    refine G.ret ?_
    refine G.rThen ?_
    exact G.done0G rfl (Rv.tmp rfl Rv.nil) (by rw [decide_eq_false (fun h => h42 ⟨h.1, by have := congrArg List.length h.2; rwa [its_length, its_length] at this⟩)]; rfl)
  obtain ⟨hab, hxy⟩ : a = b ∧ xs.length = ys.length := Decidable.of_not_not h42
  refine G.skip ?_
  refine G.nThen (G.seq (G.seq (G.region ?_)))
  refine G.asT rfl rfl ?_
  refine G.nil ?_
  refine G.nThen ?_
  refine G.block ?_
  refine G.loopK (X := Nat) (ts := [2, 3]) (fun i => i ≤ xs.length ∧ (∀ q (hq : q < xs.length), q < i → xs[q].1 = (ys[q]'(by omega)).1)) (fun i => [(5, .int .i64 (i : Int))]) (fun i => []) (fun i => xs.length - i) (x0 := 0) (.cons rfl (.cons rfl .nil)) subT (.cons .nil) apT (by first | exact trivial | ((try dsimp only) <;> exact ⟨Nat.zero_le _, fun q _ h => absurd h (by omega)⟩)) (.consE rfl veqT .nil) (fun i hJ => ?_)
  try dsimp only at hJ
  try dsimp only
  obtain ⟨hki, hJ⟩ := hJ
  have hJ0 := hJ
  refine G.seq (G.seq (G.region ?_))
  refine G.mvT rfl rfl ?_
  refine G.op rfl (G.val rfl rfl (pv_fieldAddrK (sz := 0) (k := 4) Tryz.underlying28 rfl kr rfl rfl) ?_)
  refine G.op rfl (G.val rfl rfl (pv_load Tryz.underlying26 rfl rfl celT) ?_)
  refine G.op rfl (G.val rfl rfl (pv_lenSl Tryz.underlying26 rfl) ?_)
  refine G.op rfl (G.val rfl rfl (pv_lss rfl rfl) ?_)
  refine G.nil ?_
  refine G.nThen ?_
  refine G.condP rfl (fun h47 => ?_) (fun h47 => ?_)
  · have hlt : i < xs.length := by omega
    have hlu : i < ys.length := by omega
    have hEv := helv i hlt
    have hRv := Ro.itRng hEv
    have hDv := Ro.itIds hEv
    have hOv := Ro.itOk hEv
    obtain ⟨hk1v, hk2v, hk3v, hlpv, hltv, hlnv⟩ := hOv
    have hCv := Ro.one1I hDv
    have hEu := helu i hlu
    have hRu := Ro.itRng hEu
    have hDu := Ro.itIds hEu
    have hOu := Ro.itOk hEu
    obtain ⟨hk1u, hk2u, hk3u, hlpu, hltu, hlnu⟩ := hOu
    have hCu := Ro.one1I hDu
    have he := it_eq (a := xs[i].1) (b := ys[i].1)
    refine G.skip ?_
    refine G.nThen (G.seq ?_)
    refine G.block ?_
    refine G.seq ?_
    refine G.cutK (X := Nat × Nat) (ts := [2, 3, 5]) (p := []) (fun st => True) (fun st => [(6, .pointer (some ⟨st.1, 0, none⟩)), (7, .pointer (some ⟨st.2, 0, none⟩))]) (fun st => [blk st.1 80 [.string (sB xs[i].1.path), .int .i64 xs[i].1.kind, .int .i64 xs[i].1.mode, .int .i64 xs[i].1.size, .string (sB xs[i].1.to), xs[i].2], blk st.2 80 [.string (sB ys[i].1.path), .int .i64 ys[i].1.kind, .int .i64 ys[i].1.mode, .int .i64 ys[i].1.size, .string (sB ys[i].1.to), ys[i].2]]) (.cons rfl (.cons rfl (.cons rfl .nil))) subT (.cons (.cons .nil)) apT ?_ ?_
    · refine G.drawT (nn := 14) (p := []) (rem := 16383) [0, 1, 0, 6, 8, 0, 32, 0, 192, 256, 0, 0, 3103, 8191] [0, 1, 0, 6, 8, 0, 32, 0, 192, 256, 0, 0, 1040, 2560] kr ⟨rfl, by kernel_rfl, by kernel_rfl⟩ subT kr (fun hT6 => ?_)
      refine G.takeT hT6 (i := 0) (rem' := 16382) rfl rfl rfl kr (fun _ _ _ h => h) rfl (pv_fieldAddrK (sz := 0) (k := 4) Tryz.underlying28 rfl kr rfl rfl) subT ?_
      refine G.takeT hT6 (i := 2) (rem' := 16378) rfl rfl rfl kr (fun _ _ _ h => h) rfl (pv_move rfl) subT ?_
      refine G.takeT hT6 (i := 5) (rem' := 16346) rfl rfl rfl kr (fun _ _ _ h => h) rfl (pv_fieldAddrK (sz := 0) (k := 4) Tryz.underlying28 rfl kr rfl rfl) subT ?_
      refine G.takeT hT6 (i := 7) (rem' := 16218) rfl rfl rfl kr (fun _ _ _ h => h) rfl (pv_move rfl) subT ?_
      refine G.takeT hT6 (i := 1) (rem' := 16216) rfl rfl rfl kr (fun _ _ _ h => h) rfl (pv_load Tryz.underlying26 rfl rfl celT) subT ?_
      refine G.takeT hT6 (i := 3) (rem' := 16208) rfl rfl rfl kr (fun _ _ _ h => h) rfl (pv_ixSl (sz := 6) (k := i) Tryz.underlying26 kr rfl rfl (by first | with_reducible assumption | assumption | exact fun _ => rfl) (by omega) (by omega)) subT ?_
      refine G.takeT hT6 (i := 4) (rem' := 16192) rfl rfl rfl kr (fun _ _ _ h => h) rfl (pv_loadN (cs := [_, _, _, _, _, _]) Tryz.underlying80 rfl kr rfl (by first | exact blk_range (k := 6) selD (by rfl) | exact ro_rng0 (by assumption) | exact rng_range (k := 6) selD (by rfl) | exact ro_range (k := 6) (by assumption) (by rfl) | exact ro_rngR (k := 6) (by assumption) (by rfl))) subT ?_
      refine G.takeT hT6 (i := 6) (rem' := 16128) rfl rfl rfl kr (fun _ _ _ h => h) rfl (pv_load Tryz.underlying26 rfl rfl celT) subT ?_
      refine G.takeT hT6 (i := 8) (rem' := 15872) rfl rfl rfl kr (fun _ _ _ h => h) rfl (pv_ixSl (sz := 6) (k := i) Tryz.underlying26 kr rfl rfl (by first | with_reducible assumption | assumption | exact fun _ => rfl) (by omega) (by omega)) subT ?_
      refine G.takeT hT6 (i := 9) (rem' := 15360) rfl rfl rfl kr (fun _ _ _ h => h) rfl (pv_loadN (cs := [_, _, _, _, _, _]) Tryz.underlying80 rfl kr rfl (by first | exact blk_range (k := 6) selD (by rfl) | exact ro_rng0 (by assumption) | exact rng_range (k := 6) selD (by rfl) | exact ro_range (k := 6) (by assumption) (by rfl) | exact ro_rngR (k := 6) (by assumption) (by rfl))) subT ?_
      refine G.twoT hT6 (i := 10) (j := 11) (rem' := 14336) (rem'' := 13312) kr kr kr ?_ ?_
      · refine G.turnOp rfl rfl (G.alloc (z := .agg #[.string ⟨#[]⟩, .int .i64 0, .int .i64 0, .int .i64 0, .string ⟨#[]⟩, .slice none 0 0]) (cs := [.string ⟨#[]⟩, .int .i64 0, .int .i64 0, .int .i64 0, .string ⟨#[]⟩, .slice none 0 0]) rfl kr rfl ?_)
        intro b6
        refine G.back subT ?_
        refine G.oneT hT6 (i := 11) (rem' := 12288) kr kr ?_
        refine G.turnOp rfl rfl (G.alloc (z := .agg #[.string ⟨#[]⟩, .int .i64 0, .int .i64 0, .int .i64 0, .string ⟨#[]⟩, .slice none 0 0]) (cs := [.string ⟨#[]⟩, .int .i64 0, .int .i64 0, .int .i64 0, .string ⟨#[]⟩, .slice none 0 0]) rfl kr rfl ?_)
        intro b7
        refine G.back subT ?_
        refine G.oneT hT6 (i := 12) (rem' := 8192) kr kr ?_
        refine G.turnOp rfl rfl (G.storeN kr rfl rfl allT selT leT ?_)
        refine G.back subT ?_
        refine G.oneT hT6 (i := 13) (rem' := 0) kr kr ?_
        refine G.turnOp rfl rfl (G.storeN kr rfl rfl allT selT leT ?_)
        refine G.back subT ?_
        refine G.overT hT6 kr ?_
        exact G.meet ((b6, b7)) trT (.consE rfl veqT (.consE rfl veqT (.cons rfl (.cons rfl (.cons rfl .nil))))) subT
      refine G.turnOp rfl rfl (G.alloc (z := .agg #[.string ⟨#[]⟩, .int .i64 0, .int .i64 0, .int .i64 0, .string ⟨#[]⟩, .slice none 0 0]) (cs := [.string ⟨#[]⟩, .int .i64 0, .int .i64 0, .int .i64 0, .string ⟨#[]⟩, .slice none 0 0]) rfl kr rfl ?_)
      intro b7
      refine G.back subT ?_
      refine G.oneT hT6 (i := 10) (rem' := 12288) kr kr ?_
      refine G.turnOp rfl rfl (G.alloc (z := .agg #[.string ⟨#[]⟩, .int .i64 0, .int .i64 0, .int .i64 0, .string ⟨#[]⟩, .slice none 0 0]) (cs := [.string ⟨#[]⟩, .int .i64 0, .int .i64 0, .int .i64 0, .string ⟨#[]⟩, .slice none 0 0]) rfl kr rfl ?_)
      intro b6
      refine G.back subT ?_
      refine G.oneT hT6 (i := 12) (rem' := 8192) kr kr ?_
      refine G.turnOp rfl rfl (G.storeN kr rfl rfl allT selT leT ?_)
      refine G.back subT ?_
      refine G.oneT hT6 (i := 13) (rem' := 0) kr kr ?_
      refine G.turnOp rfl rfl (G.storeN kr rfl rfl allT selT leT ?_)
      refine G.back subT ?_
      refine G.overT hT6 kr ?_
      exact G.meet ((b6, b7)) trT (.consE rfl veqT (.consE rfl veqT (.cons rfl (.cons rfl (.cons rfl .nil))))) subT
    intro st hJ
    obtain ⟨p, q⟩ := st
    try dsimp only at hJ
    try dsimp only
    refine G.seq ?_
    refine G.cutK (X := Unit) (ts := [2, 3, 5]) (p := []) (fun _ => True) (fun _ => [(100, .bool (decide (xs[i].1 ≠ ys[i].1)))]) (fun _ => []) (.cons rfl (.cons rfl (.cons rfl .nil))) subT (.cons .nil) apT ?_ ?_
    · refine G.region ?_
      refine G.op rfl (G.val rfl rfl (pv_fieldAddrK (sz := 0) (k := 0) Tryz.underlying80 rfl kr rfl rfl) ?_)
      refine G.op rfl (G.val rfl rfl (pv_load Tryz.underlying9 rfl rfl celT) ?_)
      refine G.op rfl (G.val rfl rfl (pv_fieldAddrK (sz := 0) (k := 0) Tryz.underlying80 rfl kr rfl rfl) ?_)
      refine G.op rfl (G.val rfl rfl (pv_load Tryz.underlying9 rfl rfl celT) ?_)
      refine G.op rfl (G.val rfl rfl (pv_neqS rfl rfl) ?_)
      refine G.mvT rfl rfl ?_
      refine G.partP (t := 65) rfl (fun h65 => ?_) (fun h65 => ?_)
      · refine G.pass rfl rfl rfl rfl rfl rfl ?_
        refine G.pass rfl rfl rfl rfl rfl rfl ?_
        refine G.pass rfl rfl rfl rfl rfl rfl ?_
        refine G.pass rfl rfl rfl rfl rfl rfl ?_
        refine G.pass rfl rfl rfl rfl rfl rfl ?_
        refine G.op rfl (G.val rfl rfl (pv_pick rfl rfl) ?_)
        refine G.mvT rfl rfl ?_
        refine G.pass rfl rfl rfl rfl rfl rfl ?_
        refine G.pass rfl rfl rfl rfl rfl rfl ?_
        refine G.pass rfl rfl rfl rfl rfl rfl ?_
        refine G.pass rfl rfl rfl rfl rfl rfl ?_
        refine G.pass rfl rfl rfl rfl rfl rfl ?_
        refine G.op rfl (G.val rfl rfl (pv_pick rfl rfl) ?_)
        refine G.mvT rfl rfl ?_
        refine G.pass rfl rfl rfl rfl rfl rfl ?_
        refine G.pass rfl rfl rfl rfl rfl rfl ?_
        refine G.pass rfl rfl rfl rfl rfl rfl ?_
        refine G.pass rfl rfl rfl rfl rfl rfl ?_
        refine G.pass rfl rfl rfl rfl rfl rfl ?_
        refine G.op rfl (G.val rfl rfl (pv_pick rfl rfl) ?_)
        refine G.mvT rfl rfl ?_
        refine G.pass rfl rfl rfl rfl rfl rfl ?_
        refine G.pass rfl rfl rfl rfl rfl rfl ?_
        refine G.pass rfl rfl rfl rfl rfl rfl ?_
        refine G.pass rfl rfl rfl rfl rfl rfl ?_
        refine G.pass rfl rfl rfl rfl rfl rfl ?_
        refine G.op rfl (G.val rfl rfl (pv_pick rfl rfl) ?_)
        refine G.mvT rfl rfl ?_
        refine G.pass rfl rfl rfl rfl rfl rfl ?_
        refine G.pass rfl rfl rfl rfl rfl rfl ?_
        refine G.pass rfl rfl rfl rfl rfl rfl ?_
        refine G.pass rfl rfl rfl rfl rfl rfl ?_
        refine G.pass rfl rfl rfl rfl rfl rfl ?_
        refine G.pass rfl rfl rfl rfl rfl rfl ?_
        refine G.op rfl (G.val rfl rfl (pv_pick rfl rfl) ?_)
        refine G.nil ?_
        exact G.meet (()) trT (.consE rfl (by first | exact dec_t (by rw [ne_eq, he]; simp_all) | exact dec_e (by rw [ne_eq ys[i].1, he] at *; simp_all) | exact dec_e (by rw [ne_eq xs[i].1, he]; simp_all)) (.cons rfl (.cons rfl (.cons rfl .nil)))) subT
      refine G.want rfl rfl rfl (G.val rfl rfl (pv_fieldAddrK (sz := 0) (k := 1) Tryz.underlying80 rfl kr rfl rfl) ?_)
      refine G.want rfl rfl rfl (G.val rfl rfl (pv_load Tryz.underlying3 rfl rfl celT) ?_)
      refine G.want rfl rfl rfl (G.val rfl rfl (pv_fieldAddrK (sz := 0) (k := 1) Tryz.underlying80 rfl kr rfl rfl) ?_)
      refine G.want rfl rfl rfl (G.val rfl rfl (pv_load Tryz.underlying3 rfl rfl celT) ?_)
      refine G.want rfl rfl rfl (G.val rfl rfl (pv_neq rfl rfl) ?_)
      refine G.op rfl (G.val rfl rfl (pv_pick rfl rfl) ?_)
      refine G.mvT rfl rfl ?_
      refine G.partP (t := 72) rfl (fun h72 => ?_) (fun h72 => ?_)
      · refine G.pass rfl rfl rfl rfl rfl rfl ?_
        refine G.pass rfl rfl rfl rfl rfl rfl ?_
        refine G.pass rfl rfl rfl rfl rfl rfl ?_
        refine G.pass rfl rfl rfl rfl rfl rfl ?_
        refine G.pass rfl rfl rfl rfl rfl rfl ?_
        refine G.op rfl (G.val rfl rfl (pv_pick rfl rfl) ?_)
        refine G.mvT rfl rfl ?_
        refine G.pass rfl rfl rfl rfl rfl rfl ?_
        refine G.pass rfl rfl rfl rfl rfl rfl ?_
        refine G.pass rfl rfl rfl rfl rfl rfl ?_
        refine G.pass rfl rfl rfl rfl rfl rfl ?_
        refine G.pass rfl rfl rfl rfl rfl rfl ?_
        refine G.op rfl (G.val rfl rfl (pv_pick rfl rfl) ?_)
        refine G.mvT rfl rfl ?_
        refine G.pass rfl rfl rfl rfl rfl rfl ?_
        refine G.pass rfl rfl rfl rfl rfl rfl ?_
        refine G.pass rfl rfl rfl rfl rfl rfl ?_
        refine G.pass rfl rfl rfl rfl rfl rfl ?_
        refine G.pass rfl rfl rfl rfl rfl rfl ?_
        refine G.op rfl (G.val rfl rfl (pv_pick rfl rfl) ?_)
        refine G.mvT rfl rfl ?_
        refine G.pass rfl rfl rfl rfl rfl rfl ?_
        refine G.pass rfl rfl rfl rfl rfl rfl ?_
        refine G.pass rfl rfl rfl rfl rfl rfl ?_
        refine G.pass rfl rfl rfl rfl rfl rfl ?_
        refine G.pass rfl rfl rfl rfl rfl rfl ?_
        refine G.pass rfl rfl rfl rfl rfl rfl ?_
        refine G.op rfl (G.val rfl rfl (pv_pick rfl rfl) ?_)
        refine G.nil ?_
        exact G.meet (()) trT (.consE rfl (by first | exact dec_t (by rw [ne_eq, he]; simp_all) | exact dec_e (by rw [ne_eq ys[i].1, he] at *; simp_all) | exact dec_e (by rw [ne_eq xs[i].1, he]; simp_all)) (.cons rfl (.cons rfl (.cons rfl .nil)))) subT
      refine G.want rfl rfl rfl (G.val rfl rfl (pv_fieldAddrK (sz := 0) (k := 2) Tryz.underlying80 rfl kr rfl rfl) ?_)
      refine G.want rfl rfl rfl (G.val rfl rfl (pv_load Tryz.underlying3 rfl rfl celT) ?_)
      refine G.want rfl rfl rfl (G.val rfl rfl (pv_fieldAddrK (sz := 0) (k := 2) Tryz.underlying80 rfl kr rfl rfl) ?_)
      refine G.want rfl rfl rfl (G.val rfl rfl (pv_load Tryz.underlying3 rfl rfl celT) ?_)
      refine G.want rfl rfl rfl (G.val rfl rfl (pv_neq rfl rfl) ?_)
      refine G.op rfl (G.val rfl rfl (pv_pick rfl rfl) ?_)
      refine G.mvT rfl rfl ?_
      refine G.partP (t := 79) rfl (fun h79 => ?_) (fun h79 => ?_)
      · refine G.pass rfl rfl rfl rfl rfl rfl ?_
        refine G.pass rfl rfl rfl rfl rfl rfl ?_
        refine G.pass rfl rfl rfl rfl rfl rfl ?_
        refine G.pass rfl rfl rfl rfl rfl rfl ?_
        refine G.pass rfl rfl rfl rfl rfl rfl ?_
        refine G.op rfl (G.val rfl rfl (pv_pick rfl rfl) ?_)
        refine G.mvT rfl rfl ?_
        refine G.pass rfl rfl rfl rfl rfl rfl ?_
        refine G.pass rfl rfl rfl rfl rfl rfl ?_
        refine G.pass rfl rfl rfl rfl rfl rfl ?_
        refine G.pass rfl rfl rfl rfl rfl rfl ?_
        refine G.pass rfl rfl rfl rfl rfl rfl ?_
        refine G.op rfl (G.val rfl rfl (pv_pick rfl rfl) ?_)
        refine G.mvT rfl rfl ?_
        refine G.pass rfl rfl rfl rfl rfl rfl ?_
        refine G.pass rfl rfl rfl rfl rfl rfl ?_
        refine G.pass rfl rfl rfl rfl rfl rfl ?_
        refine G.pass rfl rfl rfl rfl rfl rfl ?_
        refine G.pass rfl rfl rfl rfl rfl rfl ?_
        refine G.pass rfl rfl rfl rfl rfl rfl ?_
        refine G.op rfl (G.val rfl rfl (pv_pick rfl rfl) ?_)
        refine G.nil ?_
        exact G.meet (()) trT (.consE rfl (by first | exact dec_t (by rw [ne_eq, he]; simp_all) | exact dec_e (by rw [ne_eq ys[i].1, he] at *; simp_all) | exact dec_e (by rw [ne_eq xs[i].1, he]; simp_all)) (.cons rfl (.cons rfl (.cons rfl .nil)))) subT
      refine G.want rfl rfl rfl (G.val rfl rfl (pv_fieldAddrK (sz := 0) (k := 3) Tryz.underlying80 rfl kr rfl rfl) ?_)
      refine G.want rfl rfl rfl (G.val rfl rfl (pv_load Tryz.underlying3 rfl rfl celT) ?_)
      refine G.want rfl rfl rfl (G.val rfl rfl (pv_fieldAddrK (sz := 0) (k := 3) Tryz.underlying80 rfl kr rfl rfl) ?_)
      refine G.want rfl rfl rfl (G.val rfl rfl (pv_load Tryz.underlying3 rfl rfl celT) ?_)
      refine G.want rfl rfl rfl (G.val rfl rfl (pv_neq rfl rfl) ?_)
      refine G.op rfl (G.val rfl rfl (pv_pick rfl rfl) ?_)
      refine G.mvT rfl rfl ?_
      refine G.partP (t := 86) rfl (fun h86 => ?_) (fun h86 => ?_)
      · refine G.pass rfl rfl rfl rfl rfl rfl ?_
        refine G.pass rfl rfl rfl rfl rfl rfl ?_
        refine G.pass rfl rfl rfl rfl rfl rfl ?_
        refine G.pass rfl rfl rfl rfl rfl rfl ?_
        refine G.pass rfl rfl rfl rfl rfl rfl ?_
        refine G.op rfl (G.val rfl rfl (pv_pick rfl rfl) ?_)
        refine G.mvT rfl rfl ?_
        refine G.pass rfl rfl rfl rfl rfl rfl ?_
        refine G.pass rfl rfl rfl rfl rfl rfl ?_
        refine G.pass rfl rfl rfl rfl rfl rfl ?_
        refine G.pass rfl rfl rfl rfl rfl rfl ?_
        refine G.pass rfl rfl rfl rfl rfl rfl ?_
        refine G.pass rfl rfl rfl rfl rfl rfl ?_
        refine G.op rfl (G.val rfl rfl (pv_pick rfl rfl) ?_)
        refine G.nil ?_
        exact G.meet (()) trT (.consE rfl (by first | exact dec_t (by rw [ne_eq, he]; simp_all) | exact dec_e (by rw [ne_eq ys[i].1, he] at *; simp_all) | exact dec_e (by rw [ne_eq xs[i].1, he]; simp_all)) (.cons rfl (.cons rfl (.cons rfl .nil)))) subT
      refine G.want rfl rfl rfl (G.val rfl rfl (pv_fieldAddrK (sz := 0) (k := 4) Tryz.underlying80 rfl kr rfl rfl) ?_)
      refine G.want rfl rfl rfl (G.val rfl rfl (pv_load Tryz.underlying9 rfl rfl celT) ?_)
      refine G.want rfl rfl rfl (G.val rfl rfl (pv_fieldAddrK (sz := 0) (k := 4) Tryz.underlying80 rfl kr rfl rfl) ?_)
      refine G.want rfl rfl rfl (G.val rfl rfl (pv_load Tryz.underlying9 rfl rfl celT) ?_)
      refine G.want rfl rfl rfl (G.val rfl rfl (pv_neqS rfl rfl) ?_)
      refine G.op rfl (G.val rfl rfl (pv_pick rfl rfl) ?_)
      refine G.mvT rfl rfl ?_
      refine G.partP (t := 93) rfl (fun h93 => ?_) (fun h93 => ?_)
      · refine G.pass rfl rfl rfl rfl rfl rfl ?_
        refine G.pass rfl rfl rfl rfl rfl rfl ?_
        refine G.pass rfl rfl rfl rfl rfl rfl ?_
        refine G.pass rfl rfl rfl rfl rfl rfl ?_
        refine G.pass rfl rfl rfl rfl rfl rfl ?_
        refine G.pass rfl rfl rfl rfl rfl rfl ?_
        refine G.op rfl (G.val rfl rfl (pv_pick rfl rfl) ?_)
        refine G.nil ?_
        exact G.meet (()) trT (.consE rfl (by first | exact dec_t (by rw [ne_eq, he]; simp_all) | exact dec_e (by rw [ne_eq ys[i].1, he] at *; simp_all) | exact dec_e (by rw [ne_eq xs[i].1, he]; simp_all)) (.cons rfl (.cons rfl (.cons rfl .nil)))) subT
      refine G.want rfl rfl rfl (G.val rfl rfl (pv_fieldAddrK (sz := 0) (k := 5) Tryz.underlying80 rfl kr rfl rfl) ?_)
      refine G.want rfl rfl rfl (G.val rfl rfl (pv_load Tryz.underlying60 rfl rfl celT) ?_)
      refine G.want rfl rfl rfl (G.val rfl rfl (pv_fieldAddrK (sz := 0) (k := 5) Tryz.underlying80 rfl kr rfl rfl) ?_)
      refine G.want rfl rfl rfl (G.val rfl rfl (pv_load Tryz.underlying60 rfl rfl celT) ?_)
      refine G.want rfl rfl rfl (G.cR rfl rfl rfl rfl Tryz.func37 rfl rfl (may2 (by first | (apply May.old; first | with_reducible assumption | assumption) | (apply Sel.may; (repeat (first | with_reducible exact Sel.here | exact Sel.here | apply Sel.there)); done) | (apply may_own; (repeat (first | with_reducible exact Sel.here | exact Sel.here | apply Sel.there)); exact rfl; exact (fun _ _ => trivial); done) | (apply may_ownB; (repeat (first | with_reducible exact Sel.here | exact Sel.here | apply Sel.there)); done) | (apply may_ownI; (repeat (first | with_reducible exact Sel.here | exact Sel.here | apply Sel.there)); assumption; done) | (apply may_ownN; (repeat (first | with_reducible exact Sel.here | exact Sel.here | apply Sel.there)); assumption; done)) (by first | (apply May.old; first | with_reducible assumption | assumption) | (apply Sel.may; (repeat (first | with_reducible exact Sel.here | exact Sel.here | apply Sel.there)); done) | (apply may_own; (repeat (first | with_reducible exact Sel.here | exact Sel.here | apply Sel.there)); exact rfl; exact (fun _ _ => trivial); done) | (apply may_ownB; (repeat (first | with_reducible exact Sel.here | exact Sel.here | apply Sel.there)); done) | (apply may_ownI; (repeat (first | with_reducible exact Sel.here | exact Sel.here | apply Sel.there)); assumption; done) | (apply may_ownN; (repeat (first | with_reducible exact Sel.here | exact Sel.here | apply Sel.there)); assumption; done))) (sameIDs_tr _ _ _ _) ?_)
      refine G.want rfl rfl rfl (G.val rfl rfl (pv_notP rfl) ?_)
      refine G.op rfl (G.val rfl rfl (pv_pick rfl rfl) ?_)
      refine G.nil ?_
      exact G.meet (()) trT (.consE rfl (by first | exact dec_t (by rw [ne_eq, he]; simp_all) | exact dec_e (by rw [ne_eq ys[i].1, he] at *; simp_all) | exact dec_e (by rw [ne_eq xs[i].1, he]; simp_all)) (.cons rfl (.cons rfl (.cons rfl .nil)))) subT
    intro _ hJ
    try dsimp only at hJ
    try dsimp only
    refine G.condP rfl (fun h100 => ?_) (fun h100 => ?_)
    · have hne : xs[i].1 ≠ ys[i].1 := by assumption
      refine G.seq (G.region ?_)
      refine G.asT rfl rfl ?_
      refine G.nil ?_
      refine G.nThen ?_
      refine G.ret ?_
      refine G.rBlock ?_
      refine G.rThen ?_
      refine G.rThen ?_
      refine G.rBlock ?_
      refine G.rThen ?_
      exact G.done0G rfl (Rv.tmp rfl Rv.nil) (by rw [decide_eq_false (fun h => map1_ne hlt hlu hne h.2)]; rfl)
    have heq : xs[i].1 = ys[i].1 := Decidable.of_not_not (by assumption)
    refine G.skip ?_
    refine G.nBlock ?_
    refine G.nThen (G.region ?_)
    refine G.mvT rfl rfl ?_
    refine G.op rfl (G.val rfl rfl (pv_add64 rfl rfl (by omega)) ?_)
    refine G.asT rfl rfl ?_
    refine G.nil ?_
    exact G.next (i + 1) (by first | exact trivial | ((try dsimp only) <;> exact ⟨by omega, fun q hq hqi => by rcases Nat.lt_or_ge q i with h1 | h1; exact hJ0 q hq h1; obtain rfl : q = i := (by omega); exact heq⟩)) (by (try dsimp only); omega) (.consE rfl veqT (.cons rfl (.cons rfl .nil))) subT
  refine G.exit ?_
  refine G.eThen ?_
  refine G.eThen ?_
  refine G.eBlock ?_
  refine G.nThen (G.seq (G.region ?_))
  refine G.asT rfl rfl ?_
  refine G.nil ?_
  refine G.nThen ?_
  refine G.ret ?_
  exact G.done0G rfl (Rv.tmp rfl Rv.nil) (by rw [decide_eq_true ⟨hab, map1_eq hxy (fun q hq => hJ q hq (by omega))⟩]; rfl)
end Go.Proofs.YtbfpbibkklfnfaaGreat

set_option linter.unusedVariables false
set_option linter.unusedSimpArgs false
namespace Go.Proofs.YtbfpbibkklfnfaaGreat
open Go.RowKit
section
variable {P : Program} {n : Nat} {w0 : World} {S : Nat → Prop} {l : Fr} {m : List Ck} {K : Act → World → Prop}
end
theorem drop_cons {α : Type} {zs : List α} {i : Nat} (h : i < zs.length) : zs.drop i = zs[i] :: zs.drop (i + 1) := List.drop_eq_getElem_cons h
end Go.Proofs.YtbfpbibkklfnfaaGreat

set_option linter.unusedVariables false
set_option linter.unusedSimpArgs false
namespace Go.Proofs.YtbfpbibkklfnfaaGreat
open Go.RowKit
section
variable {P : Program} {n : Nat} {w0 : World} {S : Nat → Prop} {l : Fr} {m : List Ck} {K : Act → World → Prop}
theorem G.datINil (e : TypeId) (h : G n w0 S l (datI e [] :: m) K) : G n w0 S l m K := G.starNil h
theorem G.datISnoc {e : TypeId} {ys : List IT} {x : IT} {r r' : List Ck} (h1 : Sel m (datI e ys) r) (h2 : Sel r (own e 16 x.2 x.1.ids.length (flatI x.1.ids)) r') (h : G n w0 S l (datI e (ys ++ [x]) :: r') K) : G n w0 S l m K := G.starSnoc rfl h1 h2 h
theorem G.datICons {e : TypeId} {x : IT} {xs : List IT} {r : List Ck} (h1 : Sel m (datI e (x :: xs)) r) (h : G n w0 S l (own e 16 x.2 x.1.ids.length (flatI x.1.ids) :: datI e xs :: r) K) : G n w0 S l m K := G.starCons (f := fun x : IT => own e 16 x.2 x.1.ids.length (flatI x.1.ids)) h1 h
theorem G.datDNil (e : TypeId) (h : G n w0 S l (datD e [] :: m) K) : G n w0 S l m K := G.starNil h
theorem G.datDSnoc {e : TypeId} {ys : List CT} {x : CT} {r r' : List Ck} (h1 : Sel m (datD e ys) r) (h2 : Sel r (ownB e x.2 x.1.2) r') (h : G n w0 S l (datD e (ys ++ [x]) :: r') K) : G n w0 S l m K := G.starSnoc rfl h1 h2 h
end
theorem putN_app (vs : List Value) : ∀ (cs sp : List Value) (o : Nat), o + vs.length ≤ cs.length → putN (cs ++ sp) o vs = putN cs o vs ++ sp := fun cs sp o h => by
  apply List.ext_getElem?
  intro j
  rw [putN_get _ _ _ _ (by rw [List.length_append]; omega)]
  rcases Nat.lt_or_ge j cs.length with hj | hj
  · have e1 : (cs ++ sp)[j]? = cs[j]? := List.getElem?_append_left hj
    have e2 : (putN cs o vs ++ sp)[j]? = (putN cs o vs)[j]? := List.getElem?_append_left (by rw [putN_len]; exact hj)
    rw [e1, e2, putN_get _ _ _ _ h]
  have e1 : (cs ++ sp)[j]? = sp[j - cs.length]? := List.getElem?_append_right hj
  have e2 : (putN cs o vs ++ sp)[j]? = sp[j - (putN cs o vs).length]? := List.getElem?_append_right (by rw [putN_len]; exact hj)
  rw [if_neg (by omega), e1, e2, putN_len]
def id7 : List UInt8 := 7 :: List.replicate 15 0
def overI : IT := (⟨[111, 118, 101, 114], 0, 0, 0, [], []⟩, .slice none 0 0)
def Few (xs : List IT) : Prop := ∀ x ∈ xs, x.1.ids.length ≤ 1000000
set_option maxRecDepth 20000 in
set_option maxHeartbeats 4000000 in
theorem overM_tr (a : Mh) (v : Value) (zs : List IT) (hn : zs.length ≤ 1000000) (hfew : Few zs) : Tr Tryz.prog 15 #[.agg #[.int .i64 a.c, .int .i64 a.k, .int .i64 a.n, .int .i64 a.t, v]] [] [own 80 6 v zs.length (zs.flatMap itC), datI 66 zs] (TX (fun _ : Unit => True) (fun _ => .tuple #[]) (fun _ => [])) := by
  refine Tr.of (l := [(0, .agg #[.int .i64 a.c, .int .i64 a.k, .int .i64 a.n, .int .i64 a.t, v])]) Tryz.func15 rfl (n := 36) rfl (.cons rfl .nil) (fun w0 hro => ?_)
  refine G.ownOpen (v := v) selT (fun a3 c3 h3 hk3 hm3 => ?_)
  subst h3
  refine G.seq (G.region ?_)
  refine G.op rfl (G.box rfl rfl (cs := [_, _, _, _, _]) rfl ?_)
  intro b1
  refine G.nil ?_
  refine G.nThen (G.seq (G.region ?_))
  refine G.asT rfl rfl ?_
  refine G.nil ?_
  refine G.nThen ?_
  refine G.block ?_
  refine G.loopK (X := Nat × (List IT)) (ts := [1]) (fun st => st.1 ≤ zs.length ∧ (st.2.length = zs.length ∧ ∀ q (h1 : q < st.2.length) (h2 : q < zs.length), st.1 ≤ q → st.2[q] = zs[q])) (fun st => [(2, .int .i64 (st.1 : Int))]) (fun st => [own 80 6 (.slice a3 zs.length c3) zs.length (st.2.flatMap itC), datI 66 (zs.drop st.1)]) (fun st => zs.length - st.1) (x0 := (0, zs)) (.cons rfl .nil) subT (.cons .nil) apT (by first | exact trivial | ((try dsimp only) <;> exact ⟨Nat.zero_le _, ⟨rfl, fun q _ _ _ => rfl⟩⟩)) (.consE rfl veqT .nil) (fun st hJ => ?_)
  obtain ⟨i, ws⟩ := st
  try dsimp only at hJ
  try dsimp only
  obtain ⟨hki, hJ⟩ := hJ
  obtain ⟨hwl, hwz0⟩ := hJ
  refine G.seq (G.seq (G.region ?_))
  refine G.mvT rfl rfl ?_
  refine G.op rfl (G.val rfl rfl (pv_fieldAddrK (sz := 0) (k := 4) Tryz.underlying28 rfl kr rfl rfl) ?_)
  refine G.op rfl (G.val rfl rfl (pv_load Tryz.underlying26 rfl rfl celT) ?_)
  refine G.op rfl (G.val rfl rfl (pv_lenSl Tryz.underlying26 rfl) ?_)
  refine G.op rfl (G.val rfl rfl (pv_lss rfl rfl) ?_)
  refine G.nil ?_
  refine G.nThen ?_
  refine G.condP rfl (fun h8 => ?_) (fun h8 => ?_)
  · have hlt : i < zs.length := by omega
    have hlt' : i < ws.length := by omega
    have hwz : ws[i] = zs[i] := hwz0 i hlt' hlt (Nat.le_refl _)
    have hfi := hfew _ (List.getElem_mem hlt)
    rw [drop_cons hlt]
    refine G.datICons selT ?_
    obtain ⟨ux, hux⟩ : ∃ u, zs[i].2 = u := ⟨_, rfl⟩
    rw [hux]
    refine G.ownOpen (v := ux) selT (fun a4 c4 h4 hk4 hm4 => ?_)
    subst h4
    obtain ⟨n4, hn4⟩ : ∃ n, zs[i].1.ids.length = n := ⟨_, rfl⟩
    obtain ⟨cs4, hcs4⟩ : ∃ cs, flatI zs[i].1.ids = cs := ⟨_, rfl⟩
    rw [hn4, hcs4]
    rw [hn4] at hux hfi hk4
    refine G.ownFact (v := .slice a4 n4 c4) selT (fun _ hcl4 => ?_)
    refine G.ownTo (v := .slice a3 zs.length c3) selT (by omega) (fun g cap sp hvv hkc hmx hl hlen => ?_)
    injection hvv with e1 e2 e3
    subst e1
    subst e3
    refine G.skip ?_
    refine G.nThen (G.seq ?_)
    refine G.block ?_
    refine G.seq (G.seq (G.region ?_))
    refine G.asT rfl rfl ?_
    refine G.nil ?_
    refine G.nThen ?_
    refine G.block ?_
    refine G.loopK (X := Nat × (List Value)) (ts := [1, 2]) (fun st => st.1 ≤ n4 ∧ (st.2.length = n4 * 16)) (fun st => [(3, .int .i64 (st.1 : Int))]) (fun st => [own 66 16 (.slice a4 n4 c4) n4 st.2]) (fun st => n4 - st.1) (x0 := (0, cs4)) (.cons rfl (.cons rfl .nil)) subT (.cons .nil) apT (by first | exact trivial | ((try dsimp only) <;> exact ⟨Nat.zero_le _, hcl4⟩)) (.consE rfl veqT .nil) (fun st hJ => ?_)
    obtain ⟨j, cs⟩ := st
    try dsimp only at hJ
    try dsimp only
    obtain ⟨hkj, hJ⟩ := hJ
    have hcl := hJ
    refine G.seq (G.seq (G.region ?_))
    refine G.mvT rfl rfl ?_
    refine G.op rfl (G.val rfl rfl (pv_fieldAddrK (sz := 0) (k := 4) Tryz.underlying28 rfl kr rfl rfl) ?_)
    refine G.op rfl (G.val rfl rfl (pv_load Tryz.underlying26 rfl rfl celT) ?_)
    refine G.mvT rfl rfl ?_
    refine G.op rfl (G.val rfl rfl (pv_ixSl (sz := 6) (k := i) Tryz.underlying26 kr rfl rfl (fun _ => rfl) (by omega) (by omega)) ?_)
    refine G.op rfl (G.val rfl rfl (pv_fieldAddrK (sz := 0) (k := 5) Tryz.underlying80 rfl kr rfl rfl) ?_)
    refine G.op rfl (G.val rfl rfl (pv_load (v := .slice a4 n4 c4) Tryz.underlying60 rfl rfl (blk_cell selD (by rw [rows_at itC_len hlt' 5 (by omega), hwz]; exact congrArg some hux))) ?_)
    refine G.op rfl (G.val rfl rfl (pv_lenSl Tryz.underlying60 rfl) ?_)
    refine G.op rfl (G.val rfl rfl (pv_lss rfl rfl) ?_)
    refine G.nil ?_
    refine G.nThen ?_
    refine G.condP rfl (fun h19 => ?_) (fun h19 => ?_)
    · have hjn : j < n4 := by omega
      refine G.skip ?_
      refine G.nThen (G.seq ?_)
      refine G.block ?_
      refine G.region ?_
      refine G.op rfl (G.val rfl rfl (pv_fieldAddrK (sz := 0) (k := 4) Tryz.underlying28 rfl kr rfl rfl) ?_)
      refine G.op rfl (G.val rfl rfl (pv_load Tryz.underlying26 rfl rfl celT) ?_)
      refine G.mvT rfl rfl ?_
      refine G.op rfl (G.val rfl rfl (pv_ixSl (sz := 6) (k := i) Tryz.underlying26 kr rfl rfl (fun _ => rfl) (by omega) (by omega)) ?_)
      refine G.op rfl (G.val rfl rfl (pv_fieldAddrK (sz := 0) (k := 5) Tryz.underlying80 rfl kr rfl rfl) ?_)
      refine G.op rfl (G.val rfl rfl (pv_load (v := .slice a4 n4 c4) Tryz.underlying60 rfl rfl (blk_cell selD (by rw [rows_at itC_len hlt' 5 (by omega), hwz]; exact congrArg some hux))) ?_)
      refine G.mvT rfl rfl ?_
      refine G.op rfl (G.val rfl rfl (pv_build (ps := [(0, .int .u8 7)]) (cells := (id7.map vByte).toArray) (fun _ _ => by simp [Act.eval]) kr) ?_)
      refine G.ownTo (v := .slice a4 n4 c4) selT (by omega) (fun g2 cap2 sp2 hvv2 hkc2 hmx2 hl2 hlen2 => ?_)
      injection hvv2 with e4 e5 e6
      refine G.op rfl (G.val rfl rfl (pv_ixSl (sz := 16) (k := j) Tryz.underlying60 kr rfl rfl (fun _ => e4) (by omega) (by omega)) ?_)
      refine G.op rfl (G.storeN (vs := id7.map vByte) kr rfl rfl kr selT (by rw [List.length_append, show (id7.map vByte).length = 16 from rfl]; omega) ?_)
      subst e4
      subst e6
      refine G.nil ?_
      refine G.nBlock ?_
      refine G.nThen (G.region ?_)
      refine G.mvT rfl rfl ?_
      refine G.op rfl (G.val rfl rfl (pv_add64 rfl rfl (by omega)) ?_)
      refine G.asT rfl rfl ?_
      refine G.nil ?_
      rw [putN_app _ _ _ _ (by rw [show (id7.map vByte).length = 16 from rfl]; omega)]
      refine G.ownOf (sz := 16) (k := n4) (cs := putN cs (0 + j * 16) (id7.map vByte)) (sp := sp2) selT (by rw [putN_len]; exact hcl) (by omega) hmx2 (by rw [List.length_append, putN_len]; rw [List.length_append] at hl2; exact hl2) ?_
      exact G.next ((j + 1, putN cs (0 + j * 16) (id7.map vByte))) (by first | exact trivial | ((try dsimp only) <;> exact ⟨by omega, (by rw [putN_len]; exact hcl)⟩)) (by (try dsimp only); omega) (.consE rfl veqT (.cons rfl (.cons rfl .nil))) subT
    refine G.exit ?_
    refine G.eThen ?_
    refine G.eThen ?_
    refine G.eBlock ?_
    refine G.nThen (G.region ?_)
    refine G.op rfl (G.val rfl rfl (pv_fieldAddrK (sz := 0) (k := 4) Tryz.underlying28 rfl kr rfl rfl) ?_)
    refine G.op rfl (G.val rfl rfl (pv_load Tryz.underlying26 rfl rfl celT) ?_)
    refine G.mvT rfl rfl ?_
    refine G.op rfl (G.val rfl rfl (pv_buildSt (z := [.string ⟨#[]⟩, .int .i64 0, .int .i64 0, .int .i64 0, .string ⟨#[]⟩, .slice none 0 0]) (pl := [(0, 1), (1, 1), (2, 1), (3, 1), (4, 1), (5, 1)]) Tryz.underlying80 kr kr rfl flT) ?_)
    refine G.op rfl (G.val rfl rfl (pv_ixSl (sz := 6) (k := i) Tryz.underlying26 kr rfl rfl (fun _ => rfl) (by omega) (by omega)) ?_)
    refine G.op rfl (G.storeN (vs := itC overI) kr rfl rfl (by rfl) selT (rows_fit itC_len hlt' _) ?_)
    rw [rows_put itC_len hlt']
    refine G.nil ?_
    refine G.nBlock ?_
    refine G.nThen (G.region ?_)
    refine G.mvT rfl rfl ?_
    refine G.op rfl (G.val rfl rfl (pv_add64 rfl rfl (by omega)) ?_)
    refine G.asT rfl rfl ?_
    refine G.nil ?_
    refine G.ownOf (sz := 6) (k := zs.length) (cs := (ws.set i overI).flatMap itC) (sp := sp) selT (by rw [rows_len itC_len, List.length_set, hwl]) (by omega) hmx (by rw [List.length_append, rows_len itC_len, List.length_set]; rw [List.length_append, rows_len itC_len] at hl; exact hl) ?_
    exact G.next ((i + 1, ws.set i overI)) (by first | exact trivial | ((try dsimp only) <;> exact ⟨by omega, ⟨by rw [List.length_set, hwl], fun q h1 h2 hq => by rw [List.getElem_set_ne (by omega)]; exact hwz0 q (by rw [List.length_set] at h1; exact h1) h2 (by omega)⟩⟩)) (by (try dsimp only); omega) (.consE rfl veqT (.cons rfl .nil)) subT
  refine G.exit ?_
  refine G.eThen ?_
  refine G.eThen ?_
  refine G.eBlock ?_
  exact G.doneXE (()) trT rfl rfl subT
end Go.Proofs.YtbfpbibkklfnfaaGreat

set_option linter.unusedVariables false
set_option linter.unusedSimpArgs false
namespace Go.Proofs.YtbfpbibkklfnfaaGreat
open Go.RowKit
def numI (e : It) : Prop := e.kind < 1 ∨ 3 < e.kind ∨ e.mode < 0 ∨ 511 < e.mode ∨ (e.kind = 3 ↔ e.to.length = 0) ∨ 200 < e.to.length
instance (e : It) : Decidable (numI e) := inferInstanceAs (Decidable (_ ∨ _))
def rngI (e : It) : Prop := e.size < 0 ∨ 1048576 < e.size ∨ (0 < e.size ∧ e.kind ≠ 2) ∨ ¬ ((e.size + 1023) / 1024 ≤ (e.ids.length : Int) ∧ (e.ids.length : Int) ≤ (e.size + 63) / 64)
instance (e : It) : Decidable (rngI e) := inferInstanceAs (Decidable (_ ∨ _))
/-- why an item may not be by itself -/
def oneI (e : It) : Int := if ¬ okP e.path then 4 else if numI e then 2 else if rngI e then 5 else 0
theorem oneI_bytes {e : It} (h : ¬ okP e.path) : oneI e = 4 := if_pos h
theorem oneI_arg {e : It} (h : okP e.path) (h1 : numI e) : oneI e = 2 := by
  unfold oneI
  rw [if_neg (not_not_intro h), if_pos h1]
theorem oneI_rng {e : It} (h : okP e.path) (h1 : ¬ numI e) (h2 : rngI e) : oneI e = 5 := by
  unfold oneI
  rw [if_neg (not_not_intro h), if_neg h1, if_pos h2]
theorem oneI_ok {e : It} (h : okP e.path) (h1 : ¬ numI e) (h2 : ¬ rngI e) : oneI e = 0 := by
  unfold oneI
  rw [if_neg (not_not_intro h), if_neg h1, if_neg h2]
theorem oneI_zero {e : It} (h : oneI e = 0) : okP e.path ∧ ¬ numI e ∧ ¬ rngI e := by
  unfold oneI at h
  split at h
  · cases h
  split at h
  · cases h
  split at h
  · cases h
  exact ⟨Decidable.of_not_not (by assumption), by assumption, by assumption⟩
set_option maxRecDepth 20000 in
set_option maxHeartbeats 4000000 in
theorem win_tr (n a b : Int) : Tr Tryz.prog 69 #[.int .i64 n, .int .i64 a, .int .i64 b] [] [] (T0 (.bool (decide (a ≤ n ∧ n ≤ b)))) := by
  refine Tr.of (l := [(0, .int .i64 n), (1, .int .i64 a), (2, .int .i64 b)]) Tryz.func69 rfl (n := 15) rfl (.cons rfl (.cons rfl (.cons rfl .nil))) (fun w0 hro => ?_)
  refine G.seq (G.region ?_)
  refine G.asT rfl rfl ?_
  refine G.nil ?_
  refine G.nThen (G.seq (G.region ?_))
  refine G.mvT rfl rfl ?_
  refine G.mvT rfl rfl ?_
  refine G.op rfl (G.val rfl rfl (pv_geq rfl rfl) ?_)
  refine G.mvT rfl rfl ?_
  refine G.partP (t := 10) rfl (fun h10 => ?_) (fun h10 => ?_)
  · refine G.want rfl rfl rfl (G.val rfl rfl (pv_move rfl) ?_)
    refine G.want rfl rfl rfl (G.val rfl rfl (pv_move rfl) ?_)
    refine G.want rfl rfl rfl (G.val rfl rfl (pv_leq rfl rfl) ?_)
    refine G.op rfl (G.val rfl rfl (pv_pick rfl rfl) ?_)
    refine G.asT rfl rfl ?_
    refine G.nil ?_
    refine G.nThen ?_
    refine G.ret ?_
    exact G.done0G rfl (Rv.tmp rfl Rv.nil) (by first | exact dec_e (by omega) | exact dec_f (by omega) | exact dec_t (by omega))
  refine G.pass rfl rfl rfl rfl rfl rfl ?_
  refine G.pass rfl rfl rfl rfl rfl rfl ?_
  refine G.pass rfl rfl rfl rfl rfl rfl ?_
  refine G.op rfl (G.val rfl rfl (pv_pick rfl rfl) ?_)
  refine G.asT rfl rfl ?_
  refine G.nil ?_
  refine G.nThen ?_
  refine G.ret ?_
  exact G.done0G rfl (Rv.tmp rfl Rv.nil) (by first | exact dec_e (by omega) | exact dec_f (by omega) | exact dec_t (by omega))
set_option maxRecDepth 20000 in
set_option maxHeartbeats 4000000 in
theorem winR_tr (n a b : Int) : Tr Tryz.prog 73 #[.int .i64 n, .int .i64 a, .int .i64 b] [] [] (T0 (.bool (decide (a ≤ n ∧ n ≤ b)))) := by
  refine Tr.of (l := [(0, .int .i64 n), (1, .int .i64 a), (2, .int .i64 b)]) Tryz.func73 rfl (n := 15) rfl (.cons rfl (.cons rfl (.cons rfl .nil))) (fun w0 hro => ?_)
  refine G.seq (G.region ?_)
  refine G.asT rfl rfl ?_
  refine G.nil ?_
  refine G.nThen (G.seq (G.region ?_))
  refine G.mvT rfl rfl ?_
  refine G.mvT rfl rfl ?_
  refine G.op rfl (G.val rfl rfl (pv_geq rfl rfl) ?_)
  refine G.mvT rfl rfl ?_
  refine G.partP (t := 10) rfl (fun h10 => ?_) (fun h10 => ?_)
  · refine G.want rfl rfl rfl (G.val rfl rfl (pv_move rfl) ?_)
    refine G.want rfl rfl rfl (G.val rfl rfl (pv_move rfl) ?_)
    refine G.want rfl rfl rfl (G.val rfl rfl (pv_leq rfl rfl) ?_)
    refine G.op rfl (G.val rfl rfl (pv_pick rfl rfl) ?_)
    refine G.asT rfl rfl ?_
    refine G.nil ?_
    refine G.nThen ?_
    refine G.ret ?_
    exact G.done0G rfl (Rv.tmp rfl Rv.nil) (by first | exact dec_e (by omega) | exact dec_f (by omega) | exact dec_t (by omega))
  refine G.pass rfl rfl rfl rfl rfl rfl ?_
  refine G.pass rfl rfl rfl rfl rfl rfl ?_
  refine G.pass rfl rfl rfl rfl rfl rfl ?_
  refine G.op rfl (G.val rfl rfl (pv_pick rfl rfl) ?_)
  refine G.asT rfl rfl ?_
  refine G.nil ?_
  refine G.nThen ?_
  refine G.ret ?_
  exact G.done0G rfl (Rv.tmp rfl Rv.nil) (by first | exact dec_e (by omega) | exact dec_f (by omega) | exact dec_t (by omega))
set_option maxRecDepth 20000 in
set_option maxHeartbeats 4000000 in
theorem parts_tr (n k : Int) (hn : 0 ≤ n ∧ n ≤ 1048576) (hk : 1 ≤ k) (hk2 : k ≤ 1024) : Tr Tryz.prog 102 #[.int .i64 n, .int .i64 k] [] [] (T0 (.int .i64 ((n + k - 1) / k))) := by
  refine Tr.of (l := [(0, .int .i64 n), (1, .int .i64 k)]) Tryz.func102 rfl (n := 11) rfl (.cons rfl (.cons rfl .nil)) (fun w0 hro => ?_)
  refine G.seq (G.region ?_)
  refine G.asT rfl rfl ?_
  refine G.nil ?_
  refine G.nThen (G.seq (G.region ?_))
  refine G.mvT rfl rfl ?_
  refine G.mvT rfl rfl ?_
  refine G.op rfl (G.val rfl rfl (pv_add64 rfl rfl (by omega)) ?_)
  refine G.op rfl (G.val rfl rfl (pv_sub64 rfl rfl (by omega)) ?_)
  refine G.mvT rfl rfl ?_
  refine G.op rfl (G.val rfl rfl (pv_quo64 rfl rfl (by omega) (by omega)) ?_)
  refine G.asT rfl rfl ?_
  refine G.nil ?_
  refine G.nThen ?_
  refine G.ret ?_
  exact G.done0G rfl (Rv.tmp rfl Rv.nil) (by first | rfl | exact int_eq (by omega) | (simp; done))
set_option maxRecDepth 20000 in
set_option maxHeartbeats 4000000 in
theorem many_tr (n k : Int) (hn : 0 ≤ n ∧ n ≤ 1048576) (hk : 0 ≤ k ∧ k ≤ 140737488355328) : Tr Tryz.prog 108 #[.int .i64 n, .int .i64 k] [] [] (T0 (.bool (decide ((n + 1023) / 1024 ≤ k ∧ k ≤ (n + 63) / 64)))) := by
  refine Tr.of (l := [(0, .int .i64 n), (1, .int .i64 k)]) Tryz.func108 rfl (n := 19) rfl (.cons rfl (.cons rfl .nil)) (fun w0 hro => ?_)
  refine G.seq (G.region ?_)
  refine G.asT rfl rfl ?_
  refine G.nil ?_
  refine G.nThen (G.seq (G.region ?_))
  refine G.mvT rfl rfl ?_
  refine G.mvT rfl rfl ?_
  refine G.op rfl (G.val rfl rfl (pv_add64 rfl rfl (by omega)) ?_)
  refine G.op rfl (G.val rfl rfl (pv_sub64 rfl rfl (by omega)) ?_)
  refine G.op rfl (G.val rfl rfl (pv_quo64 rfl rfl (by omega) (by omega)) ?_)
  refine G.op rfl (G.val rfl rfl (pv_geq rfl rfl) ?_)
  refine G.mvT rfl rfl ?_
  refine G.partP (t := 11) rfl (fun h11 => ?_) (fun h11 => ?_)
  · refine G.want rfl rfl rfl (G.val rfl rfl (pv_move rfl) ?_)
    refine G.want rfl rfl rfl (G.val rfl rfl (pv_move rfl) ?_)
    refine G.want rfl rfl rfl (G.val rfl rfl (pv_add64 rfl rfl (by omega)) ?_)
    refine G.want rfl rfl rfl (G.val rfl rfl (pv_sub64 rfl rfl (by omega)) ?_)
    refine G.want rfl rfl rfl (G.val rfl rfl (pv_quo64 rfl rfl (by omega) (by omega)) ?_)
    refine G.want rfl rfl rfl (G.val rfl rfl (pv_leq rfl rfl) ?_)
    refine G.op rfl (G.val rfl rfl (pv_pick rfl rfl) ?_)
    refine G.asT rfl rfl ?_
    refine G.nil ?_
    refine G.nThen ?_
    refine G.ret ?_
    exact G.done0G rfl (Rv.tmp rfl Rv.nil) (by first | exact dec_e (by omega) | exact dec_f (by omega) | exact dec_t (by omega))
  refine G.pass rfl rfl rfl rfl rfl rfl ?_
  refine G.pass rfl rfl rfl rfl rfl rfl ?_
  refine G.pass rfl rfl rfl rfl rfl rfl ?_
  refine G.pass rfl rfl rfl rfl rfl rfl ?_
  refine G.pass rfl rfl rfl rfl rfl rfl ?_
  refine G.pass rfl rfl rfl rfl rfl rfl ?_
  refine G.op rfl (G.val rfl rfl (pv_pick rfl rfl) ?_)
  refine G.asT rfl rfl ?_
  refine G.nil ?_
  refine G.nThen ?_
  refine G.ret ?_
  exact G.done0G rfl (Rv.tmp rfl Rv.nil) (by first | exact dec_e (by omega) | exact dec_f (by omega) | exact dec_t (by omega))
set_option maxRecDepth 20000 in
set_option maxHeartbeats 4000000 in
theorem ione_tr {Pd : Nat → Prop} (e : It) (d : Value) (hl : e.path.length ≤ 9223372036854775807) (hn : e.ids.length ≤ 140737488355328) (hsz : I64 e.size) : Tr Tryz.prog 70 #[.agg #[.string (sB e.path), .int .i64 e.kind, .int .i64 e.mode, .int .i64 e.size, .string (sB e.to), d]] [slc rID Pd d e.ids] [] (T0 (.int .i64 (oneI e))) := by
  refine Tr.of (l := [(0, .agg #[.string (sB e.path), .int .i64 e.kind, .int .i64 e.mode, .int .i64 e.size, .string (sB e.to), d])]) Tryz.func70 rfl (n := 61) rfl (.cons rfl .nil) (fun w0 hro => ?_)
  have hd := ro1 hro
  obtain ⟨ad, cap, rfl⟩ := Ro.slv hd
  have hto := nil_len (s := e.to)
  obtain ⟨hs1, hs2⟩ := hsz
  refine G.seq (G.region ?_)
  refine G.op rfl (G.box rfl rfl (cs := [_, _, _, _, _, _]) rfl ?_)
  intro b1
  refine G.asT rfl rfl ?_
  refine G.nil ?_
  refine G.nThen (G.seq (G.region ?_))
  refine G.op rfl (G.val rfl rfl (pv_fieldAddrK (sz := 0) (k := 1) Tryz.underlying80 rfl kr rfl rfl) ?_)
  refine G.op rfl (G.val rfl rfl (pv_load Tryz.underlying3 rfl rfl celT) ?_)
  refine G.op rfl (G.val rfl rfl (pv_eql rfl rfl) ?_)
  refine G.asT rfl rfl ?_
  refine G.nil ?_
  refine G.nThen (G.seq ?_)
  refine G.block ?_
  refine G.seq (G.region ?_)
  refine G.op rfl (G.val rfl rfl (pv_fieldAddrK (sz := 0) (k := 0) Tryz.underlying80 rfl kr rfl rfl) ?_)
  refine G.op rfl (G.val rfl rfl (pv_load Tryz.underlying9 rfl rfl celT) ?_)
  refine G.op rfl (G.cR rfl rfl rfl rfl Tryz.func101 rfl rfl may0 (check_tr _ (by omega)) ?_)
  refine G.op rfl (G.val rfl rfl (pv_field1 Tryz.underlying42 rfl Tryz.underlying30 rfl rfl rfl) ?_)
  refine G.op rfl (G.val rfl rfl (pv_neq rfl rfl) ?_)
  refine G.asT rfl rfl ?_
  refine G.nil ?_
  refine G.nThen ?_
  refine G.condP rfl (fun h7 => ?_) (fun h7 => ?_)
  · refine G.seq (G.region ?_)
    refine G.asT rfl rfl ?_
    refine G.nil ?_
    refine G.nThen ?_
    refine G.ret ?_
    refine G.rBlock ?_
    refine G.rThen ?_
    exact G.done0G rfl (Rv.tmp rfl Rv.nil) (by rw [oneI_bytes (by assumption)]; rfl)
  have hok : okP e.path := Decidable.of_not_not (by assumption)
  refine G.seq ?_
  refine G.cutK (X := Unit) (ts := [1, 2]) (p := []) (fun _ => True) (fun _ => [(13, .bool (decide (numI e)))]) (fun _ => []) (.cons rfl (.cons rfl .nil)) subT (.cons .nil) apT ?_ ?_
  · refine G.region ?_
    refine G.op rfl (G.val rfl rfl (pv_fieldAddrK (sz := 0) (k := 1) Tryz.underlying80 rfl kr rfl rfl) ?_)
    refine G.op rfl (G.val rfl rfl (pv_load Tryz.underlying3 rfl rfl celT) ?_)
    refine G.op rfl (G.cR rfl rfl rfl rfl Tryz.func69 rfl rfl may0 (win_tr _ _ _) ?_)
    refine G.op rfl (G.val rfl rfl (pv_notP rfl) ?_)
    refine G.mvT rfl rfl ?_
    refine G.partP (t := 18) rfl (fun h18 => ?_) (fun h18 => ?_)
    · refine G.pass rfl rfl rfl rfl rfl rfl ?_
      refine G.pass rfl rfl rfl rfl rfl rfl ?_
      refine G.pass rfl rfl rfl rfl rfl rfl ?_
      refine G.pass rfl rfl rfl rfl rfl rfl ?_
      refine G.op rfl (G.val rfl rfl (pv_pick rfl rfl) ?_)
      refine G.mvT rfl rfl ?_
      refine G.pass rfl rfl rfl rfl rfl rfl ?_
      refine G.pass rfl rfl rfl rfl rfl rfl ?_
      refine G.pass rfl rfl rfl rfl rfl rfl ?_
      refine G.pass rfl rfl rfl rfl rfl rfl ?_
      refine G.pass rfl rfl rfl rfl rfl rfl ?_
      refine G.op rfl (G.val rfl rfl (pv_pick rfl rfl) ?_)
      refine G.mvT rfl rfl ?_
      refine G.pass rfl rfl rfl rfl rfl rfl ?_
      refine G.pass rfl rfl rfl rfl rfl rfl ?_
      refine G.pass rfl rfl rfl rfl rfl rfl ?_
      refine G.pass rfl rfl rfl rfl rfl rfl ?_
      refine G.op rfl (G.val rfl rfl (pv_pick rfl rfl) ?_)
      refine G.asT rfl rfl ?_
      refine G.nil ?_
      exact G.meet (()) trT (.consE rfl (by first | exact dec_t (by unfold numI; omega) | exact dec_f (by unfold numI; omega) | exact dec_e (by unfold numI; omega)) (.cons rfl (.cons rfl .nil))) subT
    refine G.want rfl rfl rfl (G.val rfl rfl (pv_fieldAddrK (sz := 0) (k := 2) Tryz.underlying80 rfl kr rfl rfl) ?_)
    refine G.want rfl rfl rfl (G.val rfl rfl (pv_load Tryz.underlying3 rfl rfl celT) ?_)
    refine G.want rfl rfl rfl (G.cR rfl rfl rfl rfl Tryz.func69 rfl rfl may0 (win_tr _ _ _) ?_)
    refine G.want rfl rfl rfl (G.val rfl rfl (pv_notP rfl) ?_)
    refine G.op rfl (G.val rfl rfl (pv_pick rfl rfl) ?_)
    refine G.mvT rfl rfl ?_
    refine G.partP (t := 24) rfl (fun h24 => ?_) (fun h24 => ?_)
    · refine G.pass rfl rfl rfl rfl rfl rfl ?_
      refine G.pass rfl rfl rfl rfl rfl rfl ?_
      refine G.pass rfl rfl rfl rfl rfl rfl ?_
      refine G.pass rfl rfl rfl rfl rfl rfl ?_
      refine G.pass rfl rfl rfl rfl rfl rfl ?_
      refine G.op rfl (G.val rfl rfl (pv_pick rfl rfl) ?_)
      refine G.mvT rfl rfl ?_
      refine G.pass rfl rfl rfl rfl rfl rfl ?_
      refine G.pass rfl rfl rfl rfl rfl rfl ?_
      refine G.pass rfl rfl rfl rfl rfl rfl ?_
      refine G.pass rfl rfl rfl rfl rfl rfl ?_
      refine G.op rfl (G.val rfl rfl (pv_pick rfl rfl) ?_)
      refine G.asT rfl rfl ?_
      refine G.nil ?_
      exact G.meet (()) trT (.consE rfl (by first | exact dec_t (by unfold numI; omega) | exact dec_f (by unfold numI; omega) | exact dec_e (by unfold numI; omega)) (.cons rfl (.cons rfl .nil))) subT
    refine G.want rfl rfl rfl (G.val rfl rfl (pv_move rfl) ?_)
    refine G.want rfl rfl rfl (G.val rfl rfl (pv_fieldAddrK (sz := 0) (k := 4) Tryz.underlying80 rfl kr rfl rfl) ?_)
    refine G.want rfl rfl rfl (G.val rfl rfl (pv_load Tryz.underlying9 rfl rfl celT) ?_)
    refine G.want rfl rfl rfl (G.val rfl rfl (pv_neqS rfl rfl) ?_)
    refine G.want rfl rfl rfl (G.val rfl rfl (pv_neqB Tryz.underlying4 rfl rfl) ?_)
    refine G.op rfl (G.val rfl rfl (pv_pick rfl rfl) ?_)
    refine G.mvT rfl rfl ?_
    refine G.part (t := 31) rfl (fun h31 => ?_) (fun h31 => ?_)
    · have hb := bne_dec.1 h31
      rw [ne_eq, hto] at hb
      refine G.pass rfl rfl rfl rfl rfl rfl ?_
      refine G.pass rfl rfl rfl rfl rfl rfl ?_
      refine G.pass rfl rfl rfl rfl rfl rfl ?_
      refine G.pass rfl rfl rfl rfl rfl rfl ?_
      refine G.op rfl (G.val rfl rfl (pv_pick rfl rfl) ?_)
      refine G.asT rfl rfl ?_
      refine G.nil ?_
      exact G.meet (()) trT (.consE rfl (by first | exact dec_t (by unfold numI; omega) | exact dec_f (by unfold numI; omega) | exact dec_e (by unfold numI; omega)) (.cons rfl (.cons rfl .nil))) subT
    have hb : ¬ ¬ (e.kind = 3 ↔ ¬ e.to.length = 0) := fun h => by have := bne_dec.2 (show ¬ (e.kind = 3 ↔ e.to ≠ []) by rw [ne_eq, hto]; exact h); rw [h31] at this; cases this
    refine G.want rfl rfl rfl (G.val rfl rfl (pv_fieldAddrK (sz := 0) (k := 4) Tryz.underlying80 rfl kr rfl rfl) ?_)
    refine G.want rfl rfl rfl (G.val rfl rfl (pv_load Tryz.underlying9 rfl rfl celT) ?_)
    refine G.want rfl rfl rfl (G.val rfl rfl (pv_lenS Tryz.underlying9 rfl) ?_)
    refine G.want rfl rfl rfl (G.val rfl rfl (pv_gtr rfl rfl) ?_)
    refine G.op rfl (G.val rfl rfl (pv_pick rfl rfl) ?_)
    refine G.asT rfl rfl ?_
    refine G.nil ?_
    exact G.meet (()) trT (.consE rfl (by first | exact dec_t (by unfold numI; omega) | exact dec_f (by unfold numI; omega) | exact dec_e (by unfold numI; omega)) (.cons rfl (.cons rfl .nil))) subT
  intro _ hJ
  try dsimp only at hJ
  try dsimp only
  refine G.condP rfl (fun h13 => ?_) (fun h13 => ?_)
  · refine G.seq (G.region ?_)
    refine G.asT rfl rfl ?_
    refine G.nil ?_
    refine G.nThen ?_
    refine G.ret ?_
    refine G.rBlock ?_
    refine G.rThen ?_
    exact G.done0G rfl (Rv.tmp rfl Rv.nil) (by rw [oneI_arg hok (by assumption)]; rfl)
  refine G.seq ?_
  refine G.cutK (X := Unit) (ts := [2]) (p := []) (fun _ => True) (fun _ => [(37, .bool (decide (rngI e)))]) (fun _ => []) (.cons rfl .nil) subT (.cons .nil) apT ?_ ?_
  · refine G.seq (G.region ?_)
    refine G.op rfl (G.val rfl rfl (pv_fieldAddrK (sz := 0) (k := 3) Tryz.underlying80 rfl kr rfl rfl) ?_)
    refine G.op rfl (G.val rfl rfl (pv_load Tryz.underlying3 rfl rfl celT) ?_)
    refine G.op rfl (G.cR rfl rfl rfl rfl Tryz.func69 rfl rfl may0 (win_tr _ _ _) ?_)
    refine G.op rfl (G.val rfl rfl (pv_notP rfl) ?_)
    refine G.asT rfl rfl ?_
    refine G.nil ?_
    refine G.nThen ?_
    refine G.condP rfl (fun h37 => ?_) (fun h37 => ?_)
    · refine G.skip ?_
      exact G.meet (()) trT (.consE rfl (by first | exact dec_t (by unfold rngI; omega) | exact dec_f (by unfold rngI; omega) | exact dec_e (by unfold rngI; omega)) (.cons rfl .nil)) subT
    refine G.seq (G.region ?_)
    refine G.op rfl (G.val rfl rfl (pv_fieldAddrK (sz := 0) (k := 3) Tryz.underlying80 rfl kr rfl rfl) ?_)
    refine G.op rfl (G.val rfl rfl (pv_load Tryz.underlying3 rfl rfl celT) ?_)
    refine G.op rfl (G.val rfl rfl (pv_gtr rfl rfl) ?_)
    refine G.mvT rfl rfl ?_
    refine G.partP (t := 45) rfl (fun h45 => ?_) (fun h45 => ?_)
    · refine G.want rfl rfl rfl (G.val rfl rfl (pv_fieldAddrK (sz := 0) (k := 1) Tryz.underlying80 rfl kr rfl rfl) ?_)
      refine G.want rfl rfl rfl (G.val rfl rfl (pv_load Tryz.underlying3 rfl rfl celT) ?_)
      refine G.want rfl rfl rfl (G.val rfl rfl (pv_neq rfl rfl) ?_)
      refine G.op rfl (G.val rfl rfl (pv_pick rfl rfl) ?_)
      refine G.asT rfl rfl ?_
      refine G.nil ?_
      refine G.nThen ?_
      refine G.condP rfl (fun h37 => ?_) (fun h37 => ?_)
      · refine G.skip ?_
        exact G.meet (()) trT (.consE rfl (by first | exact dec_t (by unfold rngI; omega) | exact dec_f (by unfold rngI; omega) | exact dec_e (by unfold rngI; omega)) (.cons rfl .nil)) subT
      refine G.drawT (nn := 12) (p := []) (rem := 4095) [0, 1, 2, 0, 8, 16, 0, 64, 160, 292, 512, 1536] [0, 1, 2, 0, 8, 16, 0, 64, 128, 292, 512, 1024] kr ⟨rfl, by kernel_rfl, by kernel_rfl⟩ subT kr (fun hT8 => ?_)
      refine G.takeT hT8 (i := 0) (rem' := 4094) rfl rfl rfl kr (fun _ _ _ h => h) rfl (pv_fieldAddrK (sz := 0) (k := 5) Tryz.underlying80 rfl kr rfl rfl) subT ?_
      refine G.takeT hT8 (i := 3) (rem' := 4086) rfl rfl rfl kr (fun _ _ _ h => h) rfl (pv_fieldAddrK (sz := 0) (k := 3) Tryz.underlying80 rfl kr rfl rfl) subT ?_
      refine G.takeT hT8 (i := 6) (rem' := 4022) rfl rfl rfl kr (fun _ _ _ h => h) rfl (pv_fieldAddrK (sz := 0) (k := 3) Tryz.underlying80 rfl kr rfl rfl) subT ?_
      refine G.takeT hT8 (i := 1) (rem' := 4020) rfl rfl rfl kr (fun _ _ _ h => h) rfl (pv_load Tryz.underlying60 rfl rfl celT) subT ?_
      refine G.takeT hT8 (i := 2) (rem' := 4016) rfl rfl rfl kr (fun _ _ _ h => h) rfl (pv_lenSl Tryz.underlying60 rfl) subT ?_
      refine G.takeT hT8 (i := 4) (rem' := 4000) rfl rfl rfl kr (fun _ _ _ h => h) rfl (pv_load Tryz.underlying3 rfl rfl celT) subT ?_
      refine G.takeT hT8 (i := 7) (rem' := 3872) rfl rfl rfl kr (fun _ _ _ h => h) rfl (pv_load Tryz.underlying3 rfl rfl celT) subT ?_
      refine G.oneT hT8 (i := 5) (rem' := 3840) kr kr ?_
      refine G.turnOp rfl rfl (G.cR rfl rfl rfl rfl Tryz.func102 rfl rfl may0 (parts_tr _ _ (by omega) (by omega) (by omega)) ?_)
      refine G.back subT ?_
      refine G.oneT hT8 (i := 8) (rem' := 3584) kr kr ?_
      refine G.turnOp rfl rfl (G.cR rfl rfl rfl rfl Tryz.func102 rfl rfl may0 (parts_tr _ _ (by omega) (by omega) (by omega)) ?_)
      refine G.back subT ?_
      refine G.oneT hT8 (i := 9) (rem' := 3072) kr kr ?_
      refine G.turnOp rfl rfl (G.cR rfl rfl rfl rfl Tryz.func69 rfl rfl may0 (win_tr _ _ _) ?_)
      refine G.back subT ?_
      refine G.takeT hT8 (i := 10) (rem' := 2048) rfl rfl rfl kr (fun _ _ _ h => h) rfl (pv_notP rfl) subT ?_
      refine G.takeT hT8 (i := 11) (rem' := 0) rfl rfl rfl kr (fun _ _ _ h => h) rfl (pv_assign rfl) subT ?_
      refine G.overT hT8 kr ?_
      exact G.meet (()) trT (.consE rfl (by first | exact dec_t (by unfold rngI; omega) | exact dec_f (by unfold rngI; omega) | exact dec_e (by unfold rngI; omega)) (.cons rfl .nil)) subT
    refine G.pass rfl rfl rfl rfl rfl rfl ?_
    refine G.pass rfl rfl rfl rfl rfl rfl ?_
    refine G.pass rfl rfl rfl rfl rfl rfl ?_
    refine G.op rfl (G.val rfl rfl (pv_pick rfl rfl) ?_)
    refine G.asT rfl rfl ?_
    refine G.nil ?_
    refine G.nThen ?_
    refine G.condF rfl (rfl) ?_
    refine G.drawT (nn := 12) (p := []) (rem := 4095) [0, 1, 2, 0, 8, 16, 0, 64, 160, 292, 512, 1536] [0, 1, 2, 0, 8, 16, 0, 64, 128, 292, 512, 1024] kr ⟨rfl, by kernel_rfl, by kernel_rfl⟩ subT kr (fun hT8 => ?_)
    refine G.takeT hT8 (i := 0) (rem' := 4094) rfl rfl rfl kr (fun _ _ _ h => h) rfl (pv_fieldAddrK (sz := 0) (k := 5) Tryz.underlying80 rfl kr rfl rfl) subT ?_
    refine G.takeT hT8 (i := 3) (rem' := 4086) rfl rfl rfl kr (fun _ _ _ h => h) rfl (pv_fieldAddrK (sz := 0) (k := 3) Tryz.underlying80 rfl kr rfl rfl) subT ?_
    refine G.takeT hT8 (i := 6) (rem' := 4022) rfl rfl rfl kr (fun _ _ _ h => h) rfl (pv_fieldAddrK (sz := 0) (k := 3) Tryz.underlying80 rfl kr rfl rfl) subT ?_
    refine G.takeT hT8 (i := 1) (rem' := 4020) rfl rfl rfl kr (fun _ _ _ h => h) rfl (pv_load Tryz.underlying60 rfl rfl celT) subT ?_
    refine G.takeT hT8 (i := 2) (rem' := 4016) rfl rfl rfl kr (fun _ _ _ h => h) rfl (pv_lenSl Tryz.underlying60 rfl) subT ?_
    refine G.takeT hT8 (i := 4) (rem' := 4000) rfl rfl rfl kr (fun _ _ _ h => h) rfl (pv_load Tryz.underlying3 rfl rfl celT) subT ?_
    refine G.takeT hT8 (i := 7) (rem' := 3872) rfl rfl rfl kr (fun _ _ _ h => h) rfl (pv_load Tryz.underlying3 rfl rfl celT) subT ?_
    refine G.oneT hT8 (i := 5) (rem' := 3840) kr kr ?_
    refine G.turnOp rfl rfl (G.cR rfl rfl rfl rfl Tryz.func102 rfl rfl may0 (parts_tr _ _ (by omega) (by omega) (by omega)) ?_)
    refine G.back subT ?_
    refine G.oneT hT8 (i := 8) (rem' := 3584) kr kr ?_
    refine G.turnOp rfl rfl (G.cR rfl rfl rfl rfl Tryz.func102 rfl rfl may0 (parts_tr _ _ (by omega) (by omega) (by omega)) ?_)
    refine G.back subT ?_
    refine G.oneT hT8 (i := 9) (rem' := 3072) kr kr ?_
    refine G.turnOp rfl rfl (G.cR rfl rfl rfl rfl Tryz.func69 rfl rfl may0 (win_tr _ _ _) ?_)
    refine G.back subT ?_
    refine G.takeT hT8 (i := 10) (rem' := 2048) rfl rfl rfl kr (fun _ _ _ h => h) rfl (pv_notP rfl) subT ?_
    refine G.takeT hT8 (i := 11) (rem' := 0) rfl rfl rfl kr (fun _ _ _ h => h) rfl (pv_assign rfl) subT ?_
    refine G.overT hT8 kr ?_
    exact G.meet (()) trT (.consE rfl (by first | exact dec_t (by unfold rngI; omega) | exact dec_f (by unfold rngI; omega) | exact dec_e (by unfold rngI; omega)) (.cons rfl .nil)) subT
  intro _ hJ
  try dsimp only at hJ
  try dsimp only
  refine G.condP rfl (fun h37 => ?_) (fun h37 => ?_)
  · refine G.seq (G.region ?_)
    refine G.asT rfl rfl ?_
    refine G.nil ?_
    refine G.nThen ?_
    refine G.ret ?_
    refine G.rBlock ?_
    refine G.rThen ?_
    exact G.done0G rfl (Rv.tmp rfl Rv.nil) (by rw [oneI_rng hok (by assumption) (by assumption)]; rfl)
  refine G.skip ?_
  refine G.nBlock ?_
  refine G.nThen (G.seq (G.region ?_))
  refine G.asT rfl rfl ?_
  refine G.nil ?_
  refine G.nThen ?_
  refine G.ret ?_
  exact G.done0G rfl (Rv.tmp rfl Rv.nil) (by rw [oneI_ok hok (by assumption) (by assumption)]; rfl)
set_option maxRecDepth 20000 in
set_option maxHeartbeats 4000000 in
theorem ioneR_tr {Pd : Nat → Prop} (e : It) (d : Value) (hl : e.path.length ≤ 9223372036854775807) (hn : e.ids.length ≤ 140737488355328) (hsz : I64 e.size) : Tr Tryz.prog 74 #[.agg #[.string (sB e.path), .int .i64 e.kind, .int .i64 e.mode, .int .i64 e.size, .string (sB e.to), d]] [slc rID Pd d e.ids] [] (T0 (.int .i64 (oneI e))) := by
  refine Tr.of (l := [(0, .agg #[.string (sB e.path), .int .i64 e.kind, .int .i64 e.mode, .int .i64 e.size, .string (sB e.to), d])]) Tryz.func74 rfl (n := 63) rfl (.cons rfl .nil) (fun w0 hro => ?_)
  have hd := ro1 hro
  obtain ⟨ad, cap, rfl⟩ := Ro.slv hd
  have hto := nil_len (s := e.to)
  obtain ⟨hs1, hs2⟩ := hsz
  refine G.seq (G.region ?_)
  refine G.op rfl (G.box rfl rfl (cs := [_, _, _, _, _, _]) rfl ?_)
  intro b1
  refine G.asT rfl rfl ?_
  refine G.nil ?_
  refine G.nThen (G.seq (G.seq (G.region ?_)))
  refine G.op rfl (G.val rfl rfl (pv_fieldAddrK (sz := 0) (k := 0) Tryz.underlying80 rfl kr rfl rfl) ?_)
  refine G.op rfl (G.val rfl rfl (pv_load Tryz.underlying9 rfl rfl celT) ?_)
  refine G.op rfl (G.cR rfl rfl rfl rfl Tryz.func107 rfl rfl may0 (validR_tr _ (by omega)) ?_)
  refine G.op rfl (G.val rfl rfl (pv_notP rfl) ?_)
  refine G.nil ?_
  refine G.nThen ?_
  refine G.condP rfl (fun h7 => ?_) (fun h7 => ?_)
  · refine G.seq (G.region ?_)
    refine G.asT rfl rfl ?_
    refine G.nil ?_
    refine G.nThen ?_
    refine G.ret ?_
    refine G.rThen ?_
    exact G.done0G rfl (Rv.tmp rfl Rv.nil) (by rw [oneI_bytes (by assumption)]; rfl)
  have hok : okP e.path := Decidable.of_not_not (by assumption)
  refine G.skip ?_
  refine G.nThen (G.seq (G.region ?_))
  refine G.op rfl (G.val rfl rfl (pv_fieldAddrK (sz := 0) (k := 1) Tryz.underlying80 rfl kr rfl rfl) ?_)
  refine G.op rfl (G.val rfl rfl (pv_load Tryz.underlying3 rfl rfl celT) ?_)
  refine G.op rfl (G.val rfl rfl (pv_eql rfl rfl) ?_)
  refine G.asT rfl rfl ?_
  refine G.nil ?_
  refine G.nThen (G.seq (G.seq ?_))
  refine G.cutK (X := Unit) (ts := [1, 2]) (p := []) (fun _ => True) (fun _ => [(39, .bool (decide (numI e)))]) (fun _ => []) (.cons rfl (.cons rfl .nil)) subT (.cons .nil) apT ?_ ?_
  · refine G.region ?_
    refine G.op rfl (G.val rfl rfl (pv_fieldAddrK (sz := 0) (k := 1) Tryz.underlying80 rfl kr rfl rfl) ?_)
    refine G.op rfl (G.val rfl rfl (pv_load Tryz.underlying3 rfl rfl celT) ?_)
    refine G.op rfl (G.cR rfl rfl rfl rfl Tryz.func73 rfl rfl may0 (winR_tr _ _ _) ?_)
    refine G.op rfl (G.val rfl rfl (pv_notP rfl) ?_)
    refine G.mvT rfl rfl ?_
    refine G.partP (t := 15) rfl (fun h15 => ?_) (fun h15 => ?_)
    · refine G.pass rfl rfl rfl rfl rfl rfl ?_
      refine G.pass rfl rfl rfl rfl rfl rfl ?_
      refine G.pass rfl rfl rfl rfl rfl rfl ?_
      refine G.pass rfl rfl rfl rfl rfl rfl ?_
      refine G.op rfl (G.val rfl rfl (pv_pick rfl rfl) ?_)
      refine G.mvT rfl rfl ?_
      refine G.pass rfl rfl rfl rfl rfl rfl ?_
      refine G.pass rfl rfl rfl rfl rfl rfl ?_
      refine G.pass rfl rfl rfl rfl rfl rfl ?_
      refine G.passU rfl rfl rfl rfl rfl ?_
      refine G.passU rfl rfl rfl rfl rfl ?_
      refine G.passU rfl rfl rfl rfl rfl ?_
      refine G.pass rfl rfl rfl rfl rfl rfl ?_
      refine G.op rfl (G.val rfl rfl (pv_pick rfl rfl) ?_)
      refine G.mvT rfl rfl ?_
      refine G.pass rfl rfl rfl rfl rfl rfl ?_
      refine G.pass rfl rfl rfl rfl rfl rfl ?_
      refine G.passU rfl rfl rfl rfl rfl ?_
      refine G.passU rfl rfl rfl rfl rfl ?_
      refine G.passU rfl rfl rfl rfl rfl ?_
      refine G.passU rfl rfl rfl rfl rfl ?_
      refine G.passU rfl rfl rfl rfl rfl ?_
      refine G.pass rfl rfl rfl rfl rfl rfl ?_
      refine G.op rfl (G.val rfl rfl (pv_pick rfl rfl) ?_)
      refine G.nil ?_
      exact G.meet (()) trT (.consE rfl (by first | exact dec_t (by unfold numI; omega) | exact dec_f (by unfold numI; omega) | exact dec_e (by unfold numI; omega)) (.cons rfl (.cons rfl .nil))) subT
    refine G.want rfl rfl rfl (G.val rfl rfl (pv_fieldAddrK (sz := 0) (k := 2) Tryz.underlying80 rfl kr rfl rfl) ?_)
    refine G.want rfl rfl rfl (G.val rfl rfl (pv_load Tryz.underlying3 rfl rfl celT) ?_)
    refine G.want rfl rfl rfl (G.cR rfl rfl rfl rfl Tryz.func73 rfl rfl may0 (winR_tr _ _ _) ?_)
    refine G.want rfl rfl rfl (G.val rfl rfl (pv_notP rfl) ?_)
    refine G.op rfl (G.val rfl rfl (pv_pick rfl rfl) ?_)
    refine G.mvT rfl rfl ?_
    refine G.partP (t := 21) rfl (fun h21 => ?_) (fun h21 => ?_)
    · refine G.pass rfl rfl rfl rfl rfl rfl ?_
      refine G.pass rfl rfl rfl rfl rfl rfl ?_
      refine G.pass rfl rfl rfl rfl rfl rfl ?_
      refine G.passU rfl rfl rfl rfl rfl ?_
      refine G.passU rfl rfl rfl rfl rfl ?_
      refine G.passU rfl rfl rfl rfl rfl ?_
      refine G.pass rfl rfl rfl rfl rfl rfl ?_
      refine G.op rfl (G.val rfl rfl (pv_pick rfl rfl) ?_)
      refine G.mvT rfl rfl ?_
      refine G.pass rfl rfl rfl rfl rfl rfl ?_
      refine G.pass rfl rfl rfl rfl rfl rfl ?_
      refine G.passU rfl rfl rfl rfl rfl ?_
      refine G.passU rfl rfl rfl rfl rfl ?_
      refine G.passU rfl rfl rfl rfl rfl ?_
      refine G.passU rfl rfl rfl rfl rfl ?_
      refine G.passU rfl rfl rfl rfl rfl ?_
      refine G.pass rfl rfl rfl rfl rfl rfl ?_
      refine G.op rfl (G.val rfl rfl (pv_pick rfl rfl) ?_)
      refine G.nil ?_
      exact G.meet (()) trT (.consE rfl (by first | exact dec_t (by unfold numI; omega) | exact dec_f (by unfold numI; omega) | exact dec_e (by unfold numI; omega)) (.cons rfl (.cons rfl .nil))) subT
    refine G.want rfl rfl rfl (G.val rfl rfl (pv_move rfl) ?_)
    refine G.want rfl rfl rfl (G.val rfl rfl (pv_notP rfl) ?_)
    refine G.want rfl rfl rfl (G.val rfl rfl (pv_move rfl) ?_)
    refine G.partP (t := 24) rfl (fun h24 => ?_) (fun h24 => ?_)
    · refine G.want rfl rfl rfl (G.val rfl rfl (pv_fieldAddrK (sz := 0) (k := 4) Tryz.underlying80 rfl kr rfl rfl) ?_)
      refine G.want rfl rfl rfl (G.val rfl rfl (pv_load Tryz.underlying9 rfl rfl celT) ?_)
      refine G.want rfl rfl rfl (G.val rfl rfl (pv_neqS rfl rfl) ?_)
      refine G.want rfl rfl rfl (G.val rfl rfl (pv_pick rfl rfl) ?_)
      refine G.op rfl (G.val rfl rfl (pv_pick rfl rfl) ?_)
      refine G.mvT rfl rfl ?_
      refine G.partP (t := 30) rfl (fun h30 => ?_) (fun h30 => ?_)
      · have hb := h30
        try rw [ne_eq, hto] at hb
        refine G.pass rfl rfl rfl rfl rfl rfl ?_
        refine G.pass rfl rfl rfl rfl rfl rfl ?_
        refine G.passU rfl rfl rfl rfl rfl ?_
        refine G.passU rfl rfl rfl rfl rfl ?_
        refine G.passU rfl rfl rfl rfl rfl ?_
        refine G.passU rfl rfl rfl rfl rfl ?_
        refine G.passU rfl rfl rfl rfl rfl ?_
        refine G.pass rfl rfl rfl rfl rfl rfl ?_
        refine G.op rfl (G.val rfl rfl (pv_pick rfl rfl) ?_)
        refine G.nil ?_
        exact G.meet (()) trT (.consE rfl (by first | exact dec_t (by unfold numI; omega) | exact dec_f (by unfold numI; omega) | exact dec_e (by unfold numI; omega)) (.cons rfl (.cons rfl .nil))) subT
      have hb := h30
      try rw [ne_eq, hto] at hb
      refine G.want rfl rfl rfl (G.val rfl rfl (pv_move rfl) ?_)
      refine G.want rfl rfl rfl (G.val rfl rfl (pv_move rfl) ?_)
      refine G.partP (t := 32) rfl (fun h32 => ?_) (fun h32 => ?_)
      · refine G.want rfl rfl rfl (G.val rfl rfl (pv_fieldAddrK (sz := 0) (k := 4) Tryz.underlying80 rfl kr rfl rfl) ?_)
        refine G.want rfl rfl rfl (G.val rfl rfl (pv_load Tryz.underlying9 rfl rfl celT) ?_)
        refine G.want rfl rfl rfl (G.val rfl rfl (pv_lenS Tryz.underlying9 rfl) ?_)
        refine G.want rfl rfl rfl (G.cR rfl rfl rfl rfl Tryz.func73 rfl rfl may0 (winR_tr _ _ _) ?_)
        refine G.want rfl rfl rfl (G.val rfl rfl (pv_notP rfl) ?_)
        refine G.want rfl rfl rfl (G.val rfl rfl (pv_pick rfl rfl) ?_)
        refine G.op rfl (G.val rfl rfl (pv_pick rfl rfl) ?_)
        refine G.nil ?_
        exact G.meet (()) trT (.consE rfl (by first | exact dec_t (by unfold numI; omega) | exact dec_f (by unfold numI; omega) | exact dec_e (by unfold numI; omega)) (.cons rfl (.cons rfl .nil))) subT
      refine G.pass rfl rfl rfl rfl rfl rfl ?_
      refine G.pass rfl rfl rfl rfl rfl rfl ?_
      refine G.pass rfl rfl rfl rfl rfl rfl ?_
      refine G.pass rfl rfl rfl rfl rfl rfl ?_
      refine G.pass rfl rfl rfl rfl rfl rfl ?_
      refine G.want rfl rfl rfl (G.val rfl rfl (pv_pick rfl rfl) ?_)
      refine G.op rfl (G.val rfl rfl (pv_pick rfl rfl) ?_)
      refine G.nil ?_
      exact G.meet (()) trT (.consE rfl (by first | exact dec_t (by unfold numI; omega) | exact dec_f (by unfold numI; omega) | exact dec_e (by unfold numI; omega)) (.cons rfl (.cons rfl .nil))) subT
    refine G.pass rfl rfl rfl rfl rfl rfl ?_
    refine G.pass rfl rfl rfl rfl rfl rfl ?_
    refine G.pass rfl rfl rfl rfl rfl rfl ?_
    refine G.want rfl rfl rfl (G.val rfl rfl (pv_pick rfl rfl) ?_)
    refine G.op rfl (G.val rfl rfl (pv_pick rfl rfl) ?_)
    refine G.mvT rfl rfl ?_
    refine G.want rfl rfl rfl (G.val rfl rfl (pv_move rfl) ?_)
    refine G.want rfl rfl rfl (G.val rfl rfl (pv_move rfl) ?_)
    refine G.partP (t := 32) rfl (fun h32 => ?_) (fun h32 => ?_)
    · refine G.want rfl rfl rfl (G.val rfl rfl (pv_fieldAddrK (sz := 0) (k := 4) Tryz.underlying80 rfl kr rfl rfl) ?_)
      refine G.want rfl rfl rfl (G.val rfl rfl (pv_load Tryz.underlying9 rfl rfl celT) ?_)
      refine G.want rfl rfl rfl (G.val rfl rfl (pv_lenS Tryz.underlying9 rfl) ?_)
      refine G.want rfl rfl rfl (G.cR rfl rfl rfl rfl Tryz.func73 rfl rfl may0 (winR_tr _ _ _) ?_)
      refine G.want rfl rfl rfl (G.val rfl rfl (pv_notP rfl) ?_)
      refine G.want rfl rfl rfl (G.val rfl rfl (pv_pick rfl rfl) ?_)
      refine G.op rfl (G.val rfl rfl (pv_pick rfl rfl) ?_)
      refine G.nil ?_
      exact G.meet (()) trT (.consE rfl (by first | exact dec_t (by unfold numI; omega) | exact dec_f (by unfold numI; omega) | exact dec_e (by unfold numI; omega)) (.cons rfl (.cons rfl .nil))) subT
    refine G.pass rfl rfl rfl rfl rfl rfl ?_
    refine G.pass rfl rfl rfl rfl rfl rfl ?_
    refine G.pass rfl rfl rfl rfl rfl rfl ?_
    refine G.pass rfl rfl rfl rfl rfl rfl ?_
    refine G.pass rfl rfl rfl rfl rfl rfl ?_
    refine G.want rfl rfl rfl (G.val rfl rfl (pv_pick rfl rfl) ?_)
    refine G.op rfl (G.val rfl rfl (pv_pick rfl rfl) ?_)
    refine G.nil ?_
    exact G.meet (()) trT (.consE rfl (by first | exact dec_t (by unfold numI; omega) | exact dec_f (by unfold numI; omega) | exact dec_e (by unfold numI; omega)) (.cons rfl (.cons rfl .nil))) subT
  intro _ hJ
  try dsimp only at hJ
  try dsimp only
  refine G.condP rfl (fun h39 => ?_) (fun h39 => ?_)
  · refine G.seq (G.region ?_)
    refine G.asT rfl rfl ?_
    refine G.nil ?_
    refine G.nThen ?_
    refine G.ret ?_
    refine G.rThen ?_
    exact G.done0G rfl (Rv.tmp rfl Rv.nil) (by rw [oneI_arg hok (by assumption)]; rfl)
  refine G.skip ?_
  refine G.nThen (G.seq (G.seq ?_))
  refine G.cutK (X := Unit) (ts := [2]) (p := []) (fun _ => True) (fun _ => [(62, .bool (decide (rngI e)))]) (fun _ => []) (.cons rfl .nil) subT (.cons .nil) apT ?_ ?_
  · refine G.region ?_
    refine G.op rfl (G.val rfl rfl (pv_fieldAddrK (sz := 0) (k := 3) Tryz.underlying80 rfl kr rfl rfl) ?_)
    refine G.op rfl (G.val rfl rfl (pv_load Tryz.underlying3 rfl rfl celT) ?_)
    refine G.op rfl (G.cR rfl rfl rfl rfl Tryz.func73 rfl rfl may0 (winR_tr _ _ _) ?_)
    refine G.op rfl (G.val rfl rfl (pv_notP rfl) ?_)
    refine G.mvT rfl rfl ?_
    refine G.partP (t := 44) rfl (fun h44 => ?_) (fun h44 => ?_)
    · refine G.pass rfl rfl rfl rfl rfl rfl ?_
      refine G.pass rfl rfl rfl rfl rfl rfl ?_
      refine G.pass rfl rfl rfl rfl rfl rfl ?_
      refine G.pass rfl rfl rfl rfl rfl rfl ?_
      refine G.passU rfl rfl rfl rfl rfl ?_
      refine G.passU rfl rfl rfl rfl rfl ?_
      refine G.passU rfl rfl rfl rfl rfl ?_
      refine G.pass rfl rfl rfl rfl rfl rfl ?_
      refine G.op rfl (G.val rfl rfl (pv_pick rfl rfl) ?_)
      refine G.mvT rfl rfl ?_
      refine G.pass rfl rfl rfl rfl rfl rfl ?_
      refine G.pass rfl rfl rfl rfl rfl rfl ?_
      refine G.pass rfl rfl rfl rfl rfl rfl ?_
      refine G.pass rfl rfl rfl rfl rfl rfl ?_
      refine G.pass rfl rfl rfl rfl rfl rfl ?_
      refine G.pass rfl rfl rfl rfl rfl rfl ?_
      refine G.pass rfl rfl rfl rfl rfl rfl ?_
      refine G.op rfl (G.val rfl rfl (pv_pick rfl rfl) ?_)
      refine G.nil ?_
      exact G.meet (()) trT (.consE rfl (by first | exact dec_t (by unfold rngI; omega) | exact dec_f (by unfold rngI; omega) | exact dec_e (by unfold rngI; omega)) (.cons rfl .nil)) subT
    refine G.want rfl rfl rfl (G.val rfl rfl (pv_fieldAddrK (sz := 0) (k := 3) Tryz.underlying80 rfl kr rfl rfl) ?_)
    refine G.want rfl rfl rfl (G.val rfl rfl (pv_load Tryz.underlying3 rfl rfl celT) ?_)
    refine G.want rfl rfl rfl (G.val rfl rfl (pv_neq rfl rfl) ?_)
    refine G.want rfl rfl rfl (G.val rfl rfl (pv_move rfl) ?_)
    refine G.partP (t := 48) rfl (fun h48 => ?_) (fun h48 => ?_)
    · refine G.want rfl rfl rfl (G.val rfl rfl (pv_fieldAddrK (sz := 0) (k := 1) Tryz.underlying80 rfl kr rfl rfl) ?_)
      refine G.want rfl rfl rfl (G.val rfl rfl (pv_load Tryz.underlying3 rfl rfl celT) ?_)
      refine G.want rfl rfl rfl (G.val rfl rfl (pv_neq rfl rfl) ?_)
      refine G.want rfl rfl rfl (G.val rfl rfl (pv_pick rfl rfl) ?_)
      refine G.op rfl (G.val rfl rfl (pv_pick rfl rfl) ?_)
      refine G.mvT rfl rfl ?_
      refine G.partP (t := 54) rfl (fun h54 => ?_) (fun h54 => ?_)
      · refine G.pass rfl rfl rfl rfl rfl rfl ?_
        refine G.pass rfl rfl rfl rfl rfl rfl ?_
        refine G.pass rfl rfl rfl rfl rfl rfl ?_
        refine G.pass rfl rfl rfl rfl rfl rfl ?_
        refine G.pass rfl rfl rfl rfl rfl rfl ?_
        refine G.pass rfl rfl rfl rfl rfl rfl ?_
        refine G.pass rfl rfl rfl rfl rfl rfl ?_
        refine G.op rfl (G.val rfl rfl (pv_pick rfl rfl) ?_)
        refine G.nil ?_
        exact G.meet (()) trT (.consE rfl (by first | exact dec_t (by unfold rngI; omega) | exact dec_f (by unfold rngI; omega) | exact dec_e (by unfold rngI; omega)) (.cons rfl .nil)) subT
      refine G.want rfl rfl rfl (G.val rfl rfl (pv_fieldAddrK (sz := 0) (k := 3) Tryz.underlying80 rfl kr rfl rfl) ?_)
      refine G.want rfl rfl rfl (G.val rfl rfl (pv_load Tryz.underlying3 rfl rfl celT) ?_)
      refine G.want rfl rfl rfl (G.val rfl rfl (pv_fieldAddrK (sz := 0) (k := 5) Tryz.underlying80 rfl kr rfl rfl) ?_)
      refine G.want rfl rfl rfl (G.val rfl rfl (pv_load Tryz.underlying60 rfl rfl celT) ?_)
      refine G.want rfl rfl rfl (G.val rfl rfl (pv_lenSl Tryz.underlying60 rfl) ?_)
      refine G.want rfl rfl rfl (G.cR rfl rfl rfl rfl Tryz.func108 rfl rfl may0 (many_tr _ _ (by omega) (by omega)) ?_)
      refine G.want rfl rfl rfl (G.val rfl rfl (pv_notP rfl) ?_)
      refine G.op rfl (G.val rfl rfl (pv_pick rfl rfl) ?_)
      refine G.nil ?_
      exact G.meet (()) trT (.consE rfl (by first | exact dec_t (by unfold rngI; omega) | exact dec_f (by unfold rngI; omega) | exact dec_e (by unfold rngI; omega)) (.cons rfl .nil)) subT
    refine G.pass rfl rfl rfl rfl rfl rfl ?_
    refine G.pass rfl rfl rfl rfl rfl rfl ?_
    refine G.pass rfl rfl rfl rfl rfl rfl ?_
    refine G.want rfl rfl rfl (G.val rfl rfl (pv_pick rfl rfl) ?_)
    refine G.op rfl (G.val rfl rfl (pv_pick rfl rfl) ?_)
    refine G.mvT rfl rfl ?_
    refine G.want rfl rfl rfl (G.val rfl rfl (pv_fieldAddrK (sz := 0) (k := 3) Tryz.underlying80 rfl kr rfl rfl) ?_)
    refine G.want rfl rfl rfl (G.val rfl rfl (pv_load Tryz.underlying3 rfl rfl celT) ?_)
    refine G.want rfl rfl rfl (G.val rfl rfl (pv_fieldAddrK (sz := 0) (k := 5) Tryz.underlying80 rfl kr rfl rfl) ?_)
    refine G.want rfl rfl rfl (G.val rfl rfl (pv_load Tryz.underlying60 rfl rfl celT) ?_)
    refine G.want rfl rfl rfl (G.val rfl rfl (pv_lenSl Tryz.underlying60 rfl) ?_)
    refine G.want rfl rfl rfl (G.cR rfl rfl rfl rfl Tryz.func108 rfl rfl may0 (many_tr _ _ (by omega) (by omega)) ?_)
    refine G.want rfl rfl rfl (G.val rfl rfl (pv_notP rfl) ?_)
    refine G.op rfl (G.val rfl rfl (pv_pick rfl rfl) ?_)
    refine G.nil ?_
    exact G.meet (()) trT (.consE rfl (by first | exact dec_t (by unfold rngI; omega) | exact dec_f (by unfold rngI; omega) | exact dec_e (by unfold rngI; omega)) (.cons rfl .nil)) subT
  intro _ hJ
  try dsimp only at hJ
  try dsimp only
  refine G.condP rfl (fun h62 => ?_) (fun h62 => ?_)
  · refine G.seq (G.region ?_)
    refine G.asT rfl rfl ?_
    refine G.nil ?_
    refine G.nThen ?_
    refine G.ret ?_
    refine G.rThen ?_
    exact G.done0G rfl (Rv.tmp rfl Rv.nil) (by rw [oneI_rng hok (by assumption) (by assumption)]; rfl)
  refine G.skip ?_
  refine G.nThen (G.seq (G.region ?_))
  refine G.asT rfl rfl ?_
  refine G.nil ?_
  refine G.nThen ?_
  refine G.ret ?_
  exact G.done0G rfl (Rv.tmp rfl Rv.nil) (by rw [oneI_ok hok (by assumption) (by assumption)]; rfl)
end Go.Proofs.YtbfpbibkklfnfaaGreat

set_option linter.unusedVariables false
set_option linter.unusedSimpArgs false
namespace Go.Proofs.YtbfpbibkklfnfaaGreat
open Go.RowKit
open Go.ChangeShapes Go.WideShapes
def okS9 (s : List UInt8) : Prop := s.length ≤ 140737488355328
theorem mapM_each' {α β : Type} {f : α → Option β} : ∀ {l : List α}, (∀ x ∈ l, ∃ y, f x = some y) → ∃ ys, l.mapM f = some ys
  | [], _ => ⟨[], rfl⟩
  | a :: l, h => by
    obtain ⟨y, hy⟩ := h a (List.mem_cons_self ..)
    obtain ⟨ys, hys⟩ := mapM_each' (l := l) fun x hx => h x (List.mem_cons_of_mem _ hx)
    exact ⟨y :: ys, by rw [List.mapM_cons, hy, hys]; rfl⟩
theorem vStr_inj {a b : List UInt8} (h : vStr a = vStr b) : a = b := by
  unfold vStr at h
  injection h with h
  exact sB_inj h
theorem vInt_inj {a b : Int} (h : vInt a = vInt b) : a = b := by
  unfold vInt at h
  injection h
theorem vByte_inj {a b : UInt8} (h : vByte a = vByte b) : a = b := by
  unfold vByte at h
  injection h with _ h
  exact UInt8.toNat_inj.1 (by omega)
theorem keyS : KeyF Tryz.prog 9 vStr okS9 where
  keyed := Go.Maps.string_keyed Tryz.underlying9
  is x hx := ⟨_, Go.WideMaps.keyOf_string_mk Tryz.underlying9 (by show (sB x).size ≤ maxLen; rw [sB_size]; unfold maxLen; unfold okS9 at hx; omega)⟩
  inj _ _ h := vStr_inj h
def ok16 (x : List UInt8) : Prop := x.length = 16
theorem vID_inj {a b : List UInt8} (h : vID a = vID b) : a = b := by
  unfold vID at h
  injection h with h
  have h2 : a.map vByte = b.map vByte := by have := congrArg Array.toList h; simpa using this
  exact List.map_inj_right (fun _ _ => vByte_inj) |>.1 h2
theorem keyI_is (x : List UInt8) (hx : ok16 x) : ∃ l, keyOf Tryz.prog 66 (vID x) = some l := by
  have hx : x.length = 16 := hx
  have hu : Tryz.prog.underlying 66 = some (.array 16 5) := Tryz.underlying66
  have hc : Tryz.prog.cellsOf 66 = 16 := by kernel_rfl
  have hc1 : Tryz.prog.cellsOf 5 = 1 := by kernel_rfl
  have hk : Tryz.prog.keyType 66 = true := by kernel_rfl
  have hpos : 0 < Tryz.prog.types.size := of_decide_eq_true kr
  obtain ⟨sz, hsz⟩ : ∃ m, Tryz.prog.types.size = m + 1 := ⟨Tryz.prog.types.size - 1, by omega⟩
  unfold keyOf
  rw [hu]
  simp only
  rw [if_pos (by simp [hk, vID, Value.formed, hu, hc, hx])]
  have : ∃ ls, Tryz.prog.keyLits (Tryz.prog.types.size + 1) 66 (vID x).cells.toList = some ls := by
    unfold Program.keyLits
    rw [hu]
    simp only
    rw [if_pos (by simp [vID, Value.cells, hc, hx])]
    obtain ⟨ys, hys⟩ := mapM_each' (l := List.range 16) (f := fun i => Tryz.prog.keyLits Tryz.prog.types.size 5 (((vID x).cells.toList.drop (i * Tryz.prog.cellsOf 5)).take (Tryz.prog.cellsOf 5))) fun i hi => by
      have hi : i < x.length := by rw [hx]; simpa using hi
      have e : (((vID x).cells.toList.drop (i * Tryz.prog.cellsOf 5)).take (Tryz.prog.cellsOf 5)) = [vByte x[i]] := by
        rw [hc1, Nat.mul_one]
        show ((x.map vByte).drop i).take 1 = _
        rw [List.drop_eq_getElem_cons (by simpa using hi)]
        simp
      rw [e, hsz]
      unfold Program.keyLits
      rw [show Tryz.prog.underlying 5 = some (.int .u8) from Tryz.underlying5]
      have := x[i].toNat_lt
      exact ⟨_, if_pos ⟨rfl, by simp only [Lit.wf, Bool.and_eq_true, decide_eq_true_eq]; exact ⟨by show (0 : Int) ≤ _; omega, by show _ ≤ (255 : Int); omega⟩⟩⟩
    rw [hys]
    exact ⟨_, rfl⟩
  obtain ⟨ls, hls⟩ := this
  exact ⟨_, by rw [hls]; rfl⟩
theorem keyI : KeyF Tryz.prog 66 vID ok16 where
  keyed := Go.Maps.Keyed.of_law (Go.deep_law_laid Tryz.laidOut (m := 3) (by omega) (of_decide_eq_true kr) kr kr)
  is := keyI_is
  inj _ _ h := vID_inj h
end Go.Proofs.YtbfpbibkklfnfaaGreat

