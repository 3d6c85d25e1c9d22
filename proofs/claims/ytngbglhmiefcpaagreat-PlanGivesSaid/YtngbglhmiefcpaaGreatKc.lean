/- Merged of VE, TC, TD, TE, TF, TG, WM, VG, WX, NC, NF, ZA, ZB, ZC, TV, VI, VJ, VA, VK, VL, VM, VP, DigM. Conditions: none. -/
import Derived.Test.YtngbglhmiefcpaaGreatKb
import Derived.Maps.Keyed
import Derived.Lib.Overlaps
import Derived.Lib.AppendZeros
import Derived.Laws.Externs
import Derived.ArgAppend
import Derived.DeepKeys4
import Derived.Laws.BitsLemmas
namespace Go.Proofs.YtngbglhmiefcpaaGreat
open Go.RowKit
set_option linter.unusedVariables false
set_option linter.unusedSimpArgs false
abbrev LT := List (List UInt8 × Value)
def datB (e : TypeId) (l : LT) : Ck := star (l.map fun x => ownB e x.2 x.1)
section
variable {P : Program} {n : Nat} {w0 : World} {S : Nat → Prop} {l : Fr} {m : List Ck} {K : Act → World → Prop}
theorem G.datBNil (e : TypeId) (h : G n w0 S l (datB e [] :: m) K) : G n w0 S l m K := G.mem (fun w hw => Hp.star (m := []) hw) h
theorem G.datBSnoc {e : TypeId} {ys : LT} {x : List UInt8} {u : Value} {r r' : List Ck} (h1 : Sel m (datB e ys) r) (h2 : Sel r (ownB e u x) r') (h : G n w0 S l (datB e (ys ++ [(x, u)]) :: r') K) : G n w0 S l m K := G.mem (fun w hw => by
 have h3 := Hp.unstar (hw.sel h1)
 have p : (ys.map (fun x : List UInt8 × Value => ownB e x.2 x.1) ++ r).Perm (((ys ++ [(x, u)]).map fun x : List UInt8 × Value => ownB e x.2 x.1) ++ r') := by
  rw [List.map_append, List.append_assoc]
  exact List.Perm.append_left _ h2.perm
 exact Hp.star (h3.perm p)) h
theorem G.datBCons {e : TypeId} {x : List UInt8} {u : Value} {xs : LT} {r : List Ck} (h1 : Sel m (datB e ((x, u) :: xs)) r) (h : G n w0 S l (ownB e u x :: datB e xs :: r) K) : G n w0 S l m K := G.mem (fun w hw => by
 have h2 : Hp w0 S w ((ownB e u x :: xs.map fun x => ownB e x.2 x.1) ++ r) := Hp.unstar (hw.sel h1)
 have h3 : Hp w0 S w ((xs.map fun x => ownB e x.2 x.1) ++ (ownB e u x :: r)) := h2.perm (by
  rw [List.cons_append]
  exact List.perm_middle.symm)
 exact (Hp.star h3).perm (List.Perm.swap ..)) h
theorem datB_sl {w : World} {e : TypeId} {xs : LT} (h : (datB e xs).φ w) : ∀ x ∈ xs, IsSl rByte (datB e xs).S w x.2 x.1 := fun x hx => by
 have h1 : (ownB e x.2 x.1).φ w := h.1 _ (List.mem_map.2 ⟨x, hx, rfl⟩)
 exact (own_isSl' (p := fun _ => True) (OwnB.own h1) rfl (fun _ _ => trivial)).mono fun k hk => ⟨_, List.mem_map.2 ⟨x, hx, rfl⟩, hk⟩
theorem may_datB {e : TypeId} {xs : LT} {r : List Ck} (h : Sel m (datB e xs) r) {x : List UInt8} {u : Value} (hx : (x, u) ∈ xs) : May w0 S m (slc rByte (datB e xs).S u x) :=
 .view h.mem (fun w hw => datB_sl hw _ hx) fun b hb => hb
end
def atC (b : List UInt8) (k : Nat) : Nat := (0 :: cutL b).getD k 0
def pieceC (b : List UInt8) (k : Nat) : List UInt8 := (b.take (atC b (k + 1))).drop (atC b k)
def piecesC (b : List UInt8) (k : Nat) : List (List UInt8) := (List.range k).map (pieceC b)
def chunksC (b : List UInt8) : List (List UInt8) := piecesC b (cutL b).length ++ (if atC b (cutL b).length < b.length then [b.drop (atC b (cutL b).length)] else [])
theorem piecesC_succ (b : List UInt8) (k : Nat) : piecesC b (k + 1) = piecesC b k ++ [pieceC b k] := by
 unfold piecesC
 rw [List.range_succ, List.map_append]
 rfl
theorem atC_succ (b : List UInt8) (k : Nat) : atC b (k + 1) = (cutL b).getD k 0 := by
 unfold atC
 rw [List.getD_cons_succ]
theorem cutTo_mono (b : List UInt8) : ∀ i, (cutTo b i).Pairwise (· < ·)
 | 0 => .nil
 | i + 1 => by
  unfold cutTo
  split
  ·refine List.pairwise_append.2 ⟨cutTo_mono b i, by simp, fun x hx y hy => ?_⟩
   obtain rfl : y = i + 1 := by simpa using hy
   exact Nat.lt_succ_of_le (cut_le b i x hx)
  exact cutTo_mono b i
theorem atC_le (b : List UInt8) (k : Nat) : atC b k ≤ b.length := by
 cases k with
 | zero => exact Nat.zero_le _
 | succ k =>
  rw [atC_succ]
  rcases Nat.lt_or_ge k (cutL b).length with h | h
  ·rw [List.getD_eq_getElem?_getD, List.getElem?_eq_getElem h]
   exact cut_le b _ _ (List.getElem_mem h)
  rw [List.getD_eq_getElem?_getD, List.getElem?_eq_none h]
  exact Nat.zero_le _
theorem atC_mono {b : List UInt8} {k : Nat} (h : k < (cutL b).length) : atC b k ≤ atC b (k + 1) := by
 cases k with
 | zero => exact Nat.zero_le _
 | succ k =>
  rw [atC_succ, atC_succ, List.getD_eq_getElem?_getD, List.getD_eq_getElem?_getD, List.getElem?_eq_getElem h, List.getElem?_eq_getElem (show k < (cutL b).length by omega)]
  exact Nat.le_of_lt ((List.pairwise_iff_getElem.1 (cutTo_mono b _)) k (k + 1) (by show k < (cutL b).length; omega) h (by omega))
theorem cutL_len (b : List UInt8) : ∀ i, (cutTo b i).length ≤ i
 | 0 => Nat.le_refl _
 | i + 1 => by
  unfold cutTo
  have := cutL_len b i
  split
  ·rw [List.length_append, List.length_singleton]; omega
  omega
theorem Tryz.infoSlB : (Tryz.prog.info? 31).map (fun i => (i.zero.map (·.cells.size), i.size, i.bytes)) = some (some 1, 1, 24) := by kernel_rfl
set_option maxRecDepth 20000 in
set_option maxHeartbeats 4000000 in
theorem csplit_tr {Pv : Nat → Prop} (v : Value) (bs : List UInt8) (hb : bs.length ≤ 4000000) : Tr Tryz.prog 74 #[v] [slc rByte Pv v bs] []
 (TX (fun z : Value × LT => z.2.map (·.1) = chunksC bs) (fun z => z.1) (fun z => [own 31 1 z.1 z.2.length (z.2.map (·.2)), datB 5 z.2])) := by
 refine Tr.ofM (l := [(0, v)]) Tryz.func74 rfl (n := 32) rfl (.cons rfl .nil) (fun w0 hro => ?_)
 have hv0 := ro1 hro
 obtain ⟨ad, cap, b0, off, rfl, hcap, hmax, hnil, had, hel⟩ := Ro.open hv0
 have hv1 : (Value.slice ad bs.length cap).oneCell' = true := rfl
 have hcl : (cutL bs).length ≤ bs.length := cutL_len bs bs.length
 refine go [32,33] ?_
 refine G.op rfl (G.box rfl rfl (cs := [_]) rfl ?_)
 intro b1
 refine go [1,34,31,32,33] ?_
 refine G.op rfl (G.alloc (z := .slice none 0 0) (cs := [.slice none 0 0]) rfl kr rfl ?_)
 intro b3
 refine go [34,31,32,33] ?_
 refine G.op rfl (G.cR rfl rfl rfl rfl Tryz.func114 rfl rfl may0 (fresh_tr) ?_)
 refine G.op rfl (G.alloc (z := .agg #[.int .u8 0, .int .u8 0, .int .u8 0, .int .u8 0, .int .u8 0, .int .u8 0, .int .u8 0, .int .u8 0, .int .u8 0, .int .u8 0, .int .u8 0, .int .u8 0, .int .u8 0, .int .u8 0, .int .u8 0, .int .u8 0, .int .i64 0, .int .u32 0, .bool false, .int .i64 0]) (cs := [.int .u8 0, .int .u8 0, .int .u8 0, .int .u8 0, .int .u8 0, .int .u8 0, .int .u8 0, .int .u8 0, .int .u8 0, .int .u8 0, .int .u8 0, .int .u8 0, .int .u8 0, .int .u8 0, .int .u8 0, .int .u8 0, .int .i64 0, .int .u32 0, .bool false, .int .i64 0]) rfl kr rfl ?_)
 intro b4
 refine G.op rfl (G.alloc (z := .int .i64 0) (cs := [.int .i64 0]) rfl kr rfl ?_)
 intro b5
 refine G.op rfl (G.storeN (vs := edge0) kr rfl rfl (by rfl) selT (by simp [edge0, rollC]) ?_)
 rw [putN_whole _ _ (by rfl)]
 refine go [21,34,31,32,32,33,2,4] ?_
 refine G.op rfl (G.cS rfl rfl rfl rfl Tryz.func115 rfl rfl subT may0 (cuts_tr _ _ rfl hv1) apT ?_)
 intro x9 hJ
 obtain ⟨bb, be⟩ := x9
 try dsimp only at hJ
 try dsimp only
 refine go [34,31,38] ?_
 refine G.datBNil 5 ?_
 refine G.ownNil 31 1 ?_
 refine I.rangeK1 (X := Value × LT) (rr := [slc rByte Pv (.slice ad bs.length cap) bs]) (encs := fun i => .int .i64 ((cutL bs).getD i 0 : Int)) (ts := [1, 3, 5]) (fun b i st => b = true ∧ st.2.map (·.1) = piecesC bs i) (fun b i st => [blk b3 136 [st.1], own 31 1 st.1 st.2.length (st.2.map (·.2)), datB 5 st.2, blk b5 3 [.int .i64 (atC bs i : Int)], blk b1 31 [.slice ad bs.length cap]]) (fun st => .ret) (fun i => [(6, .int .i64 ((cutL bs).getD i 0 : Int))]) (x0 := (.slice none 0 0, [])) rfl Tryz.func142 rfl rfl (cut_seq (Pv := Pv) (.slice ad bs.length cap) bs hb bb be b4) (by show Sub _ [blk b3 136 [.slice none 0 0], own 31 1 (.slice none 0 0) 0 [], datB 5 [], blk b5 3 [.int .i64 0], blk b1 31 [.slice ad bs.length cap], blk bb 31 [.slice ad bs.length cap], blk be 172 [.pointer (some ⟨b4, 0, none⟩)], blk b4 167 edge0] _; repeat (first | exact Sub.nil | (apply Sub.cons; (repeat (first | with_reducible exact Sel.here | exact Sel.here | apply Sel.there))))) (may2 (.old hv0) (.old hv0)) (by first | exact trivial | (exact ⟨rfl, rfl⟩)) rfl (.cons rfl (.cons rfl (.cons rfl .nil))) (.cons .nil) ?_ ?_ ?_ ?_
 ·intro w1 S1 lp m1 i hi
  try dsimp only at hJ
  try dsimp only
  refine go [33,1,34] ?_
  exact I.asg (.consE rfl veqT (.cons rfl (.cons rfl (.cons rfl .nil))))
 ·intro w1 S1 lp c i st hi hJ hrr
  obtain ⟨ov, l⟩ := st
  try dsimp only at hJ
  try dsimp only
  obtain ⟨hct, hl⟩ := hJ
  have hlen : l.length = i := by have := congrArg List.length hl; simpa [piecesC] using this
  have hlm : (l.map (fun z : List UInt8 × Value => z.2)).length = l.length := List.length_map _
  have hvb := hrr _ (List.mem_cons_self ..)
  have hle1 := atC_mono hi
  have hle2 := atC_le bs (i + 1)
  rw [atC_succ] at hle1 hle2
  refine G.ownFact (v := ov) selT (fun hov _ => ?_)
  have hsub := Ro.sub hvb hle1 hle2
  rw [← atC_succ] at hsub
  have hpl : (pieceC bs i).length ≤ bs.length := by unfold pieceC; rw [List.length_drop, List.length_take]; omega
  refine I.block ?_
  refine I.drawT (nn := 11) (p := [blk b3 _ _, blk b5 _ _, own 31 1 ov _ _]) (rem := 2047) [0, 0, 0, 0, 14, 16, 32, 97, 0, 255, 1023] [0, 0, 0, 0, 14, 16, 32, 65, 0, 128, 256] kr noT kr ⟨rfl, by kernel_rfl, by kernel_rfl⟩ subT kr (fun hT5 => ?_)
  refine go [22,3,2039,0,22,8,1783,0,22,1,1781,4] ?_
  refine G.twoT hT5 (i := 0) (j := 2) (rem' := 1780) (rem'' := 1777) kr kr kr ?_ ?_
  ·refine go [25,4,26,24,2,1776,25,4,26] ?_
   refine G.takeT hT5 (i := 4) (rem' := 1760) rfl rfl rfl kr (fun _ _ _ h => h) rfl (pv_subLH (sz := 1) (k := atC bs i) (k' := (cutL bs).getD i 0) Tryz.underlying31 kr rfl rfl rfl rfl rfl hle1 (Nat.le_trans hle2 hcap)) subT ?_
   refine go [24,5,1728] ?_
   refine G.ownBNil 5 ?_
   refine G.turnOp rfl rfl (G.appendB (xs := []) (ys := pieceC bs i) (Ps := Pv) rfl Tryz.underlying31 Tryz.infoByte rfl rfl selT (ro_sl hsub) (by simp; omega) (by simp; omega) ?_)
   intro v16
   rw [List.nil_append (pieceC bs i)]
   refine go [26,24,6,1664] ?_
   refine G.ownBFact (v := v16) selT (fun hv16 => ?_)
   refine G.turnOp rfl rfl (G.lit1 (vs := [v16]) rfl Tryz.underlying136 kr rfl (by decide) (by decide) rfl (all1_cons hv16 all1_nil) ?_)
   intro b17
   refine go [26,24,7,1536] ?_
   refine G.turnOp rfl rfl (G.append (k := l.length) (j := 1) (cs := l.map (·.2)) (news := [v16]) (b := b17) (off := 0) rfl Tryz.underlying136 Tryz.infoSlB rfl rfl rfl selT (fun _ => rfl) (fun h => by cases h) rfl (blk_news (k := 1) selT rfl) Y38 (by omega) (by omega) ?_)
   intro v18
   refine G.ownFact (v := v18) selT (fun hv18 _ => ?_)
   refine go [26,24,9,1024,30,26,24,10,0,30] ?_
   rw [← atC_succ]
   refine go [26] ?_
   refine I.over hT5 kr ?_
   refine go [40] ?_
   refine G.datBSnoc (ys := l) (x := pieceC bs i) (u := v16) selT selT ?_
   rw [show l.map (fun z : List UInt8 × Value => z.2) ++ [v16] = (l ++ [(pieceC bs i, v16)]).map (·.2) from by rw [List.map_append]; rfl, show l.length + 1 = (l ++ [(pieceC bs i, v16)]).length from by rw [List.length_append]; rfl]
   exact I.rN ((v18, l ++ [(pieceC bs i, v16)])) Y31 subT
  refine go [25,4,26] ?_
  refine G.takeT hT5 (i := 4) (rem' := 1761) rfl rfl rfl kr (fun _ _ _ h => h) rfl (pv_subLH (sz := 1) (k := atC bs i) (k' := (cutL bs).getD i 0) Tryz.underlying31 kr rfl rfl rfl rfl rfl hle1 (Nat.le_trans hle2 hcap)) subT ?_
  refine G.twoT hT5 (i := 0) (j := 5) (rem' := 1760) (rem'' := 1729) kr kr kr ?_ ?_
  ·refine go [25,4,26,24,5,1728] ?_
   refine G.ownBNil 5 ?_
   refine G.turnOp rfl rfl (G.appendB (xs := []) (ys := pieceC bs i) (Ps := Pv) rfl Tryz.underlying31 Tryz.infoByte rfl rfl selT (ro_sl hsub) (by simp; omega) (by simp; omega) ?_)
   intro v16
   rw [List.nil_append (pieceC bs i)]
   refine go [26,24,6,1664] ?_
   refine G.ownBFact (v := v16) selT (fun hv16 => ?_)
   refine G.turnOp rfl rfl (G.lit1 (vs := [v16]) rfl Tryz.underlying136 kr rfl (by decide) (by decide) rfl (all1_cons hv16 all1_nil) ?_)
   intro b17
   refine go [26,24,7,1536] ?_
   refine G.turnOp rfl rfl (G.append (k := l.length) (j := 1) (cs := l.map (·.2)) (news := [v16]) (b := b17) (off := 0) rfl Tryz.underlying136 Tryz.infoSlB rfl rfl rfl selT (fun _ => rfl) (fun h => by cases h) rfl (blk_news (k := 1) selT rfl) Y38 (by omega) (by omega) ?_)
   intro v18
   refine G.ownFact (v := v18) selT (fun hv18 _ => ?_)
   refine go [26,24,9,1024,30,26,24,10,0,30] ?_
   rw [← atC_succ]
   refine go [26] ?_
   refine I.over hT5 kr ?_
   refine go [40] ?_
   refine G.datBSnoc (ys := l) (x := pieceC bs i) (u := v16) selT selT ?_
   rw [show l.map (fun z : List UInt8 × Value => z.2) ++ [v16] = (l ++ [(pieceC bs i, v16)]).map (·.2) from by rw [List.map_append]; rfl, show l.length + 1 = (l ++ [(pieceC bs i, v16)]).length from by rw [List.length_append]; rfl]
   exact I.rN ((v18, l ++ [(pieceC bs i, v16)])) Y31 subT
  refine G.ownBNil 5 ?_
  refine G.turnOp rfl rfl (G.appendB (xs := []) (ys := pieceC bs i) (Ps := Pv) rfl Tryz.underlying31 Tryz.infoByte rfl rfl selT (ro_sl hsub) (by simp; omega) (by simp; omega) ?_)
  intro v16
  rw [List.nil_append (pieceC bs i)]
  refine go [26] ?_
  refine G.twoT hT5 (i := 0) (j := 6) (rem' := 1728) (rem'' := 1665) kr kr kr ?_ ?_
  ·refine go [25,4,26,24,6,1664] ?_
   refine G.ownBFact (v := v16) selT (fun hv16 => ?_)
   refine G.turnOp rfl rfl (G.lit1 (vs := [v16]) rfl Tryz.underlying136 kr rfl (by decide) (by decide) rfl (all1_cons hv16 all1_nil) ?_)
   intro b17
   refine go [26,24,7,1536] ?_
   refine G.turnOp rfl rfl (G.append (k := l.length) (j := 1) (cs := l.map (·.2)) (news := [v16]) (b := b17) (off := 0) rfl Tryz.underlying136 Tryz.infoSlB rfl rfl rfl selT (fun _ => rfl) (fun h => by cases h) rfl (blk_news (k := 1) selT rfl) Y38 (by omega) (by omega) ?_)
   intro v18
   refine G.ownFact (v := v18) selT (fun hv18 _ => ?_)
   refine go [26,24,9,1024,30,26,24,10,0,30] ?_
   rw [← atC_succ]
   refine go [26] ?_
   refine I.over hT5 kr ?_
   refine go [40] ?_
   refine G.datBSnoc (ys := l) (x := pieceC bs i) (u := v16) selT selT ?_
   rw [show l.map (fun z : List UInt8 × Value => z.2) ++ [v16] = (l ++ [(pieceC bs i, v16)]).map (·.2) from by rw [List.map_append]; rfl, show l.length + 1 = (l ++ [(pieceC bs i, v16)]).length from by rw [List.length_append]; rfl]
   exact I.rN ((v18, l ++ [(pieceC bs i, v16)])) Y31 subT
  refine G.ownBFact (v := v16) selT (fun hv16 => ?_)
  refine G.turnOp rfl rfl (G.lit1 (vs := [v16]) rfl Tryz.underlying136 kr rfl (by decide) (by decide) rfl (all1_cons hv16 all1_nil) ?_)
  intro b17
  refine go [26,24,0,1664,25,4,26,24,7,1536] ?_
  refine G.turnOp rfl rfl (G.append (k := l.length) (j := 1) (cs := l.map (·.2)) (news := [v16]) (b := b17) (off := 0) rfl Tryz.underlying136 Tryz.infoSlB rfl rfl rfl selT (fun _ => rfl) (fun h => by cases h) rfl (blk_news (k := 1) selT rfl) Y38 (by omega) (by omega) ?_)
  intro v18
  refine G.ownFact (v := v18) selT (fun hv18 _ => ?_)
  refine go [26,24,9,1024,30,26,24,10,0,30] ?_
  rw [← atC_succ]
  refine go [26] ?_
  refine I.over hT5 kr ?_
  refine go [40] ?_
  refine G.datBSnoc (ys := l) (x := pieceC bs i) (u := v16) selT selT ?_
  rw [show l.map (fun z : List UInt8 × Value => z.2) ++ [v16] = (l ++ [(pieceC bs i, v16)]).map (·.2) from by rw [List.map_append]; rfl, show l.length + 1 = (l ++ [(pieceC bs i, v16)]).length from by rw [List.length_append]; rfl]
  exact I.rN ((v18, l ++ [(pieceC bs i, v16)])) Y31 subT
 ·intro D st hJ
  obtain ⟨ov, l⟩ := st
  try dsimp only at hJ
  try dsimp only
  obtain ⟨hct, hl⟩ := hJ
  have hlen : l.length = (cutL bs).length := by have := congrArg List.length hl; simpa [piecesC] using this
  have hlm : (l.map (fun z : List UInt8 × Value => z.2)).length = l.length := List.length_map _
  refine go [40,31,32,32,33,2,4,2,4,2,5,2,9,34,31] ?_
  refine I.condP rfl (fun h23 => ?_) (fun h23 => ?_)
  ·have hsub2 := Ro.sub hv0 (show atC bs (cutL bs).length ≤ bs.length by omega) (Nat.le_refl _)
   rw [List.take_length] at hsub2
   refine G.ownFact (v := ov) selT (fun hov _ => ?_)
   refine I.drawN (nn := 8) (p := [blk b3 _ _, own 31 1 ov _ _]) (rem := 255) [0, 0, 0, 6, 8, 16, 49, 127] [0, 0, 0, 6, 8, 16, 33, 64] kr kr ⟨rfl, by kernel_rfl, by kernel_rfl⟩ subT kr (fun hT7 => ?_)
   refine go [22,1,253,4,22,2,249,4] ?_
   refine G.takeT hT7 (i := 3) (rem' := 241) rfl rfl rfl kr (fun _ _ _ h => h) rfl (pv_subL (sz := 1) (k := atC bs (cutL bs).length) Tryz.underlying31 kr rfl rfl rfl (by omega)) subT ?_
   refine G.twoT hT7 (i := 0) (j := 4) (rem' := 240) (rem'' := 225) kr kr kr ?_ ?_
   ·refine go [25,4,26,24,4,224] ?_
    refine G.ownBNil 5 ?_
    refine G.turnOp rfl rfl (G.appendB (xs := []) (ys := bs.drop (atC bs (cutL bs).length)) (Ps := Pv) rfl Tryz.underlying31 Tryz.infoByte rfl rfl selT (ro_sl hsub2) (by simp; omega) (by simp; omega) ?_)
    intro v28
    rw [List.nil_append (bs.drop (atC bs (cutL bs).length))]
    refine go [26,24,5,192] ?_
    refine G.ownBFact (v := v28) selT (fun hv28 => ?_)
    refine G.turnOp rfl rfl (G.lit1 (vs := [v28]) rfl Tryz.underlying136 kr rfl (by decide) (by decide) rfl (all1_cons hv28 all1_nil) ?_)
    intro b29
    refine go [26,24,6,128] ?_
    refine G.turnOp rfl rfl (G.append (k := l.length) (j := 1) (cs := l.map (·.2)) (news := [v28]) (b := b29) (off := 0) rfl Tryz.underlying136 Tryz.infoSlB rfl rfl rfl selT (fun _ => rfl) (fun h => by cases h) rfl (blk_news (k := 1) selT rfl) (by intro u hu; obtain rfl : u = v28 := (by simpa using hu); exact hv28) (by omega) (by omega) ?_)
    intro v30
    refine G.ownFact (v := v30) selT (fun hv30 _ => ?_)
    refine go [26,24,7,0,30,26] ?_
    refine I.overN hT7 kr ?_
    refine go [31,32,33,2,4,1,34,31,37] ?_
    refine G.datBSnoc (ys := l) (x := bs.drop (atC bs (cutL bs).length)) (u := v28) selT selT ?_
    rw [show l.map (fun z : List UInt8 × Value => z.2) ++ [v28] = (l ++ [(bs.drop (atC bs (cutL bs).length), v28)]).map (·.2) from by rw [List.map_append]; rfl, show l.length + 1 = (l ++ [(bs.drop (atC bs (cutL bs).length), v28)]).length from by rw [List.length_append]; rfl]
    exact I.doneM ((v30, l ++ [(bs.drop (atC bs (cutL bs).length), v28)])) Y37 rfl Y24 (Rv.tmp rfl Rv.nil) rfl subT
   refine G.ownBNil 5 ?_
   refine G.turnOp rfl rfl (G.appendB (xs := []) (ys := bs.drop (atC bs (cutL bs).length)) (Ps := Pv) rfl Tryz.underlying31 Tryz.infoByte rfl rfl selT (ro_sl hsub2) (by simp; omega) (by simp; omega) ?_)
   intro v28
   rw [List.nil_append (bs.drop (atC bs (cutL bs).length))]
   refine go [26] ?_
   refine G.twoT hT7 (i := 0) (j := 5) (rem' := 224) (rem'' := 193) kr kr kr ?_ ?_
   ·refine go [25,4,26,24,5,192] ?_
    refine G.ownBFact (v := v28) selT (fun hv28 => ?_)
    refine G.turnOp rfl rfl (G.lit1 (vs := [v28]) rfl Tryz.underlying136 kr rfl (by decide) (by decide) rfl (all1_cons hv28 all1_nil) ?_)
    intro b29
    refine go [26,24,6,128] ?_
    refine G.turnOp rfl rfl (G.append (k := l.length) (j := 1) (cs := l.map (·.2)) (news := [v28]) (b := b29) (off := 0) rfl Tryz.underlying136 Tryz.infoSlB rfl rfl rfl selT (fun _ => rfl) (fun h => by cases h) rfl (blk_news (k := 1) selT rfl) (by intro u hu; obtain rfl : u = v28 := (by simpa using hu); exact hv28) (by omega) (by omega) ?_)
    intro v30
    refine G.ownFact (v := v30) selT (fun hv30 _ => ?_)
    refine go [26,24,7,0,30,26] ?_
    refine I.overN hT7 kr ?_
    refine go [31,32,33,2,4,1,34,31,37] ?_
    refine G.datBSnoc (ys := l) (x := bs.drop (atC bs (cutL bs).length)) (u := v28) selT selT ?_
    rw [show l.map (fun z : List UInt8 × Value => z.2) ++ [v28] = (l ++ [(bs.drop (atC bs (cutL bs).length), v28)]).map (·.2) from by rw [List.map_append]; rfl, show l.length + 1 = (l ++ [(bs.drop (atC bs (cutL bs).length), v28)]).length from by rw [List.length_append]; rfl]
    exact I.doneM ((v30, l ++ [(bs.drop (atC bs (cutL bs).length), v28)])) Y37 rfl Y24 (Rv.tmp rfl Rv.nil) rfl subT
   refine G.ownBFact (v := v28) selT (fun hv28 => ?_)
   refine G.turnOp rfl rfl (G.lit1 (vs := [v28]) rfl Tryz.underlying136 kr rfl (by decide) (by decide) rfl (all1_cons hv28 all1_nil) ?_)
   intro b29
   refine go [26,24,0,192,25,4,26,24,6,128] ?_
   refine G.turnOp rfl rfl (G.append (k := l.length) (j := 1) (cs := l.map (·.2)) (news := [v28]) (b := b29) (off := 0) rfl Tryz.underlying136 Tryz.infoSlB rfl rfl rfl selT (fun _ => rfl) (fun h => by cases h) rfl (blk_news (k := 1) selT rfl) (by intro u hu; obtain rfl : u = v28 := (by simpa using hu); exact hv28) (by omega) (by omega) ?_)
   intro v30
   refine G.ownFact (v := v30) selT (fun hv30 _ => ?_)
   refine go [26,24,7,0,30,26] ?_
   refine I.overN hT7 kr ?_
   refine go [31,32,33,2,4,1,34,31,37] ?_
   refine G.datBSnoc (ys := l) (x := bs.drop (atC bs (cutL bs).length)) (u := v28) selT selT ?_
   rw [show l.map (fun z : List UInt8 × Value => z.2) ++ [v28] = (l ++ [(bs.drop (atC bs (cutL bs).length), v28)]).map (·.2) from by rw [List.map_append]; rfl, show l.length + 1 = (l ++ [(bs.drop (atC bs (cutL bs).length), v28)]).length from by rw [List.length_append]; rfl]
   exact I.doneM ((v30, l ++ [(bs.drop (atC bs (cutL bs).length), v28)])) Y37 rfl Y24 (Rv.tmp rfl Rv.nil) rfl subT
  refine G.ownFact (v := ov) selT (fun hov _ => ?_)
  refine go [39,31,32,33,2,4,1,34,31,37] ?_
  exact I.doneM ((ov, l)) (by first | exact trivial | ((try dsimp only) <;> exact (by unfold chunksC; rw [if_neg (by omega), List.append_nil, hl]))) rfl Y24 (Rv.tmp rfl Rv.nil) rfl subT
 intro D i st hle hJ
 obtain ⟨ov, l⟩ := st
 try dsimp only at hJ
 try dsimp only
 obtain ⟨h, _⟩ := hJ
 cases h
instance : DecidableEq En := fun a b => decidable_of_iff (a.path = b.path ∧ a.kind = b.kind ∧ a.mode = b.mode ∧ a.data = b.data ∧ a.to = b.to) (by
 cases a
 cases b
 simp)
def pickM (n k : Int) : Int := if k < 1 then 0 else n % k
theorem tmod_low {n k : Int} (hk : ¬ k < 1) : - k < n.tmod k ∧ (n < 0 → n.tmod k ≤ 0) := by
 rcases Int.lt_or_le n 0 with hn | hn
 ·have h1 := Int.neg_tmod (a := -n) (b := k)
  rw [Int.neg_neg] at h1
  have h2 := Int.tmod_nonneg k (show 0 ≤ -n by omega)
  have h3 := Int.tmod_lt_of_pos (-n) (show 0 < k by omega)
  omega
 have h2 := Int.tmod_nonneg k hn
 omega
theorem tmod_pos {n k : Int} (hk : ¬ k < 1) (h : ¬ n.tmod k < 0) : n.tmod k = n % k := by
 rcases Int.lt_or_le n 0 with hn | hn
 ·have h2 : n.tmod k = 0 := by
   have := (tmod_low hk).2 hn
   omega
  have h3 : k ∣ n := Int.dvd_of_tmod_eq_zero h2
  rw [h2, Int.emod_eq_zero_of_dvd h3]
 exact Int.tmod_eq_emod_of_nonneg hn
theorem tmod_neg {n k : Int} (hk : ¬ k < 1) (h : n.tmod k < 0) : n.tmod k + k = n % k := by
 have hn : n < 0 := by
  rcases Int.lt_or_le n 0 with hn | hn
  ·exact hn
  have := Int.tmod_nonneg k hn
  omega
 have hd : ¬ k ∣ n := fun h2 => by
  have := Int.tmod_eq_zero_of_dvd h2
  omega
 have h1 := Int.tmod_eq_emod (a := n) (b := k)
 rw [h1]
 simp [hd, hn, show ¬ (0 ≤ n) by omega]
 omega
set_option maxRecDepth 20000 in
set_option maxHeartbeats 4000000 in
theorem pick_tr (n k : Int) (hn : I64 n) (hk : I64 k) : Tr Tryz.prog 20 #[.int .i64 n, .int .i64 k] [] [] (T0 (.int .i64 (pickM n k))) := by
 refine Tr.of (l := [(0, .int .i64 n), (1, .int .i64 k)]) Tryz.func20 rfl (n := 16) rfl (.cons rfl (.cons rfl .nil)) (fun w0 hro => ?_)
 obtain ⟨hn1, hn2⟩ := hn
 obtain ⟨hk1, hk2⟩ := hk
 refine go [9,10,1,7,8,9,9,10,0,2,9,7,8] ?_
 refine G.condP rfl (fun h6 => ?_) (fun h6 => ?_)
 ·refine go [9,10,1,7,8,11,12] ?_
  exact G.done0G rfl (Rv.tmp rfl Rv.nil) (by unfold pickM; rw [if_pos (by assumption)]; rfl)
 refine go [13,8,9,10,0,0] ?_
 refine G.op rfl (G.val rfl rfl (pv_remk rfl rfl (by omega)) ?_)
 have ht := Int.tmod_lt_of_pos n (show 0 < k by omega)
 have ht2 := (tmod_low (n := n) (k := k) (by omega)).1
 refine go [1,7,8,9,9,10,0,2,9,7,8] ?_
 refine G.condP rfl (fun h11 => ?_) (fun h11 => ?_)
 ·refine go [10,0,0,2,6,1,7,8,9,10,0,1,7,8,11] ?_
  exact G.done0G rfl (Rv.tmp rfl Rv.nil) (by unfold pickM; rw [if_neg (by assumption), ← tmod_neg (by assumption) (by assumption)]; rfl)
 refine go [13,8,9,10,0,1,7,8,11] ?_
 exact G.done0G rfl (Rv.tmp rfl Rv.nil) (by unfold pickM; rw [if_neg (by assumption), ← tmod_pos (by assumption) (by assumption)]; rfl)
theorem Ro.one1 {w0 : World} {S Ps : Nat → Prop} {v : Value} {a : List UInt8} (h : Ro w0 S (slc rByte Ps v a)) : v.oneCell' = true := by
 obtain ⟨ad, cap, rfl⟩ := Ro.slv h
 rfl
def SortT (es : List En) : Prop := es.Pairwise fun a b => compareM a.path b.path = -1
def placeK (es : List En) (s : List UInt8) : Nat := es.findIdx fun e => ! decide (compareM e.path s < 0)
def isAt (es : List En) (s : List UInt8) : Prop := ∃ e ∈ es, e.path = s
instance (es : List En) (s : List UInt8) : Decidable (isAt es s) := inferInstanceAs (Decidable (∃ e ∈ es, e.path = s))
theorem cmp_lt_iff (a b : List UInt8) : compareM a b < 0 ↔ compareM a b = -1 := by
 have := compareM_ord.rng a b
 omega
theorem sort_mono {es : List En} (h : SortT es) {s : List UInt8} {q r : Nat} (hr : r < es.length) (hq : q ≤ r) (hc : compareM es[r].path s < 0) : compareM (es[q]'(by omega)).path s < 0 := by
 rcases Nat.lt_or_ge q r with h1 | h1
 ·have h2 := (List.pairwise_iff_getElem.1 h) q r (by omega) hr h1
  rw [cmp_lt_iff] at hc ⊢
  exact compareM_ord.trans _ _ _ h2 hc
 obtain rfl : q = r := by omega
 exact hc
theorem placeK_at {es : List En} {s : List UInt8} {k : Nat} (hk : k ≤ es.length) (h1 : ∀ q (hq : q < es.length), q < k → compareM es[q].path s < 0) (h2 : ∀ q (hq : q < es.length), k ≤ q → ¬ compareM es[q].path s < 0) : placeK es s = k := by
 unfold placeK
 rcases Nat.lt_or_ge k es.length with h | h
 ·refine (List.findIdx_eq h).2 ⟨by simpa using h2 k h (Nat.le_refl _), fun j hj => ?_⟩
  simpa using h1 j (by omega) hj
 obtain rfl : k = es.length := by omega
 exact List.findIdx_eq_length_of_false fun x hx => by
  obtain ⟨j, hj, rfl⟩ := List.getElem_of_mem hx
  simpa using h1 j hj hj
theorem isAt_iff {es : List En} (hs : SortT es) {s : List UInt8} {k : Nat} (h1 : ∀ q (hq : q < es.length), q < k → compareM es[q].path s < 0) (hk : k < es.length) (h2 : ¬ compareM es[k].path s < 0) : isAt es s ↔ compareM es[k].path s = 0 := by
 constructor
 ·rintro ⟨e, he, rfl⟩
  obtain ⟨j, hj, rfl⟩ := List.getElem_of_mem he
  have hjj : compareM es[j].path es[j].path = 0 := (compareM_ord.zero _ _).2 rfl
  rcases Nat.lt_or_ge j k with h | h
  ·have := h1 j hj h
   omega
  rcases Nat.lt_or_ge k j with h3 | h3
  ·have := (List.pairwise_iff_getElem.1 hs) k j hk hj h3
   omega
  obtain rfl : j = k := by omega
  exact hjj
 intro h
 exact ⟨es[k], List.getElem_mem hk, (compareM_ord.zero _ _).1 h⟩
theorem isAt_none {es : List En} {s : List UInt8} (h1 : ∀ q (hq : q < es.length), compareM es[q].path s < 0) : ¬ isAt es s := by
 rintro ⟨e, he, rfl⟩
 obtain ⟨j, hj, rfl⟩ := List.getElem_of_mem he
 have := h1 j hj
 have : compareM es[j].path es[j].path = 0 := (compareM_ord.zero _ _).2 rfl
 omega
theorem search_end {xs : List ET} {s : List UInt8} {i : Nat} (hso : SortT (ens xs)) (hlt : i < xs.length) (hlo : ∀ q (hq : q < xs.length), q < i → compareM xs[q].1.path s < 0) (hhi : ∀ q (hq : q < xs.length), i ≤ q → ¬ compareM xs[q].1.path s < 0) : placeK (ens xs) s = i ∧ (isAt (ens xs) s ↔ compareM xs[i].1.path s = 0) := by
 have hl := ens_length xs
 have g1 : ∀ q (hq : q < (ens xs).length), q < i → compareM (ens xs)[q].path s < 0 := fun q hq hqi => by
  rw [ens_get (by omega)]
  exact hlo q (by omega) hqi
 have g2 : ∀ q (hq : q < (ens xs).length), i ≤ q → ¬ compareM (ens xs)[q].path s < 0 := fun q hq hqi => by
  rw [ens_get (by omega)]
  exact hhi q (by omega) hqi
 have h := isAt_iff hso g1 (show i < (ens xs).length by omega) (g2 i (by omega) (Nat.le_refl _))
 rw [ens_get hlt] at h
 exact ⟨placeK_at (by omega) g1 g2, h⟩
theorem search_none {xs : List ET} {s : List UInt8} (hlo : ∀ q (hq : q < xs.length), q < xs.length → compareM xs[q].1.path s < 0) : placeK (ens xs) s = xs.length ∧ ¬ isAt (ens xs) s := by
 have hl := ens_length xs
 have g1 : ∀ q (hq : q < (ens xs).length), compareM (ens xs)[q].path s < 0 := fun q hq => by
  rw [ens_get (by omega)]
  exact hlo q (by omega) (by omega)
 exact ⟨placeK_at (by omega) (fun q hq _ => g1 q hq) (fun q hq h => by omega), isAt_none g1⟩
set_option maxRecDepth 20000 in
set_option maxHeartbeats 4000000 in
theorem place1_tr (e : En) (d : Value) (s : List UInt8) (hl : e.path.length ≤ 9223372036854775807) (hs : s.length ≤ 9223372036854775807) : Tr Tryz.prog 113 #[.agg #[.string (sB e.path), .int .i64 e.kind, .int .i64 e.mode, d, .string (sB e.to)], .string (sB s)] [] [] (T0 (.int .i64 (compareM e.path s))) := by
 refine Tr.of (l := [(0, .agg #[.string (sB e.path), .int .i64 e.kind, .int .i64 e.mode, d, .string (sB e.to)]), (1, .string (sB s))]) Tryz.func113 rfl (n := 9) rfl (.cons rfl (.cons rfl .nil)) (fun w0 hro => ?_)
 refine go [9,10,60,10] ?_
 intro b2
 refine go [1,7,8,9,10,2,3,0,2,4,0] ?_
 refine G.op rfl (G.cR rfl rfl rfl rfl Tryz.func71 rfl rfl may0 (compare_tr _ _ (by omega) (by omega)) ?_)
 refine go [1,7,8,11] ?_
 exact G.done0G rfl (Rv.tmp rfl Rv.nil) Y7
set_option maxRecDepth 20000 in
set_option maxHeartbeats 4000000 in
theorem search_tr {Ps : Nat → Prop} (v : Value) (xs : List ET) (s : List UInt8) (hs : s.length ≤ 9223372036854775807) (hn : xs.length ≤ 1000000) (hso : SortT (ens xs)) : Tr Tryz.prog 112 #[v, .string (sB s), .func (.func 113) #[] #[]] [slc rEV Ps v xs] [] (T0 (.tuple #[.int .i64 (placeK (ens xs) s : Int), .bool (decide (isAt (ens xs) s))])) := by
 refine Tr.of (l := [(0, v), (1, .string (sB s)), (2, .func (.func 113) #[] #[])]) Tryz.func112 rfl (n := 49) rfl (.cons rfl (.cons rfl (.cons rfl .nil))) (fun w0 hro => ?_)
 have hv := ro1 hro
 have hv' := hv
 obtain ⟨av, cv, bv, fv, rfl, hcapv, hmaxv, hnilv, hadv, helv⟩ := Ro.openT hv
 have hel' := ens_length xs
 refine go [9,10,1,1,7,8,9,10,0,2,5,1,7,8,9,10,0,1,1,7,8,9,15] ?_
 refine G.loopK (X := Nat × Nat) (ts := [0, 1, 2, 6, 7, 8]) (fun st => st.1 ≤ st.2 ∧ st.2 ≤ xs.length ∧ (∀ q (hq : q < xs.length), q < st.1 → compareM xs[q].1.path s < 0) ∧ (∀ q (hq : q < xs.length), st.2 ≤ q → ¬ compareM xs[q].1.path s < 0)) (fun st => [(9, .int .i64 (st.1 : Int)), (10, .int .i64 (st.2 : Int))]) (fun st => []) (fun st => st.2 - st.1) (x0 := (0, xs.length)) (.cons rfl (.cons rfl (.cons rfl (.cons rfl (.cons rfl (.cons rfl .nil)))))) subT (.cons (.cons .nil)) apT (by first | exact trivial | ((try dsimp only) <;> exact ⟨Nat.zero_le _, Nat.le_refl _, fun q _ h => absurd h (by omega), fun q h1 h2 => absurd h1 (by omega)⟩)) (.consE rfl veqT (.consE rfl veqT .nil)) (fun st hJ => ?_)
 obtain ⟨i, j⟩ := st
 try dsimp only at hJ
 try dsimp only
 obtain ⟨hij, hj, hlo, hhi⟩ := hJ
 refine go [9,9,10,0,0,2,9,7,8] ?_
 refine G.condP rfl (fun h17 => ?_) (fun h17 => ?_)
 ·have hlt : (i + j) / 2 < xs.length := by omega
  have hEv := helv ((i + j) / 2) hlt
  have hRv := Ro.evRng hEv
  have hDv := Ro.evDat hEv
  obtain ⟨hk1v, hk2v, hlpv, hldv, hltv⟩ := Ro.evOk hEv
  have hCv := Ro.one1 hDv
  refine go [13,8,15,9,10,0,0,2,6] ?_
  refine G.op rfl (G.val rfl rfl ((pv_conv (by rw [Tryz.underlying3]; rfl) Tryz.underlying175 rfl).int (b := ((i + j : Nat) : Int)) (by rw [IntWalk.u64_in _ (by omega)]; omega)) ?_)
  refine G.op rfl (G.val rfl rfl ((pv_shr (s := 1) rfl rfl (by decide)).int (b := (((i + j) / 2 : Nat) : Int)) (by omega)) ?_)
  refine G.op rfl (G.val rfl rfl ((pv_conv (by rw [Tryz.underlying175]; rfl) Tryz.underlying3 rfl).int (b := (((i + j) / 2 : Nat) : Int)) (by rw [IntWalk.i64_in _ (by omega)])) ?_)
  refine go [1,7,8,9,10,0,0,0,2,20,5,2,50,4,0] ?_
  refine G.op rfl (G.cRv rfl rfl rfl rfl rfl Tryz.func113 rfl rfl (by rfl) may0 (place1_tr xs[(i + j) / 2].1 _ s (by omega) hs) ?_)
  refine go [2,9,7,8] ?_
  refine G.condP rfl (fun h31 => ?_) (fun h31 => ?_)
  ·have hneg := h31
   refine go [10,0,2,6,1,7,16] ?_
   exact G.next (((i + j) / 2 + 1, j)) (by first | exact trivial | ((try dsimp only) <;> exact ⟨by omega, hj, fun q hq hqi => by have := sort_mono hso (r := (i + j) / 2) (q := q) (s := s) (by omega) (by omega) (by rw [ens_get hlt]; exact hneg); rwa [ens_get hq] at this, hhi⟩)) (by (try dsimp only); omega) (.consE rfl veqT (.consE rfl veqT (.cons rfl (.cons rfl (.cons rfl (.cons rfl (.cons rfl (.cons rfl .nil)))))))) subT
  have hneg := h31
  refine go [10,0,1,7,16] ?_
  exact G.next ((i, (i + j) / 2)) (by first | exact trivial | ((try dsimp only) <;> exact ⟨by omega, by omega, hlo, fun q hq hqi h => hneg (by have := sort_mono hso (r := q) (q := (i + j) / 2) (s := s) (by omega) hqi (by rw [ens_get hq]; exact h); rwa [ens_get hlt] at this)⟩)) (by (try dsimp only); omega) (.consE rfl veqT (.consE rfl veqT (.cons rfl (.cons rfl (.cons rfl (.cons rfl (.cons rfl (.cons rfl .nil)))))))) subT
 refine go [18,14,14,19,8,9,10,0,0,0,2,9,0] ?_
 refine G.partP (t := 39) rfl (fun h39 => ?_) (fun h39 => ?_)
 ·obtain rfl : i = j := by omega
  have hlt : i < xs.length := by omega
  have hEv := helv i hlt
  have hRv := Ro.evRng hEv
  have hDv := Ro.evDat hEv
  obtain ⟨hk1v, hk2v, hlpv, hldv, hltv⟩ := Ro.evOk hEv
  have hCv := Ro.one1 hDv
  refine go [3,0,3,0,3,0,3,20,5,3,50,4,3,0] ?_
  refine G.want rfl rfl rfl (G.cRv rfl rfl rfl rfl rfl Tryz.func113 rfl rfl (by rfl) may0 (place1_tr xs[i].1 _ s (by omega) hs) ?_)
  refine go [3,13,2,2,1,1,7,8,11] ?_
  obtain ⟨hp, hi⟩ := search_end hso hlt hlo hhi
  exact G.done0G rfl (Rv.tmp rfl (Rv.tmp rfl Rv.nil)) (by rw [hp]; simp [retV2, hi])
 refine go [4,4,4,4,4,4,4,4,2,2,1,1,7,8,11] ?_
 obtain rfl : i = xs.length := by omega
 obtain ⟨hp, hi⟩ := search_none (s := s) hlo
 exact G.done0G rfl (Rv.tmp rfl (Rv.tmp rfl Rv.nil)) (by rw [hp, decide_eq_false hi]; rfl)
set_option maxRecDepth 20000 in
set_option maxHeartbeats 4000000 in
theorem place_tr {Ps : Nat → Prop} (v : Value) (xs : List ET) (s : List UInt8) (hn : xs.length ≤ 1000000) (hso : SortT (ens xs)) (hs : s.length ≤ 9223372036854775807) : Tr Tryz.prog 73 #[v, .string (sB s)] [slc rEV Ps v xs] [] (T0 (.tuple #[.int .i64 (placeK (ens xs) s : Int), .bool (decide (isAt (ens xs) s))])) := by
 refine Tr.of (l := [(0, v), (1, .string (sB s))]) Tryz.func73 rfl (n := 11) rfl (.cons rfl (.cons rfl .nil)) (fun w0 hro => ?_)
 have hv := ro1 hro
 refine go [9,10,1,1,7,8,9,10,0,0] ?_
 refine G.op rfl (G.cR rfl rfl rfl rfl Tryz.func112 rfl rfl (may1 Y9) (search_tr _ xs s hs hn hso) ?_)
 refine go [2,7,2,7,1,1,7,8,11] ?_
 exact G.done0G rfl (Rv.tmp rfl (Rv.tmp rfl Rv.nil)) Y7
def heldM (l : List En) (e : En) : Prop := (parentM e.path).2 = false ∨ ∃ x ∈ l, x.path = (parentM e.path).1 ∧ x.kind = 1
instance (l : List En) (e : En) : Decidable (heldM l e) := inferInstanceAs (Decidable (_ ∨ _))
def prevBad (es : List En) (i : Nat) : Prop := 0 < i ∧ match es[i - 1]?, es[i]? with
 | some p, some e => 0 ≤ compareM p.path e.path
 | _, _ => False
instance (es : List En) (i : Nat) : Decidable (prevBad es i) := by
 unfold prevBad
 cases es[i - 1]? <;> cases es[i]? <;> exact inferInstance
theorem prev_pos {es : List En} {i : Nat} (h0 : 0 < i) (h : i < es.length) : prevBad es i ↔ 0 ≤ compareM (es[i - 1]'(by omega)).path es[i].path := by
 unfold prevBad
 rw [List.getElem?_eq_getElem h, List.getElem?_eq_getElem (show i - 1 < es.length by omega)]
 simp [h0]
theorem prev_zero {es : List En} {i : Nat} (h0 : ¬ 0 < i) : ¬ prevBad es i := fun h => h0 h.1
def errT (es : List En) (i : Nat) : Int := match es[i]? with
 | none => 0
 | some e => if (if oneM e = 0 ∧ prevBad es i then 7 else oneM e) = 0 ∧ ¬ heldM (es.take i) e then 6 else (if oneM e = 0 ∧ prevBad es i then 7 else oneM e)
theorem errT_get {es : List En} {i : Nat} (h : i < es.length) : errT es i = if (if oneM es[i] = 0 ∧ prevBad es i then 7 else oneM es[i]) = 0 ∧ ¬ heldM (es.take i) es[i] then 6 else (if oneM es[i] = 0 ∧ prevBad es i then 7 else oneM es[i]) := by
 unfold errT
 rw [List.getElem?_eq_getElem h]
theorem err_one {es : List En} {i : Nat} (h : i < es.length) (h1 : ¬ oneM es[i] = 0) : errT es i = oneM es[i] := by
 rw [errT_get h, if_neg (fun k => by rw [if_neg (fun k => h1 k.1)] at k; exact h1 k.1), if_neg (fun k => h1 k.1)]
theorem err_prev {es : List En} {i : Nat} (h : i < es.length) (h1 : oneM es[i] = 0) (h2 : prevBad es i) : errT es i = 7 := by
 rw [errT_get h, if_neg (fun k => by rw [if_pos ⟨h1, h2⟩] at k; cases k.1), if_pos ⟨h1, h2⟩]
theorem err_held {es : List En} {i : Nat} (h : i < es.length) (h1 : oneM es[i] = 0) (h2 : ¬ prevBad es i) (h3 : ¬ heldM (es.take i) es[i]) : errT es i = 6 := by
 rw [errT_get h, if_pos ⟨by rw [if_neg (fun k => h2 k.2), h1], h3⟩]
theorem err_ok {es : List En} {i : Nat} (h : i < es.length) (h1 : oneM es[i] = 0) (h2 : ¬ prevBad es i) (h3 : heldM (es.take i) es[i]) : errT es i = 0 := by
 rw [errT_get h, if_neg (fun k => k.2 h3), if_neg (fun k => h2 k.2), h1]
theorem err_zero {es : List En} {i : Nat} (h : i < es.length) (h0 : errT es i = 0) : oneM es[i] = 0 ∧ ¬ prevBad es i ∧ heldM (es.take i) es[i] := by
 have a : oneM es[i] = 0 := Decidable.byContradiction fun k => by rw [err_one h k] at h0; exact k h0
 have b : ¬ prevBad es i := fun k => by rw [err_prev h a k] at h0; cases h0
 exact ⟨a, b, Decidable.byContradiction fun k => by rw [err_held h a b k] at h0; cases h0⟩
def checkT (es : List En) : Int × Int := if 200 < es.length then (3, 0) else
 let k := (List.range es.length).findIdx fun i => ! decide (errT es i = 0)
 (errT es k, if errT es k = 0 then 0 else (k : Int))
theorem checkT_many {es : List En} (h : 200 < es.length) : checkT es = (3, 0) := if_pos h
theorem range_idx {p : Nat → Bool} {n i : Nat} (hi : i < n) (hp : p i = true) (h : ∀ q, q < i → p q = false) : (List.range n).findIdx p = i := by
 refine (List.findIdx_eq (by simpa using hi)).2 ⟨by simpa using hp, fun j hj => ?_⟩
 simpa using h j hj
theorem checkT_bad {es : List En} {i : Nat} {e : Int} (h200 : ¬ 200 < es.length) (hi : i < es.length) (h : ∀ q, q < i → errT es q = 0) (he : errT es i = e) (h0 : ¬ e = 0) : checkT es = (e, (i : Int)) := by
 unfold checkT
 rw [if_neg h200]
 have e1 : (List.range es.length).findIdx (fun i => ! decide (errT es i = 0)) = i := range_idx hi (by simp [he, h0]) (fun q hq => by simp [h q hq])
 simp only [e1, he, if_neg h0]
theorem checkT_ok {es : List En} (h200 : ¬ 200 < es.length) (h : ∀ q, q < es.length → errT es q = 0) : checkT es = (0, 0) := by
 unfold checkT
 rw [if_neg h200]
 have e1 : (List.range es.length).findIdx (fun i => ! decide (errT es i = 0)) = es.length := by
  have := List.findIdx_eq_length_of_false (p := fun i => ! decide (errT es i = 0)) (xs := List.range es.length) (fun x hx => by
   have := h x (by simpa using hx)
   simp [this])
  simpa using this
 have e2 : errT es es.length = 0 := by
  unfold errT
  rw [List.getElem?_eq_none (Nat.le_refl _)]
 simp only [e1, e2, if_true]
theorem checkT_zero {es : List En} (h : (checkT es).1 = 0) : es.length ≤ 200 ∧ (∀ q, q < es.length → errT es q = 0) ∧ checkT es = (0, 0) := by
 by_cases h200 : 200 < es.length
 ·rw [checkT_many h200] at h
  cases h
 have all : ∀ q, q < es.length → errT es q = 0 := by
  intro q
  induction q using Nat.strongRecOn with
  | _ q ih =>
   intro hq
   exact Decidable.byContradiction fun k => by
    rw [checkT_bad h200 hq (fun r hr => ih r hr (by omega)) rfl k] at h
    exact k h
 exact ⟨by omega, all, checkT_ok h200 all⟩
theorem sort_take {es : List En} {i : Nat} (hi : i ≤ es.length) (h : ∀ q, q < i → errT es q = 0) : SortT (es.take i) := by
 have step : ∀ q (hq : q + 1 < i), compareM (es[q]'(by omega)).path (es[q + 1]'(by omega)).path = -1 := fun q hq => by
  have h1 := (err_zero (show q + 1 < es.length by omega) (h (q + 1) hq)).2.1
  rw [prev_pos (by omega) (by omega)] at h1
  have := compareM_ord.rng (es[q]'(by omega)).path (es[q + 1]'(by omega)).path
  simp only [Nat.add_sub_cancel] at h1
  omega
 have all : ∀ r q (hr : r < i) (hqr : q < r), compareM (es[q]'(by omega)).path (es[r]'(by omega)).path = -1 := by
  intro r
  induction r with
  | zero => intro q hr hq; omega
  | succ r ih =>
   intro q hr hq
   rcases Nat.lt_or_ge q r with h1 | h1
   ·exact compareM_ord.trans _ _ _ (ih q (by omega) h1) (step r hr)
   obtain rfl : q = r := by omega
   exact step q hr
 refine List.pairwise_iff_getElem.2 fun q r hq hr hqr => ?_
 simp only [List.length_take] at hq hr
 rw [List.getElem_take, List.getElem_take]
 exact all r q (by omega) hqr
theorem placeK_spec {es : List En} (hs : SortT es) {s : List UInt8} (h : isAt es s) : ∃ hk : placeK es s < es.length, es[placeK es s].path = s := by
 obtain ⟨e, he, rfl⟩ := h
 obtain ⟨j, hj, rfl⟩ := List.getElem_of_mem he
 have hp : placeK es es[j].path = j := placeK_at (by omega) (fun q hq hqj => by rw [cmp_lt_iff]; exact (List.pairwise_iff_getElem.1 hs) q j hq hj hqj) (fun q hq hjq => by
  rcases Nat.lt_or_ge j q with h1 | h1
  ·have h2 := (List.pairwise_iff_getElem.1 hs) j q hj hq h1
   have := compareM_ord.anti es[j].path es[q].path
   omega
  obtain rfl : j = q := by omega
  rw [(compareM_ord.zero _ _).2 rfl]
  omega)
 refine ⟨by omega, ?_⟩
 simp only [hp]
theorem sort_inj {es : List En} (hs : SortT es) {a b : En} (ha : a ∈ es) (hb : b ∈ es) (h : a.path = b.path) : a = b := by
 obtain ⟨i, hi, rfl⟩ := List.getElem_of_mem ha
 obtain ⟨j, hj, rfl⟩ := List.getElem_of_mem hb
 have hz : compareM es[i].path es[j].path = 0 := (compareM_ord.zero _ _).2 h
 rcases Nat.lt_trichotomy i j with h1 | h1 | h1
 ·have := (List.pairwise_iff_getElem.1 hs) i j hi hj h1
  omega
 ·subst h1
  rfl
 have h2 := (List.pairwise_iff_getElem.1 hs) j i hj hi h1
 have := compareM_ord.anti es[i].path es[j].path
 omega
theorem held_none {l : List En} {e : En} (h : (parentM e.path).2 = true) (h2 : ¬ isAt l (parentM e.path).1) : ¬ heldM l e := fun k => by
 rcases k with k | ⟨x, hx, k1, k2⟩
 ·rw [h] at k
  cases k
 exact h2 ⟨x, hx, k1⟩
theorem held_kind {l : List En} {e : En} (hs : SortT l) (h : (parentM e.path).2 = true) (h2 : isAt l (parentM e.path).1) {x : En} (hx : l[placeK l (parentM e.path).1]? = some x) : heldM l e ↔ x.kind = 1 := by
 obtain ⟨hk, hp⟩ := placeK_spec hs h2
 rw [List.getElem?_eq_getElem hk] at hx
 injection hx with hx
 constructor
 ·rintro (k | ⟨y, hy, k1, k2⟩)
  ·rw [h] at k
   cases k
  have : x = y := sort_inj hs (hx ▸ List.getElem_mem hk) hy (by rw [← hx, hp, k1])
  rw [this]
  exact k2
 intro k
 exact .inr ⟨x, hx ▸ List.getElem_mem hk, by rw [← hx, hp], k⟩
theorem Ro.takeT {α : Type} {E : Rdr α} {w0 : World} {S Ps : Nat → Prop} {ad : Option Addr} {len cap i : Nat} {xs : List α} (h : Ro w0 S (slc E Ps (.slice ad len cap) xs)) (hi : i ≤ xs.length) : Ro w0 S (slc E Ps (.slice ad i cap) (xs.take i)) := by
 have := Ro.sub h (Nat.zero_le i) hi
 rwa [subV_zero, List.drop_zero] at this
theorem ens_take (xs : List ET) (i : Nat) : ens (xs.take i) = (ens xs).take i := by simp [ens, List.map_take]
theorem ens_at {xs : List ET} {i : Nat} (h : i < xs.length) : (ens xs)[i]? = some xs[i].1 := by simp [ens, h]
set_option maxRecDepth 20000 in
set_option maxHeartbeats 4000000 in
theorem tcheck_tr {Ps : Nat → Prop} (v : Value) (xs : List ET) : Tr Tryz.prog 50 #[v] [slc rEV Ps v xs] [] (T0 (.tuple #[.int .i64 (checkT (ens xs)).1, .int .i64 (checkT (ens xs)).2])) := by
 refine Tr.of (l := [(0, v)]) Tryz.func50 rfl (n := 69) rfl (.cons rfl .nil) (fun w0 hro => ?_)
 have hv := ro1 hro
 have hv' := hv
 obtain ⟨av, cv, bv, fv, rfl, hcapv, hmaxv, hnilv, hadv, helv⟩ := Ro.openT hv
 have hel' := ens_length xs
 refine go [9,10,1,1,7,8,9,9,10,0,2,5,2,10,7,8] ?_
 refine G.condP rfl (fun h13 => ?_) (fun h13 => ?_)
 ·refine go [9,10,1,1,7,8,11,12] ?_
  exact G.done0G rfl (Rv.tmp rfl (Rv.tmp rfl Rv.nil)) (by rw [checkT_many (by omega)]; rfl)
 refine go [13,8,9,9,10,0,2,5,0,7,8,15] ?_
 refine G.loopK (X := Nat) (ts := [0, 14, 15]) (fun i => i ≤ xs.length ∧ (∀ q, q < i → errT (ens xs) q = 0)) (fun i => [(16, .int .i64 (i : Int))]) (fun i => []) (fun i => xs.length - i) (x0 := 0) (.cons rfl (.cons rfl (.cons rfl .nil))) subT (.cons .nil) apT (by first | exact trivial | ((try dsimp only) <;> exact ⟨Nat.zero_le _, fun q h => absurd h (by omega)⟩)) (.consE rfl veqT .nil) (fun i hJ => ?_)
 try dsimp only at hJ
 try dsimp only
 obtain ⟨hki, hJ⟩ := hJ
 refine go [9,10,2,9,7,8,9] ?_
 refine G.condP rfl (fun h17 => ?_) (fun h17 => ?_)
 ·have hJ0 := hJ
  have hlt : i < xs.length := by omega
  have hlt' : i < (ens xs).length := by omega
  have hg := ens_get hlt
  have hso := sort_take (es := ens xs) (i := i) (by omega) hJ
  have hTk := Ro.takeT hv' (i := i) (by omega)
  have hEv := helv i hlt
  have hRv := Ro.evRng hEv
  have hDv := Ro.evDat hEv
  obtain ⟨hk1v, hk2v, hlpv, hldv, hltv⟩ := Ro.evOk hEv
  have hCv := Ro.one1 hDv
  refine go [13,8,9,15,9,10,0,2,20,5,2,50,4] ?_
  refine G.op rfl (G.alloc (z := .agg #[.string ⟨#[]⟩, .int .i64 0, .int .i64 0, .slice none 0 0, .string ⟨#[]⟩]) (cs := [.string ⟨#[]⟩, .int .i64 0, .int .i64 0, .slice none 0 0, .string ⟨#[]⟩]) rfl kr rfl ?_)
  intro b5
  refine go [1,20,7,8,9,9,10,2,50,4] ?_
  refine G.op rfl (G.cR rfl rfl rfl rfl Tryz.func70 rfl rfl (may1 Y9) (one_tr _ _ (by omega)) ?_)
  refine go [1,7,8,9,10,0,2,14,7,8] ?_
  refine G.condP rfl (fun h24 => ?_) (fun h24 => ?_)
  ·refine go [9,10,0,0,1,1,7,8,11,12,17,12,12,17,12] ?_
   exact G.done0G rfl (Rv.tmp rfl (Rv.tmp rfl Rv.nil)) (by rw [checkT_bad (by omega) hlt' hJ0 (err_one hlt' (by rw [hg]; assumption)) (by rw [hg]; assumption), hg]; rfl)
  have h1 : oneM (ens xs)[i] = 0 := by rw [hg]; omega
  refine go [13,8,9,9] ?_
  refine G.cutK (X := Unit) (ts := [0, 4, 5, 14, 15, 16]) (p := []) (fun _ => True) (fun _ => [(40, .bool (decide (prevBad (ens xs) i)))]) (fun _ => []) (.cons rfl (.cons rfl (.cons rfl (.cons rfl (.cons rfl (.cons rfl .nil)))))) subT (.cons .nil) apT ?_ ?_
  ·refine G.drawT (nn := 14) (p := []) (rem := 16383) [0, 1, 2, 4, 4, 20, 44, 68, 132, 4, 516, 1284, 2052, 4100] [0, 1, 2, 4, 4, 20, 44, 68, 132, 4, 516, 1284, 2052, 4100] kr ⟨rfl, by kernel_rfl, by kernel_rfl⟩ subT kr (fun hT9 => ?_)
   refine go [22,0,16382,0,22,1,16380,10,22,2,16376,0] ?_
   refine G.partP (t := 29) rfl (fun h29 => ?_) (fun h29 => ?_)
   ·have hi0 : 0 < i := by omega
    have hEp := helv (i - 1) (by omega)
    have hRp := Ro.evRng hEp
    have hDp := Ro.evDat hEp
    obtain ⟨hk1p, hk2p, hlpp, hldp, hltp⟩ := Ro.evOk hEp
    have hCp := Ro.one1 hDp
    have hpv := prev_pos hi0 hlt'
    rw [hg, ens_get (show i - 1 < xs.length by omega)] at hpv
    refine go [22,3,16368,0,22,4,16352,0,22,5,16320,19] ?_
    refine G.takeT hT9 (i := 6) (rem' := 16256) rfl rfl rfl kr (fun _ _ _ h => h) rfl (pv_ixSl (sz := 5) (k := i - 1) Tryz.underlying35 kr rfl rfl (by first | with_reducible assumption | assumption) (by omega) (by omega)) subT ?_
    refine go [22,7,16128,3,0,22,8,15872,4,22,9,15360,3,0,24,10,14336,25,4,26,24,11,12288] ?_
    refine G.turnOp rfl rfl (G.cR rfl rfl rfl rfl Tryz.func71 rfl rfl may0 (compare_tr _ _ (by omega) (by omega)) ?_)
    refine go [26,22,12,8192,12,22,13,0,2,27] ?_
    exact G.meet (()) trT (.consE rfl (dec_e hpv.symm) (.cons rfl (.cons rfl (.cons rfl (.cons rfl (.cons rfl (.cons rfl .nil))))))) subT
   refine go [23,3,16368,23,4,16352,23,5,16320,23,6,16256,23,7,16128,23,8,15872,23,9,15360,23,10,14336,23,11,12288,23,12,8192,22,13,0,2,27] ?_
   exact G.meet (()) trT (.consE rfl (dec_f (prev_zero (by omega))) (.cons rfl (.cons rfl (.cons rfl (.cons rfl (.cons rfl (.cons rfl .nil))))))) subT
  intro _ hJ
  try dsimp only at hJ
  try dsimp only
  refine G.condP rfl (fun h40 => ?_) (fun h40 => ?_)
  ·refine go [9,10,0,1,1,7,8,11,12,17,12,12,17,12] ?_
   exact G.done0G rfl (Rv.tmp rfl (Rv.tmp rfl Rv.nil)) (by rw [checkT_bad (by omega) hlt' hJ0 (err_prev hlt' h1 (by assumption)) (by omega)]; rfl)
  refine go [13,8,9,10,2,3,0,2,4] ?_
  refine G.op rfl (G.cR rfl rfl rfl rfl Tryz.func72 rfl rfl may0 (parent_tr _ (by omega)) ?_)
  have hpl := parentM_len xs[i].1.path
  refine go [0,2,7,2,7,1,1,7,8,9,10,0,7,8] ?_
  refine G.cond rfl (fun h48 => ?_) (fun h48 => ?_)
  ·have hpt : (parentM (ens xs)[i].path).2 = true := by rw [hg]; exact h48
   refine go [9,10,0,0] ?_
   refine G.op rfl (G.val rfl rfl (pv_subH (sz := 5) (k := i) Tryz.underlying35 kr rfl rfl rfl (by omega)) ?_)
   refine go [0] ?_
   refine G.op rfl (G.cR rfl rfl rfl rfl Tryz.func73 rfl rfl (may1 Y9) (place_tr _ (xs.take i) _ (by rw [List.length_take]; omega) (by rw [ens_take]; exact hso) (by omega)) ?_)
   rw [ens_take]
   refine go [0,2,7,2,7,1,1,7,8,9] ?_
   refine G.cutK (X := Unit) (ts := [0, 4, 14, 15, 16]) (p := []) (fun _ => True) (fun _ => [(66, .bool (decide (¬ heldM ((ens xs).take i) (ens xs)[i])))]) (fun _ => []) (.cons rfl (.cons rfl (.cons rfl (.cons rfl (.cons rfl .nil))))) subT (.cons .nil) apT ?_ ?_
   ·refine go [10,0,2,15,0] ?_
    refine G.partP (t := 59) rfl (fun h59 => ?_) (fun h59 => ?_)
    ·have hnh : ¬ heldM ((ens xs).take i) (ens xs)[i] := held_none hpt (by rw [hg]; assumption)
     refine go [4,4,4,4,4,4,2,2,7] ?_
     exact G.meet (()) trT (.consE rfl (dec_t hnh) (.cons rfl (.cons rfl (.cons rfl (.cons rfl (.cons rfl .nil)))))) subT
    have hat : isAt ((ens xs).take i) (parentM xs[i].1.path).1 := Decidable.of_not_not (by assumption)
    obtain ⟨hkl, -⟩ := placeK_spec hso hat
    rw [List.length_take] at hkl
    obtain ⟨k, hk⟩ : ∃ k, placeK ((ens xs).take i) (parentM xs[i].1.path).1 = k := ⟨_, rfl⟩
    have hkk := held_kind hso hpt (x := (xs[k]'(by omega)).1) (by rw [hg]; exact hat) (by rw [hg, hk, List.getElem?_take_of_lt (by omega)]; exact ens_at (by omega))
    rw [hk] at hkl ⊢
    have hEk := helv k (by omega)
    have hRk := Ro.evRng hEk
    have hDk := Ro.evDat hEk
    obtain ⟨hk1k, hk2k, hlpk, hldk, hltk⟩ := Ro.evOk hEk
    have hCk := Ro.one1 hDk
    refine go [3,0,3,0] ?_
    refine G.want rfl rfl rfl (G.val rfl rfl (pv_ixSl (sz := 5) (k := k) Tryz.underlying35 kr rfl rfl (by first | with_reducible assumption | assumption) (by omega) (by omega)) ?_)
    refine go [3,3,1,3,4,3,14,2,2,7] ?_
    exact G.meet (()) trT (.consE rfl (dec_e (not_congr hkk.symm)) (.cons rfl (.cons rfl (.cons rfl (.cons rfl (.cons rfl .nil)))))) subT
   intro _ hJ
   try dsimp only at hJ
   try dsimp only
   refine G.condP rfl (fun h66 => ?_) (fun h66 => ?_)
   ·refine go [9,10,0,1,1,7,8,11,17,12,12,17,12] ?_
    exact G.done0G rfl (Rv.tmp rfl (Rv.tmp rfl Rv.nil)) (by rw [checkT_bad (by omega) hlt' hJ0 (err_held hlt' h1 (by assumption) (by assumption)) (by omega)]; rfl)
   have hok0 : errT (ens xs) i = 0 := err_ok hlt' h1 (by assumption) (Decidable.of_not_not (by assumption))
   refine go [13,16,8,10,2,6,0,7] ?_
   exact G.next (i + 1) (by first | exact trivial | ((try dsimp only) <;> exact ⟨by omega, fun q hq => by rcases Nat.lt_or_ge q i with h1 | h1; exact hJ0 q h1; obtain rfl : q = i := (by omega); exact hok0⟩)) (by (try dsimp only); omega) (.consE rfl veqT (.cons rfl (.cons rfl (.cons rfl .nil)))) subT
  have hok0 : errT (ens xs) i = 0 := err_ok hlt' h1 (by assumption) (.inl (by rw [hg]; exact h48))
  refine go [13,16,8,10,2,6,0,7] ?_
  exact G.next (i + 1) (by first | exact trivial | ((try dsimp only) <;> exact ⟨by omega, fun q hq => by rcases Nat.lt_or_ge q i with h1 | h1; exact hJ0 q h1; obtain rfl : q = i := (by omega); exact hok0⟩)) (by (try dsimp only); omega) (.consE rfl veqT (.cons rfl (.cons rfl (.cons rfl .nil)))) subT
 refine go [18,14,14,19,8,9,10,1,1,7,8,11] ?_
 exact G.done0G rfl (Rv.tmp rfl (Rv.tmp rfl Rv.nil)) (by rw [checkT_ok (by omega) (fun q hq => hJ q (by omega))]; rfl)
def totM (es : List En) : Nat := (es.map fun e => e.path.length + e.data.length + e.to.length).sum
theorem sum_take_succ (f : En → Nat) {es : List En} {i : Nat} (h : i < es.length) : ((es.take (i + 1)).map f).sum = ((es.take i).map f).sum + f es[i] := by
 rw [List.take_succ_eq_append_getElem h, List.map_append, List.sum_append]
 simp
theorem totM_succ {xs : List ET} {i : Nat} (h : i < xs.length) : totM ((ens xs).take (i + 1)) = totM ((ens xs).take i) + (xs[i].1.path.length + xs[i].1.data.length + xs[i].1.to.length) := by
 unfold totM
 rw [sum_take_succ _ (by rw [ens_length]; exact h), ens_get h]
def bigM (es : List En) (k r : Int) : Prop := k < es.length ∨ r < totM es
instance (es : List En) (k r : Int) : Decidable (bigM es k r) := inferInstanceAs (Decidable (_ ∨ _))
set_option maxRecDepth 20000 in
set_option maxHeartbeats 4000000 in
theorem big_tr {Ps : Nat → Prop} (v : Value) (xs : List ET) (k r : Int) (hk : 0 ≤ k ∧ k ≤ 1000) : Tr Tryz.prog 18 #[v, .int .i64 k, .int .i64 r] [slc rEV Ps v xs] [] (T0 (.bool (decide (bigM (ens xs) k r)))) := by
 refine Tr.of (l := [(0, v), (1, .int .i64 k), (2, .int .i64 r)]) Tryz.func18 rfl (n := 51) rfl (.cons rfl (.cons rfl (.cons rfl .nil))) (fun w0 hro => ?_)
 have hv := ro1 hro
 have hv' := hv
 obtain ⟨av, cv, bv, fv, rfl, hcapv, hmaxv, hnilv, hadv, helv⟩ := Ro.openT hv
 have hel' := ens_length xs
 refine go [9,10,1,7,8,9,10,1,7,8,9,9,10,1,7,8,15] ?_
 refine G.loopK (X := Nat) (ts := [0, 1, 2, 6]) (fun i => i ≤ xs.length ∧ (i : Int) ≤ k + 1 ∧ totM ((ens xs).take i) ≤ i * (3 * 140737488355328)) (fun i => [(7, .int .i64 (totM ((ens xs).take i) : Int)), (8, .int .i64 (i : Int))]) (fun i => []) (fun i => xs.length - i) (x0 := 0) (.cons rfl (.cons rfl (.cons rfl (.cons rfl .nil)))) subT (.cons (.cons .nil)) apT (by first | exact trivial | ((try dsimp only) <;> exact ⟨Nat.zero_le _, by omega, by simp [totM]⟩)) (.consE rfl veqT (.consE rfl veqT .nil)) (fun i hJ => ?_)
 try dsimp only at hJ
 try dsimp only
 obtain ⟨hi1, hi2, hsum⟩ := hJ
 refine go [9,9] ?_
 refine G.cutK (X := Unit) (ts := [0, 1, 2, 6, 7, 8]) (p := []) (fun _ => True) (fun _ => [(17, .bool (decide (i < xs.length ∧ (i : Int) ≤ k)))]) (fun _ => []) (.cons rfl (.cons rfl (.cons rfl (.cons rfl (.cons rfl (.cons rfl .nil)))))) subT (.cons .nil) apT ?_ ?_
 ·refine go [10,0,0,2,5,2,9,0] ?_
  refine G.partP (t := 13) rfl (fun h13 => ?_) (fun h13 => ?_)
  ·refine go [3,0,3,0,3,11,2,2,7] ?_
   exact G.meet (()) trT (.consE rfl (by first | exact dec_e (by omega) | exact dec_f (by omega)) (.cons rfl (.cons rfl (.cons rfl (.cons rfl (.cons rfl (.cons rfl .nil))))))) subT
  refine go [4,4,4,2,2,7] ?_
  exact G.meet (()) trT (.consE rfl (by first | exact dec_e (by omega) | exact dec_f (by omega)) (.cons rfl (.cons rfl (.cons rfl (.cons rfl (.cons rfl (.cons rfl .nil))))))) subT
 intro _ hJ
 try dsimp only at hJ
 try dsimp only
 refine G.condP rfl (fun h17 => ?_) (fun h17 => ?_)
 ·have hlt : i < xs.length := h17.1
  have hik := h17.2
  have hsz := totM_succ hlt
  have hEv := helv i hlt
  have hRv := Ro.evRng hEv
  have hDv := Ro.evDat hEv
  obtain ⟨hk1v, hk2v, hlpv, hldv, hltv⟩ := Ro.evOk hEv
  have hCv := Ro.one1 hDv
  obtain ⟨aD, cD, hx2⟩ := Ro.slv hDv
  rw [hx2] at hRv hCv
  refine go [13,8,9,15] ?_
  refine G.drawT (nn := 23) (p := []) (rem := 8388607) [0, 0, 0, 6, 8, 16, 32, 65, 0, 0, 768, 1024, 2048, 4096, 8320, 0, 0, 98304, 131072, 262144, 524288, 1064960, 4194303] [0, 0, 0, 6, 8, 16, 32, 65, 0, 0, 768, 1024, 2048, 4096, 8320, 0, 0, 98304, 131072, 262144, 524288, 1064960, 2097153] kr ⟨rfl, by kernel_rfl, by kernel_rfl⟩ subT kr (fun hT5 => ?_)
  refine go [22,0,8388606,0,22,1,8388604,0,22,2,8388600,0,22,3,8388592,20,5,22,4,8388576,3,0,22,8,8388320,0,22,9,8387808,0,22,10,8386784,20,5,22,11,8384736,3,3,22,15,8351968,0,22,16,8286432,0,22,17,8155360,20,5,22,18,7893216,3,4,22,5,7893184,4,22,6,7893120,21,22,7,7892992,6,22,12,7888896,4,22,13,7880704,5,22,14,7864320,6,24,19,7340032,25,4,26,22,20,6291456,21,22,21,4194304,6,22,22,0,1,27,16,8,10,0,2,6,1,7] ?_
  exact G.next (i + 1) (by first | exact trivial | ((try dsimp only) <;> exact ⟨by omega, by omega, by rw [hsz]; omega⟩)) (by (try dsimp only); omega) (.consE rfl veqT (.consE rfl veqT (.cons rfl (.cons rfl (.cons rfl (.cons rfl .nil)))))) subT
 have hmost : ¬ k < xs.length → (ens xs).take i = ens xs := fun h => List.take_of_length_le (by omega)
 refine go [18,14,14,19,8,9,10,0,2,5,0,2,10,0] ?_
 refine G.partP (t := 46) rfl (fun h46 => ?_) (fun h46 => ?_)
 ·refine go [4,4,4,2,2,1,7,8,11] ?_
  exact G.done0G rfl (Rv.tmp rfl Rv.nil) (by rw [decide_eq_true (show bigM (ens xs) k r from .inl (by omega))]; rfl)
 refine go [3,0,3,0,3,10,2,2,1,7,8,11] ?_
 exact G.done0G rfl (Rv.tmp rfl Rv.nil) (by rw [hmost (by omega)]; exact dec_e (by unfold bigM; omega))
set_option maxRecDepth 100000
structure KeyF (P : Program) (k : TypeId) {κ : Type} (f : κ → Value) (ok : κ → Prop) : Prop where
 keyed : Go.Maps.Keyed P k
 is : ∀ x, ok x → ∃ l, keyOf P k (f x) = some l
 inj : ∀ x y, f x = f y → x = y
section
variable {κ : Type} [DecidableEq κ]
def mget : List (κ × Value) → κ → Option Value
 | [], _ => none
 | (a, v) :: l, k => if a = k then some v else mget l k
def mset : List (κ × Value) → κ → Value → List (κ × Value)
 | [], k, v => [(k, v)]
 | (a, u) :: l, k, v => if a = k then (k, v) :: l else (a, u) :: mset l k v
theorem mget_mset (l : List (κ × Value)) (k : κ) (v : Value) (j : κ) : mget (mset l k v) j = if k = j then some v else mget l j := by
 induction l with
 | nil => simp [mset, mget]
 | cons p l ih =>
  obtain ⟨a, u⟩ := p
  unfold mset
  by_cases h : a = k
  ·rw [if_pos h]
   subst h
   by_cases h2 : a = j <;> simp [mget, h2]
  rw [if_neg h]
  by_cases h2 : a = j
  ·subst h2
   simp [mget, Ne.symm h, (show ¬ k = a from fun e => h e.symm)]
  simp [mget, h2, ih]
theorem mget_none {l : List (κ × Value)} {k : κ} (h : ∀ p ∈ l, p.1 ≠ k) : mget l k = none := by
 induction l with
 | nil => rfl
 | cons p l ih =>
  obtain ⟨a, u⟩ := p
  have := h (a, u) (List.mem_cons_self ..)
  simp [mget, this, ih fun q hq => h q (List.mem_cons_of_mem _ hq)]
theorem mget_at {l : List (κ × Value)} (hn : (l.map (·.1)).Nodup) {j : Nat} {k : κ} {v : Value} (h : l[j]? = some (k, v)) : mget l k = some v := by
 induction l generalizing j with
 | nil => simp at h
 | cons p l ih =>
  obtain ⟨a, u⟩ := p
  rw [List.map_cons, List.nodup_cons] at hn
  cases j with
  | zero =>
   rw [List.getElem?_cons_zero] at h
   injection h with h
   injection h with h1 h2
   subst h1 h2
   simp [mget]
  | succ j =>
   rw [List.getElem?_cons_succ] at h
   have hm : k ∈ l.map (·.1) := List.mem_map.2 ⟨_, List.mem_of_getElem? h, rfl⟩
   have : ¬ a = k := fun e => hn.1 (e ▸ hm)
   simp [mget, this, ih hn.2 h]
theorem mset_new {l : List (κ × Value)} {k : κ} {v : Value} (h : ∀ p ∈ l, p.1 ≠ k) : mset l k v = l ++ [(k, v)] := by
 induction l with
 | nil => rfl
 | cons p l ih =>
  obtain ⟨a, u⟩ := p
  have := h (a, u) (List.mem_cons_self ..)
  simp [mset, this, ih fun q hq => h q (List.mem_cons_of_mem _ hq)]
theorem mset_at {l : List (κ × Value)} (hn : (l.map (·.1)).Nodup) {j : Nat} {k : κ} {u v : Value} (h : l[j]? = some (k, u)) : mset l k v = l.set j (k, v) := by
 induction l generalizing j with
 | nil => simp at h
 | cons p l ih =>
  obtain ⟨a, w⟩ := p
  rw [List.map_cons, List.nodup_cons] at hn
  cases j with
  | zero =>
   rw [List.getElem?_cons_zero] at h
   injection h with h
   injection h with h1 h2
   subst h1
   simp [mset]
  | succ j =>
   rw [List.getElem?_cons_succ] at h
   have hm : k ∈ l.map (·.1) := List.mem_map.2 ⟨_, List.mem_of_getElem? h, rfl⟩
   have : ¬ a = k := fun e => hn.1 (e ▸ hm)
   simp [mset, this, ih hn.2 h]
theorem mset_keys (l : List (κ × Value)) (k : κ) (v : Value) : (mset l k v).map (·.1) = if k ∈ l.map (·.1) then l.map (·.1) else l.map (·.1) ++ [k] := by
 induction l with
 | nil => simp [mset]
 | cons p l ih =>
  obtain ⟨a, u⟩ := p
  unfold mset
  by_cases h : a = k
  ·subst h
   simp
  rw [if_neg h, List.map_cons, ih]
  by_cases h2 : k ∈ l.map (·.1)
  ·simp [h2]
  simp only [List.map_cons, List.mem_cons, if_neg h2]
  rw [if_neg (fun e => e.elim (fun e => h e.symm) h2)]
  rfl
theorem mset_nodup {l : List (κ × Value)} (hn : (l.map (·.1)).Nodup) (k : κ) (v : Value) : ((mset l k v).map (·.1)).Nodup := by
 rw [mset_keys]
 split
 ·exact hn
 rename_i h
 exact List.nodup_append.2 ⟨hn, by simp, fun a ha b hb => by
  obtain rfl : b = k := by simpa using hb
  exact fun e => h (e ▸ ha)⟩
theorem mset_ok {ok : κ → Prop} {l : List (κ × Value)} (h : ∀ p ∈ l, ok p.1) {k : κ} (hk : ok k) (v : Value) : ∀ p ∈ mset l k v, ok p.1 := fun p hp => by
 have : p.1 ∈ (mset l k v).map (·.1) := List.mem_map.2 ⟨p, hp, rfl⟩
 rw [mset_keys] at this
 split at this
 ·obtain ⟨q, hq, e⟩ := List.mem_map.1 this
  rw [← e]
  exact h q hq
 rcases List.mem_append.1 this with h1 | h1
 ·obtain ⟨q, hq, e⟩ := List.mem_map.1 h1
  rw [← e]
  exact h q hq
 obtain rfl : p.1 = k := by simpa using h1
 exact hk
end
structure MapIs {κ : Type} (f : κ → Value) (ok : κ → Prop) (es : Array MapEntry) (l : List (κ × Value)) : Prop where
 eq : es.toList.map (fun e => (e.key, e.val)) = l.map fun p => (f p.1, p.2)
 nodup : (l.map (·.1)).Nodup
 ok : ∀ p ∈ l, ok p.1
def mpc {κ : Type} (f : κ → Value) (ok : κ → Prop) (b : Nat) (l : List (κ × Value)) : Ck := ⟨(· = b), fun w => ∃ es clock, w.heap[b]? = some (.map es clock) ∧ MapIs f ok es l ∧ Go.MapKept.Stamped es clock, fun w w' h ⟨es, c, h1, h2⟩ => ⟨es, c, (h b rfl).trans h1, h2⟩⟩
section
variable {κ : Type} {f : κ → Value} {ok : κ → Prop} {es : Array MapEntry} {l : List (κ × Value)} {P : Program} {k : TypeId}
theorem MapIs.get (h : MapIs f ok es l) {j : Nat} {e : MapEntry} (he : es[j]? = some e) : ∃ x, l[j]? = some (x, e.val) ∧ f x = e.key := by
 have h1 : (es.toList.map (fun e => (e.key, e.val)))[j]? = some (e.key, e.val) := by rw [List.getElem?_map, Array.getElem?_toList, he]; rfl
 rw [h.eq, List.getElem?_map] at h1
 obtain ⟨p, hp, e2⟩ := Option.map_eq_some_iff.1 h1
 injection e2 with e3 e4
 exact ⟨p.1, by rw [hp, ← e4], e3⟩
theorem MapIs.mem (h : MapIs f ok es l) {e : MapEntry} (he : e ∈ es.toList) : ∃ x, (x, e.val) ∈ l ∧ f x = e.key := by
 obtain ⟨j, hj⟩ := List.getElem?_of_mem he
 obtain ⟨x, h1, h2⟩ := h.get (j := j) (by rw [← Array.getElem?_toList]; exact hj)
 exact ⟨x, List.mem_of_getElem? h1, h2⟩
theorem MapIs.back (h : MapIs f ok es l) {p : κ × Value} (hp : p ∈ l) : ∃ e ∈ es.toList, f p.1 = e.key ∧ p.2 = e.val := by
 have : (f p.1, p.2) ∈ l.map fun p => (f p.1, p.2) := List.mem_map.2 ⟨p, hp, rfl⟩
 rw [← h.eq] at this
 obtain ⟨e, he, e1⟩ := List.mem_map.1 this
 injection e1 with e2 e3
 exact ⟨e, he, e2.symm, e3.symm⟩
theorem MapIs.nil : MapIs f ok #[] [] := ⟨rfl, by simp, by simp⟩
theorem MapIs.find (K : KeyF P k f ok) (h : MapIs f ok es l) {x : κ} (hx : ok x) (w : World) :
 ((Instr.findKey k (f x) es.toList).run P w = .ok none w ∧ (∀ p ∈ l, p.1 ≠ x)) ∨ ∃ j e, (Instr.findKey k (f x) es.toList).run P w = .ok (some (j, e.val)) w ∧ es[j]? = some e ∧ e.key = f x ∧ l[j]? = some (x, e.val) := by
 obtain ⟨lx, hlx⟩ := K.is x hx
 rcases K.keyed.find w hlx es.toList (fun e he => by
  obtain ⟨y, hy, e1⟩ := h.mem he
  rw [← e1]
  exact K.is y (h.ok _ hy)) with ⟨h1, h2⟩ | ⟨j, e, h1, h2, h3⟩
 ·exact .inl ⟨h1, fun p hp e1 => by
   obtain ⟨e, he, e2, _⟩ := h.back hp
   exact h2 e he (by rw [← e2, e1])⟩
 rw [Array.getElem?_toList] at h2
 obtain ⟨y, hy, e1⟩ := h.get h2
 have : y = x := K.inj _ _ (e1.trans h3)
 subst this
 exact .inr ⟨j, e, h1, h2, h3, hy⟩
variable [DecidableEq κ]
theorem run_mapGet {t e : TypeId} {w : World} {b : Nat} {clock : Nat} (K : KeyF P k f ok) (h : MapIs f ok es l) (hb : w.heap[b]? = some (.map es clock)) (ht : P.underlying t = some (.map k e)) {z : Value} (hz : (zeroValue e).run P w = .ok z w) {x : κ} (hx : ok x) (c : Bool) :
 (Instr.lookup t (.map (some b)) (f x) c).run P w = .ok (if c then .tuple #[(mget l x).getD z, .bool (mget l x).isSome] else (mget l x).getD z) w := by
 obtain ⟨lx, hlx⟩ := K.is x hx
 rcases h.find K hx w with ⟨h1, h2⟩ | ⟨j, e0, h1, h2, h3, h4⟩
 ·rw [mget_none h2]
  simp [Instr.lookup, run_underlying ht, MapKept.run_getObj_map hb, K.keyed.check w _ hlx, h1, hz, Result.andThen]
 rw [mget_at h.nodup h4]
 simp [Instr.lookup, run_underlying ht, MapKept.run_getObj_map hb, K.keyed.check w _ hlx, h1, Result.andThen]
theorem run_mapSet {t e : TypeId} {w : World} {b : Nat} {clock : Nat} (K : KeyF P k f ok) (h : MapIs f ok es l) (hb : w.heap[b]? = some (.map es clock)) (ht : P.underlying t = some (.map k e)) {x : κ} (hx : ok x) (v : Value) (hsp : Go.MapKept.Stamped es clock) :
 ∃ es' clock', (Instr.mapUpdate t (.map (some b)) (f x) v).run P w = .ok () (w.putObj b (.map es' clock')) ∧ MapIs f ok es' (mset l x v) ∧ Go.MapKept.Stamped es' clock' := by
 obtain ⟨lx, hlx⟩ := K.is x hx
 rcases h.find K hx w with ⟨h1, h2⟩ | ⟨j, e0, h1, h2, h3, h4⟩
 ·refine ⟨es.push ⟨f x, v, clock⟩, clock + 1, ?_, ⟨?_, mset_nodup h.nodup x v, mset_ok h.ok hx v⟩, Go.MapKept.stamped_push hsp fun e he e1 => by
   obtain ⟨y, hy, e2⟩ := h.mem he
   exact h2 _ hy (K.inj _ _ (e2.trans e1))⟩
  ·simp [Instr.mapUpdate, run_underlying ht, MapKept.run_getObj_map hb, K.keyed.check w false hlx, h1, MapKept.run_setObj_map _ hb, Result.andThen, World.putObj]
  rw [mset_new h2, Array.toList_push, List.map_append, List.map_append, h.eq]
  rfl
 have hst := K.keyed.stays w hlx
 refine ⟨es.modify j fun e => { e with key := f x, val := v }, clock, ?_, ⟨?_, mset_nodup h.nodup x v, mset_ok h.ok hx v⟩, Go.MapKept.stamped_modify hsp j _ (fun e _ => rfl) fun e _ he => by
  rw [h2] at he
  injection he with he
  rw [← he]
  exact h3.symm⟩
 ·simp [Instr.mapUpdate, run_underlying ht, MapKept.run_getObj_map hb, K.keyed.check w false hlx, h1, h2, h3, hst, MapKept.run_setObj_map _ hb, Result.andThen, World.putObj]
 rw [mset_at h.nodup h4]
 apply List.ext_getElem?
 intro q
 rw [List.getElem?_map, List.getElem?_map, Array.getElem?_toList, Array.getElem?_modify]
 by_cases hq : j = q
 ·subst hq
  have hl : j < l.length := (List.getElem?_eq_some_iff.1 h4).1
  rw [if_pos rfl, h2, List.getElem?_set_self hl]
  rfl
 rw [if_neg hq, List.getElem?_set_ne hq]
 have := congrArg (·[q]?) h.eq
 simp only [List.getElem?_map, Array.getElem?_toList] at this
 exact this
end
section
variable {P : Program} {n : Nat} {w0 : World} {S : Nat → Prop} {l : Fr} {m : List Ck} {Q : Exit → Act → World → Prop} {K : Act → World → Prop}
variable {dst : Option Tmp} {ty : TypeId} {pos : String} {after : Array Edge} {g : Option (Nat × Bool)}
theorem G.mapNew {κ : Type} (f : κ → Value) (ok : κ → Prop) {t d : Nat} (hn : Nat.blt d n = true) (h : ∀ b, G n w0 S ((d, .map (some b)) :: l) (mpc f ok b [] :: m) K) : G n w0 S l m (fun a w => Oper.wp P ⟨some d, .makeMap t none, ty, pos, after, g⟩ a w K Q) := G.eff rfl hn fun a w ha hw => by
 have hw' := hw.allocO (.map #[] 0)
 refine ⟨.map (some w.heap.size), w.alloc (.map #[] 0), mpc f ok w.heap.size [] :: m, run_v (run_makeMap t w), ?_, h _⟩
 refine ⟨hw'.chg, fun c hc => ?_, fun c hc b hb => ?_, ?_⟩
 ·rcases List.mem_cons.1 hc with rfl | hc
  ·have : (w.alloc (.map #[] 0)).heap[w.heap.size]? = some (.map #[] 0) := hw'.holds _ (List.mem_cons_self ..)
   exact ⟨#[], 0, this, MapIs.nil, Go.MapKept.stamped_empty 0⟩
  exact hw'.holds c (List.mem_cons_of_mem _ hc)
 ·rcases List.mem_cons.1 hc with rfl | hc
  ·exact hw'.own _ (List.mem_cons_self ..) b hb
  exact hw'.own c (List.mem_cons_of_mem _ hc) b hb
 have hd := List.pairwise_cons.1 hw'.dis
 exact List.pairwise_cons.2 ⟨fun c hc b hb => hd.1 c hc b hb, hd.2⟩
theorem Hp.mapPut {κ : Type} {f : κ → Value} {ok : κ → Prop} {w : World} {b : Nat} {es es' : Array MapEntry} {clock clock' : Nat} {xs xs' : List (κ × Value)} {q : List Ck} (hw : Hp w0 S w (mpc f ok b xs :: q)) (hb : w.heap[b]? = some (.map es clock)) (h : MapIs f ok es' xs') (hsp : Go.MapKept.Stamped es' clock') : Hp w0 S (w.putObj b (.map es' clock')) (mpc f ok b xs' :: q) := by
 have hd := List.pairwise_cons.1 hw.dis
 have h1 : Hp w0 S w (obc b (.map es clock) :: q) := ⟨hw.chg, fun c hc => by
  rcases List.mem_cons.1 hc with rfl | hc
  ·exact hb
  ·exact hw.holds c (List.mem_cons_of_mem _ hc), fun c hc i hi => by
  rcases List.mem_cons.1 hc with rfl | hc
  ·exact hw.own _ (List.mem_cons_self ..) i hi
  exact hw.own c (List.mem_cons_of_mem _ hc) i hi, List.pairwise_cons.2 ⟨fun c hc i hi => hd.1 c hc i hi, hd.2⟩⟩
 have h2 := h1.putO (.map es' clock')
 have hd2 := List.pairwise_cons.1 h2.dis
 refine ⟨h2.chg, fun c hc => ?_, fun c hc i hi => ?_, List.pairwise_cons.2 ⟨fun c hc i hi => hd2.1 c hc i hi, hd2.2⟩⟩
 ·rcases List.mem_cons.1 hc with rfl | hc
  ·exact ⟨es', clock', h2.holds _ (List.mem_cons_self ..), h, hsp⟩
  exact h2.holds c (List.mem_cons_of_mem _ hc)
 rcases List.mem_cons.1 hc with rfl | hc
 ·exact h2.own _ (List.mem_cons_self ..) i hi
 exact h2.own c (List.mem_cons_of_mem _ hc) i hi
theorem G.mapSet {κ : Type} [DecidableEq κ] {f : κ → Value} {ok : κ → Prop} {t k e b : Nat} {xm xk xv : Operand} {x : κ} {v : Value} {xs : List (κ × Value)} {r : List Ck} (Kf : KeyF P k f ok) (ht : P.underlying t = some (.map k e)) (hm : ev l xm = some (.map (some b))) (hk : ev l xk = some (f x)) (hv : ev l xv = some v) (hx : ok x) (hs : Sel m (mpc f ok b xs) r)
 (h : G n w0 S l (mpc f ok b (mset xs x v) :: r) K) : G n w0 S l m (fun a w => Oper.wp P ⟨none, .mapUpdate t xm xk xv, ty, pos, after, g⟩ a w K Q) := G.act rfl fun a w ha hw => by
 have hw' := hw.sel hs
 obtain ⟨es, clock, hb, hi, hsp⟩ : ∃ es clock, w.heap[b]? = some (.map es clock) ∧ MapIs f ok es xs ∧ Go.MapKept.Stamped es clock := hw'.holds _ (List.mem_cons_self ..)
 obtain ⟨es', clock', hr, hi', hsp'⟩ := run_mapSet Kf hi hb ht hx v hsp
 refine ⟨_, _, ?_, hw'.mapPut (clock' := clock') hb hi' hsp', h⟩
 have e1 := ha.eval hm
 have e2 := ha.eval hk
 have e3 := ha.eval hv
 show (execOp a.eval _).run P w = _
 simp only [execOp, e1, e2, e3]
 exact run_u hr
theorem pv_mapGet {κ : Type} [DecidableEq κ] {f : κ → Value} {ok : κ → Prop} {t k e b : Nat} {xm xk : Operand} {c : Bool} {x : κ} {z : Value} {xs : List (κ × Value)} (Kf : KeyF P k f ok) (ht : P.underlying t = some (.map k e)) (hz : ∀ w, (zeroValue e).run P w = .ok z w) (hm : ev l xm = some (.map (some b))) (hk : ev l xk = some (f x)) (hx : ok x)
 (hs : ∀ w, Hp w0 S w m → (mpc f ok b xs).φ w) : PV P n w0 S l m ⟨dst, .lookup t xm xk c, ty, pos, after, g⟩ (if c then .tuple #[(mget xs x).getD z, .bool (mget xs x).isSome] else (mget xs x).getD z) := fun a w ha hw => by
 obtain ⟨es, clock, hb, hi, _⟩ := hs w hw
 have e1 := ha.eval hm
 have e2 := ha.eval hk
 show (execOp a.eval _).run P w = _
 simp only [execOp, e1, e2]
 exact run_v (run_mapGet Kf hi hb ht (hz w) hx c)
theorem sel_map {κ : Type} {f : κ → Value} {ok : κ → Prop} {b : Nat} {xs : List (κ × Value)} {r : List Ck} (h : Sel m (mpc f ok b xs) r) : ∀ w, Hp w0 S w m → (mpc f ok b xs).φ w := fun w hw => hw.holds _ h.mem
end
structure It where
 path : List UInt8
 kind : Int
 mode : Int
 size : Int
 «to» : List UInt8
 ids : List (List UInt8)
abbrev IT := It × Value
def itC (x : IT) : List Value := [vStr x.1.path, vInt x.1.kind, vInt x.1.mode, vInt x.1.size, vStr x.1.to, x.2]
theorem itC_len (x : IT) : (itC x).length = 6 := rfl
def ItOk (e : It) : Prop := I64 e.kind ∧ I64 e.mode ∧ I64 e.size ∧ e.path.length ≤ 140737488355328 ∧ e.to.length ≤ 140737488355328 ∧ e.ids.length ≤ 140737488355328
def rIT : Rdr IT where
 sz := 6
 R := fun Ps w b o x => Ps b ∧ w.rangeAt b o (itC x) ∧ IsSl rID Ps w x.2 x.1.ids ∧ ItOk x.1
 loc := fun h ⟨h1, h2, h3, h4⟩ => ⟨h1, rangeAt_loc (h _ h1) h2, h3.loc h, h4⟩
 mono := fun h ⟨h1, h2, h3, h4⟩ => ⟨h _ h1, h2, h3.mono h, h4⟩
def its (xs : List IT) : List It := xs.map (·.1)
theorem its_length (xs : List IT) : (its xs).length = xs.length := List.length_map ..
theorem its_get {xs : List IT} {i : Nat} (h : i < xs.length) : (its xs)[i]'(by rw [its_length]; exact h) = xs[i].1 := List.getElem_map ..
abbrev CT := (List UInt8 × List UInt8) × Value
def pad16 (l : List UInt8) : List UInt8 := (l ++ List.replicate 16 0).take 16
theorem pad16_len (l : List UInt8) : (pad16 l).length = 16 := by
 unfold pad16
 rw [List.length_take, List.length_append, List.length_replicate]
 omega
theorem pad16_eq {l : List UInt8} (h : l.length = 16) : pad16 l = l := List.take_left' h
def chC (x : CT) : List Value := (pad16 x.1.1).map vByte ++ [x.2]
theorem chC_len (x : CT) : (chC x).length = 17 := by
 unfold chC
 rw [List.length_append, List.length_map, pad16_len]
 rfl
def rCT : Rdr CT where
 sz := 17
 R := fun Ps w b o x => Ps b ∧ w.rangeAt b o (chC x) ∧ IsSl rByte Ps w x.2 x.1.2 ∧ x.1.1.length = 16 ∧ x.1.2.length ≤ 140737488355328
 loc := fun h ⟨h1, h2, h3, h4⟩ => ⟨h1, rangeAt_loc (h _ h1) h2, h3.loc h, h4⟩
 mono := fun h ⟨h1, h2, h3, h4⟩ => ⟨h _ h1, h2, h3.mono h, h4⟩
def cks (xs : List CT) : List (List UInt8 × List UInt8) := xs.map (·.1)
structure Mh where
 c : Int
 k : Int
 n : Int
 t : Int
def datI (e : TypeId) (xs : List IT) : Ck := star (xs.map fun x => own e 16 x.2 x.1.ids.length (flatI x.1.ids))
def datD (e : TypeId) (xs : List CT) : Ck := star (xs.map fun x => ownB e x.2 x.1.2)
section
variable {P : Program} {n : Nat} {w0 : World} {S : Nat → Prop} {l : Fr} {m : List Ck} {K : Act → World → Prop}
theorem Ro.itRng {Ps : Nat → Prop} {b o : Nat} {x : IT} (h : Ro w0 S (elc rIT Ps b o x)) : Ro w0 S (rng b o [.string (sB x.1.path), .int .i64 x.1.kind, .int .i64 x.1.mode, .int .i64 x.1.size, .string (sB x.1.to), x.2]) := ⟨h.1.2.1, fun k hk => h.2 k (by obtain rfl : k = b := hk; exact h.1.1)⟩
theorem Ro.itIds {Ps : Nat → Prop} {b o : Nat} {x : IT} (h : Ro w0 S (elc rIT Ps b o x)) : Ro w0 S (slc rID Ps x.2 x.1.ids) := ⟨h.1.2.2.1, h.2⟩
theorem Ro.itOk {Ps : Nat → Prop} {b o : Nat} {x : IT} (h : Ro w0 S (elc rIT Ps b o x)) : ItOk x.1 := h.1.2.2.2
theorem Ro.one1I {Ps : Nat → Prop} {v : Value} {a : List (List UInt8)} (h : Ro w0 S (slc rID Ps v a)) : v.oneCell' = true := by
 obtain ⟨ad, cap, rfl⟩ := Ro.slv h
 rfl
theorem itC_one {x : IT} (h : x.2.oneCell' = true) : ∀ u ∈ itC x, u.oneCell' = true := fun u hu => by
 simp only [itC, List.mem_cons, List.not_mem_nil, or_false] at hu
 rcases hu with rfl | rfl | rfl | rfl | rfl | rfl
 ·rfl
 ·rfl
 ·rfl
 ·rfl
 ·rfl
 exact h
theorem chC_one {x : CT} (h : x.2.oneCell' = true) : ∀ u ∈ chC x, u.oneCell' = true := fun u hu => by
 rcases List.mem_append.1 hu with hu | hu
 ·exact vByte_one _ u hu
 obtain rfl : u = x.2 := by simpa using hu
 exact h
theorem Ro.allI {b o : Nat} {Ps : Nat → Prop} {xs : List IT} (hel : ∀ i (hi : i < xs.length), Ro w0 S (elc rIT Ps b (o + i * 6) xs[i])) : ∀ x ∈ xs, ItOk x.1 ∧ Go.Proofs.YtngbglhmiefcpaaGreat.all16 x.1.ids ∧ x.2.oneCell' = true := fun x hx => by
 obtain ⟨i, hi, rfl⟩ := List.getElem_of_mem hx
 exact ⟨Ro.itOk (hel i hi), Ro.all16 (Ro.itIds (hel i hi)), Ro.one1I (Ro.itIds (hel i hi))⟩
theorem G.starNil (h : G n w0 S l (star [] :: m) K) : G n w0 S l m K := G.mem (fun w hw => Hp.star (m := []) hw) h
theorem G.starSnoc {α : Type} {f : α → Ck} {ys : List α} {x : α} {c : Ck} {r r' : List Ck} (hc : c = f x) (h1 : Sel m (star (ys.map f)) r) (h2 : Sel r c r') (h : G n w0 S l (star ((ys ++ [x]).map f) :: r') K) : G n w0 S l m K := G.mem (fun w hw => by
 subst hc
 have h3 := Hp.unstar (hw.sel h1)
 have p : (ys.map f ++ r).Perm (((ys ++ [x]).map f) ++ r') := by
  rw [List.map_append, List.append_assoc]
  exact List.Perm.append_left _ h2.perm
 exact Hp.star (h3.perm p)) h
theorem datI_sl {w : World} {e : TypeId} {xs : List IT} (h : (datI e xs).φ w) (h16 : ∀ x ∈ xs, all16 x.1.ids) : ∀ x ∈ xs, IsSl rID (datI e xs).S w x.2 x.1.ids := fun x hx => by
 have h1 : (own e 16 x.2 x.1.ids.length (flatI x.1.ids)).φ w := h.1 _ (List.mem_map.2 ⟨x, hx, rfl⟩)
 exact (own_isI h1 (h16 x hx)).mono fun k hk => ⟨_, List.mem_map.2 ⟨x, hx, rfl⟩, hk⟩
theorem datD_sl {w : World} {e : TypeId} {xs : List CT} (h : (datD e xs).φ w) : ∀ x ∈ xs, IsSl rByte (datD e xs).S w x.2 x.1.2 := fun x hx => by
 have h1 : (ownB e x.2 x.1.2).φ w := h.1 _ (List.mem_map.2 ⟨x, hx, rfl⟩)
 exact (own_isSl' (p := fun _ => True) (OwnB.own h1) rfl (fun _ _ => trivial)).mono fun k hk => ⟨_, List.mem_map.2 ⟨x, hx, rfl⟩, hk⟩
theorem rows_sl {α : Type} {f : α → List Value} {k : Nat} {E : Rdr α} (hf : ∀ x, (f x).length = k) (hE : E.sz = k) {e : TypeId} {v : Value} {xs : List α} {w : World} {Ps : Nat → Prop} (h : w.ownsRow 0 e k v xs.length (xs.flatMap f)) (hP : ∀ b, v.ownBlock = some b → Ps b)
 (hx : ∀ b o x, x ∈ xs → Ps b → w.rangeAt b o (f x) → E.R Ps w b o x) : IsSl E Ps w v xs := by
 obtain ⟨ad, cap, b, hv, had, hnil, hnw⟩ := own_news h
 obtain ⟨h1, h2⟩ := h
 have hb : xs.length ≤ cap ∧ cap ≤ 9223372036854775807 := by
  rcases h2 with ⟨rfl, h0⟩ | ⟨g, cap', cur, rfl, _, _, hc, hm, _⟩
  ·injection hv with e1 e2 e3
   subst e3
   omega
  injection hv with e1 e2 e3
  subst e3
  exact ⟨hc, by unfold maxLen at hm; omega⟩
 refine ⟨ad, cap, b, 0, hv, hb.1, hb.2, hnil, had, fun i hi => hx _ _ _ (List.getElem_mem hi) (hP b ?_) fun j u hj => ?_⟩
 ·rw [hv, had (by omega)]
  rfl
 have hjk : j < k := by
  have := (List.getElem?_eq_some_iff.1 hj).1
  rwa [hf] at this
 have := hnw (i * k + j) u (by rw [flatMap_get f k hf xs i j hi hjk]; exact hj)
 rw [hE, show 0 + i * k + j = 0 + (i * k + j) from by omega]
 exact this
theorem may_items {e e2 : TypeId} {v : Value} {xs : List IT} {r r' : List Ck} (h : Sel m (own e 6 v xs.length (xs.flatMap itC)) r) (h' : Sel m (datI e2 xs) r') (hok : ∀ x ∈ xs, ItOk x.1 ∧ all16 x.1.ids) : May w0 S m (slc rIT (fun b => v.ownBlock = some b ∨ (datI e2 xs).S b) v xs) :=
 .mix (fun w hw => rows_sl itC_len rfl (hw.holds _ h.mem) (fun b hb => .inl hb) fun b o x hx hP hr => ⟨hP, hr, (datI_sl (hw.holds _ h'.mem) (fun x hx => (hok x hx).2) x hx).mono fun k hk => .inr hk, (hok x hx).1⟩) fun b hb => .inr (by
  rcases hb with hb | hb
  ·exact ⟨_, h.mem, hb⟩
  exact ⟨_, h'.mem, hb⟩)
end
theorem chC_id {x : CT} (h : x.1.1.length = 16) : ((chC x).drop 0).take 16 = x.1.1.map vByte := by
 unfold chC
 rw [List.drop_zero, pad16_eq h]
 exact List.take_left' (by rw [List.length_map]; exact h)
theorem chC_dat (x : CT) : (chC x)[16]? = some x.2 := by
 unfold chC
 rw [List.getElem?_append_right (by rw [List.length_map, pad16_len]; exact Nat.le_refl _), List.length_map, pad16_len]
 rfl
theorem Tryz.infoIt : (Tryz.prog.info? 104).map (fun i => (i.zero.map (·.cells.size), i.size, i.bytes)) = some (some 6, 6, 80) := by kernel_rfl
theorem Tryz.infoCk : (Tryz.prog.info? 54).map (fun i => (i.zero.map (·.cells.size), i.size, i.bytes)) = some (some 17, 17, 40) := by kernel_rfl
def frz (F : Nat → Prop) (W : World) : Ck := ⟨F, fun w => ∀ b, F b → w.heap[b]? = W.heap[b]?, fun w w' h hw b hb => (h b hb).trans (hw b hb)⟩
def Up (F : Nat → Prop) (W : World) (F' : Nat → Prop) (W' : World) : Prop := (∀ b, F b → F' b) ∧ ∀ b, F b → W'.heap[b]? = W.heap[b]?
theorem Up.refl (F : Nat → Prop) (W : World) : Up F W F W := ⟨fun _ h => h, fun _ _ => rfl⟩
theorem Up.trans {F F' F'' : Nat → Prop} {W W' W'' : World} (h : Up F W F' W') (k : Up F' W' F'' W'') : Up F W F'' W'' := ⟨fun b hb => k.1 b (h.1 b hb), fun b hb => (k.2 b (h.1 b hb)).trans (h.2 b hb)⟩
theorem Up.sl {α : Type} {E : Rdr α} {F F' : Nat → Prop} {W W' : World} {v : Value} {xs : List α} (h : Up F W F' W') (k : IsSl E F W v xs) : IsSl E F' W' v xs := (k.loc h.2).mono h.1
theorem Up.el {α : Type} {E : Rdr α} {F F' : Nat → Prop} {W W' : World} {b o : Nat} {x : α} (h : Up F W F' W') (k : E.R F W b o x) : E.R F' W' b o x := E.mono h.1 (E.loc h.2 k)
theorem Up.cell {F F' : Nat → Prop} {W W' : World} {b o : Nat} {v : Value} (h : Up F W F' W') (hb : F b) (k : W.cell? ⟨b, o, none⟩ = some v) : W'.cell? ⟨b, o, none⟩ = some v := (World.cell?_of_block (h.2 b hb)).trans k
theorem Up.rng {F F' : Nat → Prop} {W W' : World} {b o : Nat} {cs : List Value} (h : Up F W F' W') (hb : F b) (k : W.rangeAt b o cs) : W'.rangeAt b o cs := rangeAt_loc (h.2 b hb) k
section
variable {P : Program} {n : Nat} {w0 : World} {S : Nat → Prop} {l : Fr} {m : List Ck} {Q : Exit → Act → World → Prop} {K : Act → World → Prop}
 {dst : Option Tmp} {ty : TypeId} {pos : String} {after : Array Edge} {g : Option (Nat × Bool)} {F : Nat → Prop} {W : World}
theorem G.frz0 (h : ∀ W, G n w0 S l (frz (fun _ => False) W :: m) K) : G n w0 S l m K := fun a w ha hw =>
 h w a w ha (hw.adds (m' := [frz (fun _ => False) w]) ⟨Chg.refl _ _, fun c hc => by
  obtain rfl : c = _ := by simpa using hc
  exact fun b hb => hb.elim, fun c hc b hb => by
  obtain rfl : c = _ := by simpa using hc
  exact hb.elim, by simp⟩)
theorem G.freeze {p r r' : List Ck} (h1 : Sel m (frz F W) r) (h2 : Sub r p r')
 (h : ∀ F' W', Up F W F' W' → (∀ c ∈ p, c.φ W' ∧ ∀ b, c.S b → F' b) → G n w0 S l (frz F' W' :: r') K) : G n w0 S l m K := fun a w ha hw => by
 have hw' := (hw.sel h1).perm (List.Perm.cons _ h2.perm)
 refine h (fun b => F b ∨ U p b) w ⟨fun b hb => .inl hb, fun b hb => ((hw'.holds _ (List.mem_cons_self ..) : (frz F W).φ w) b hb).symm ▸ rfl⟩ (fun c hc => ⟨hw'.holds _ (List.mem_cons_of_mem _ (List.mem_append_left _ hc)), fun b hb => .inr ⟨c, hc, hb⟩⟩) a w ha ?_
 have hs : Hp w0 S w (star (frz F W :: p) :: r') := Hp.star (m := frz F W :: p) (r := r') hw'
 have hd := List.pairwise_cons.1 hs.dis
 have key : ∀ b, (F b ∨ U p b) → (star (frz F W :: p)).S b := fun b hb => by
  rcases hb with hb | ⟨c, hc, hb⟩
  ·exact ⟨_, List.mem_cons_self .., hb⟩
  exact ⟨c, List.mem_cons_of_mem _ hc, hb⟩
 refine ⟨hs.chg, fun c hc => ?_, fun c hc b hb => ?_, List.pairwise_cons.2 ⟨fun d hdr b hb => hd.1 d hdr b (key b hb), hd.2⟩⟩
 ·rcases List.mem_cons.1 hc with rfl | hc
  ·exact fun b _ => rfl
  exact hs.holds c (List.mem_cons_of_mem _ hc)
 rcases List.mem_cons.1 hc with rfl | hc
 ·exact hs.own _ (List.mem_cons_self ..) b (key b hb)
 exact hs.own c (List.mem_cons_of_mem _ hc) b hb
theorem may_frz {α : Type} {E : Rdr α} {v : Value} {xs : List α} {r : List Ck} (h : Sel m (frz F W) r) (hs : IsSl E F W v xs) : May w0 S m (slc E F v xs) :=
 .view h.mem (fun w hw => hs.loc hw) fun b hb => hb
theorem frz_cell {b o : Nat} {v : Value} {r : List Ck} (h : Sel m (frz F W) r) (hb : F b) (k : W.cell? ⟨b, o, none⟩ = some v) : ∀ w, Hp w0 S w m → w.cell? ⟨b, o, none⟩ = some v := fun w hw => (World.cell?_of_block ((hw.holds _ h.mem : (frz F W).φ w) b hb)).trans k
theorem frz_rng {b o : Nat} {cs : List Value} {r : List Ck} (h : Sel m (frz F W) r) (hb : F b) (k : W.rangeAt b o cs) : ∀ w, Hp w0 S w m → w.rangeAt b o cs := fun w hw => rangeAt_loc ((hw.holds _ h.mem : (frz F W).φ w) b hb) k
theorem frz_sl {α : Type} {E : Rdr α} {v : Value} {xs : List α} {r : List Ck} (h : Sel m (frz F W) r) (hs : IsSl E F W v xs) : ∀ w, Hp w0 S w m → IsSl E F w v xs := fun w hw => hs.loc (hw.holds _ h.mem : (frz F W).φ w)
def que (e : TypeId) (sz : Nat) (v : Value) (k : Nat) (cs : List Value) : Ck := ⟨fun b => v.ownBlock = some b, fun w => cs.length = k * sz ∧ ((v = .slice none 0 0 ∧ k = 0) ∨
 ∃ g cap pre sp, v = .slice (some ⟨g, pre.length, none⟩) k cap ∧ k ≤ cap ∧ cap ≤ 9223372036854775807 ∧ (cap - k) * sz ≤ sp.length ∧ w.heap[g]? = some (.cells (pre ++ (cs ++ sp)).toArray e (0, 0))), fun w w' h hw => by
 refine ⟨hw.1, ?_⟩
 rcases hw.2 with h1 | ⟨g, cap, pre, sp, rfl, h2, h3, h4, h5⟩
 ·exact .inl h1
 exact .inr ⟨g, cap, pre, sp, rfl, h2, h3, h4, (h g rfl).trans h5⟩⟩
theorem G.queNil (e sz : Nat) (h : G n w0 S l (que e sz (.slice none 0 0) 0 [] :: m) K) : G n w0 S l m K := G.mem (fun w hw => by
 refine hw.adds (m' := [que e sz (.slice none 0 0) 0 []]) ⟨Chg.refl _ _, fun c hc => ?_, fun c hc b hb => ?_, by simp⟩
 ·obtain rfl : c = _ := by simpa using hc
  exact ⟨by simp, .inl ⟨rfl, rfl⟩⟩
 obtain rfl : c = _ := by simpa using hc
 cases hb) h
theorem que_form {e sz k : Nat} {v : Value} {cs : List Value} {w : World} (h : (que e sz v k cs).φ w) : v.oneCell' = true ∧ cs.length = k * sz ∧ ∃ ad cap, v = .slice ad k cap ∧ k ≤ cap ∧ cap ≤ 9223372036854775807 := by
 obtain ⟨h1, ⟨rfl, rfl⟩ | ⟨g, cap, pre, sp, rfl, h2, h3, _⟩⟩ := h
 ·exact ⟨rfl, h1, _, _, rfl, Nat.le_refl _, by omega⟩
 exact ⟨rfl, h1, _, _, rfl, h2, h3⟩
theorem G.queFact {e sz k : Nat} {v : Value} {cs : List Value} {r : List Ck} (hs : Sel m (que e sz v k cs) r) (h : v.oneCell' = true → cs.length = k * sz → ∀ ad cap, v = .slice ad k cap → G n w0 S l m K) : G n w0 S l m K := fun a w ha hw => by
 obtain ⟨h1, h2, ad, cap, h3, _⟩ := que_form (hw.holds _ hs.mem)
 exact h h1 h2 ad cap h3 a w ha hw
theorem G.queTo {e sz k : Nat} {v : Value} {cs : List Value} {r : List Ck} (hs : Sel m (que e sz v k cs) r) (hk : 0 < k)
 (h : ∀ g cap pre sp, v = .slice (some ⟨g, pre.length, none⟩) k cap → k ≤ cap → cap ≤ 9223372036854775807 → (cap - k) * sz ≤ sp.length → cs.length = k * sz → G n w0 S l (blk g e (pre ++ (cs ++ sp)) :: r) K) : G n w0 S l m K := fun a w ha hw => by
 have hw' := hw.sel hs
 obtain ⟨h1, ⟨rfl, h0⟩ | ⟨g, cap, pre, sp, rfl, h2, h3, h4, h5⟩⟩ := hw'.holds _ (List.mem_cons_self ..)
 ·omega
 refine h g cap pre sp rfl h2 h3 h4 h1 a w ha (hp_view (c := que e sz (.slice (some ⟨g, pre.length, none⟩) k cap) k cs) (d := blk g e (pre ++ (cs ++ sp))) hw' (fun _ => h5) fun b hb => ?_)
 obtain rfl : b = g := hb
 rfl
theorem G.queOf {e sz k g cap o : Nat} {cs pre sp : List Value} {r : List Ck} (hs : Sel m (blk g e (pre ++ (cs ++ sp))) r) (ho : o = pre.length) (hk : cs.length = k * sz) (hc : k ≤ cap) (hm : cap ≤ 9223372036854775807) (hl : (cap - k) * sz ≤ sp.length)
 (h : G n w0 S l (que e sz (.slice (some ⟨g, o, none⟩) k cap) k cs :: r) K) : G n w0 S l m K := fun a w ha hw => by
 subst ho
 have hw' := hw.sel hs
 refine h a w ha (hp_view (c := blk g e (pre ++ (cs ++ sp))) (d := que e sz (.slice (some ⟨g, pre.length, none⟩) k cap) k cs) hw' (fun hg => ⟨hk, .inr ⟨g, cap, pre, sp, rfl, hc, hm, hl, hg⟩⟩) fun b hb => ?_)
 have : some g = some b := hb
 injection this with this
 exact this.symm
theorem G.queTail {e sz k g cap : Nat} {c1 cs pre sp : List Value} {r : List Ck} (hs : Sel m (blk g e (pre ++ ((c1 ++ cs) ++ sp))) r) (h1 : c1.length = sz) (hk : (c1 ++ cs).length = (k + 1) * sz) (hc : k + 1 ≤ cap) (hm : cap ≤ 9223372036854775807) (hl : (cap - (k + 1)) * sz ≤ sp.length)
 (h : G n w0 S l (que e sz (subV sz (some ⟨g, pre.length, none⟩) 1 (k + 1) cap) k cs :: r) K) : G n w0 S l m K := by
 have hk' : cs.length = k * sz := by
  rw [List.length_append, h1, Nat.add_mul, Nat.one_mul] at hk
  omega
 have hl' : (cap - 1 - k) * sz ≤ sp.length := by
  rw [show cap - 1 - k = cap - (k + 1) from by omega]
  exact hl
 unfold subV at h
 by_cases hz : cap - 1 = 0
 ·have hk0 : k = 0 := by omega
  subst hk0
  have hcs : cs = [] := List.eq_nil_of_length_eq_zero (by simpa using hk')
  subst hcs
  refine G.queOf (sz := sz) (pre := pre) (cs := []) (sp := c1 ++ sp) (k := 0) (cap := cap - 1) (o := pre.length) (by simpa using hs) rfl (by simp) (by omega) (by omega) (by simp [hz]) ?_
  have hz' : cap = 1 := by omega
  subst hz'
  simpa using h
 refine G.queOf (pre := pre ++ c1) (cs := cs) (sp := sp) (k := k) (cap := cap - 1) (o := pre.length + sz) (by simpa using hs) (by rw [List.length_append, h1]) hk' (by omega) (by omega) hl' ?_
 have hz' : ¬ cap = 1 := by omega
 simpa [hz', addr_mid] using h
theorem putN_mid (news : List Value) : ∀ (a b c : List Value), b.length = news.length → putN (a ++ (b ++ c)) a.length news = a ++ (news ++ c) := by
 induction news with
 | nil =>
  intro a b c h
  obtain rfl : b = [] := List.eq_nil_of_length_eq_zero h
  rfl
 | cons v vs ih =>
  intro a b c h
  match b, h with
  | x :: b, h =>
   show putN ((a ++ (x :: b ++ c)).set a.length v) (a.length + 1) vs = _
   rw [show (a ++ (x :: b ++ c)).set a.length v = (a ++ [v]) ++ (b ++ c) from by simp [List.set_append], show a.length + 1 = (a ++ [v]).length from by simp, ih (a ++ [v]) b c (by simpa using h)]
   simp
theorem G.appendQ {t e d sz bytes k j cap b off : Nat} {s x : Operand} {v : Value} {cs news : List Value} {r : List Ck} (hn : Nat.blt d n = true) (hu : P.underlying t = some (.slice e)) (hi : (P.info? e).map (fun i => (i.zero.map (·.cells.size), i.size, i.bytes)) = some (some sz, sz, bytes)) (hsz : Nat.blt 0 sz = true)
 (hs : ev l s = some v) (hx : ev l x = some (.slice (some ⟨b, off, none⟩) j cap)) (hsel : Sel m (que e sz v k cs) r) (hj : 0 < j) (hl : news.length = j * sz) (hnews : ∀ w, Hp w0 S w m → News w b off news) (h1 : ∀ u ∈ news, u.oneCell' = true)
 (hbig : (k + j) * bytes ≤ 140737488355328) (h63 : k + j ≤ 9223372036854775807)
 (h : ∀ v', G n w0 S ((d, v') :: l) (que e sz v' (k + j) (cs ++ news) :: r) K) : G n w0 S l m (fun a w => Oper.wp P ⟨some d, .call ⟨.builtin .append, #[s, x], #[t, t]⟩, ty, pos, after, g⟩ a w K Q) := G.eff rfl hn fun a w ha hw => by
 obtain ⟨i, hi1, hi2⟩ := Option.map_eq_some_iff.1 hi
 have hi3 : i.zero.map (·.cells.size) = some sz := congrArg Prod.fst hi2
 have hi4 : i.size = sz := congrArg (fun p => p.2.1) hi2
 have hi5 : i.bytes = bytes := congrArg (fun p => p.2.2) hi2
 obtain ⟨z, hz, hz2⟩ := Option.map_eq_some_iff.1 hi3
 have hsz' : 0 < sz := by simpa using hsz
 have hw' := hw.sel hsel
 have run : ∀ v' w', (Builtin.append_ #[t, t] ty #[v, .slice (some ⟨b, off, none⟩) j cap]).run P w = .ok v' w' → (execOp a.eval ⟨some d, .call ⟨.builtin .append, #[s, x], #[t, t]⟩, ty, pos, after, g⟩).run P w = .ok (.value v') w' := fun v' w' hr => by
  simp only [execOp, resolve, invoke, builtin, Sem.run_bind, Sem.run_pure, Result.andThen_ok, List.map_toArray, List.map_cons, List.map_nil, ha.eval hs, ha.eval hx, hr]
 have hnw : ∀ i u, news[i]? = some u → w.cell? ((⟨b, off, none⟩ : Addr).add i) = some u := fun i u hu => by
  rw [addr_mid]
  exact hnews w hw i u hu
 -- a row that was made now, in the place of the old one
 have grown : ∀ {vv : Value} {v' : Value} {w' : World}, w'.ownsRow w.heap.size e sz v' (k + j) (cs ++ news) → w.grownBy w' none → Hp w0 S w' (que e sz v' (k + j) (cs ++ news) :: r) := fun {vv v' w'} ho hg => by
  refine Hp.turn (p := [que e sz v k cs]) (p' := [que e sz v' (k + j) (cs ++ news)]) hw' ⟨⟨hg.os, hg.tape, hg.output, hg.size, fun k hk _ => hg.block k hk (by simp)⟩, fun c hc => ?_, fun c hc b hb => ?_, by simp⟩
  ·obtain rfl : c = _ := by simpa using hc
   refine ⟨ho.1, ?_⟩
   rcases ho.2 with h0 | ⟨g', cap', cur, rfl, _, hg', hc', hm', hs', ht'⟩
   ·exact .inl h0
   refine .inr ⟨g', cap', [], cur.toList.drop ((k + j) * sz), rfl, hc', by unfold maxLen at hm'; omega, ?_, ?_⟩
   ·rw [List.length_drop, Array.length_toList, hs', Nat.sub_mul]
    exact Nat.le_refl _
   rw [List.nil_append, ← ht', List.take_append_drop]
   simpa using hg'
  obtain rfl : c = _ := by simpa using hc
  exact ⟨.inr (ho.lt b hb).1, (ho.lt b hb).2⟩
 have hq := hw'.holds _ (List.mem_cons_self ..)
 obtain ⟨hlen, ⟨rfl, rfl⟩ | ⟨g', c', pre, sp, rfl, hkc, hcm, hsp, hg'⟩⟩ := hq
 ·have hcs : cs = [] := List.eq_nil_of_length_eq_zero (by simpa using hlen)
  subst hcs
  obtain ⟨v', w', hr, h2, h3, _⟩ := run_append_own (P := P) w w.heap.size t ty e i z sz bytes hu hi1 hz hi4 hi5 hz2 hsz' _ 0 [] (World.ownsRow_nil w _ e sz) ⟨b, off, none⟩ j cap news hl hnw h1 (by unfold maxLen; omega) hbig (Nat.le_refl _)
  exact ⟨_, _, _, run _ _ hr, grown (vv := v') h2 h3, h v'⟩
 have hcell : ∀ q u, (pre ++ (cs ++ sp))[q]? = some u → w.cell? ⟨g', q, none⟩ = some u := fun q u hu => by
  rw [cell_of_row _ _ _ _ _ _ hg', List.getElem?_toArray, hu]
 by_cases hroom : k + j ≤ c'
 ·have hfit : news.length ≤ sp.length := by
   rw [hl]
   exact Nat.le_trans (Nat.mul_le_mul_right _ (by omega)) hsp
  have hin : ∀ q, q < news.length → ∃ u, (pre ++ (cs ++ sp))[pre.length + k * sz + q]? = some u := fun q hq => by
   refine ⟨_, List.getElem?_eq_getElem ?_⟩
   simp only [List.length_append]
   omega
  subst hi4
  have hr := run_append_room_cells (P := P) w t ty e i hu hi1 g' pre.length k c' ⟨b, off, none⟩ j cap news hl hnw h1 hroom (fun q hq => by
   obtain ⟨u, hu⟩ := hin q hq
   rw [hcell _ u hu]; rfl) (fun q hq => by
   obtain ⟨u, hu⟩ := hin q hq
   exact frozen_of_row _ _ _ _ _ hg')
  refine ⟨_, _, que e i.size (.slice (some ⟨g', pre.length, none⟩) (k + j) c') (k + j) (cs ++ news) :: r, run _ _ hr, ?_, h _⟩
  have hb0 : Hp w0 S w (blk g' e (pre ++ (cs ++ sp)) :: r) := hp_view (c := que e i.size (.slice (some ⟨g', pre.length, none⟩) k c') k cs) (d := blk g' e (pre ++ (cs ++ sp))) hw' (fun _ => hg') fun b hb => by
   obtain rfl : b = g' := hb
   rfl
  have hb1 := setCells_blk news (pre ++ (cs ++ sp)) (pre.length + k * i.size) hb0
  have e1 : putN (pre ++ (cs ++ sp)) (pre.length + k * i.size) news = pre ++ ((cs ++ news) ++ sp.drop news.length) := by
   have := putN_mid news (pre ++ cs) (sp.take news.length) (sp.drop news.length) (by rw [List.length_take]; omega)
   rw [List.take_append_drop, List.length_append, hlen] at this
   simpa using this
  rw [e1] at hb1
  refine hp_view (c := blk g' e (pre ++ ((cs ++ news) ++ sp.drop news.length))) (d := que e i.size (.slice (some ⟨g', pre.length, none⟩) (k + j) c') (k + j) (cs ++ news)) hb1 (fun hh => ⟨by rw [List.length_append, hlen, hl, Nat.add_mul], .inr ⟨g', c', pre, _, rfl, hroom, hcm, ?_, hh⟩⟩) fun b hb => ?_
  ·rw [List.length_drop, hl, show c' - (k + j) = (c' - k) - j from by omega, Nat.sub_mul]
   omega
  have : some g' = some b := hb
  injection this with this
  exact this.symm
 obtain ⟨v', w', hr, h2, h3⟩ := run_append_arg_grows (P := P) w t ty e i z sz bytes hu hi1 hz hi4 hi5 hz2 hsz' ⟨g', pre.length, none⟩ k c' cs hlen (fun q u hu => by
  rw [addr_mid]
  refine hcell _ u ?_
  rw [List.getElem?_append_right (by omega), Nat.add_sub_cancel_left, List.getElem?_append_left (List.getElem?_eq_some_iff.1 hu).1]
  exact hu) ⟨b, off, none⟩ j cap news hl hnw (by omega) (by unfold maxLen; omega) hbig
 exact ⟨_, _, _, run _ _ hr, grown (vv := v') h2 h3, h v'⟩
end
structure Sh where
 name : List UInt8
 n : Int
 ns : Int
 i : Int
 is : Int
 b : Int
 bs : Int
def shTab : List Sh := [⟨[98, 101, 103, 105, 110], 3, 3, 0, 0, 0, 0⟩, ⟨[112, 97, 114, 116], 1, 1, 0, 0, 1, 1000⟩, ⟨[113, 117, 101, 114, 121], 0, 0, 1, 16, 0, 0⟩, ⟨[103, 105, 118, 101], 0, 0, 1, 1, 1, 1024⟩, ⟨[99, 111, 109, 109, 105, 116], 0, 0, 0, 0, 0, 0⟩, ⟨[97, 98, 111, 114, 116], 0, 0, 0, 0, 0, 0⟩, ⟨[108, 105, 115, 116], 0, 0, 0, 0, 0, 0⟩, ⟨[114, 101, 115, 116, 111, 114, 101], 1, 1, 0, 0, 0, 0⟩, ⟨[109, 111, 114, 101], 1, 1, 0, 0, 0, 0⟩, ⟨[102, 101, 116, 99, 104], 0, 0, 1, 16, 0, 0⟩, ⟨[118, 101, 114, 105, 102, 121], 1, 1, 0, 0, 0, 0⟩, ⟨[102, 111, 114, 103, 101, 116], 1, 1, 0, 0, 0, 0⟩, ⟨[112, 114, 117, 110, 101], 0, 0, 0, 0, 0, 0⟩, ⟨[117, 115, 97, 103, 101], 0, 0, 0, 0, 0, 0⟩, ⟨[112, 105, 110, 103], 1, 1, 0, 0, 0, 0⟩, ⟨[114, 101, 97, 100, 121], 1, 1, 0, 0, 0, 0⟩, ⟨[104, 97, 118, 101], 1, 16, 0, 0, 0, 0⟩, ⟨[116, 111, 111, 107], 0, 0, 1, 1, 0, 0⟩, ⟨[100, 111, 110, 101], 1, 1, 0, 0, 0, 0⟩, ⟨[102, 97, 105, 108], 2, 2, 0, 0, 0, 0⟩, ⟨[115, 110, 97, 112, 115], 0, 128, 0, 0, 0, 0⟩, ⟨[112, 105, 101, 99, 101], 2, 2, 0, 0, 0, 1000⟩, ⟨[99, 104, 117, 110, 107], 0, 0, 1, 1, 1, 1024⟩, ⟨[99, 111, 117, 110, 116], 2, 2, 0, 0, 0, 0⟩]
def shM (k : Int) : Option Sh := if 1 ≤ k ∧ k ≤ 24 then shTab[(k - 1).toNat]? else none
def rowS (s : Sh) : List Value := [.string (sB s.name), .int .i64 s.n, .int .i64 s.ns, .int .i64 s.i, .int .i64 s.is, .int .i64 s.b, .int .i64 s.bs]
def sh0 : Sh := ⟨[], 0, 0, 0, 0, 0, 0⟩
def shD (k : Int) : Sh := (shM k).getD sh0
def shCells : List Value := [.string ⟨#[]⟩, .int .i64 0, .int .i64 0, .int .i64 0, .int .i64 0, .int .i64 0, .int .i64 0, .string ⟨#[98, 101, 103, 105, 110]⟩, .int .i64 3, .int .i64 3, .int .i64 0, .int .i64 0, .int .i64 0, .int .i64 0, .string ⟨#[112, 97, 114, 116]⟩, .int .i64 1, .int .i64 1, .int .i64 0, .int .i64 0, .int .i64 1, .int .i64 1000, .string ⟨#[113, 117, 101, 114, 121]⟩, .int .i64 0, .int .i64 0, .int .i64 1, .int .i64 16, .int .i64 0, .int .i64 0, .string ⟨#[103, 105, 118, 101]⟩, .int .i64 0, .int .i64 0, .int .i64 1, .int .i64 1, .int .i64 1, .int .i64 1024, .string ⟨#[99, 111, 109, 109, 105, 116]⟩, .int .i64 0, .int .i64 0, .int .i64 0, .int .i64 0, .int .i64 0, .int .i64 0, .string ⟨#[97, 98, 111, 114, 116]⟩, .int .i64 0, .int .i64 0, .int .i64 0, .int .i64 0, .int .i64 0, .int .i64 0, .string ⟨#[108, 105, 115, 116]⟩, .int .i64 0, .int .i64 0, .int .i64 0, .int .i64 0, .int .i64 0, .int .i64 0, .string ⟨#[114, 101, 115, 116, 111, 114, 101]⟩, .int .i64 1, .int .i64 1, .int .i64 0, .int .i64 0, .int .i64 0, .int .i64 0, .string ⟨#[109, 111, 114, 101]⟩, .int .i64 1, .int .i64 1, .int .i64 0, .int .i64 0, .int .i64 0, .int .i64 0, .string ⟨#[102, 101, 116, 99, 104]⟩, .int .i64 0, .int .i64 0, .int .i64 1, .int .i64 16, .int .i64 0, .int .i64 0, .string ⟨#[118, 101, 114, 105, 102, 121]⟩, .int .i64 1, .int .i64 1, .int .i64 0, .int .i64 0, .int .i64 0, .int .i64 0, .string ⟨#[102, 111, 114, 103, 101, 116]⟩, .int .i64 1, .int .i64 1, .int .i64 0, .int .i64 0, .int .i64 0, .int .i64 0, .string ⟨#[112, 114, 117, 110, 101]⟩, .int .i64 0, .int .i64 0, .int .i64 0, .int .i64 0, .int .i64 0, .int .i64 0, .string ⟨#[117, 115, 97, 103, 101]⟩, .int .i64 0, .int .i64 0, .int .i64 0, .int .i64 0, .int .i64 0, .int .i64 0, .string ⟨#[112, 105, 110, 103]⟩, .int .i64 1, .int .i64 1, .int .i64 0, .int .i64 0, .int .i64 0, .int .i64 0, .string ⟨#[114, 101, 97, 100, 121]⟩, .int .i64 1, .int .i64 1, .int .i64 0, .int .i64 0, .int .i64 0, .int .i64 0, .string ⟨#[104, 97, 118, 101]⟩, .int .i64 1, .int .i64 16, .int .i64 0, .int .i64 0, .int .i64 0, .int .i64 0, .string ⟨#[116, 111, 111, 107]⟩, .int .i64 0, .int .i64 0, .int .i64 1, .int .i64 1, .int .i64 0, .int .i64 0, .string ⟨#[100, 111, 110, 101]⟩, .int .i64 1, .int .i64 1, .int .i64 0, .int .i64 0, .int .i64 0, .int .i64 0, .string ⟨#[102, 97, 105, 108]⟩, .int .i64 2, .int .i64 2, .int .i64 0, .int .i64 0, .int .i64 0, .int .i64 0, .string ⟨#[115, 110, 97, 112, 115]⟩, .int .i64 0, .int .i64 128, .int .i64 0, .int .i64 0, .int .i64 0, .int .i64 0, .string ⟨#[112, 105, 101, 99, 101]⟩, .int .i64 2, .int .i64 2, .int .i64 0, .int .i64 0, .int .i64 0, .int .i64 1000, .string ⟨#[99, 104, 117, 110, 107]⟩, .int .i64 0, .int .i64 0, .int .i64 1, .int .i64 1, .int .i64 1, .int .i64 1024, .string ⟨#[99, 111, 117, 110, 116]⟩, .int .i64 2, .int .i64 2, .int .i64 0, .int .i64 0, .int .i64 0, .int .i64 0]
def refCells : List Value := [.string ⟨#[98, 101, 103, 105, 110]⟩, .int .i64 3, .int .i64 3, .int .i64 0, .int .i64 0, .int .i64 0, .int .i64 0, .string ⟨#[112, 97, 114, 116]⟩, .int .i64 1, .int .i64 1, .int .i64 0, .int .i64 0, .int .i64 1, .int .i64 1000, .string ⟨#[113, 117, 101, 114, 121]⟩, .int .i64 0, .int .i64 0, .int .i64 1, .int .i64 16, .int .i64 0, .int .i64 0, .string ⟨#[103, 105, 118, 101]⟩, .int .i64 0, .int .i64 0, .int .i64 1, .int .i64 1, .int .i64 1, .int .i64 1024, .string ⟨#[99, 111, 109, 109, 105, 116]⟩, .int .i64 0, .int .i64 0, .int .i64 0, .int .i64 0, .int .i64 0, .int .i64 0, .string ⟨#[97, 98, 111, 114, 116]⟩, .int .i64 0, .int .i64 0, .int .i64 0, .int .i64 0, .int .i64 0, .int .i64 0, .string ⟨#[108, 105, 115, 116]⟩, .int .i64 0, .int .i64 0, .int .i64 0, .int .i64 0, .int .i64 0, .int .i64 0, .string ⟨#[114, 101, 115, 116, 111, 114, 101]⟩, .int .i64 1, .int .i64 1, .int .i64 0, .int .i64 0, .int .i64 0, .int .i64 0, .string ⟨#[109, 111, 114, 101]⟩, .int .i64 1, .int .i64 1, .int .i64 0, .int .i64 0, .int .i64 0, .int .i64 0, .string ⟨#[102, 101, 116, 99, 104]⟩, .int .i64 0, .int .i64 0, .int .i64 1, .int .i64 16, .int .i64 0, .int .i64 0, .string ⟨#[118, 101, 114, 105, 102, 121]⟩, .int .i64 1, .int .i64 1, .int .i64 0, .int .i64 0, .int .i64 0, .int .i64 0, .string ⟨#[102, 111, 114, 103, 101, 116]⟩, .int .i64 1, .int .i64 1, .int .i64 0, .int .i64 0, .int .i64 0, .int .i64 0, .string ⟨#[112, 114, 117, 110, 101]⟩, .int .i64 0, .int .i64 0, .int .i64 0, .int .i64 0, .int .i64 0, .int .i64 0, .string ⟨#[117, 115, 97, 103, 101]⟩, .int .i64 0, .int .i64 0, .int .i64 0, .int .i64 0, .int .i64 0, .int .i64 0, .string ⟨#[112, 105, 110, 103]⟩, .int .i64 1, .int .i64 1, .int .i64 0, .int .i64 0, .int .i64 0, .int .i64 0, .string ⟨#[114, 101, 97, 100, 121]⟩, .int .i64 1, .int .i64 1, .int .i64 0, .int .i64 0, .int .i64 0, .int .i64 0, .string ⟨#[104, 97, 118, 101]⟩, .int .i64 1, .int .i64 16, .int .i64 0, .int .i64 0, .int .i64 0, .int .i64 0, .string ⟨#[116, 111, 111, 107]⟩, .int .i64 0, .int .i64 0, .int .i64 1, .int .i64 1, .int .i64 0, .int .i64 0, .string ⟨#[100, 111, 110, 101]⟩, .int .i64 1, .int .i64 1, .int .i64 0, .int .i64 0, .int .i64 0, .int .i64 0, .string ⟨#[102, 97, 105, 108]⟩, .int .i64 2, .int .i64 2, .int .i64 0, .int .i64 0, .int .i64 0, .int .i64 0, .string ⟨#[115, 110, 97, 112, 115]⟩, .int .i64 0, .int .i64 128, .int .i64 0, .int .i64 0, .int .i64 0, .int .i64 0, .string ⟨#[112, 105, 101, 99, 101]⟩, .int .i64 2, .int .i64 2, .int .i64 0, .int .i64 0, .int .i64 0, .int .i64 1000, .string ⟨#[99, 104, 117, 110, 107]⟩, .int .i64 0, .int .i64 0, .int .i64 1, .int .i64 1, .int .i64 1, .int .i64 1024, .string ⟨#[99, 111, 117, 110, 116]⟩, .int .i64 2, .int .i64 2, .int .i64 0, .int .i64 0, .int .i64 0, .int .i64 0]
theorem shM_in {k : Int} {s : Sh} (h : shM k = some s) : 1 ≤ k ∧ k ≤ 24 ∧ shTab[(k - 1).toNat]? = some s := by
 unfold shM at h
 split at h
 ·rename_i h1
  exact ⟨h1.1, h1.2, h⟩
 cases h
theorem shM_out {k : Int} (h : shM k = none) : k < 1 ∨ 24 < k := by
 unfold shM at h
 split at h
 ·rename_i h1
  have : (k - 1).toNat < shTab.length := by show _ < 24; omega
  rw [List.getElem?_eq_getElem this] at h
  cases h
 omega
theorem shRow {j : Nat} {s : Sh} (h : shTab[j]? = some s) : (shCells.drop ((j + 1) * 7)).take 7 = rowS s ∧ (refCells.drop (j * 7)).take 7 = rowS s := by
 have hj : j < 24 := (List.getElem?_eq_some_iff.1 h).1
 have : j = 0 ∨ j = 1 ∨ j = 2 ∨ j = 3 ∨ j = 4 ∨ j = 5 ∨ j = 6 ∨ j = 7 ∨ j = 8 ∨ j = 9 ∨ j = 10 ∨ j = 11 ∨ j = 12 ∨ j = 13 ∨ j = 14 ∨ j = 15 ∨ j = 16 ∨ j = 17 ∨ j = 18 ∨ j = 19 ∨ j = 20 ∨ j = 21 ∨ j = 22 ∨ j = 23 := by omega
 rcases this with rfl | rfl | rfl | rfl | rfl | rfl | rfl | rfl | rfl | rfl | rfl | rfl | rfl | rfl | rfl | rfl | rfl | rfl | rfl | rfl | rfl | rfl | rfl | rfl <;> (injection h with h; subst h; exact ⟨rfl, rfl⟩)
set_option maxRecDepth 20000 in
set_option maxHeartbeats 4000000 in
theorem of_tr (k : Int) : Tr Tryz.prog 134 #[.int .i64 k] [] [] (T0 (.agg #[.int .i64 k, .int .i64 k])) := by
 refine Tr.of (l := [(0, .int .i64 k)]) Tryz.func134 rfl (n := 6) rfl (.cons rfl .nil) (fun w0 hro => ?_)
 refine go [9,10,60,12] ?_
 intro b2
 refine go [7,8,9,10,0,0,2,50,6,20,7,8,11] ?_
 exact G.done0G rfl (Rv.cellN (cs := [_, _]) rfl Tryz.underlying120 rfl kr Y40 Rv.nil) Y7
set_option maxRecDepth 20000 in
set_option maxHeartbeats 4000000 in
theorem has_tr (a b k : Int) : Tr Tryz.prog 66 #[.agg #[.int .i64 a, .int .i64 b], .int .i64 k] [] [] (T0 (.bool (decide (a ≤ k ∧ k ≤ b)))) := by
 refine Tr.of (l := [(0, .agg #[.int .i64 a, .int .i64 b]), (1, .int .i64 k)]) Tryz.func66 rfl (n := 15) rfl (.cons rfl (.cons rfl .nil)) (fun w0 hro => ?_)
 refine go [9,10] ?_
 refine G.op rfl (G.box rfl rfl (cs := [_, _]) rfl ?_)
 intro b2
 refine go [1,7,8,9,10,2,3,0,2,4,0,2,11,0] ?_
 refine G.partP (t := 9) rfl (fun h9 => ?_) (fun h9 => ?_)
 ·refine go [3,0,3,3,1,3,4,3,11,2,2,1,7,8,11] ?_
  exact G.done1 rfl rfl .nil ⟨congrArg Value.bool (by simp [*]), rfl⟩
 refine go [4,4,4,4,2,2,1,7,8,11] ?_
 exact G.done1 rfl rfl .nil ⟨congrArg Value.bool (by simp [*]), rfl⟩
set_option maxRecDepth 100000 in
set_option maxHeartbeats 4000000 in
theorem shapes_tr : Tr Tryz.prog 96 #[] [] [] (TX (fun _ : Nat => True) (fun b => .pointer (some ⟨b, 0, none⟩)) (fun b => [blk b 195 shCells])) := by
 refine Tr.of (l := []) Tryz.func96 rfl (n := 101) rfl Fa.nil (fun w0 hro => ?_)
 refine go [9,10,1,7,8,9,10,2,50,6,60,12] ?_
 intro b1
 refine go [20,7,8,9] ?_
 refine G.drawT (nn := 99) (p := []) (rem := 633825300114114700748351602687) [0, 1, 2, 7, 4, 16, 0, 112, 32, 0, 256, 1792, 1024, 4096, 0, 28672, 8192, 65536, 131072, 458752, 262144, 1048576, 2097152, 7340032, 4194304, 16777216, 33554432, 117440512, 67108864, 268435456, 536870912, 1879048192, 1073741824, 4294967296, 8589934592, 30064771072, 17179869184, 0, 68719476736, 481036337152, 274877906944, 1099511627776, 2199023255552, 7696581394432, 4398046511104, 17592186044416, 35184372088832, 123145302310912, 70368744177664, 281474976710656, 562949953421312, 1970324836974592, 1125899906842624, 4503599627370496, 9007199254740992, 31525197391593472, 18014398509481984, 72057594037927936, 144115188075855872, 504403158265495552, 288230376151711744, 1152921504606846976, 2305843009213693952, 8070450532247928832, 0, 4611686018427387904, 36893488147419103232, 129127208515966861312, 73786976294838206464, 295147905179352825856, 590295810358705651712, 2066035336255469780992, 1180591620717411303424, 4722366482869645213696, 9444732965739290427392, 33056565380087516495872, 18889465931478580854784, 75557863725914323419136, 151115727451828646838272, 528905046081400263933952, 0, 302231454903657293676544, 2417851639229258349412352, 8462480737302404222943232, 4835703278458516698824704, 19342813113834066795298816, 0, 135399691796838467567091712, 38685626227668133590597632, 309485009821345068724781056, 0, 2166395068749415481073467392, 618970019642690137449562112, 4951760157141521099596496896, 9903520314283042199192993792, 34662321099990647697175478272, 42255020007607646716556773512, 79228162514264337593543950336, 316912650057057350374175801343] [0, 0, 0, 7, 0, 0, 0, 112, 0, 0, 0, 1792, 0, 0, 0, 28672, 0, 0, 0, 458752, 0, 0, 0, 7340032, 0, 0, 0, 117440512, 0, 0, 0, 1879048192, 0, 0, 0, 30064771072, 0, 0, 0, 481036337152, 0, 0, 0, 7696581394432, 0, 0, 0, 123145302310912, 0, 0, 0, 1970324836974592, 0, 0, 0, 31525197391593472, 0, 0, 0, 504403158265495552, 0, 0, 0, 8070450532247928832, 0, 0, 0, 129127208515966861312, 0, 0, 0, 2066035336255469780992, 0, 0, 0, 33056565380087516495872, 0, 0, 0, 528905046081400263933952, 0, 0, 0, 8462480737302404222943232, 0, 0, 0, 135399691796838467567091712, 0, 0, 0, 2166395068749415481073467392, 0, 0, 0, 34662321099990647697175478272, 42255020007607646716556773512, 79228162514264337593543950336, 158456325028528675187087900672] kr ⟨rfl, by kernel_rfl, by kernel_rfl⟩ subT kr (fun hT2 => ?_)
 refine go [22,6,633825300114114700748351602623,50,6,22,14,633825300114114700748351586239,50,6,22,80,633824091188295086119176880063,50,6,22,86,633746719935839749851995684799,50,6,22,90,632508779896554369577096560575,50,6,22,9,632508779896554369577096560063,50,8,22,37,632508779896554369439657606591,50,8,22,64,632508779878107625365948054975,50,8,24,0,632508779878107625365948054974] ?_
 refine G.turnOp rfl rfl (G.cR rfl rfl rfl rfl Tryz.func134 rfl rfl may0 (of_tr _) ?_)
 refine go [26,24,1,632508779878107625365948054972] ?_
 refine G.turnOp rfl rfl (G.cR rfl rfl rfl rfl Tryz.func134 rfl rfl may0 (of_tr _) ?_)
 refine go [26,24,2,632508779878107625365948054968] ?_
 refine G.turnOp rfl rfl (G.cR rfl rfl rfl rfl Tryz.func134 rfl rfl may0 (of_tr _) ?_)
 refine go [26,22,3,632508779878107625365948054960,50,1,24,4,632508779878107625365948054944] ?_
 refine G.turnOp rfl rfl (G.cR rfl rfl rfl rfl Tryz.func134 rfl rfl may0 (of_tr _) ?_)
 refine go [26,24,5,632508779878107625365948054912] ?_
 refine G.turnOp rfl rfl (G.cR rfl rfl rfl rfl Tryz.func134 rfl rfl may0 (of_tr _) ?_)
 refine go [26,22,7,632508779878107625365948054784,50,1,24,8,632508779878107625365948054528] ?_
 refine G.turnOp rfl rfl (G.cR rfl rfl rfl rfl Tryz.func134 rfl rfl may0 (of_tr _) ?_)
 refine go [26,24,10,632508779878107625365948053504] ?_
 refine G.turnOp rfl rfl (G.cR rfl rfl rfl rfl Tryz.func134 rfl rfl may0 (of_tr _) ?_)
 refine go [26,22,11,632508779878107625365948051456,50,1,24,12,632508779878107625365948047360] ?_
 refine G.turnOp rfl rfl (G.cR rfl rfl rfl rfl Tryz.func134 rfl rfl may0 (of_tr _) ?_)
 refine go [26,24,13,632508779878107625365948039168] ?_
 refine G.turnOp rfl rfl (G.cR rfl rfl rfl rfl Tryz.func134 rfl rfl may0 (of_tr _) ?_)
 refine go [26,22,15,632508779878107625365948006400,50,1,24,16,632508779878107625365947940864] ?_
 refine G.turnOp rfl rfl (G.cR rfl rfl rfl rfl Tryz.func134 rfl rfl may0 (of_tr _) ?_)
 refine go [26,24,17,632508779878107625365947809792] ?_
 refine G.turnOp rfl rfl (G.cR rfl rfl rfl rfl Tryz.func134 rfl rfl may0 (of_tr _) ?_)
 refine go [26,24,18,632508779878107625365947547648] ?_
 refine G.turnOp rfl rfl (G.cR rfl rfl rfl rfl Tryz.func134 rfl rfl may0 (of_tr _) ?_)
 refine go [26,22,19,632508779878107625365947023360,50,1,24,20,632508779878107625365945974784] ?_
 refine G.turnOp rfl rfl (G.cR rfl rfl rfl rfl Tryz.func134 rfl rfl may0 (of_tr _) ?_)
 refine go [26,24,21,632508779878107625365943877632] ?_
 refine G.turnOp rfl rfl (G.cR rfl rfl rfl rfl Tryz.func134 rfl rfl may0 (of_tr _) ?_)
 refine go [26,24,22,632508779878107625365939683328] ?_
 refine G.turnOp rfl rfl (G.cR rfl rfl rfl rfl Tryz.func134 rfl rfl may0 (of_tr _) ?_)
 refine go [26,22,23,632508779878107625365931294720,50,1,24,24,632508779878107625365914517504] ?_
 refine G.turnOp rfl rfl (G.cR rfl rfl rfl rfl Tryz.func134 rfl rfl may0 (of_tr _) ?_)
 refine go [26,24,25,632508779878107625365880963072] ?_
 refine G.turnOp rfl rfl (G.cR rfl rfl rfl rfl Tryz.func134 rfl rfl may0 (of_tr _) ?_)
 refine go [26,24,26,632508779878107625365813854208] ?_
 refine G.turnOp rfl rfl (G.cR rfl rfl rfl rfl Tryz.func134 rfl rfl may0 (of_tr _) ?_)
 refine go [26,22,27,632508779878107625365679636480,50,1,24,28,632508779878107625365411201024] ?_
 refine G.turnOp rfl rfl (G.cR rfl rfl rfl rfl Tryz.func134 rfl rfl may0 (of_tr _) ?_)
 refine go [26,24,29,632508779878107625364874330112] ?_
 refine G.turnOp rfl rfl (G.cR rfl rfl rfl rfl Tryz.func134 rfl rfl may0 (of_tr _) ?_)
 refine go [26,24,30,632508779878107625363800588288] ?_
 refine G.turnOp rfl rfl (G.cR rfl rfl rfl rfl Tryz.func134 rfl rfl may0 (of_tr _) ?_)
 refine go [26,22,31,632508779878107625361653104640,50,1,24,32,632508779878107625357358137344] ?_
 refine G.turnOp rfl rfl (G.cR rfl rfl rfl rfl Tryz.func134 rfl rfl may0 (of_tr _) ?_)
 refine go [26,24,33,632508779878107625348768202752] ?_
 refine G.turnOp rfl rfl (G.cR rfl rfl rfl rfl Tryz.func134 rfl rfl may0 (of_tr _) ?_)
 refine go [26,24,34,632508779878107625331588333568] ?_
 refine G.turnOp rfl rfl (G.cR rfl rfl rfl rfl Tryz.func134 rfl rfl may0 (of_tr _) ?_)
 refine go [26,22,35,632508779878107625297228595200,50,1,24,36,632508779878107625228509118464] ?_
 refine G.turnOp rfl rfl (G.cR rfl rfl rfl rfl Tryz.func134 rfl rfl may0 (of_tr _) ?_)
 refine go [26,24,38,632508779878107624953631211520] ?_
 refine G.turnOp rfl rfl (G.cR rfl rfl rfl rfl Tryz.func134 rfl rfl may0 (of_tr _) ?_)
 refine go [26,22,39,632508779878107624403875397632,50,1,24,40,632508779878107623304363769856] ?_
 refine G.turnOp rfl rfl (G.cR rfl rfl rfl rfl Tryz.func134 rfl rfl may0 (of_tr _) ?_)
 refine go [26,24,41,632508779878107621105340514304] ?_
 refine G.turnOp rfl rfl (G.cR rfl rfl rfl rfl Tryz.func134 rfl rfl may0 (of_tr _) ?_)
 refine go [26,24,42,632508779878107616707294003200] ?_
 refine G.turnOp rfl rfl (G.cR rfl rfl rfl rfl Tryz.func134 rfl rfl may0 (of_tr _) ?_)
 refine go [26,22,43,632508779878107607911200980992,50,1,24,44,632508779878107590319014936576] ?_
 refine G.turnOp rfl rfl (G.cR rfl rfl rfl rfl Tryz.func134 rfl rfl may0 (of_tr _) ?_)
 refine go [26,24,45,632508779878107555134642847744] ?_
 refine G.turnOp rfl rfl (G.cR rfl rfl rfl rfl Tryz.func134 rfl rfl may0 (of_tr _) ?_)
 refine go [26,24,46,632508779878107484765898670080] ?_
 refine G.turnOp rfl rfl (G.cR rfl rfl rfl rfl Tryz.func134 rfl rfl may0 (of_tr _) ?_)
 refine go [26,22,47,632508779878107344028410314752,50,1,24,48,632508779878107062553433604096] ?_
 refine G.turnOp rfl rfl (G.cR rfl rfl rfl rfl Tryz.func134 rfl rfl may0 (of_tr _) ?_)
 refine go [26,24,49,632508779878106499603480182784] ?_
 refine G.turnOp rfl rfl (G.cR rfl rfl rfl rfl Tryz.func134 rfl rfl may0 (of_tr _) ?_)
 refine go [26,24,50,632508779878105373703573340160] ?_
 refine G.turnOp rfl rfl (G.cR rfl rfl rfl rfl Tryz.func134 rfl rfl may0 (of_tr _) ?_)
 refine go [26,22,51,632508779878103121903759654912,50,1,24,52,632508779878098618304132284416] ?_
 refine G.turnOp rfl rfl (G.cR rfl rfl rfl rfl Tryz.func134 rfl rfl may0 (of_tr _) ?_)
 refine go [26,24,53,632508779878089611104877543424] ?_
 refine G.turnOp rfl rfl (G.cR rfl rfl rfl rfl Tryz.func134 rfl rfl may0 (of_tr _) ?_)
 refine go [26,24,54,632508779878071596706368061440] ?_
 refine G.turnOp rfl rfl (G.cR rfl rfl rfl rfl Tryz.func134 rfl rfl may0 (of_tr _) ?_)
 refine go [26,22,55,632508779878035567909349097472,50,1,24,56,632508779877963510315311169536] ?_
 refine G.turnOp rfl rfl (G.cR rfl rfl rfl rfl Tryz.func134 rfl rfl may0 (of_tr _) ?_)
 refine go [26,24,57,632508779877819395127235313664] ?_
 refine G.turnOp rfl rfl (G.cR rfl rfl rfl rfl Tryz.func134 rfl rfl may0 (of_tr _) ?_)
 refine go [26,24,58,632508779877531164751083601920] ?_
 refine G.turnOp rfl rfl (G.cR rfl rfl rfl rfl Tryz.func134 rfl rfl may0 (of_tr _) ?_)
 refine go [26,22,59,632508779876954703998780178432,50,1,24,60,632508779875801782494173331456] ?_
 refine G.turnOp rfl rfl (G.cR rfl rfl rfl rfl Tryz.func134 rfl rfl may0 (of_tr _) ?_)
 refine go [26,24,61,632508779873495939484959637504] ?_
 refine G.turnOp rfl rfl (G.cR rfl rfl rfl rfl Tryz.func134 rfl rfl may0 (of_tr _) ?_)
 refine go [26,24,62,632508779868884253466532249600] ?_
 refine G.turnOp rfl rfl (G.cR rfl rfl rfl rfl Tryz.func134 rfl rfl may0 (of_tr _) ?_)
 refine go [26,22,63,632508779859660881429677473792,50,1,24,65,632508779822767393282258370560] ?_
 refine G.turnOp rfl rfl (G.cR rfl rfl rfl rfl Tryz.func134 rfl rfl may0 (of_tr _) ?_)
 refine go [26,24,66,632508779748980416987420164096] ?_
 refine G.turnOp rfl rfl (G.cR rfl rfl rfl rfl Tryz.func134 rfl rfl may0 (of_tr _) ?_)
 refine go [26,22,67,632508779601406464397743751168,50,1,24,68,632508779306258559218390925312] ?_
 refine G.turnOp rfl rfl (G.cR rfl rfl rfl rfl Tryz.func134 rfl rfl may0 (of_tr _) ?_)
 refine go [26,24,69,632508778715962748859685273600] ?_
 refine G.turnOp rfl rfl (G.cR rfl rfl rfl rfl Tryz.func134 rfl rfl may0 (of_tr _) ?_)
 refine go [26,24,70,632508777535371128142273970176] ?_
 refine G.turnOp rfl rfl (G.cR rfl rfl rfl rfl Tryz.func134 rfl rfl may0 (of_tr _) ?_)
 refine go [26,22,71,632508775174187886707451363328,50,1,24,72,632508770451821403837806149632] ?_
 refine G.turnOp rfl rfl (G.cR rfl rfl rfl rfl Tryz.func134 rfl rfl may0 (of_tr _) ?_)
 refine go [26,24,73,632508761007088438098515722240] ?_
 refine G.turnOp rfl rfl (G.cR rfl rfl rfl rfl Tryz.func134 rfl rfl may0 (of_tr _) ?_)
 refine go [26,24,74,632508742117622506619934867456] ?_
 refine G.turnOp rfl rfl (G.cR rfl rfl rfl rfl Tryz.func134 rfl rfl may0 (of_tr _) ?_)
 refine go [26,22,75,632508704338690643662773157888,50,1,24,76,632508628780826917748449738752] ?_
 refine G.turnOp rfl rfl (G.cR rfl rfl rfl rfl Tryz.func134 rfl rfl may0 (of_tr _) ?_)
 refine go [26,24,77,632508477665099465919802900480] ?_
 refine G.turnOp rfl rfl (G.cR rfl rfl rfl rfl Tryz.func134 rfl rfl may0 (of_tr _) ?_)
 refine go [26,24,78,632508175433644562262509223936] ?_
 refine G.turnOp rfl rfl (G.cR rfl rfl rfl rfl Tryz.func134 rfl rfl may0 (of_tr _) ?_)
 refine go [26,22,79,632507570970734754947921870848,50,1,24,81,632505153119095525689572458496] ?_
 refine G.turnOp rfl rfl (G.cR rfl rfl rfl rfl Tryz.func134 rfl rfl may0 (of_tr _) ?_)
 refine go [26,24,82,632500317415817067172873633792] ?_
 refine G.turnOp rfl rfl (G.cR rfl rfl rfl rfl Tryz.func134 rfl rfl may0 (of_tr _) ?_)
 refine go [26,22,83,632490646009260150139475984384,50,1,24,84,632471303196146316072680685568] ?_
 refine G.turnOp rfl rfl (G.cR rfl rfl rfl rfl Tryz.func134 rfl rfl may0 (of_tr _) ?_)
 refine go [26,24,85,632432617569918647939090087936] ?_
 refine G.turnOp rfl rfl (G.cR rfl rfl rfl rfl Tryz.func134 rfl rfl may0 (of_tr _) ?_)
 refine go [26,22,87,632277875065007975404727697408,50,1,24,88,631968390055186630336002916352] ?_
 refine G.turnOp rfl rfl (G.cR rfl rfl rfl rfl Tryz.func134 rfl rfl may0 (of_tr _) ?_)
 refine go [26,24,89,631349420035543940198553354240] ?_
 refine G.turnOp rfl rfl (G.cR rfl rfl rfl rfl Tryz.func134 rfl rfl may0 (of_tr _) ?_)
 refine go [26,22,91,628873539956973179648755105792,50,1,24,92,623921779799831658549158608896] ?_
 refine G.turnOp rfl rfl (G.cR rfl rfl rfl rfl Tryz.func134 rfl rfl may0 (of_tr _) ?_)
 refine go [26,24,93,614018259485548616349965615104] ?_
 refine G.turnOp rfl rfl (G.cR rfl rfl rfl rfl Tryz.func134 rfl rfl may0 (of_tr _) ?_)
 refine go [26,24,94,594211218856982531951579627520] ?_
 refine G.turnOp rfl rfl (G.cR rfl rfl rfl rfl Tryz.func134 rfl rfl may0 (of_tr _) ?_)
 refine go [26,22,95,554597137599850363154807652352,50,1] ?_
 refine G.takeT hT2 (i := 96) (rem' := 475368975085586025561263702016) rfl rfl rfl kr (fun _ _ _ h => h) rfl (pv_build (cells := shCells.toArray) (fun a ha => ha.pevs rfl) kr) subT ?_
 refine go [24,97,316912650057057350374175801344] ?_
 refine G.turnOp rfl rfl (G.box rfl rfl (cs := shCells) rfl ?_)
 intro b100
 refine go [26,22,98,0,1,27,8,11] ?_
 exact G.doneX1 (b100) trT rfl rfl Y7 subT
set_option maxRecDepth 20000 in
set_option maxHeartbeats 4000000 in
theorem shaped_none (k : Int) (h : shM k = none) : Tr Tryz.prog 65 #[.int .i64 k] [] [] (T0 (.pointer none)) := by
 refine Tr.of (l := [(0, .int .i64 k)]) Tryz.func65 rfl (n := 15) rfl (.cons rfl .nil) (fun w0 hro => ?_)
 have hk := shM_out h
 refine go [9,10,1,7,8,9,10] ?_
 refine G.op rfl (G.cS rfl rfl rfl rfl Tryz.func96 rfl rfl subT may0 (shapes_tr) apT ?_)
 intro x4 hJ
 try dsimp only at hJ
 try dsimp only
 refine go [1,7,8,9,9,10,0,2,9,0] ?_
 refine G.partP (t := 7) rfl (fun h7 => ?_) (fun h7 => ?_)
 ·refine go [4,4,2,2,7,8] ?_
  refine G.condT rfl (by first | rfl | exact decide_eq_true (by omega)) ?_
  refine go [9,10,1,7,8,11,12] ?_
  exact G.done0G rfl (Rv.tmp rfl Rv.nil) Y7
 skip
 refine go [3,0,3,12,2,2,7,8] ?_
 refine G.condT rfl (by first | rfl | exact decide_eq_true (by omega)) ?_
 refine go [9,10,1,7,8,11,12] ?_
 exact G.done0G rfl (Rv.tmp rfl Rv.nil) Y7
set_option maxRecDepth 20000 in
set_option maxHeartbeats 4000000 in
theorem shaped_some (k : Int) (s : Sh) (h : shM k = some s) : Tr Tryz.prog 65 #[.int .i64 k] [] [] (TX (fun _ : Nat × Nat => True) (fun x => .pointer (some ⟨x.1, x.2, none⟩)) (fun x => [rng x.1 x.2 (rowS s)])) := by
 refine Tr.of (l := [(0, .int .i64 k)]) Tryz.func65 rfl (n := 15) rfl (.cons rfl .nil) (fun w0 hro => ?_)
 obtain ⟨hk1, hk2, hs⟩ := shM_in h
 obtain ⟨j, hj⟩ : ∃ j : Nat, j = (k - 1).toNat := ⟨_, rfl⟩
 rw [← hj] at hs
 have hrow := (shRow hs).1
 refine go [9,10,1,7,8,9,10] ?_
 refine G.op rfl (G.cS rfl rfl rfl rfl Tryz.func96 rfl rfl subT may0 (shapes_tr) apT ?_)
 intro x4 hJ
 try dsimp only at hJ
 try dsimp only
 refine go [1,7,8,9,9,10,0,2,9,0] ?_
 refine G.partP (t := 7) rfl (fun h7 => ?_) (fun h7 => ?_)
 ·exfalso; omega
 refine go [3,0,3,12,2,2,7,8] ?_
 refine G.condF rfl (decide_eq_false (by omega)) ?_
 refine go [13,8,9,10,0,0,2,8] ?_
 refine G.op rfl (G.val rfl rfl (pv_ixA (sz := 7) (k := j + 1) Tryz.underlying195 kr rfl rfl (by omega) (by omega)) ?_)
 refine go [1,7,8,11] ?_
 refine G.blkRng (k := 7) (xs := rowS s) (b := x4) (o := (j + 1) * 7) selT hrow ?_
 exact G.doneX1 ((x4, (j + 1) * 7)) trT rfl rfl (by rw [Nat.zero_add]) subT
def okN (x : Int) : Bool := decide (0 ≤ x ∧ x ≤ 2147483647)
def checkS (s : Sh) (ns : List Int) (il bl : Nat) : Int := if (¬ (s.n ≤ (ns.length : Int) ∧ (ns.length : Int) ≤ s.ns) ∨ ¬ (s.i ≤ (il : Int) ∧ (il : Int) ≤ s.is)) ∨ ¬ (s.b ≤ (bl : Int) ∧ (bl : Int) ≤ s.bs) then 5 else if ns.all okN = true then 0 else 5
def ncheckM (k : Int) (ns : List Int) (il bl : Nat) : Int := match shM k with
 | none => 2
 | some s => checkS s ns il bl
theorem checkS_bad {s : Sh} {ns : List Int} {il bl : Nat} (h : (¬ (s.n ≤ (ns.length : Int) ∧ (ns.length : Int) ≤ s.ns) ∨ ¬ (s.i ≤ (il : Int) ∧ (il : Int) ≤ s.is)) ∨ ¬ (s.b ≤ (bl : Int) ∧ (bl : Int) ≤ s.bs)) : Value.int .i64 5 = .int .i64 (checkS s ns il bl) := congrArg _ (if_pos h).symm
theorem checkS_num {s : Sh} {ns : List Int} {il bl : Nat} (h : ¬ ((¬ (s.n ≤ (ns.length : Int) ∧ (ns.length : Int) ≤ s.ns) ∨ ¬ (s.i ≤ (il : Int) ∧ (il : Int) ≤ s.is)) ∨ ¬ (s.b ≤ (bl : Int) ∧ (bl : Int) ≤ s.bs))) {k : Nat} (hk : k < ns.length) (hb : ns[k] < 0 ∨ 2147483647 < ns[k]) : Value.int .i64 5 = .int .i64 (checkS s ns il bl) := by
 unfold checkS
 rw [if_neg h, if_neg]
 intro ha
 have := List.all_eq_true.1 ha ns[k] (List.getElem_mem hk)
 have := of_decide_eq_true this
 omega
theorem checkS_ok {s : Sh} {ns : List Int} {il bl : Nat} (h : ¬ ((¬ (s.n ≤ (ns.length : Int) ∧ (ns.length : Int) ≤ s.ns) ∨ ¬ (s.i ≤ (il : Int) ∧ (il : Int) ≤ s.is)) ∨ ¬ (s.b ≤ (bl : Int) ∧ (bl : Int) ≤ s.bs))) {k : Nat} (ha : (ns.take k).all okN = true) (hk : ns.length ≤ k) : Value.int .i64 0 = .int .i64 (checkS s ns il bl) := by
 unfold checkS
 rw [List.take_of_length_le hk] at ha
 rw [if_neg h, if_pos ha]
theorem all_next {ns : List Int} {k : Nat} (ha : (ns.take k).all okN = true) (hk : k < ns.length) (h0 : ¬ ns[k] < 0) (h1 : ¬ 2147483647 < ns[k]) : (ns.take (k + 1)).all okN = true := by
 rw [List.take_succ_eq_append_getElem hk, List.all_append, ha]
 have : okN ns[k] = true := decide_eq_true ⟨by omega, by omega⟩
 simp [this]
def fN (ns : List Int) (k : Nat) : List UInt8 := (ns.take k).flatMap putM
def fI (ids : List (List UInt8)) (k : Nat) : List UInt8 := (ids.take k).flatten
theorem good0 {x : Int} (h : 0 ≤ x ∧ x ≤ 2147483647) : (false || decide (sizeM x = 0)) = false := by
 have := sizeM_ok h.1 h.2
 rw [Bool.false_or]
 exact decide_eq_false (by omega)
theorem wintF (D : Nat) (v : Value) (bs : List UInt8) (x : Int) (hx : 0 ≤ x ∧ x ≤ 2147483647) (hb : bs.length ≤ 1000000000) : Tr Tryz.prog 54 #[.pointer (some ⟨D, 0, none⟩), .int .i64 x] [] [blk D 142 [.bool true, .bool false, v], own 5 1 v bs.length (bs.map vByte)]
 (TX (fun _ : Value => True) (fun _ => .tuple #[]) (fun v => [blk D 142 [.bool true, .bool false, v], own 5 1 v (bs ++ putM x).length ((bs ++ putM x).map vByte)])) := by
 have := wint_any D false v bs x hb
 rwa [good0 hx] at this
set_option maxRecDepth 20000 in
set_option maxHeartbeats 4000000 in
theorem checkNF {Pv1 Pv2 Pv3 : Nat → Prop} (k : Int) (v1 v2 v3 : Value) (ns : List Int) (ids : List (List UInt8)) (bs : List UInt8) (h : shM k = none) : Tr Tryz.prog 46 #[.agg #[.int .i64 k, v1, v2, v3]] [slc rInt Pv1 v1 ns, slc rID Pv2 v2 ids, slc rByte Pv3 v3 bs] [] (T0 (.int .i64 2)) := by
 refine Tr.of (l := [(0, .agg #[.int .i64 k, v1, v2, v3])]) Tryz.func46 rfl (n := 56) rfl (.cons rfl .nil) (fun w0 hro => ?_)
 obtain ⟨hA, hB, hC⟩ := ro3 hro
 have oa := Ro.open hA
 have ob := Ro.open hB
 have oc := Ro.open hC
 obtain ⟨aa, ca, qa, oa', rfl, hca, hma, -, had, hel⟩ := oa
 obtain ⟨ab, cb, qb, ob', rfl, hcb, hmb, -, hbd, hbl⟩ := ob
 obtain ⟨ac, cc, qc, oc', rfl, -⟩ := oc
 refine go [9,10,60,2] ?_
 intro b1
 refine go [1,7,8,9,10,2,3,0,2,4] ?_
 refine G.op rfl (G.cR rfl rfl rfl rfl Tryz.func65 rfl rfl may0 (shaped_none _ h) ?_)
 refine go [1,7,8,9,9,10,0,2,50,3,7,8,60,1,9,10,1,7,8,11,12] ?_
 exact G.done0G rfl (Rv.tmp rfl Rv.nil) Y7
set_option maxRecDepth 20000 in
set_option maxHeartbeats 4000000 in
theorem checkSF {Pv1 Pv2 Pv3 : Nat → Prop} (k : Int) (v1 v2 v3 : Value) (ns : List Int) (ids : List (List UInt8)) (bs : List UInt8) (s : Sh) (h : shM k = some s) : Tr Tryz.prog 46 #[.agg #[.int .i64 k, v1, v2, v3]] [slc rInt Pv1 v1 ns, slc rID Pv2 v2 ids, slc rByte Pv3 v3 bs] [] (T0 (.int .i64 (checkS s ns ids.length bs.length))) := by
 refine Tr.of (l := [(0, .agg #[.int .i64 k, v1, v2, v3])]) Tryz.func46 rfl (n := 56) rfl (.cons rfl .nil) (fun w0 hro => ?_)
 obtain ⟨hA, hB, hC⟩ := ro3 hro
 have oa := Ro.open hA
 have ob := Ro.open hB
 have oc := Ro.open hC
 obtain ⟨aa, ca, qa, oa', rfl, hca, hma, -, had, hel⟩ := oa
 obtain ⟨ab, cb, qb, ob', rfl, hcb, hmb, -, hbd, hbl⟩ := ob
 obtain ⟨ac, cc, qc, oc', rfl, -⟩ := oc
 refine go [9,10,60,2] ?_
 intro b1
 refine go [1,7,8,9,10,2,3,0,2,4] ?_
 refine G.op rfl (G.cS rfl rfl rfl rfl Tryz.func65 rfl rfl subT may0 (shaped_some _ _ h) apT ?_)
 intro x8 hJ
 obtain ⟨bS, oS⟩ := x8
 try dsimp only at hJ
 try dsimp only
 refine go [1,7,8,9,9,10,0,2,50,3,7,8,60,0,13,8,9,9] ?_
 refine G.drawT (nn := 31) (p := []) (rem := 2147483647) [0, 1, 2, 4, 0, 16, 32, 72, 128, 384, 512, 1536, 2560, 4608, 512, 16896, 33280, 74240, 131584, 262656, 655360, 1048576, 3145728, 5242880, 9437184, 1048576, 34603008, 68157440, 152043520, 269484032, 537919488] [0, 1, 2, 4, 0, 16, 32, 72, 128, 256, 512, 1536, 2560, 4608, 512, 16896, 33280, 74240, 131584, 262656, 524288, 1048576, 3145728, 5242880, 9437184, 1048576, 34603008, 68157440, 152043520, 269484032, 537919488] kr ⟨rfl, by kernel_rfl, by kernel_rfl⟩ subT kr (fun hT4 => ?_)
 refine go [22,0,2147483646,0,22,1,2147483644,8,22,2,2147483640,3,1,22,4,2147483624,3,1,22,3,2147483616,50,8,24,5,2147483584,25,4,26,22,6,2147483520,5,24,7,2147483392] ?_
 refine G.turnOp rfl rfl (G.cR rfl rfl rfl rfl Tryz.func66 rfl rfl may0 (has_tr _ _ _) ?_)
 refine go [26,22,8,2147483136,15,22,9,2147482624,0] ?_
 refine G.partP (t := 20) rfl (fun h20 => ?_) (fun h20 => ?_)
 ·refine go [23,10,2147481600,23,11,2147479552,23,12,2147475456,23,13,2147467264,23,14,2147450880,23,15,2147418112,23,16,2147352576,23,17,2147221504,23,18,2146959360,22,19,2146435072,2,22,20,2145386496,0,23,21,2143289344,23,22,2139095040,23,23,2130706432,23,24,2113929216,23,25,2080374784,23,26,2013265920,23,27,1879048192,23,28,1610612736,23,29,1073741824,22,30,0,2,27,8,60,1,9,10,1,7,8,11,12] ?_
  exact G.done0G rfl (Rv.tmp rfl Rv.nil) (checkS_bad (by omega))
 refine go [22,10,2147481600,0,22,11,2147479552,8,22,12,2147475456,3,3,22,13,2147467264,50,8,22,14,2147450880,3,2,24,15,2147418112,25,4,26,22,16,2147352576,5,24,17,2147221504] ?_
 refine G.turnOp rfl rfl (G.cR rfl rfl rfl rfl Tryz.func66 rfl rfl may0 (has_tr _ _ _) ?_)
 refine go [26,22,18,2146959360,15,22,19,2146435072,2,22,20,2145386496,0] ?_
 refine G.partP (t := 31) rfl (fun h31 => ?_) (fun h31 => ?_)
 ·refine go [23,21,2143289344,23,22,2139095040,23,23,2130706432,23,24,2113929216,23,25,2080374784,23,26,2013265920,23,27,1879048192,23,28,1610612736,23,29,1073741824,22,30,0,2,27,8,60,1,9,10,1,7,8,11,12] ?_
  exact G.done0G rfl (Rv.tmp rfl Rv.nil) (checkS_bad (by omega))
 refine go [22,21,2143289344,0,22,22,2139095040,8,22,23,2130706432,3,5,22,24,2113929216,50,8,22,25,2080374784,3,3,24,26,2013265920,25,4,26,22,27,1879048192,5,24,28,1610612736] ?_
 refine G.turnOp rfl rfl (G.cR rfl rfl rfl rfl Tryz.func66 rfl rfl may0 (has_tr _ _ _) ?_)
 refine go [26,22,29,1073741824,15,22,30,0,2,27,8] ?_
 refine G.condP rfl (fun h41 => ?_) (fun h41 => ?_)
 ·refine go [9,10,1,7,8,11,12] ?_
  exact G.done0G rfl (Rv.tmp rfl Rv.nil) (checkS_bad (by omega))
 refine go [13,8,9,9,10,2,3,1,2,4,2,5,0,7,8,15] ?_
 refine G.loopK (X := Nat) (ts := [43, 44]) (fun j => j ≤ ns.length ∧ ((ns.take j).all okN = true)) (fun j => [(45, .int .i64 (j : Int))]) (fun j => []) (fun j => ns.length - j) (x0 := 0) (.cons rfl (.cons rfl .nil)) subT (.cons .nil) apT (by first | exact trivial | ((try dsimp only) <;> exact ⟨Nat.zero_le _, rfl⟩)) (.consE rfl veqT .nil) (fun j hJ => ?_)
 try dsimp only at hJ
 try dsimp only
 obtain ⟨hkj, hJ⟩ := hJ
 refine go [9,10,2,9,7,8,9] ?_
 refine G.condP rfl (fun h46 => ?_) (fun h46 => ?_)
 ·have hlt : j < ns.length := by omega
  have hE := hel j hlt
  refine go [13,8,9,15,9,10,2,20,1,2,4,1,7,8,9,10,0,2,9,0] ?_
  refine G.partP (t := 51) rfl (fun h51 => ?_) (fun h51 => ?_)
  ·refine go [4,4,2,2,7,8,60,1,9,10,1,7,8,11,17,12,12,17,12] ?_
   exact G.done0G rfl (Rv.tmp rfl Rv.nil) (checkS_num (by omega) hlt (by omega))
  refine go [3,0,3,10,2,2,7,8] ?_
  refine G.condP rfl (fun h54 => ?_) (fun h54 => ?_)
  ·refine go [9,10,1,7,8,11,17,12,12,17,12] ?_
   exact G.done0G rfl (Rv.tmp rfl Rv.nil) (checkS_num (by omega) hlt (by omega))
  refine go [13,16,8,10,2,6,0,7] ?_
  exact G.next (j + 1) (by first | exact trivial | ((try dsimp only) <;> exact ⟨by omega, all_next hJ hlt (by omega) (by omega)⟩)) (by (try dsimp only); omega) (.consE rfl veqT (.cons rfl (.cons rfl .nil))) subT
 refine go [18,14,14,19,8,9,10,1,7,8,11] ?_
 exact G.done0G rfl (Rv.tmp rfl Rv.nil) (checkS_ok (by omega) hJ (by omega))
theorem checkF {Pv1 Pv2 Pv3 : Nat → Prop} (k : Int) (v1 v2 v3 : Value) (ns : List Int) (ids : List (List UInt8)) (bs : List UInt8) : Tr Tryz.prog 46 #[.agg #[.int .i64 k, v1, v2, v3]] [slc rInt Pv1 v1 ns, slc rID Pv2 v2 ids, slc rByte Pv3 v3 bs] [] (T0 (.int .i64 (ncheckM k ns ids.length bs.length))) := by
 cases h : shM k with
 | none =>
  have := checkNF (Pv1 := Pv1) (Pv2 := Pv2) (Pv3 := Pv3) k v1 v2 v3 ns ids bs h
  rwa [show ncheckM k ns ids.length bs.length = 2 by unfold ncheckM; rw [h]]
 | some s =>
  have := checkSF (Pv1 := Pv1) (Pv2 := Pv2) (Pv3 := Pv3) k v1 v2 v3 ns ids bs s h
  rwa [show ncheckM k ns ids.length bs.length = checkS s ns ids.length bs.length by unfold ncheckM; rw [h]]
structure Nt where
 k : Int
 ns : List Int
 ids : List (List UInt8)
 bs : List UInt8
structure NV where
 n : Nt
 vN : Value
 vI : Value
 vB : Value
def nvC (x : NV) : List Value := [.int .i64 x.n.k, x.vN, x.vI, x.vB]
theorem nvC_len (x : NV) : (nvC x).length = 4 := rfl
def NvOk (F : Nat → Prop) (W : World) (x : NV) : Prop := IsSl rInt F W x.vN x.n.ns ∧ IsSl rID F W x.vI x.n.ids ∧ IsSl rByte F W x.vB x.n.bs ∧ I64 x.n.k ∧ x.n.ns.length ≤ 1000 ∧ x.n.ids.length ≤ 1000 ∧ x.n.bs.length ≤ 1000000
theorem NvOk.up {F F' : Nat → Prop} {W W' : World} {x : NV} (h : Up F W F' W') (k : NvOk F W x) : NvOk F' W' x := ⟨h.sl k.1, h.sl k.2.1, h.sl k.2.2.1, k.2.2.2⟩
theorem IsSl.one {α : Type} {E : Rdr α} {F : Nat → Prop} {W : World} {v : Value} {xs : List α} (h : IsSl E F W v xs) : v.oneCell' = true := by
 obtain ⟨ad, cap, b, off, rfl, _⟩ := h
 rfl
theorem nvC_one {F : Nat → Prop} {W : World} {x : NV} (h : NvOk F W x) : ∀ u ∈ nvC x, u.oneCell' = true := fun u hu => by
 simp only [nvC, List.mem_cons, List.not_mem_nil, or_false] at hu
 rcases hu with rfl | rfl | rfl | rfl
 ·rfl
 ·exact h.1.one
 ·exact h.2.1.one
 exact h.2.2.1.one
structure Aw where
 nv : NV
 ph : Nat
 bj : Nat
 bx : Nat
def jdF : Nat → Nat
 | 1 => 97
 | 2 => 98
 | 3 => 99
 | 4 => 100
 | _ => 101
def stF : Nat → Nat
 | 1 => 102
 | 2 => 103
 | 3 => 104
 | 4 => 105
 | _ => 106
def awF (x : Aw) : Value := .func (.func 69) #[] #[.pointer (some ⟨x.bj, 0, none⟩), .pointer (some ⟨x.bx, 0, none⟩)]
def awC (x : Aw) : List Value := [.int .i64 x.nv.n.k, x.nv.vN, x.nv.vI, x.nv.vB, awF x]
theorem awC_len (x : Aw) : (awC x).length = 5 := rfl
def AwOk (F : Nat → Prop) (W : World) (x : Aw) : Prop := NvOk F W x.nv ∧ (F x.bj ∧ W.cell? ⟨x.bj, 0, none⟩ = some (.func (.func (jdF x.ph)) #[] #[])) ∧ F x.bx ∧ W.rangeAt x.bx 0 (nvC x.nv)
theorem AwOk.up {F F' : Nat → Prop} {W W' : World} {x : Aw} (h : Up F W F' W') (k : AwOk F W x) : AwOk F' W' x := ⟨k.1.up h, ⟨h.1 _ k.2.1.1, h.cell k.2.1.1 k.2.1.2⟩, h.1 _ k.2.2.1, h.rng k.2.2.1 k.2.2.2⟩
theorem awC_one {F : Nat → Prop} {W : World} {x : Aw} (h : AwOk F W x) : ∀ u ∈ awC x, u.oneCell' = true := fun u hu => by
 simp only [awC, List.mem_cons, List.not_mem_nil, or_false] at hu
 rcases hu with rfl | rfl | rfl | rfl | rfl
 ·rfl
 ·exact h.1.1.one
 ·exact h.1.2.1.one
 ·exact h.1.2.2.1.one
 rfl
def rAw : Rdr Aw where
 sz := 5
 R := fun Ps w b o x => Ps b ∧ w.rangeAt b o (awC x) ∧ AwOk Ps w x
 loc := fun h ⟨h1, h2, h3⟩ => ⟨h1, rangeAt_loc (h _ h1) h2, h3.up ⟨fun _ h => h, fun _ hb => h _ hb⟩⟩
 mono := fun h ⟨h1, h2, h3⟩ => ⟨h _ h1, h2, h3.up ⟨h, fun _ _ => rfl⟩⟩
def CkOk (F : Nat → Prop) (W : World) (x : CT) : Prop := IsSl rByte F W x.2 x.1.2 ∧ x.1.1.length = 16 ∧ x.1.2.length ≤ 1000000
theorem CkOk.up {F F' : Nat → Prop} {W W' : World} {x : CT} (h : Up F W F' W') (k : CkOk F W x) : CkOk F' W' x := ⟨h.sl k.1, k.2⟩
structure PZ where
 made : Bool
 bv : Value
 lv : Value
 cm : Int
 tk : Int
 ph : Nat
 leftv : Value
 waitv : Value
 asked : Nat
 lacksv : Value
 rounds : Nat
 over : Bool
 num : Int
 e : Int
 b : List UInt8
 l : List CT
 left : List Aw
 wait : List Aw
 lacks : List CT
structure PM where
 made : Bool
 b : List UInt8
 l : List (List UInt8 × List UInt8)
 cm : Int
 tk : Int
 ph : Nat
 left : List Nt
 wait : List Nt
 asked : Nat
 lacks : List (List UInt8 × List UInt8)
 rounds : Nat
 over : Bool
 num : Int
 e : Int
def aws (xs : List Aw) : List Nt := xs.map (·.nv.n)
def nvs (xs : List NV) : List Nt := xs.map (·.n)
theorem aws_length (xs : List Aw) : (aws xs).length = xs.length := List.length_map ..
theorem nvs_length (xs : List NV) : (nvs xs).length = xs.length := List.length_map ..
def PZ.pm (z : PZ) : PM := ⟨z.made, z.b, cks z.l, z.cm, z.tk, z.ph, aws z.left, aws z.wait, z.asked, cks z.lacks, z.rounds, z.over, z.num, z.e⟩
structure PvOk (F : Nat → Prop) (W : World) (z : PZ) : Prop where
 b : IsSl rByte F W z.bv z.b
 l : IsSl rCT F W z.lv z.l
 lk : ∀ x ∈ z.l, CkOk F W x
 left : IsSl rAw F W z.leftv z.left
 leftO : ∀ x ∈ z.left, AwOk F W x ∧ x.ph = z.ph
 wait : ∀ x ∈ z.wait, AwOk F W x ∧ x.ph = z.ph
 lacks : ∀ x ∈ z.lacks, CkOk F W x
theorem PvOk.up {F F' : Nat → Prop} {W W' : World} {z : PZ} (h : Up F W F' W') (k : PvOk F W z) : PvOk F' W' z :=
 ⟨h.sl k.b, h.sl k.l, fun x hx => (k.lk x hx).up h, h.sl k.left, fun x hx => ⟨(k.leftO x hx).1.up h, (k.leftO x hx).2⟩, fun x hx => ⟨(k.wait x hx).1.up h, (k.wait x hx).2⟩, fun x hx => (k.lacks x hx).up h⟩
structure PcOk (p : PM) : Prop where
 made : p.made = true
 cm : I64 p.cm
 tk : I64 p.tk
 b0 : 0 < p.b.length
 b : p.b.length ≤ 100000000
 l : p.l.length ≤ 10000000
 ph : 1 ≤ p.ph ∧ p.ph ≤ 5
 rounds : p.rounds ≤ 3
 r0 : p.ph ≤ 2 → p.rounds = 0
 asked : p.asked ≤ p.l.length
 lacks : p.lacks.length ≤ p.l.length
structure PmOk (p : PM) : Prop extends PcOk p where
 two : p.ph = 2 → ∀ n ∈ p.left ++ p.wait, ∃ a : Nat, n.ns = [(a : Int)] ∧ a ≤ 100000000
 four : p.ph = 4 → ∀ n ∈ p.left ++ p.wait, n.ids.length = 1
 three : p.over = false → p.ph = 3 → p.asked + ((p.wait ++ p.left).map fun n => n.ids.length).sum = p.l.length ∧ p.lacks.length ≤ p.asked
 over : p.over = true → p.left = [] ∧ p.wait = []
 few : p.left.length + p.wait.length ≤ 200000000
theorem IsSl.open {α : Type} {E : Rdr α} {F : Nat → Prop} {W : World} {v : Value} {xs : List α} (h : IsSl E F W v xs) : ∃ ad cap b off, v = .slice ad xs.length cap ∧ xs.length ≤ cap ∧ cap ≤ 9223372036854775807 ∧ (ad = none → cap = 0) ∧ (0 < xs.length → ad = some ⟨b, off, none⟩) ∧ ∀ i (hi : i < xs.length), E.R F W b (off + i * E.sz) xs[i] :=
 let ⟨ad, cap, b, off, e, hs⟩ := h; ⟨ad, cap, b, off, e, hs.hcap, hs.hmax, hs.hnil, hs.had, fun i hi => hs.cell i hi⟩
theorem IsSl.nil {α : Type} (E : Rdr α) (F : Nat → Prop) (W : World) : IsSl E F W (.slice none 0 0) [] := ⟨none, 0, 0, 0, rfl, ⟨Nat.zero_le _, by omega, fun _ => rfl, fun h => by simp at h, fun i hi => by simp at hi⟩⟩
section
variable {w0 : World} {S : Nat → Prop} {m : List Ck} {F : Nat → Prop} {W : World}
theorem frz_int {b o : Nat} {x : Int} {r : List Ck} (h : Sel m (frz F W) r) (k : rInt.R F W b o x) : ∀ w, Hp w0 S w m → w.cell? ⟨b, o, none⟩ = some (.int .i64 x) := frz_cell h k.1 k.2.1
theorem arr8_rng {n : Nat} {b o : Nat} {xs : List UInt8} (h : (rArr n rByte).R F W b o xs) : W.rangeAt b o (xs.map vByte) := fun j v hj => by
 rw [List.getElem?_map] at hj
 obtain ⟨y, hy, rfl⟩ := Option.map_eq_some_iff.1 hj
 obtain ⟨hlt, rfl⟩ := List.getElem?_eq_some_iff.1 hy
 have := (h.2 j hlt).2.1
 rwa [show o + j * rByte.sz = o + j from by show o + j * 1 = _; omega] at this
theorem frz_id {b o : Nat} {xs : List UInt8} {r : List Ck} (h : Sel m (frz F W) r) (k : rID.R F W b o xs) (hl : 0 < xs.length) : ∀ w, Hp w0 S w m → w.rangeAt b o (xs.map vByte) := frz_rng h (by have := (k.2 0 hl).1; exact this) (arr8_rng k)
end
def YOk (y : Nt) : Prop := (y.k = 16 ∨ y.k = 19 ∨ y.k = 20 → 0 < y.ns.length) ∧ (y.k = 18 → 0 < y.ids.length)
def endP (p : PM) (n e : Int) : PM := { p with over := true, num := n, e := e, left := [], wait := [] }
def PZ.end (z : PZ) (n e : Int) : PZ := { z with over := true, num := n, e := e, left := [], wait := [], leftv := .slice none 0 0, waitv := .slice none 0 0 }
theorem end_pm (z : PZ) (n e : Int) : (z.end n e).pm = endP z.pm n e := rfl
theorem end_ok {F : Nat → Prop} {W : World} {z : PZ} (h : PvOk F W z) (n e : Int) : PvOk F W (z.end n e) :=
 ⟨h.b, h.l, h.lk, IsSl.nil _ _ _, (fun x hx => by simp [PZ.end] at hx), (fun x hx => by simp [PZ.end] at hx), h.lacks⟩
def justP (y : Nt) (kd n : Int) : Bool := decide (y.k = kd ∧ y.ns[0]? = some n)
set_option maxRecDepth 20000 in
set_option maxHeartbeats 4000000 in
theorem pend_tr (D : Nat) (z : PZ) (n e : Int) : Tr Tryz.prog 47 #[.pointer (some ⟨D, 0, none⟩), .int .i64 n, .int .i64 e] [] [blk D 85 [.bool z.made, z.bv, z.lv, .int .i64 z.cm, .int .i64 z.tk, .int .i64 (z.ph : Nat), z.leftv, z.waitv, .int .i64 (z.asked : Nat), z.lacksv, .int .i64 (z.rounds : Nat), .bool z.over, .int .i64 z.num, .int .i64 z.e], que 92 5 z.waitv z.wait.length (z.wait.flatMap awC)]
 (TX (fun _ : Unit => True) (fun _ => .tuple #[]) (fun _ => [blk D 85 [.bool (z.end n e).made, (z.end n e).bv, (z.end n e).lv, .int .i64 (z.end n e).cm, .int .i64 (z.end n e).tk, .int .i64 ((z.end n e).ph : Nat), (z.end n e).leftv, (z.end n e).waitv, .int .i64 ((z.end n e).asked : Nat), (z.end n e).lacksv, .int .i64 ((z.end n e).rounds : Nat), .bool (z.end n e).over, .int .i64 (z.end n e).num, .int .i64 (z.end n e).e], que 92 5 (z.end n e).waitv (z.end n e).wait.length ((z.end n e).wait.flatMap awC)])) := by
 refine Tr.of (l := [(0, .pointer (some ⟨D, 0, none⟩)), (1, .int .i64 n), (2, .int .i64 e)]) Tryz.func47 rfl (n := 23) rfl (.cons rfl (.cons rfl (.cons rfl .nil))) (fun w0 hro => ?_)
 refine go [9,10,0,0,0,0,0,2,8,2,3,11,21,2,8,2,3,12,21,2,8,2,3,13,21,7,8,10,0,0,2,8,2,3,6,21,2,8,2,3,7,21,7] ?_
 refine G.queNil 92 5 ?_
 exact G.doneXE (()) trT rfl rfl subT
set_option maxRecDepth 20000 in
set_option maxHeartbeats 4000000 in
theorem just_tr {Pv1 Pv2 Pv3 : Nat → Prop} (k : Int) (v1 v2 v3 : Value) (ns : List Int) (ids : List (List UInt8)) (bs : List UInt8) (kd n : Int) (h : k = kd → 0 < ns.length) : Tr Tryz.prog 135 #[.agg #[.int .i64 k, v1, v2, v3], .int .i64 kd, .int .i64 n] [slc rInt Pv1 v1 ns, slc rID Pv2 v2 ids, slc rByte Pv3 v3 bs] [] (T0 (.bool (justP ⟨k, ns, ids, bs⟩ kd n))) := by
 refine Tr.of (l := [(0, .agg #[.int .i64 k, v1, v2, v3]), (1, .int .i64 kd), (2, .int .i64 n)]) Tryz.func135 rfl (n := 19) rfl (.cons rfl (.cons rfl (.cons rfl .nil))) (fun w0 hro => ?_)
 obtain ⟨hA, hB, hC⟩ := ro3 hro
 have oa := Ro.open hA
 have ob := Ro.open hB
 have oc := Ro.open hC
 obtain ⟨aa, ca, qa, oa', rfl, hca, hma, -, had, hel⟩ := oa
 obtain ⟨ab, cb, qb, ob', rfl, hcb, hmb, -, hbd, hbl⟩ := ob
 obtain ⟨ac, cc, qc, oc', rfl, hcc, -⟩ := oc
 refine go [9,10,60,2] ?_
 intro b3
 refine go [1,7,8,9,10,2,3,0,2,50,0,0,2,13,0] ?_
 refine G.partP (t := 11) rfl (fun h11 => ?_) (fun h11 => ?_)
 ·have hlt : 0 < ns.length := h (by assumption)
  have hE := hel 0 hlt
  have h0 : ns[0]? = some ns[0] := List.getElem?_eq_getElem hlt
  refine go [3,3,1,3,50,0,3,20,1,3,50,0,3,0,3,13,2,2,1,7,8,11] ?_
  exact G.done0G rfl (Rv.tmp rfl Rv.nil) (by show Value.bool _ = Value.bool _; unfold justP; simp [h0, *])
 refine go [4,4,4,4,4,4,2,2,1,7,8,11] ?_
 exact G.done0G rfl (Rv.tmp rfl Rv.nil) (by show Value.bool _ = Value.bool _; unfold justP; simp [*])
def n0 (ns : List Int) : Int := ns[0]?.getD 0
theorem n0_eq {ns : List Int} (h : 0 < ns.length) : n0 ns = ns[0] := by
 unfold n0
 rw [List.getElem?_eq_getElem h]
 rfl
def begunP (p : PM) (_ y : Nt) : Bool × PM := if y.k = 19 then (true, endP p (n0 y.ns) 0) else (justP y 16 0, p)
theorem begunP_done {p : PM} {x y : Nt} (h : y.k = 19) : begunP p x y = (true, endP p (n0 y.ns) 0) := if_pos h
theorem begunP_on {p : PM} {x y : Nt} (h : ¬ y.k = 19) : begunP p x y = (justP y 16 0, p) := if_neg h
def partedP (p : PM) (x y : Nt) : Bool × PM := (justP y 16 (n0 x.ns + x.bs.length), p)
def tookP (p : PM) (x y : Nt) : Bool × PM := (decide (y.k = 18 ∧ y.ids[0]? = x.ids[0]?), p)
def committedP (p : PM) (_ y : Nt) : Bool × PM := (decide (y.k = 19), if y.k = 19 then endP p (n0 y.ns) 0 else p)
theorem committedP_done {p : PM} {x y : Nt} (h : y.k = 19) : committedP p x y = (true, endP p (n0 y.ns) 0) := by
 unfold committedP
 rw [if_pos h, decide_eq_true h]
theorem committedP_on {p : PM} {x y : Nt} (h : ¬ y.k = 19) : committedP p x y = (false, p) := by
 unfold committedP
 rw [if_neg h, decide_eq_false h]
set_option maxRecDepth 20000 in
set_option maxHeartbeats 4000000 in
theorem begun_tr {F : Nat → Prop} {W : World} {Pv1 Pv2 Pv3 : Nat → Prop} (k : Int) (v1 v2 v3 : Value) (ns : List Int) (ids : List (List UInt8)) (bs : List UInt8) (D : Nat) (z : PZ) (x : NV) (hz : PvOk F W z) (hx : NvOk F W x) (hy : YOk ⟨k, ns, ids, bs⟩)  : Tr Tryz.prog 97 #[.pointer (some ⟨D, 0, none⟩), .agg #[.int .i64 x.n.k, x.vN, x.vI, x.vB], .agg #[.int .i64 k, v1, v2, v3]] [slc rInt Pv1 v1 ns, slc rID Pv2 v2 ids, slc rByte Pv3 v3 bs] [blk D 85 [.bool z.made, z.bv, z.lv, .int .i64 z.cm, .int .i64 z.tk, .int .i64 (z.ph : Nat), z.leftv, z.waitv, .int .i64 (z.asked : Nat), z.lacksv, .int .i64 (z.rounds : Nat), .bool z.over, .int .i64 z.num, .int .i64 z.e], frz F W, que 92 5 z.waitv z.wait.length (z.wait.flatMap awC), own 54 17 z.lacksv z.lacks.length (z.lacks.flatMap chC)]
 (TX (fun z' : PZ => PvOk F W z' ∧ z'.pm = (begunP z.pm x.n ⟨k, ns, ids, bs⟩).2) (fun _ => .bool (begunP z.pm x.n ⟨k, ns, ids, bs⟩).1) (fun z' => [blk D 85 [.bool z'.made, z'.bv, z'.lv, .int .i64 z'.cm, .int .i64 z'.tk, .int .i64 (z'.ph : Nat), z'.leftv, z'.waitv, .int .i64 (z'.asked : Nat), z'.lacksv, .int .i64 (z'.rounds : Nat), .bool z'.over, .int .i64 z'.num, .int .i64 z'.e], frz F W, que 92 5 z'.waitv z'.wait.length (z'.wait.flatMap awC), own 54 17 z'.lacksv z'.lacks.length (z'.lacks.flatMap chC)])) := by
 refine Tr.of (l := [(0, .pointer (some ⟨D, 0, none⟩)), (1, .agg #[.int .i64 x.n.k, x.vN, x.vI, x.vB]), (2, .agg #[.int .i64 k, v1, v2, v3])]) Tryz.func97 rfl (n := 18) rfl (.cons rfl (.cons rfl (.cons rfl .nil))) (fun w0 hro => ?_)
 obtain ⟨hA, hB, hC⟩ := ro3 hro
 have oa := Ro.open hA
 have ob := Ro.open hB
 have oc := Ro.open hC
 obtain ⟨aa, ca, qa, oa', rfl, hca, hma, -, had, hel⟩ := oa
 obtain ⟨ab, cb, qb, ob', rfl, hcb, hmb, -, hbd, hbl⟩ := ob
 obtain ⟨ac, cc, qc, oc', rfl, hcc, -⟩ := oc
 refine go [9,10,60,2] ?_
 intro b4
 refine go [60,2] ?_
 intro b5
 refine go [1,7,8,9,9,10,2,3,0,2,50,0,2,13,7,8] ?_
 refine G.condP rfl (fun h9 => ?_) (fun h9 => ?_)
 ·have hlt : 0 < ns.length := hy.1 (by show k = 16 ∨ k = 19 ∨ k = 20; omega)
  have hE := hel 0 hlt
  have h0 : n0 ns = ns[0] := n0_eq hlt
  refine go [9,10,0,2,3,1,2,50,0,2,20,1] ?_
  refine G.op rfl (G.val rfl rfl (pv_load (v := .int .i64 ns[0]) Tryz.underlying3 rfl rfl (ro_int hE)) ?_)
  refine G.op rfl (G.cS rfl rfl rfl rfl Tryz.func47 rfl rfl subT may0 (pend_tr D z ns[0] 0) apT ?_)
  intro x15 hJ
  try dsimp only at hJ
  try dsimp only
  refine go [7,8,9,10,1,7,8,11,12] ?_
  rw [begunP_done (show k = 19 from by assumption)]
  try dsimp only
  rw [h0]
  exact G.doneX1 ((z.end ns[0] 0)) (by first | exact trivial | ((try dsimp only) <;> exact ⟨end_ok hz _ _, rfl⟩)) rfl rfl rfl subT
 refine go [13,8,9,10,2,50,7] ?_
 refine G.op rfl (G.cR rfl rfl rfl rfl Tryz.func135 rfl rfl (may3 Y3 Y3 Y3) (just_tr k _ _ _ ns ids bs 16 0 (fun h => hy.1 (Or.inl h))) ?_)
 refine go [1,7,8,11] ?_
 rw [begunP_on (show ¬ k = 19 from by assumption)]
 exact G.doneX1 (z) Y17 rfl rfl rfl subT
set_option maxRecDepth 20000 in
set_option maxHeartbeats 4000000 in
theorem parted_tr {F : Nat → Prop} {W : World} {Pv1 Pv2 Pv3 : Nat → Prop} (k : Int) (v1 v2 v3 : Value) (ns : List Int) (ids : List (List UInt8)) (bs : List UInt8) (D : Nat) (z : PZ) (x : NV) (hz : PvOk F W z) (hx : NvOk F W x) (hy : YOk ⟨k, ns, ids, bs⟩) (hp : ∃ a : Nat, x.n.ns = [(a : Int)] ∧ a ≤ 100000000) : Tr Tryz.prog 98 #[.pointer (some ⟨D, 0, none⟩), .agg #[.int .i64 x.n.k, x.vN, x.vI, x.vB], .agg #[.int .i64 k, v1, v2, v3]] [slc rInt Pv1 v1 ns, slc rID Pv2 v2 ids, slc rByte Pv3 v3 bs] [blk D 85 [.bool z.made, z.bv, z.lv, .int .i64 z.cm, .int .i64 z.tk, .int .i64 (z.ph : Nat), z.leftv, z.waitv, .int .i64 (z.asked : Nat), z.lacksv, .int .i64 (z.rounds : Nat), .bool z.over, .int .i64 z.num, .int .i64 z.e], frz F W, que 92 5 z.waitv z.wait.length (z.wait.flatMap awC), own 54 17 z.lacksv z.lacks.length (z.lacks.flatMap chC)]
 (TX (fun z' : PZ => PvOk F W z' ∧ z'.pm = (partedP z.pm x.n ⟨k, ns, ids, bs⟩).2) (fun _ => .bool (partedP z.pm x.n ⟨k, ns, ids, bs⟩).1) (fun z' => [blk D 85 [.bool z'.made, z'.bv, z'.lv, .int .i64 z'.cm, .int .i64 z'.tk, .int .i64 (z'.ph : Nat), z'.leftv, z'.waitv, .int .i64 (z'.asked : Nat), z'.lacksv, .int .i64 (z'.rounds : Nat), .bool z'.over, .int .i64 z'.num, .int .i64 z'.e], frz F W, que 92 5 z'.waitv z'.wait.length (z'.wait.flatMap awC), own 54 17 z'.lacksv z'.lacks.length (z'.lacks.flatMap chC)])) := by
 refine Tr.of (l := [(0, .pointer (some ⟨D, 0, none⟩)), (1, .agg #[.int .i64 x.n.k, x.vN, x.vI, x.vB]), (2, .agg #[.int .i64 k, v1, v2, v3])]) Tryz.func98 rfl (n := 17) rfl (.cons rfl (.cons rfl (.cons rfl .nil))) (fun w0 hro => ?_)
 obtain ⟨hA, hB, hC⟩ := ro3 hro
 have oa := Ro.open hA
 have ob := Ro.open hB
 have oc := Ro.open hC
 obtain ⟨aa, ca, qa, oa', rfl, hca, hma, -, had, hel⟩ := oa
 obtain ⟨ab, cb, qb, ob', rfl, hcb, hmb, -, hbd, hbl⟩ := ob
 obtain ⟨ac, cc, qc, oc', rfl, hcc, -⟩ := oc
 obtain ⟨a, hxa, ha⟩ := hp
 obtain ⟨hx1, hx2, hx3, hx4, hx5, hx6, hx7⟩ := hx
 obtain ⟨cN, dN, eN, fN, hvN, _, _, _, hNd, hNe⟩ := hx1.open
 obtain ⟨cB, dB, eB, fB, hvB, _, _, _, _, _⟩ := hx3.open
 have hNl : x.n.ns.length = 1 := by rw [hxa]; rfl
 have hE := hNe 0 (by omega)
 have hN0 : x.n.ns[0] = (a : Int) := by simp [hxa]
 rw [hNl] at hvN hNd
 rw [hN0] at hE
 refine go [9,10,60,2] ?_
 intro b4
 refine go [60,2] ?_
 intro b5
 refine go [1,7,8,9] ?_
 refine G.drawT (nn := 11) (p := []) (rem := 2047) [0, 0, 2, 4, 8, 0, 32, 64, 144, 257, 1023] [0, 0, 2, 4, 8, 0, 32, 64, 144, 257, 512] kr ⟨rfl, by kernel_rfl, by kernel_rfl⟩ subT kr (fun hT1 => ?_)
 refine go [22,1,2045,3,1,22,5,2013,3,3,22,0,2012,50,7] ?_
 refine G.takeT hT1 (i := 2) (rem' := 2008) rfl rfl rfl kr (fun _ _ _ h => h) rfl ((pv_load (v := x.vN) Tryz.underlying29 rfl rfl (by exact blk_cell selD (by rfl))).cast hvN) subT ?_
 refine G.takeT hT1 (i := 3) (rem' := 2000) rfl rfl rfl kr (fun _ _ _ h => h) rfl (pv_ixSl (sz := 1) (k := 0) Tryz.underlying29 kr rfl rfl hNd rfl (by omega)) subT ?_
 refine G.takeT hT1 (i := 4) (rem' := 1984) rfl rfl rfl kr (fun _ _ _ h => h) rfl (pv_load (v := .int .i64 (a : Int)) Tryz.underlying3 rfl rfl (frz_int selD hE)) subT ?_
 refine go [24,6,1920] ?_
 refine G.turnOp rfl rfl (G.val rfl rfl ((pv_load (v := x.vB) Tryz.underlying31 rfl rfl (by exact blk_cell selD (by rfl))).cast hvB) ?_)
 refine go [26,22,7,1792,5,22,8,1536,6,24,9,1024] ?_
 refine G.turnOp rfl rfl (G.cR rfl rfl rfl rfl Tryz.func135 rfl rfl (may3 Y3 Y3 Y3) (just_tr k _ _ _ ns ids bs 16 ((a : Int) + (x.n.bs.length : Int)) (fun h => hy.1 (Or.inl h))) ?_)
 refine go [26,22,10,0,1,27,8,11] ?_
 exact G.doneX1 (z) Y17 rfl rfl (by show Value.bool _ = Value.bool (justP _ 16 (n0 x.n.ns + _)); rw [n0_eq (show 0 < x.n.ns.length from by omega), hN0]) subT
set_option maxRecDepth 20000 in
set_option maxHeartbeats 4000000 in
theorem took_tr {F : Nat → Prop} {W : World} {Pv1 Pv2 Pv3 : Nat → Prop} (k : Int) (v1 v2 v3 : Value) (ns : List Int) (ids : List (List UInt8)) (bs : List UInt8) (D : Nat) (z : PZ) (x : NV) (hz : PvOk F W z) (hx : NvOk F W x) (hy : YOk ⟨k, ns, ids, bs⟩) (hp : x.n.ids.length = 1) : Tr Tryz.prog 100 #[.pointer (some ⟨D, 0, none⟩), .agg #[.int .i64 x.n.k, x.vN, x.vI, x.vB], .agg #[.int .i64 k, v1, v2, v3]] [slc rInt Pv1 v1 ns, slc rID Pv2 v2 ids, slc rByte Pv3 v3 bs] [blk D 85 [.bool z.made, z.bv, z.lv, .int .i64 z.cm, .int .i64 z.tk, .int .i64 (z.ph : Nat), z.leftv, z.waitv, .int .i64 (z.asked : Nat), z.lacksv, .int .i64 (z.rounds : Nat), .bool z.over, .int .i64 z.num, .int .i64 z.e], frz F W, que 92 5 z.waitv z.wait.length (z.wait.flatMap awC), own 54 17 z.lacksv z.lacks.length (z.lacks.flatMap chC)]
 (TX (fun z' : PZ => PvOk F W z' ∧ z'.pm = (tookP z.pm x.n ⟨k, ns, ids, bs⟩).2) (fun _ => .bool (tookP z.pm x.n ⟨k, ns, ids, bs⟩).1) (fun z' => [blk D 85 [.bool z'.made, z'.bv, z'.lv, .int .i64 z'.cm, .int .i64 z'.tk, .int .i64 (z'.ph : Nat), z'.leftv, z'.waitv, .int .i64 (z'.asked : Nat), z'.lacksv, .int .i64 (z'.rounds : Nat), .bool z'.over, .int .i64 z'.num, .int .i64 z'.e], frz F W, que 92 5 z'.waitv z'.wait.length (z'.wait.flatMap awC), own 54 17 z'.lacksv z'.lacks.length (z'.lacks.flatMap chC)])) := by
 refine Tr.of (l := [(0, .pointer (some ⟨D, 0, none⟩)), (1, .agg #[.int .i64 x.n.k, x.vN, x.vI, x.vB]), (2, .agg #[.int .i64 k, v1, v2, v3])]) Tryz.func100 rfl (n := 21) rfl (.cons rfl (.cons rfl (.cons rfl .nil))) (fun w0 hro => ?_)
 obtain ⟨hA, hB, hC⟩ := ro3 hro
 have oa := Ro.open hA
 have ob := Ro.open hB
 have oc := Ro.open hC
 obtain ⟨aa, ca, qa, oa', rfl, hca, hma, -, had, hel⟩ := oa
 obtain ⟨ab, cb, qb, ob', rfl, hcb, hmb, -, hbd, hbl⟩ := ob
 obtain ⟨ac, cc, qc, oc', rfl, hcc, -⟩ := oc
 obtain ⟨hx1, hx2, hx3, hx4, hx5, hx6, hx7⟩ := hx
 obtain ⟨cI, dI, eI, fI, hvI, _, _, _, hId, hIe⟩ := hx2.open
 rw [hp] at hvI hId
 have hE := hIe 0 (by omega)
 have lx := hE.1
 have hx0 : x.n.ids[0]? = some x.n.ids[0] := List.getElem?_eq_getElem (by omega)
 refine go [9,10,60,2] ?_
 intro b4
 refine go [60,2] ?_
 intro b5
 refine go [1,7,8,9] ?_
 refine G.drawT (nn := 15) (p := []) (rem := 32767) [0, 1, 2, 4, 8, 24, 40, 72, 8, 264, 520, 1032, 2184, 4104, 16383] [0, 1, 2, 4, 8, 24, 40, 72, 8, 264, 520, 1032, 2184, 4104, 8192] kr ⟨rfl, by kernel_rfl, by kernel_rfl⟩ subT kr (fun hT1 => ?_)
 refine go [22,0,32766,3,0,24,1,32764,25,50,0,26,22,2,32760,13,22,3,32752,0] ?_
 refine G.partP (t := 10) rfl (fun h10 => ?_) (fun h10 => ?_)
 ·have hlt : 0 < ids.length := hy.2 (by assumption)
  have hG := Ro.arr8 (hbl 0 hlt)
  obtain ⟨lg, rg⟩ := hG
  have hy0 : ids[0]? = some ids[0] := List.getElem?_eq_getElem hlt
  refine go [22,4,32736,3,2,22,5,32704,50,0,22,6,32640,20,16] ?_
  refine G.takeT hT1 (i := 7) (rem' := 32512) rfl rfl rfl kr (fun _ _ _ h => h) rfl (pv_loadN (cs := ids[0].map vByte) Tryz.underlying52 rfl (by rw [List.length_map, lg]; kernel_rfl) rfl rg) subT ?_
  refine go [22,8,32256,3,2,24,9,31744] ?_
  refine G.turnOp rfl rfl (G.val rfl rfl ((pv_load (v := x.vI) Tryz.underlying30 rfl rfl (by exact blk_cell selD (by rfl))).cast hvI) ?_)
  refine go [26] ?_
  refine G.takeT hT1 (i := 10) (rem' := 30720) rfl rfl rfl kr (fun _ _ _ h => h) rfl (pv_ixSl (sz := 16) (k := 0) Tryz.underlying30 kr rfl rfl hId rfl (by omega)) subT ?_
  refine go [24,11,28672] ?_
  refine G.turnOp rfl rfl (G.val rfl rfl (pv_loadN (cs := x.n.ids[0].map vByte) Tryz.underlying52 rfl (by rw [List.length_map, lx]; kernel_rfl) rfl (frz_id selD hE (by omega))) ?_)
  refine go [26] ?_
  refine G.takeT hT1 (i := 12) (rem' := 24576) rfl rfl rfl kr (fun _ _ _ h => h) rfl (pv_eqlAr8 (a := ids[0]) (b := x.n.ids[0]) Tryz.underlying52 rfl kr Tryz.underlying5 kr rfl rfl lg lx) subT ?_
  refine go [22,13,16384,2,22,14,0,1,27,8,11] ?_
  exact G.doneX1 (z) Y17 rfl rfl (by show Value.bool _ = Value.bool (decide (k = 18 ∧ ids[0]? = _)); rw [hy0, hx0]; simp [*]) subT
 refine go [23,4,32736,23,5,32704,23,6,32640,23,7,32512,23,8,32256,23,9,31744,23,10,30720,23,11,28672,23,12,24576,22,13,16384,2,22,14,0,1,27,8,11] ?_
 exact G.doneX1 (z) Y17 rfl rfl (by show Value.bool _ = Value.bool (decide (k = 18 ∧ _)); simp [*]) subT
set_option maxRecDepth 20000 in
set_option maxHeartbeats 4000000 in
theorem committed_tr {F : Nat → Prop} {W : World} {Pv1 Pv2 Pv3 : Nat → Prop} (k : Int) (v1 v2 v3 : Value) (ns : List Int) (ids : List (List UInt8)) (bs : List UInt8) (D : Nat) (z : PZ) (x : NV) (hz : PvOk F W z) (hx : NvOk F W x) (hy : YOk ⟨k, ns, ids, bs⟩)  : Tr Tryz.prog 101 #[.pointer (some ⟨D, 0, none⟩), .agg #[.int .i64 x.n.k, x.vN, x.vI, x.vB], .agg #[.int .i64 k, v1, v2, v3]] [slc rInt Pv1 v1 ns, slc rID Pv2 v2 ids, slc rByte Pv3 v3 bs] [blk D 85 [.bool z.made, z.bv, z.lv, .int .i64 z.cm, .int .i64 z.tk, .int .i64 (z.ph : Nat), z.leftv, z.waitv, .int .i64 (z.asked : Nat), z.lacksv, .int .i64 (z.rounds : Nat), .bool z.over, .int .i64 z.num, .int .i64 z.e], frz F W, que 92 5 z.waitv z.wait.length (z.wait.flatMap awC), own 54 17 z.lacksv z.lacks.length (z.lacks.flatMap chC)]
 (TX (fun z' : PZ => PvOk F W z' ∧ z'.pm = (committedP z.pm x.n ⟨k, ns, ids, bs⟩).2) (fun _ => .bool (committedP z.pm x.n ⟨k, ns, ids, bs⟩).1) (fun z' => [blk D 85 [.bool z'.made, z'.bv, z'.lv, .int .i64 z'.cm, .int .i64 z'.tk, .int .i64 (z'.ph : Nat), z'.leftv, z'.waitv, .int .i64 (z'.asked : Nat), z'.lacksv, .int .i64 (z'.rounds : Nat), .bool z'.over, .int .i64 z'.num, .int .i64 z'.e], frz F W, que 92 5 z'.waitv z'.wait.length (z'.wait.flatMap awC), own 54 17 z'.lacksv z'.lacks.length (z'.lacks.flatMap chC)])) := by
 refine Tr.of (l := [(0, .pointer (some ⟨D, 0, none⟩)), (1, .agg #[.int .i64 x.n.k, x.vN, x.vI, x.vB]), (2, .agg #[.int .i64 k, v1, v2, v3])]) Tryz.func101 rfl (n := 19) rfl (.cons rfl (.cons rfl (.cons rfl .nil))) (fun w0 hro => ?_)
 obtain ⟨hA, hB, hC⟩ := ro3 hro
 have oa := Ro.open hA
 have ob := Ro.open hB
 have oc := Ro.open hC
 obtain ⟨aa, ca, qa, oa', rfl, hca, hma, -, had, hel⟩ := oa
 obtain ⟨ab, cb, qb, ob', rfl, hcb, hmb, -, hbd, hbl⟩ := ob
 obtain ⟨ac, cc, qc, oc', rfl, hcc, -⟩ := oc
 refine go [9,10,60,2] ?_
 intro b4
 refine go [60,2] ?_
 intro b5
 refine go [1,7,8,9,9,10,2,3,0,2,50,0,2,13,7,8] ?_
 refine G.condP rfl (fun h9 => ?_) (fun h9 => ?_)
 ·have hlt : 0 < ns.length := hy.1 (by show k = 16 ∨ k = 19 ∨ k = 20; omega)
  have hE := hel 0 hlt
  have h0 : n0 ns = ns[0] := n0_eq hlt
  refine go [10,0,2,3,1,2,50,0,2,20,1] ?_
  refine G.op rfl (G.val rfl rfl (pv_load (v := .int .i64 ns[0]) Tryz.underlying3 rfl rfl (ro_int hE)) ?_)
  refine G.op rfl (G.cS rfl rfl rfl rfl Tryz.func47 rfl rfl subT may0 (pend_tr D z ns[0] 0) apT ?_)
  intro x15 hJ
  try dsimp only at hJ
  try dsimp only
  refine go [7,8,9,10,2,3,0,2,50,0,2,13,1,7,8,11] ?_
  rw [committedP_done (show k = 19 from by assumption)]
  try dsimp only
  rw [h0]
  exact G.doneX1 ((z.end ns[0] 0)) (by first | exact trivial | ((try dsimp only) <;> exact ⟨end_ok hz _ _, rfl⟩)) rfl rfl (by show Value.bool (decide (k = 19)) = _; rw [decide_eq_true (by assumption)]) subT
 refine go [13,8,9,10,2,3,0,2,50,0,2,13,1,7,8,11] ?_
 rw [committedP_on (show ¬ k = 19 from by assumption)]
 exact G.doneX1 (z) Y17 rfl rfl (by show Value.bool (decide (k = 19)) = _; rw [decide_eq_false (by assumption)]) subT
section
variable {P : Program} {n : Nat} {w0 : World} {S : Nat → Prop} {l : Fr} {m : List Ck} {K : Act → World → Prop}
end
theorem drop_cons {α : Type} {zs : List α} {i : Nat} (h : i < zs.length) : zs.drop i = zs[i] :: zs.drop (i + 1) := List.drop_eq_getElem_cons h
section
variable {P : Program} {n : Nat} {w0 : World} {S : Nat → Prop} {l : Fr} {m : List Ck} {K : Act → World → Prop}
theorem G.datINil (e : TypeId) (h : G n w0 S l (datI e [] :: m) K) : G n w0 S l m K := G.starNil h
theorem G.datISnoc {e : TypeId} {ys : List IT} {x : IT} {r r' : List Ck} (h1 : Sel m (datI e ys) r) (h2 : Sel r (own e 16 x.2 x.1.ids.length (flatI x.1.ids)) r') (h : G n w0 S l (datI e (ys ++ [x]) :: r') K) : G n w0 S l m K := G.starSnoc rfl h1 h2 h
theorem G.datDNil (e : TypeId) (h : G n w0 S l (datD e [] :: m) K) : G n w0 S l m K := G.starNil h
theorem G.datDSnoc {e : TypeId} {ys : List CT} {x : CT} {r r' : List Ck} (h1 : Sel m (datD e ys) r) (h2 : Sel r (ownB e x.2 x.1.2) r') (h : G n w0 S l (datD e (ys ++ [x]) :: r') K) : G n w0 S l m K := G.starSnoc rfl h1 h2 h
end
def numI (e : It) : Prop := e.kind < 1 ∨ 3 < e.kind ∨ e.mode < 0 ∨ 511 < e.mode ∨ (e.kind = 3 ↔ e.to.length = 0) ∨ 200 < e.to.length
instance (e : It) : Decidable (numI e) := inferInstanceAs (Decidable (_ ∨ _))
def rngI (e : It) : Prop := e.size < 0 ∨ 1048576 < e.size ∨ (0 < e.size ∧ e.kind ≠ 2) ∨ ¬ ((e.size + 1023) / 1024 ≤ (e.ids.length : Int) ∧ (e.ids.length : Int) ≤ (e.size + 63) / 64)
instance (e : It) : Decidable (rngI e) := inferInstanceAs (Decidable (_ ∨ _))
def oneI (e : It) : Int := if ¬ okP e.path then 4 else if numI e then 2 else if rngI e then 5 else 0
theorem oneI_bytes {e : It} (h : ¬ okP e.path) : oneI e = 4 := if_pos h
theorem oneI_arg {e : It} (h : okP e.path) (h1 : numI e) : oneI e = 2 := by
 unfold oneI
 rw [if_neg (not_not_intro h), if_pos h1]
theorem oneI_rng {e : It} (h : okP e.path) (h1 : ¬ numI e) (h2 : rngI e) : oneI e = 5 := by
 unfold oneI
 rw [if_neg (not_not_intro h), if_neg h1, if_pos h2]
theorem oneI_ok {e : It} (h : okP e.path) (h1 : ¬ numI e) (h2 : ¬ rngI e) : oneI e = 0 := by
 unfold oneI
 rw [if_neg (not_not_intro h), if_neg h1, if_neg h2]
theorem oneI_zero {e : It} (h : oneI e = 0) : okP e.path ∧ ¬ numI e ∧ ¬ rngI e := by
 unfold oneI at h
 split at h
 ·cases h
 split at h
 ·cases h
 split at h
 ·cases h
 exact ⟨Decidable.of_not_not (by assumption), by assumption, by assumption⟩
set_option maxRecDepth 20000 in
set_option maxHeartbeats 4000000 in
theorem win_tr (n a b : Int) : Tr Tryz.prog 76 #[.int .i64 n, .int .i64 a, .int .i64 b] [] [] (T0 (.bool (decide (a ≤ n ∧ n ≤ b)))) := by
 refine Tr.of (l := [(0, .int .i64 n), (1, .int .i64 a), (2, .int .i64 b)]) Tryz.func76 rfl (n := 15) rfl (.cons rfl (.cons rfl (.cons rfl .nil))) (fun w0 hro => ?_)
 refine go [9,10,1,7,8,9,10,0,0,2,12,0] ?_
 refine G.partP (t := 10) rfl (fun h10 => ?_) (fun h10 => ?_)
 ·refine go [3,0,3,0,3,11,2,2,1,7,8,11] ?_
  exact G.done0G rfl (Rv.tmp rfl Rv.nil) (by first | exact dec_e (by omega) | exact dec_f (by omega) | exact dec_t (by omega))
 refine go [4,4,4,2,2,1,7,8,11] ?_
 exact G.done0G rfl (Rv.tmp rfl Rv.nil) (by first | exact dec_e (by omega) | exact dec_f (by omega) | exact dec_t (by omega))
set_option maxRecDepth 20000 in
set_option maxHeartbeats 4000000 in
theorem parts_tr (n k : Int) (hn : 0 ≤ n ∧ n ≤ 1048576) (hk : 1 ≤ k) (hk2 : k ≤ 1024) : Tr Tryz.prog 116 #[.int .i64 n, .int .i64 k] [] [] (T0 (.int .i64 ((n + k - 1) / k))) := by
 refine Tr.of (l := [(0, .int .i64 n), (1, .int .i64 k)]) Tryz.func116 rfl (n := 11) rfl (.cons rfl (.cons rfl .nil)) (fun w0 hro => ?_)
 refine go [9,10,1,7,8,9,10,0,0,2,6,2,19,0] ?_
 refine G.op rfl (G.val rfl rfl (pv_quo64 rfl rfl (by omega) (by omega)) ?_)
 refine go [1,7,8,11] ?_
 exact G.done0G rfl (Rv.tmp rfl Rv.nil) Y7
set_option maxRecDepth 20000 in
set_option maxHeartbeats 4000000 in
theorem ione_tr {Pd : Nat → Prop} (e : It) (d : Value) (hl : e.path.length ≤ 9223372036854775807) (hn : e.ids.length ≤ 140737488355328) (hsz : I64 e.size) : Tr Tryz.prog 77 #[.agg #[.string (sB e.path), .int .i64 e.kind, .int .i64 e.mode, .int .i64 e.size, .string (sB e.to), d]] [slc rID Pd d e.ids] [] (T0 (.int .i64 (oneI e))) := by
 refine Tr.of (l := [(0, .agg #[.string (sB e.path), .int .i64 e.kind, .int .i64 e.mode, .int .i64 e.size, .string (sB e.to), d])]) Tryz.func77 rfl (n := 61) rfl (.cons rfl .nil) (fun w0 hro => ?_)
 have hd := ro1 hro
 obtain ⟨ad, cap, rfl⟩ := Ro.slv hd
 have hto := nil_len (s := e.to)
 obtain ⟨hs1, hs2⟩ := hsz
 refine go [9,10] ?_
 refine G.op rfl (G.box rfl rfl (cs := [_, _, _, _, _, _]) rfl ?_)
 intro b1
 refine go [1,7,8,9,10,2,3,1,2,4,2,13,1,7,8,9,15,9,10,2,3,0,2,4] ?_
 refine G.op rfl (G.cR rfl rfl rfl rfl Tryz.func107 rfl rfl may0 (check_tr _ (by omega)) ?_)
 refine G.op rfl (G.val rfl rfl (pv_field1 Tryz.underlying157 rfl Tryz.underlying27 rfl rfl rfl) ?_)
 refine go [2,14,1,7,8] ?_
 refine G.condP rfl (fun h7 => ?_) (fun h7 => ?_)
 ·refine go [9,10,1,7,8,11,17,12] ?_
  exact G.done0G rfl (Rv.tmp rfl Rv.nil) (by rw [oneI_bytes (by assumption)]; rfl)
 have hok : okP e.path := Decidable.of_not_not (by assumption)
 refine G.seq ?_
 refine G.cutK (X := Unit) (ts := [1, 2]) (p := []) (fun _ => True) (fun _ => [(13, .bool (decide (numI e)))]) (fun _ => []) (.cons rfl (.cons rfl .nil)) subT (.cons .nil) apT ?_ ?_
 ·refine go [10,2,3,1,2,4] ?_
  refine G.op rfl (G.cR rfl rfl rfl rfl Tryz.func76 rfl rfl may0 (win_tr _ _ _) ?_)
  refine go [2,15,0] ?_
  refine G.partP (t := 18) rfl (fun h18 => ?_) (fun h18 => ?_)
  ·refine go [4,4,4,4,2,2,0,4,4,4,4,4,2,2,0,4,4,4,4,2,2,1,7] ?_
   exact G.meet (()) trT (.consE rfl Y28 (.cons rfl (.cons rfl .nil))) subT
  refine go [3,3,2,3,4] ?_
  refine G.want rfl rfl rfl (G.cR rfl rfl rfl rfl Tryz.func76 rfl rfl may0 (win_tr _ _ _) ?_)
  refine go [3,15,2,2,0] ?_
  refine G.partP (t := 24) rfl (fun h24 => ?_) (fun h24 => ?_)
  ·refine go [4,4,4,4,4,2,2,0,4,4,4,4,2,2,1,7] ?_
   exact G.meet (()) trT (.consE rfl Y28 (.cons rfl (.cons rfl .nil))) subT
  refine go [3,0,3,3,4,3,4,3,23] ?_
  refine G.want rfl rfl rfl (G.val rfl rfl (pv_neqB Tryz.underlying4 rfl rfl) ?_)
  refine go [2,2,0] ?_
  refine G.part (t := 31) rfl (fun h31 => ?_) (fun h31 => ?_)
  ·have hb := bne_dec.1 h31
   rw [ne_eq, hto] at hb
   refine go [4,4,4,4,2,2,1,7] ?_
   exact G.meet (()) trT (.consE rfl Y28 (.cons rfl (.cons rfl .nil))) subT
  have hb : ¬ ¬ (e.kind = 3 ↔ ¬ e.to.length = 0) := fun h => by have := bne_dec.2 (show ¬ (e.kind = 3 ↔ e.to ≠ []) by rw [ne_eq, hto]; exact h); rw [h31] at this; cases this
  refine go [3,3,4,3,4,3,21,3,10,2,2,1,7] ?_
  exact G.meet (()) trT (.consE rfl Y28 (.cons rfl (.cons rfl .nil))) subT
 intro _ hJ
 try dsimp only at hJ
 try dsimp only
 refine G.condP rfl (fun h13 => ?_) (fun h13 => ?_)
 ·refine go [9,10,1,7,8,11,17,12] ?_
  exact G.done0G rfl (Rv.tmp rfl Rv.nil) (by rw [oneI_arg hok (by assumption)]; rfl)
 refine G.seq ?_
 refine G.cutK (X := Unit) (ts := [2]) (p := []) (fun _ => True) (fun _ => [(37, .bool (decide (rngI e)))]) (fun _ => []) (.cons rfl .nil) subT (.cons .nil) apT ?_ ?_
 ·refine go [9,10,2,3,3,2,4] ?_
  refine G.op rfl (G.cR rfl rfl rfl rfl Tryz.func76 rfl rfl may0 (win_tr _ _ _) ?_)
  refine go [2,15,1,7,8] ?_
  refine G.condP rfl (fun h37 => ?_) (fun h37 => ?_)
  ·refine G.skip ?_
   exact G.meet (()) trT (.consE rfl Y27 (.cons rfl .nil)) subT
  refine go [9,10,2,3,3,2,4,2,10,0] ?_
  refine G.partP (t := 45) rfl (fun h45 => ?_) (fun h45 => ?_)
  ·refine go [3,3,1,3,4,3,14,2,2,1,7,8] ?_
   refine G.condP rfl (fun h37 => ?_) (fun h37 => ?_)
   ·refine G.skip ?_
    exact G.meet (()) trT (.consE rfl Y27 (.cons rfl .nil)) subT
   refine G.drawT (nn := 12) (p := []) (rem := 4095) [0, 1, 2, 0, 8, 16, 0, 64, 160, 292, 512, 1536] [0, 1, 2, 0, 8, 16, 0, 64, 128, 292, 512, 1024] kr ⟨rfl, by kernel_rfl, by kernel_rfl⟩ subT kr (fun hT8 => ?_)
   refine go [22,0,4094,3,5,22,3,4086,3,3,22,6,4022,3,3,22,1,4020,4,22,2,4016,5,22,4,4000,4,22,7,3872,4,24,5,3840] ?_
   refine G.turnOp rfl rfl (G.cR rfl rfl rfl rfl Tryz.func116 rfl rfl may0 (parts_tr _ _ (by omega) (by omega) (by omega)) ?_)
   refine go [26,24,8,3584] ?_
   refine G.turnOp rfl rfl (G.cR rfl rfl rfl rfl Tryz.func116 rfl rfl may0 (parts_tr _ _ (by omega) (by omega) (by omega)) ?_)
   refine go [26,24,9,3072] ?_
   refine G.turnOp rfl rfl (G.cR rfl rfl rfl rfl Tryz.func76 rfl rfl may0 (win_tr _ _ _) ?_)
   refine go [26,22,10,2048,15,22,11,0,1,27] ?_
   exact G.meet (()) trT (.consE rfl Y27 (.cons rfl .nil)) subT
  refine go [4,4,4,2,2,1,7,8,60,0] ?_
  refine G.drawT (nn := 12) (p := []) (rem := 4095) [0, 1, 2, 0, 8, 16, 0, 64, 160, 292, 512, 1536] [0, 1, 2, 0, 8, 16, 0, 64, 128, 292, 512, 1024] kr ⟨rfl, by kernel_rfl, by kernel_rfl⟩ subT kr (fun hT8 => ?_)
  refine go [22,0,4094,3,5,22,3,4086,3,3,22,6,4022,3,3,22,1,4020,4,22,2,4016,5,22,4,4000,4,22,7,3872,4,24,5,3840] ?_
  refine G.turnOp rfl rfl (G.cR rfl rfl rfl rfl Tryz.func116 rfl rfl may0 (parts_tr _ _ (by omega) (by omega) (by omega)) ?_)
  refine go [26,24,8,3584] ?_
  refine G.turnOp rfl rfl (G.cR rfl rfl rfl rfl Tryz.func116 rfl rfl may0 (parts_tr _ _ (by omega) (by omega) (by omega)) ?_)
  refine go [26,24,9,3072] ?_
  refine G.turnOp rfl rfl (G.cR rfl rfl rfl rfl Tryz.func76 rfl rfl may0 (win_tr _ _ _) ?_)
  refine go [26,22,10,2048,15,22,11,0,1,27] ?_
  exact G.meet (()) trT (.consE rfl Y27 (.cons rfl .nil)) subT
 intro _ hJ
 try dsimp only at hJ
 try dsimp only
 refine G.condP rfl (fun h37 => ?_) (fun h37 => ?_)
 ·refine go [9,10,1,7,8,11,17,12] ?_
  exact G.done0G rfl (Rv.tmp rfl Rv.nil) (by rw [oneI_rng hok (by assumption) (by assumption)]; rfl)
 refine go [13,16,8,9,10,1,7,8,11] ?_
 exact G.done0G rfl (Rv.tmp rfl Rv.nil) (by rw [oneI_ok hok (by assumption) (by assumption)]; rfl)
end Go.Proofs.YtngbglhmiefcpaaGreat
set_option linter.unusedVariables false
set_option linter.unusedSimpArgs false
namespace Go.Proofs.YtngbglhmiefcpaaGreat
open Go.RowKit
open Go.ChangeShapes Go.WideShapes
def okS9 (s : List UInt8) : Prop := s.length ≤ 140737488355328
theorem mapM_each' {α β : Type} {f : α → Option β} : ∀ {l : List α}, (∀ x ∈ l, ∃ y, f x = some y) → ∃ ys, l.mapM f = some ys
 | [], _ => ⟨[], rfl⟩
 | a :: l, h => by
  obtain ⟨y, hy⟩ := h a (List.mem_cons_self ..)
  obtain ⟨ys, hys⟩ := mapM_each' (l := l) fun x hx => h x (List.mem_cons_of_mem _ hx)
  exact ⟨y :: ys, by rw [List.mapM_cons, hy, hys]; rfl⟩
theorem vStr_inj {a b : List UInt8} (h : vStr a = vStr b) : a = b := by
 unfold vStr at h
 injection h with h
 exact sB_inj h
theorem vInt_inj {a b : Int} (h : vInt a = vInt b) : a = b := by
 unfold vInt at h
 injection h
theorem vByte_inj {a b : UInt8} (h : vByte a = vByte b) : a = b := by
 unfold vByte at h
 injection h with _ h
 exact UInt8.toNat_inj.1 (by omega)
theorem keyS : KeyF Tryz.prog 9 vStr okS9 where
 keyed := Go.Maps.string_keyed Tryz.underlying9
 is x hx := ⟨_, Go.WideMaps.keyOf_string_mk Tryz.underlying9 (by show (sB x).size ≤ maxLen; rw [sB_size]; unfold maxLen; unfold okS9 at hx; omega)⟩
 inj _ _ h := vStr_inj h
def ok16 (x : List UInt8) : Prop := x.length = 16
theorem vID_inj {a b : List UInt8} (h : vID a = vID b) : a = b := by
 unfold vID at h
 injection h with h
 have h2 : a.map vByte = b.map vByte := by have := congrArg Array.toList h; simpa using this
 exact List.map_inj_right (fun _ _ => vByte_inj) |>.1 h2
theorem keyI_is (x : List UInt8) (hx : ok16 x) : ∃ l, keyOf Tryz.prog 52 (vID x) = some l := by
 have hx : x.length = 16 := hx
 have hu : Tryz.prog.underlying 52 = some (.array 16 5) := Tryz.underlying52
 have hc : Tryz.prog.cellsOf 52 = 16 := by kernel_rfl
 have hc1 : Tryz.prog.cellsOf 5 = 1 := by kernel_rfl
 have hk : Tryz.prog.keyType 52 = true := by kernel_rfl
 have hpos : 0 < Tryz.prog.types.size := of_decide_eq_true kr
 obtain ⟨sz, hsz⟩ : ∃ m, Tryz.prog.types.size = m + 1 := ⟨Tryz.prog.types.size - 1, by omega⟩
 unfold keyOf
 rw [hu]
 simp only
 rw [if_pos (by simp [hk, vID, Value.formed, hu, hc, hx])]
 have : ∃ ls, Tryz.prog.keyLits (Tryz.prog.types.size + 1) 52 (vID x).cells.toList = some ls := by
  unfold Program.keyLits
  rw [hu]
  simp only
  rw [if_pos (by simp [vID, Value.cells, hc, hx])]
  obtain ⟨ys, hys⟩ := mapM_each' (l := List.range 16) (f := fun i => Tryz.prog.keyLits Tryz.prog.types.size 5 (((vID x).cells.toList.drop (i * Tryz.prog.cellsOf 5)).take (Tryz.prog.cellsOf 5))) fun i hi => by
   have hi : i < x.length := by rw [hx]; simpa using hi
   have e : (((vID x).cells.toList.drop (i * Tryz.prog.cellsOf 5)).take (Tryz.prog.cellsOf 5)) = [vByte x[i]] := by
    rw [hc1, Nat.mul_one]
    show ((x.map vByte).drop i).take 1 = _
    rw [List.drop_eq_getElem_cons (by simpa using hi)]
    simp
   rw [e, hsz]
   unfold Program.keyLits
   rw [show Tryz.prog.underlying 5 = some (.int .u8) from Tryz.underlying5]
   have := x[i].toNat_lt
   exact ⟨_, if_pos ⟨rfl, by simp only [Lit.wf, Bool.and_eq_true, decide_eq_true_eq]; exact ⟨by show (0 : Int) ≤ _; omega, by show _ ≤ (255 : Int); omega⟩⟩⟩
  rw [hys]
  exact ⟨_, rfl⟩
 obtain ⟨ls, hls⟩ := this
 exact ⟨_, by rw [hls]; rfl⟩
theorem keyI : KeyF Tryz.prog 52 vID ok16 where
 keyed := Go.Maps.Keyed.of_law (Go.deep_law_laid Tryz.laidOut (m := 3) (by omega) (of_decide_eq_true kr) kr kr)
 is := keyI_is
 inj _ _ h := vID_inj h
end Go.Proofs.YtngbglhmiefcpaaGreat
namespace Go.Proofs.YtngbglhmiefcpaaGreat
open Go.RowKit
set_option linter.unusedVariables false
set_option linter.unusedSimpArgs false
def toE (x : It) : En := ⟨x.path, x.kind, x.mode, [], x.to⟩
def toEs (ms : List It) : List En := ms.map toE
theorem toEs_length (ms : List It) : (toEs ms).length = ms.length := List.length_map ..
theorem toEs_get {ms : List It} {i : Nat} (h : i < ms.length) : (toEs ms)[i]'(by rw [toEs_length]; exact h) = toE ms[i] := List.getElem_map ..
theorem toEs_take (ms : List It) (i : Nat) : toEs (ms.take i) = (toEs ms).take i := by simp [toEs, List.map_take]
def errI (ms : List It) (i : Nat) : Int := match ms[i]? with
 | none => 0
 | some e => if (if oneI e = 0 ∧ prevBad (toEs ms) i then 7 else oneI e) = 0 ∧ ¬ heldM (toEs (ms.take i)) (toE e) then 6 else (if oneI e = 0 ∧ prevBad (toEs ms) i then 7 else oneI e)
theorem errI_get {ms : List It} {i : Nat} (h : i < ms.length) : errI ms i = if (if oneI ms[i] = 0 ∧ prevBad (toEs ms) i then 7 else oneI ms[i]) = 0 ∧ ¬ heldM (toEs (ms.take i)) (toE ms[i]) then 6 else (if oneI ms[i] = 0 ∧ prevBad (toEs ms) i then 7 else oneI ms[i]) := by
 unfold errI
 rw [List.getElem?_eq_getElem h]
theorem errI_one {ms : List It} {i : Nat} (h : i < ms.length) (h1 : ¬ oneI ms[i] = 0) : errI ms i = oneI ms[i] := by
 rw [errI_get h, if_neg (fun k => by rw [if_neg (fun k => h1 k.1)] at k; exact h1 k.1), if_neg (fun k => h1 k.1)]
theorem errI_prev {ms : List It} {i : Nat} (h : i < ms.length) (h1 : oneI ms[i] = 0) (h2 : prevBad (toEs ms) i) : errI ms i = 7 := by
 rw [errI_get h, if_neg (fun k => by rw [if_pos ⟨h1, h2⟩] at k; cases k.1), if_pos ⟨h1, h2⟩]
theorem errI_held {ms : List It} {i : Nat} (h : i < ms.length) (h1 : oneI ms[i] = 0) (h2 : ¬ prevBad (toEs ms) i) (h3 : ¬ heldM (toEs (ms.take i)) (toE ms[i])) : errI ms i = 6 := by
 rw [errI_get h, if_pos ⟨by rw [if_neg (fun k => h2 k.2), h1], h3⟩]
theorem errI_ok {ms : List It} {i : Nat} (h : i < ms.length) (h1 : oneI ms[i] = 0) (h2 : ¬ prevBad (toEs ms) i) (h3 : heldM (toEs (ms.take i)) (toE ms[i])) : errI ms i = 0 := by
 rw [errI_get h, if_neg (fun k => k.2 h3), if_neg (fun k => h2 k.2), h1]
theorem errI_zero {ms : List It} {i : Nat} (h : i < ms.length) (h0 : errI ms i = 0) : oneI ms[i] = 0 ∧ ¬ prevBad (toEs ms) i ∧ heldM (toEs (ms.take i)) (toE ms[i]) := by
 have a : oneI ms[i] = 0 := Decidable.byContradiction fun k => by rw [errI_one h k] at h0; exact k h0
 have b : ¬ prevBad (toEs ms) i := fun k => by rw [errI_prev h a k] at h0; cases h0
 exact ⟨a, b, Decidable.byContradiction fun k => by rw [errI_held h a b k] at h0; cases h0⟩
def headBad (a : Mh) : Prop := a.c < 1 ∨ 2147483647 < a.c ∨ a.k < 1 ∨ 2147483647 < a.k ∨ a.n < 0 ∨ 2147483647 < a.n ∨ a.t < 0 ∨ 2147483647 < a.t
instance (a : Mh) : Decidable (headBad a) := inferInstanceAs (Decidable (_ ∨ _))
def checkI (a : Mh) (ms : List It) : Int × Int := if headBad a then (5, 0) else if 200 < ms.length then (3, 0) else
 let k := (List.range ms.length).findIdx fun i => ! decide (errI ms i = 0)
 (errI ms k, if errI ms k = 0 then 0 else (k : Int))
theorem checkI_head {a : Mh} {ms : List It} (h : headBad a) : checkI a ms = (5, 0) := if_pos h
theorem checkI_many {a : Mh} {ms : List It} (h0 : ¬ headBad a) (h : 200 < ms.length) : checkI a ms = (3, 0) := by
 unfold checkI
 rw [if_neg h0, if_pos h]
theorem checkI_bad {a : Mh} {ms : List It} {i : Nat} {e : Int} (h0 : ¬ headBad a) (h200 : ¬ 200 < ms.length) (hi : i < ms.length) (h : ∀ q, q < i → errI ms q = 0) (he : errI ms i = e) (hn : ¬ e = 0) : checkI a ms = (e, (i : Int)) := by
 unfold checkI
 rw [if_neg h0, if_neg h200]
 have e1 : (List.range ms.length).findIdx (fun i => ! decide (errI ms i = 0)) = i := range_idx hi (by simp [he, hn]) (fun q hq => by simp [h q hq])
 simp only [e1, he, if_neg hn]
theorem checkI_ok {a : Mh} {ms : List It} (h0 : ¬ headBad a) (h200 : ¬ 200 < ms.length) (h : ∀ q, q < ms.length → errI ms q = 0) : checkI a ms = (0, 0) := by
 unfold checkI
 rw [if_neg h0, if_neg h200]
 have e1 : (List.range ms.length).findIdx (fun i => ! decide (errI ms i = 0)) = ms.length := by
  have := List.findIdx_eq_length_of_false (p := fun i => ! decide (errI ms i = 0)) (xs := List.range ms.length) (fun x hx => by
   have := h x (by simpa using hx)
   simp [this])
  simpa using this
 have e2 : errI ms ms.length = 0 := by
  unfold errI
  rw [List.getElem?_eq_none (Nat.le_refl _)]
 simp only [e1, e2, if_true]
theorem checkI_zero {a : Mh} {ms : List It} (h : (checkI a ms).1 = 0) : ¬ headBad a ∧ ms.length ≤ 200 ∧ (∀ q, q < ms.length → errI ms q = 0) ∧ checkI a ms = (0, 0) := by
 by_cases h0 : headBad a
 ·rw [checkI_head h0] at h
  cases h
 by_cases h200 : 200 < ms.length
 ·rw [checkI_many h0 h200] at h
  cases h
 have all : ∀ q, q < ms.length → errI ms q = 0 := by
  intro q
  induction q using Nat.strongRecOn with
  | _ q ih =>
   intro hq
   exact Decidable.byContradiction fun k => by
    rw [checkI_bad h0 h200 hq (fun r hr => ih r hr (by omega)) rfl k] at h
    exact k h
 exact ⟨h0, by omega, all, checkI_ok h0 h200 all⟩
theorem sort_prev {es : List En} {i : Nat} (hi : i ≤ es.length) (h : ∀ q, q < i → ¬ prevBad es q) : SortT (es.take i) := by
 have step : ∀ q (hq : q + 1 < i), compareM (es[q]'(by omega)).path (es[q + 1]'(by omega)).path = -1 := fun q hq => by
  have h1 := h (q + 1) hq
  rw [prev_pos (by omega) (by omega)] at h1
  have := compareM_ord.rng (es[q]'(by omega)).path (es[q + 1]'(by omega)).path
  simp only [Nat.add_sub_cancel] at h1
  omega
 have all : ∀ r q (hr : r < i) (hqr : q < r), compareM (es[q]'(by omega)).path (es[r]'(by omega)).path = -1 := by
  intro r
  induction r with
  | zero => intro q hr hq; omega
  | succ r ih =>
   intro q hr hq
   rcases Nat.lt_or_ge q r with h1 | h1
   ·exact compareM_ord.trans _ _ _ (ih q (by omega) h1) (step r hr)
   obtain rfl : q = r := by omega
   exact step q hr
 refine List.pairwise_iff_getElem.2 fun q r hq hr hqr => ?_
 simp only [List.length_take] at hq hr
 rw [List.getElem_take, List.getElem_take]
 exact all r q (by omega) hqr
theorem sort_items {ms : List It} {i : Nat} (hi : i ≤ ms.length) (h : ∀ q, q < i → errI ms q = 0) : SortT ((toEs ms).take i) := sort_prev (by rw [toEs_length]; exact hi) fun q hq => (errI_zero (by omega) (h q hq)).2.1
structure DirsAt (l : List (List UInt8 × Value)) (es : List En) : Prop where
 num : ∀ s, ∃ z : Int, (mget l s).getD (vInt 0) = vInt z
 dir : ∀ s, (mget l s).getD (vInt 0) = vInt 1 ↔ ∃ x ∈ es, x.path = s ∧ x.kind = 1
theorem dirs_nil : DirsAt [] [] := ⟨fun s => ⟨0, rfl⟩, fun s => ⟨fun h => by have h2 : vInt 0 = vInt 1 := h; exact absurd (vInt_inj h2) (by decide), fun ⟨x, hx, _⟩ => by cases hx⟩⟩
theorem DirsAt.put {l : List (List UInt8 × Value)} {es : List En} {e : En} (h : DirsAt l es) (hs : SortT (es ++ [e])) : DirsAt (mset l e.path (vInt e.kind)) (es ++ [e]) := by
 refine ⟨fun s => ?_, fun s => ?_⟩
 ·rw [mget_mset]
  split
  ·exact ⟨e.kind, rfl⟩
  exact h.num s
 rw [mget_mset]
 split
 ·rename_i hp
  subst hp
  constructor
  ·intro hk
   exact ⟨e, by simp, rfl, vInt_inj hk⟩
  rintro ⟨x, hx, hp, hk⟩
  have := sort_inj hs hx (by simp) hp
  subst this
  show vInt x.kind = vInt 1
  rw [hk]
 rename_i hp
 rw [h.dir s]
 constructor
 ·rintro ⟨x, hx, h1⟩
  exact ⟨x, List.mem_append_left _ hx, h1⟩
 rintro ⟨x, hx, h1, h2⟩
 rcases List.mem_append.1 hx with hx | hx
 ·exact ⟨x, hx, h1, h2⟩
 obtain rfl : x = e := by simpa using hx
 exact absurd h1 hp
theorem toEs_succ {xs : List IT} {i : Nat} (h : i < xs.length) : toEs ((its xs).take (i + 1)) = toEs ((its xs).take i) ++ [toE xs[i].1] := by
 have hl : i < (its xs).length := by rw [its_length]; exact h
 rw [List.take_succ_eq_append_getElem hl, its_get h, toEs, List.map_append]
 rfl
theorem held_z {l : List (List UInt8 × Value)} {es : List En} {e : En} {z : Int} (h : DirsAt l es) (hp : (parentM e.path).2 = true) (hz : (mget l (parentM e.path).1).getD (vInt 0) = vInt z) : z ≠ 1 ↔ ¬ heldM es e := by
 have h1 := h.dir (parentM e.path).1
 rw [hz] at h1
 have h2 : z = 1 ↔ vInt z = vInt 1 := ⟨fun h => by rw [h], vInt_inj⟩
 rw [ne_eq, h2, h1]
 unfold heldM
 rw [hp]
 simp
theorem parentI_len (s : List UInt8) (h : s.length ≤ 140737488355328) : okS9 (parentM s).1 := Nat.le_trans (parentM_len s) h
set_option maxRecDepth 20000 in
set_option maxHeartbeats 4000000 in
theorem mcheck_tr {Ps : Nat → Prop} (a : Mh) (v : Value) (xs : List IT) : Tr Tryz.prog 52 #[.agg #[.int .i64 a.c, .int .i64 a.k, .int .i64 a.n, .int .i64 a.t, v]] [slc rIT Ps v xs] [] (T0 (.tuple #[.int .i64 (checkI a (its xs)).1, .int .i64 (checkI a (its xs)).2])) := by
 refine Tr.of (l := [(0, .agg #[.int .i64 a.c, .int .i64 a.k, .int .i64 a.n, .int .i64 a.t, v])]) Tryz.func52 rfl (n := 89) rfl (.cons rfl .nil) (fun w0 hro => ?_)
 have hv := ro1 hro
 have hv' := hv
 obtain ⟨av, cv, bv, fv, rfl, hcapv, hmaxv, hnilv, hadv, helv⟩ := Ro.open hv
 have hel' := its_length xs
 have hel2 := toEs_length (its xs)
 have hgx : ∀ q (hq : q < xs.length), (toEs (its xs))[q]'(by omega) = toE xs[q].1 := fun q hq => by rw [toEs_get (by omega), its_get hq]
 refine go [9,10,60,10] ?_
 intro b1
 refine go [1,1,7,8,9,15,9] ?_
 refine G.cutK (X := Unit) (ts := [1, 2, 3]) (p := []) (fun _ => True) (fun _ => [(10, .bool (decide (headBad a)))]) (fun _ => []) (.cons rfl (.cons rfl (.cons rfl .nil))) subT (.cons .nil) apT ?_ ?_
 ·refine go [10,2,3,0,2,4] ?_
  refine G.op rfl (G.cR rfl rfl rfl rfl Tryz.func76 rfl rfl may0 (win_tr _ _ _) ?_)
  refine go [2,15,0] ?_
  refine G.partP (t := 15) rfl (fun h15 => ?_) (fun h15 => ?_)
  ·refine go [4,4,4,4,2,2,0,4,4,4,4,2,2,0,4,4,4,4,2,2,1,7] ?_
   exact G.meet (()) trT (.consE rfl Y26 (.cons rfl (.cons rfl (.cons rfl .nil)))) subT
  refine go [3,3,1,3,4] ?_
  refine G.want rfl rfl rfl (G.cR rfl rfl rfl rfl Tryz.func76 rfl rfl may0 (win_tr _ _ _) ?_)
  refine go [3,15,2,2,0] ?_
  refine G.partP (t := 21) rfl (fun h21 => ?_) (fun h21 => ?_)
  ·refine go [4,4,4,4,2,2,0,4,4,4,4,2,2,1,7] ?_
   exact G.meet (()) trT (.consE rfl Y26 (.cons rfl (.cons rfl (.cons rfl .nil)))) subT
  refine go [3,3,2,3,4] ?_
  refine G.want rfl rfl rfl (G.cR rfl rfl rfl rfl Tryz.func76 rfl rfl may0 (win_tr _ _ _) ?_)
  refine go [3,15,2,2,0] ?_
  refine G.partP (t := 27) rfl (fun h27 => ?_) (fun h27 => ?_)
  ·refine go [4,4,4,4,2,2,1,7] ?_
   exact G.meet (()) trT (.consE rfl Y26 (.cons rfl (.cons rfl (.cons rfl .nil)))) subT
  refine go [3,3,3,3,4] ?_
  refine G.want rfl rfl rfl (G.cR rfl rfl rfl rfl Tryz.func76 rfl rfl may0 (win_tr _ _ _) ?_)
  refine go [3,15,2,2,1,7] ?_
  exact G.meet (()) trT (.consE rfl Y26 (.cons rfl (.cons rfl (.cons rfl .nil)))) subT
 intro _ hJ
 try dsimp only at hJ
 try dsimp only
 refine G.condP rfl (fun h10 => ?_) (fun h10 => ?_)
 ·refine go [9,10,1,1,7,8,11,17,12] ?_
  exact G.done0G rfl (Rv.tmp rfl (Rv.tmp rfl Rv.nil)) (by rw [checkI_head (by assumption)]; rfl)
 refine go [9,10,2,3,4,2,4,2,5,2,10,1,7,8] ?_
 refine G.condP rfl (fun h33 => ?_) (fun h33 => ?_)
 ·refine go [9,10,1,1,7,8,11,17,12] ?_
  exact G.done0G rfl (Rv.tmp rfl (Rv.tmp rfl Rv.nil)) (by rw [checkI_many (by assumption) (by omega)]; rfl)
 refine go [13,16,8,9,10] ?_
 refine G.op rfl (G.mapNew vStr okS9 rfl ?_)
 intro b4
 refine go [1,7,8,9,9,10,2,3,4,2,4,2,5,0,7,8,15] ?_
 refine G.loopK (X := Nat × (List (List UInt8 × Value))) (ts := [1, 4, 40, 41]) (fun st => st.1 ≤ xs.length ∧ ((∀ q, q < st.1 → errI (its xs) q = 0) ∧ DirsAt st.2 (toEs ((its xs).take st.1)))) (fun st => [(42, .int .i64 (st.1 : Int))]) (fun st => [mpc vStr okS9 b4 st.2]) (fun st => xs.length - st.1) (x0 := (0, [])) (.cons rfl (.cons rfl (.cons rfl (.cons rfl .nil)))) subT (.cons .nil) apT (by first | exact trivial | ((try dsimp only) <;> exact ⟨Nat.zero_le _, ⟨fun q h => absurd h (by omega), by rw [List.take_zero]; exact dirs_nil⟩⟩)) (.consE rfl veqT .nil) (fun st hJ => ?_)
 obtain ⟨i, l⟩ := st
 try dsimp only at hJ
 try dsimp only
 obtain ⟨hki, hJ⟩ := hJ
 refine go [9,10,2,9,7,8,9] ?_
 refine G.condP rfl (fun h43 => ?_) (fun h43 => ?_)
 ·obtain ⟨hJ0, hdn⟩ := hJ
  have hlt : i < xs.length := by omega
  have hlt' : i < (its xs).length := by omega
  have hg := its_get hlt
  have hEv := helv i hlt
  have hRv := Ro.itRng hEv
  have hDv := Ro.itIds hEv
  have hOv := Ro.itOk hEv
  obtain ⟨hk1v, hk2v, hk3v, hlpv, hltv, hlnv⟩ := hOv
  have hCv := Ro.one1I hDv
  refine go [13,8,9,15,9,10,0] ?_
  refine G.op rfl (G.val rfl rfl (pv_ixSl (sz := 6) (k := i) Tryz.underlying37 kr rfl rfl adT (by omega) (by omega)) ?_)
  refine go [2,50,10,60,11] ?_
  intro b6
  refine go [1,20,7,8,9,9,10,2,50,10] ?_
  refine G.op rfl (G.cR rfl rfl rfl rfl Tryz.func77 rfl rfl (may1 Y5) (ione_tr _ _ (by omega) (by omega) (by assumption)) ?_)
  refine go [1,7,8,9,10,0,2,14,7,8] ?_
  refine G.condP rfl (fun h50 => ?_) (fun h50 => ?_)
  ·refine go [9,10,0,0,1,1,7,8,11,12,17,12,12,17,12] ?_
   exact G.done0G rfl (Rv.tmp rfl (Rv.tmp rfl Rv.nil)) (by rw [checkI_bad (by assumption) (by omega) hlt' hJ0 (errI_one hlt' (by rw [hg]; assumption)) (by rw [hg]; assumption), hg]; rfl)
  have h1 : oneI (its xs)[i] = 0 := by rw [hg]; omega
  refine go [13,8,9,9] ?_
  refine G.cutK (X := Unit) (ts := [1, 4, 5, 6, 40, 41, 42]) (p := []) (fun _ => True) (fun _ => [(67, .bool (decide (prevBad (toEs (its xs)) i)))]) (fun _ => []) (.cons rfl (.cons rfl (.cons rfl (.cons rfl (.cons rfl (.cons rfl (.cons rfl .nil))))))) subT (.cons .nil) apT ?_ ?_
  ·refine G.drawT (nn := 15) (p := []) (rem := 32767) [0, 1, 2, 4, 12, 4, 36, 84, 132, 260, 4, 1028, 2564, 4100, 8196] [0, 1, 2, 4, 12, 4, 36, 84, 132, 260, 4, 1028, 2564, 4100, 8196] kr ⟨rfl, by kernel_rfl, by kernel_rfl⟩ subT kr (fun hT12 => ?_)
   refine go [22,0,32766,0,22,1,32764,10,22,2,32760,0] ?_
   refine G.partP (t := 55) rfl (fun h55 => ?_) (fun h55 => ?_)
   ·have hi0 : 0 < i := by omega
    have hEp := helv (i - 1) (by omega)
    have hRp := Ro.itRng hEp
    have hDp := Ro.itIds hEp
    have hOp := Ro.itOk hEp
    obtain ⟨hk1p, hk2p, hk3p, hlpp, hltp, hlnp⟩ := hOp
    have hCp := Ro.one1I hDp
    have hpv : prevBad (toEs (its xs)) i ↔ 0 ≤ compareM xs[i - 1].1.path xs[i].1.path := by have h := prev_pos (es := toEs (its xs)) hi0 (by omega); rw [hgx i hlt, hgx (i - 1) (by omega)] at h; exact h
    refine go [22,3,32752,3,4,22,4,32736,4,22,5,32704,0,22,6,32640,19] ?_
    refine G.takeT hT12 (i := 7) (rem' := 32512) rfl rfl rfl kr (fun _ _ _ h => h) rfl (pv_ixSl (sz := 6) (k := i - 1) Tryz.underlying37 kr rfl rfl adT (by omega) (by omega)) subT ?_
    refine go [22,8,32256,3,0,22,9,31744,4,22,10,30720,3,0,24,11,28672,25,4,26,24,12,24576] ?_
    refine G.turnOp rfl rfl (G.cR rfl rfl rfl rfl Tryz.func71 rfl rfl may0 (compare_tr _ _ (by omega) (by omega)) ?_)
    refine go [26,22,13,16384,12,22,14,0,2,27] ?_
    exact G.meet (()) trT (.consE rfl (by first | exact dec_e hpv.symm | exact dec_f (prev_zero (by omega))) (.cons rfl (.cons rfl (.cons rfl (.cons rfl (.cons rfl (.cons rfl (.cons rfl .nil)))))))) subT
   refine go [23,3,32752,23,4,32736,23,5,32704,23,6,32640,23,7,32512,23,8,32256,23,9,31744,23,10,30720,23,11,28672,23,12,24576,23,13,16384,22,14,0,2,27] ?_
   exact G.meet (()) trT (.consE rfl (by first | exact dec_e hpv.symm | exact dec_f (prev_zero (by omega))) (.cons rfl (.cons rfl (.cons rfl (.cons rfl (.cons rfl (.cons rfl (.cons rfl .nil)))))))) subT
  intro _ hJ
  try dsimp only at hJ
  try dsimp only
  refine G.condP rfl (fun h67 => ?_) (fun h67 => ?_)
  ·refine go [9,10,0,1,1,7,8,11,12,17,12,12,17,12] ?_
   exact G.done0G rfl (Rv.tmp rfl (Rv.tmp rfl Rv.nil)) (by rw [checkI_bad (by assumption) (by omega) hlt' hJ0 (errI_prev hlt' h1 (by assumption)) (by omega)]; rfl)
  refine go [13,8,9,9,10,2,3,0,2,4] ?_
  refine G.op rfl (G.cR rfl rfl rfl rfl Tryz.func72 rfl rfl may0 (parent_tr _ (by omega)) ?_)
  refine go [0,2,7,2,7,1,1,7,8,9] ?_
  refine G.cutK (X := Unit) (ts := [1, 4, 5, 6, 40, 41, 42]) (p := []) (fun _ => True) (fun _ => [(81, .bool (decide (¬ heldM (toEs ((its xs).take i)) (toE xs[i].1))))]) (fun _ => []) (.cons rfl (.cons rfl (.cons rfl (.cons rfl (.cons rfl (.cons rfl (.cons rfl .nil))))))) subT (.cons .nil) apT ?_ ?_
  ·refine go [10,0,0] ?_
   refine G.part (t := 76) rfl (fun h76 => ?_) (fun h76 => ?_)
   ·have hpt : (parentM (toE xs[i].1).path).2 = true := by assumption
    obtain ⟨z, hz⟩ := hdn.num (parentM xs[i].1.path).1
    have hzh := held_z hdn hpt hz
    refine go [3,0,3,0] ?_
    refine G.want rfl rfl rfl (G.val rfl rfl ((pv_mapGet (f := vStr) (ok := okS9) (x := (parentM xs[i].1.path).1) (z := vInt 0) (xs := l) keyS Tryz.underlying139 (fun w => by kernel_rfl) rfl rfl (parentI_len _ hlpv) (sel_map selT)).cast (v' := .int .i64 z) hz) ?_)
    refine go [3,14,2,2,7] ?_
    exact G.meet (()) trT (.consE rfl (by first | exact dec_e hzh | exact dec_f (fun h => h (.inl (by assumption))) | exact dec_f (fun h => h (.inl (Bool.eq_false_iff.2 (by assumption))))) (.cons rfl (.cons rfl (.cons rfl (.cons rfl (.cons rfl (.cons rfl (.cons rfl .nil)))))))) subT
   refine go [4,4,4,4,2,2,7] ?_
   exact G.meet (()) trT (.consE rfl (by first | exact dec_e hzh | exact dec_f (fun h => h (.inl (by assumption))) | exact dec_f (fun h => h (.inl (Bool.eq_false_iff.2 (by assumption))))) (.cons rfl (.cons rfl (.cons rfl (.cons rfl (.cons rfl (.cons rfl (.cons rfl .nil)))))))) subT
  intro _ hJ
  try dsimp only at hJ
  try dsimp only
  refine G.condP rfl (fun h81 => ?_) (fun h81 => ?_)
  ·refine go [9,10,0,1,1,7,8,11,12,17,12,12,17,12] ?_
   exact G.done0G rfl (Rv.tmp rfl (Rv.tmp rfl Rv.nil)) (by rw [checkI_bad (by assumption) (by omega) hlt' hJ0 (errI_held hlt' h1 (by assumption) (by rw [hg]; assumption)) (by omega)]; rfl)
  have hok0 : errI (its xs) i = 0 := errI_ok hlt' h1 (by assumption) (by rw [hg]; exact Decidable.of_not_not (by assumption))
  have hall : ∀ q, q < i + 1 → errI (its xs) q = 0 := fun q hq => by rcases Nat.lt_or_ge q i with h1 | h1; exact hJ0 q h1; obtain rfl : q = i := (by omega); exact hok0
  refine go [13,8,10,0,2,3,0,2,4,2,3,1,2,4] ?_
  refine G.op rfl (G.mapSet (f := vStr) (ok := okS9) (x := xs[i].1.path) (v := .int .i64 xs[i].1.kind) (xs := l) keyS Tryz.underlying139 rfl rfl rfl hlpv selT ?_)
  refine go [7,16,8,10,2,6,0,7] ?_
  exact G.next ((i + 1, mset l xs[i].1.path (vInt xs[i].1.kind))) (by first | exact trivial | ((try dsimp only) <;> exact ⟨by omega, ⟨hall, by rw [toEs_succ hlt]; exact DirsAt.put (e := toE xs[i].1) hdn (by have h := sort_items (ms := its xs) (i := i + 1) (by omega) hall; rwa [← toEs_take, toEs_succ hlt] at h)⟩⟩)) (by (try dsimp only); omega) (.consE rfl veqT (.cons rfl (.cons rfl (.cons rfl (.cons rfl .nil))))) subT
 obtain ⟨hJ0, -⟩ := hJ
 refine go [18,14,14,19,8,9,10,1,1,7,8,11] ?_
 exact G.done0G rfl (Rv.tmp rfl (Rv.tmp rfl Rv.nil)) (by rw [checkI_ok (by assumption) (by omega) (fun q hq => hJ0 q (by omega))]; rfl)
def numsB (l : List Int) (k : Nat) : List UInt8 := (l.take k).flatMap putM
def idsB (ids : List (List UInt8)) (k : Nat) : List UInt8 := (ids.take k).flatten
def numL (a : Mh) (n : Nat) : List Int := [a.c, a.k, a.n, a.t, (n : Int)]
def hdT (x : It) : List UInt8 := bytesM x.path ++ putM x.kind ++ putM x.mode ++ putM x.size ++ bytesM x.to ++ putM (x.ids.length : Int)
def itB (x : It) : List UInt8 := hdT x ++ idsB x.ids x.ids.length
def itsB (ms : List It) (k : Nat) : List UInt8 := (ms.take k).flatMap itB
def hdM (a : Mh) (n : Nat) : List UInt8 := numsB (numL a n) 5
def manB (a : Mh) (ms : List It) : List UInt8 := hdM a ms.length ++ itsB ms ms.length
def bytesE (a : Mh) (ms : List It) : Int := if (checkI a ms).1 = 0 then (if 262144 < (manB a ms).length then 3 else 0) else (checkI a ms).1
def bytesO (a : Mh) (ms : List It) : List UInt8 := if bytesE a ms = 0 then manB a ms else []
theorem bytesE_bad {a : Mh} {ms : List It} (h : ¬ (checkI a ms).1 = 0) : bytesE a ms = (checkI a ms).1 ∧ bytesO a ms = [] := by
 have h1 : bytesE a ms = (checkI a ms).1 := if_neg h
 exact ⟨h1, if_neg (by rw [h1]; exact h)⟩
theorem bytesE_long {a : Mh} {ms : List It} (h : (checkI a ms).1 = 0) (h2 : 262144 < (manB a ms).length) : bytesE a ms = 3 ∧ bytesO a ms = [] := by
 have h1 : bytesE a ms = 3 := by
  unfold bytesE
  rw [if_pos h, if_pos h2]
 exact ⟨h1, if_neg (by rw [h1]; decide)⟩
theorem bytesE_ok {a : Mh} {ms : List It} (h : (checkI a ms).1 = 0) (h2 : ¬ 262144 < (manB a ms).length) : bytesE a ms = 0 ∧ bytesO a ms = manB a ms := by
 have h1 : bytesE a ms = 0 := by
  unfold bytesE
  rw [if_pos h, if_neg h2]
 exact ⟨h1, if_pos h1⟩
theorem numsB_zero (h : List UInt8) (l : List Int) : h ++ numsB l 0 = h := by simp [numsB]
theorem idsB_zero (h : List UInt8) (ids : List (List UInt8)) : h ++ idsB ids 0 = h := by simp [idsB]
theorem itsB_zero (h : List UInt8) (ms : List It) : h ++ itsB ms 0 = h := by simp [itsB]
theorem numsB_app (h : List UInt8) {l : List Int} {k : Nat} (hk : k < l.length) : h ++ numsB l k ++ putM l[k] = h ++ numsB l (k + 1) := by
 unfold numsB
 rw [List.take_succ_eq_append_getElem hk, List.flatMap_append, List.append_assoc]
 simp
theorem idsB_app (h : List UInt8) {ids : List (List UInt8)} {k : Nat} (hk : k < ids.length) : h ++ idsB ids k ++ ids[k] = h ++ idsB ids (k + 1) := by
 unfold idsB
 rw [List.take_succ_eq_append_getElem hk, List.flatten_append, List.append_assoc]
 simp
theorem itsB_app (h : List UInt8) {ms : List It} {k : Nat} (hk : k < ms.length) : h ++ itsB ms k ++ itB ms[k] = h ++ itsB ms (k + 1) := by
 unfold itsB
 rw [List.take_succ_eq_append_getElem hk, List.flatMap_append, List.append_assoc]
 simp
theorem hdT_app (h : List UInt8) (x : It) : h ++ bytesM x.path ++ putM x.kind ++ putM x.mode ++ putM x.size ++ bytesM x.to ++ putM (x.ids.length : Int) = h ++ hdT x := by
 unfold hdT
 simp only [List.append_assoc]
theorem itB_app (h : List UInt8) (x : It) : h ++ hdT x ++ idsB x.ids x.ids.length = h ++ itB x := by
 unfold itB
 rw [List.append_assoc]
theorem hdM_app (a : Mh) (n : Nat) : [] ++ putM a.c ++ putM a.k ++ putM a.n ++ putM a.t ++ putM (n : Int) = hdM a n := by
 simp [hdM, numsB, numL]
theorem numsB_len (l : List Int) (k : Nat) : (numsB l k).length ≤ 5 * k := by
 unfold numsB
 have : ∀ l : List Int, (l.flatMap putM).length ≤ 5 * l.length := by
  intro l
  induction l with
  | nil => exact Nat.zero_le _
  | cons x l ih =>
   rw [List.flatMap_cons, List.length_append, putM_length, List.length_cons]
   have := sizeM_le x
   omega
 have h1 := this (l.take k)
 rw [List.length_take] at h1
 omega
theorem idsB_len {ids : List (List UInt8)} (h : all16 ids) (k : Nat) : (idsB ids k).length ≤ 16 * k := by
 unfold idsB
 have : ∀ l : List (List UInt8), all16 l → l.flatten.length ≤ 16 * l.length := by
  intro l
  induction l with
  | nil => intro _; exact Nat.zero_le _
  | cons x l ih =>
   intro hl
   rw [List.flatten_cons, List.length_append, hl.cons.1, List.length_cons]
   have := ih hl.cons.2
   omega
 have h1 := this (ids.take k) fun x hx => h x (List.mem_of_mem_take hx)
 rw [List.length_take] at h1
 omega
theorem bytesM_len' (bs : List UInt8) : (bytesM bs).length ≤ 5 + bs.length := by
 unfold bytesM
 have := sizeM_le (bs.length : Int)
 simp only [List.length_append, putM_length]
 omega
structure ItW (x : It) : Prop where
 path : x.path.length ≤ 200
 kind : 0 ≤ x.kind ∧ x.kind ≤ 2147483647
 mode : 0 ≤ x.mode ∧ x.mode ≤ 2147483647
 size : 0 ≤ x.size ∧ x.size ≤ 2147483647
 too : x.to.length ≤ 200
 ids : x.ids.length ≤ 16384
theorem oneI_w {x : It} (h : oneI x = 0) : ItW x := by
 obtain ⟨h1, h2, h3⟩ := oneI_zero h
 have h4 := okP_len h1
 unfold numI at h2
 unfold rngI at h3
 exact ⟨h4, by omega, by omega, by omega, by omega, by omega⟩
theorem checkI_w {a : Mh} {ms : List It} (h : (checkI a ms).1 = 0) : (∀ x ∈ numL a ms.length, 0 ≤ x ∧ x ≤ 2147483647) ∧ ms.length ≤ 200 ∧ ∀ x ∈ ms, ItW x := by
 obtain ⟨h0, h1, h2, -⟩ := checkI_zero h
 unfold headBad at h0
 refine ⟨fun x hx => ?_, h1, fun x hx => ?_⟩
 ·simp only [numL, List.mem_cons, List.not_mem_nil, or_false] at hx
  rcases hx with rfl | rfl | rfl | rfl | rfl <;> omega
 obtain ⟨i, hi, rfl⟩ := List.getElem_of_mem hx
 exact oneI_w (errI_zero hi (h2 i hi)).1
theorem hdT_len {x : It} (h : ItW x) : (hdT x).length ≤ 430 := by
 unfold hdT
 have h1 := bytesM_len' x.path
 have h2 := bytesM_len' x.to
 have h3 := sizeM_le x.kind
 have h4 := sizeM_le x.mode
 have h5 := sizeM_le x.size
 have h6 := sizeM_le (x.ids.length : Int)
 have h7 := h.path
 have h8 := h.too
 simp only [List.length_append, putM_length]
 omega
theorem itB_len {x : It} (h : ItW x) (h16 : all16 x.ids) : (itB x).length ≤ 300000 := by
 unfold itB
 have h1 := hdT_len h
 have h2 := idsB_len h16 x.ids.length
 have h3 := h.ids
 rw [List.length_append]
 omega
theorem itsB_len {ms : List It} (h : ∀ x ∈ ms, ItW x) (h16 : ∀ x ∈ ms, all16 x.ids) (k : Nat) : (itsB ms k).length ≤ 300000 * k := by
 unfold itsB
 have : ∀ l : List It, (∀ x ∈ l, ItW x ∧ all16 x.ids) → (l.flatMap itB).length ≤ 300000 * l.length := by
  intro l
  induction l with
  | nil => intro _; exact Nat.zero_le _
  | cons x l ih =>
   intro hl
   have h1 := itB_len (hl x (List.mem_cons_self ..)).1 (hl x (List.mem_cons_self ..)).2
   have h2 := ih fun y hy => hl y (List.mem_cons_of_mem _ hy)
   rw [List.flatMap_cons, List.length_append, List.length_cons]
   omega
 have h1 := this (ms.take k) fun x hx => ⟨h x (List.mem_of_mem_take hx), h16 x (List.mem_of_mem_take hx)⟩
 rw [List.length_take] at h1
 omega
theorem hdM_len (a : Mh) (n : Nat) : (hdM a n).length ≤ 25 := numsB_len _ 5
theorem goodW {x : Int} (h : 0 ≤ x ∧ x ≤ 2147483647) : (false || decide (sizeM x = 0)) = false := by
 have := sizeM_ok h.1 h.2
 rw [Bool.false_or]
 exact decide_eq_false (by omega)
theorem wtextF (D : Nat) (v : Value) (bs b : List UInt8) (hl : b.length ≤ 200) (hb : bs.length ≤ 900000000) : Tr Tryz.prog 79 #[.pointer (some ⟨D, 0, none⟩), .string (sB b)] [] [blk D 142 [.bool true, .bool false, v], own 5 1 v (bs : List UInt8).length ((bs : List UInt8).map vByte)]
 (TX (fun _ : Value => True) (fun _ => .tuple #[]) (fun v => [blk D 142 [.bool true, .bool false, v], own 5 1 v ((bs ++ bytesM b) : List UInt8).length (((bs ++ bytesM b) : List UInt8).map vByte)])) := by
 have := wtext_tr D false v bs b hb (by omega)
 rwa [goodW ⟨by omega, by omega⟩] at this
set_option maxRecDepth 20000 in
set_option maxHeartbeats 4000000 in
theorem mwrite_tr {Pd : Nat → Prop} (D : Nat) (v : Value) (bs : List UInt8) (e : It) (d : Value) (hw : ItW e) (hb : bs.length ≤ 800000000) : Tr Tryz.prog 55 #[.pointer (some ⟨D, 0, none⟩), .agg #[.string (sB e.path), .int .i64 e.kind, .int .i64 e.mode, .int .i64 e.size, .string (sB e.to), d]] [slc rID Pd d e.ids] [blk D 142 [.bool true, .bool false, v], own 5 1 v (bs : List UInt8).length ((bs : List UInt8).map vByte)]
 (TX (fun _ : Value => True) (fun _ => .tuple #[]) (fun v => [blk D 142 [.bool true, .bool false, v], own 5 1 v ((bs ++ itB e) : List UInt8).length (((bs ++ itB e) : List UInt8).map vByte)])) := by
 refine Tr.of (l := [(0, .pointer (some ⟨D, 0, none⟩)), (1, .agg #[.string (sB e.path), .int .i64 e.kind, .int .i64 e.mode, .int .i64 e.size, .string (sB e.to), d])]) Tryz.func55 rfl (n := 42) rfl (.cons rfl (.cons rfl .nil)) (fun w0 hro => ?_)
 have hd := ro1 hro
 have h16 := Ro.all16 hd
 obtain ⟨ad, cap, bd, od, rfl, hcap, hmax, -, had, hel⟩ := Ro.open hd
 have s1 := sizeM_le e.kind
 have s2 := sizeM_le e.mode
 have s3 := sizeM_le e.size
 have s4 := sizeM_le (e.ids.length : Int)
 have s5 := bytesM_len' e.path
 have s6 := bytesM_len' e.to
 have s7 := hdT_len hw
 obtain ⟨w1, w2, w3, w4, w5, w6⟩ := hw
 refine go [9,10] ?_
 refine G.op rfl (G.box rfl rfl (cs := [_, _, _, _, _, _]) rfl ?_)
 intro b3
 refine go [7,8,9,10,0,2,3,0,2,4] ?_
 refine G.op rfl (G.cS rfl rfl rfl rfl Tryz.func79 rfl rfl subT may0 (wtextF _ _ _ _ (by omega) Y15) apT ?_)
 intro x9 hJ
 try dsimp only at hJ
 try dsimp only
 refine go [7,8,9,10,0,2,3,1,2,4] ?_
 refine G.op rfl (G.cS rfl rfl rfl rfl Tryz.func54 rfl rfl subT may0 (wintF _ _ _ _ (by constructor <;> omega) Y15) apT ?_)
 intro x13 hJ
 try dsimp only at hJ
 try dsimp only
 refine go [7,8,9,10,0,2,3,2,2,4] ?_
 refine G.op rfl (G.cS rfl rfl rfl rfl Tryz.func54 rfl rfl subT may0 (wintF _ _ _ _ (by constructor <;> omega) Y15) apT ?_)
 intro x17 hJ
 try dsimp only at hJ
 try dsimp only
 refine go [7,8,9,10,0,2,3,3,2,4] ?_
 refine G.op rfl (G.cS rfl rfl rfl rfl Tryz.func54 rfl rfl subT may0 (wintF _ _ _ _ (by constructor <;> omega) Y15) apT ?_)
 intro x21 hJ
 try dsimp only at hJ
 try dsimp only
 refine go [7,8,9,10,0,2,3,4,2,4] ?_
 refine G.op rfl (G.cS rfl rfl rfl rfl Tryz.func79 rfl rfl subT may0 (wtextF _ _ _ _ (by omega) Y15) apT ?_)
 intro x25 hJ
 try dsimp only at hJ
 try dsimp only
 refine go [7,8,9,10,0,2,3,5,2,4,2,5] ?_
 refine G.op rfl (G.cS rfl rfl rfl rfl Tryz.func54 rfl rfl subT may0 (wintF _ _ _ _ (by constructor <;> omega) Y15) apT ?_)
 intro x30 hJ
 try dsimp only at hJ
 try dsimp only
 refine go [7,8,9,10,2,3,5,2,4,2,5,0,7,8,15] ?_
 rw [hdT_app, ← idsB_zero (bs ++ hdT e) e.ids]
 refine G.loopK (X := Nat × Value) (ts := [0, 32, 33]) (fun st => st.1 ≤ e.ids.length) (fun st => [(34, .int .i64 (st.1 : Int))]) (fun st => [blk D 142 [.bool true, .bool false, st.2], own 5 1 st.2 ((bs ++ hdT e ++ idsB e.ids st.1) : List UInt8).length (((bs ++ hdT e ++ idsB e.ids st.1) : List UInt8).map vByte)]) (fun st => e.ids.length - st.1) (x0 := (0, x30)) (.cons rfl (.cons rfl (.cons rfl .nil))) subT (.cons .nil) apT Y30 (.consE rfl veqT .nil) (fun st hJ => ?_)
 obtain ⟨q, vw⟩ := st
 try dsimp only at hJ
 try dsimp only
 have hkq := hJ
 have qj := idsB_len h16 q
 have qj1 := idsB_len h16 (q + 1)
 refine go [9,10,2,9,7,8,9] ?_
 refine G.condP rfl (fun h35 => ?_) (fun h35 => ?_)
 ·have hlq : q < e.ids.length := by omega
  obtain ⟨lq, rq⟩ := Ro.arr8 (hel q hlq)
  refine go [13,8,9,15,9,10,2,20,16] ?_
  refine G.op rfl (G.val rfl rfl (pv_loadN (cs := e.ids[q].map vByte) Tryz.underlying52 rfl Y12 rfl rq) ?_)
  refine go [60,13] ?_
  intro b5
  refine G.op rfl (G.storeN Y12 rfl rfl (List.all_eq_true.2 (vByte_one _)) selT (by simp [lq]) ?_)
  rw [putN_whole _ _ (by rw [List.length_map, lq]; rfl)]
  refine go [7,8,10,0] ?_
  refine G.op rfl (G.val rfl rfl (pv_loadN (cs := e.ids[q].map vByte) Tryz.underlying52 rfl Y12 rfl (blk_range (k := 16) selT (List.take_of_length_le Y11))) ?_)
  refine G.op rfl (G.cS rfl rfl rfl rfl Tryz.func80 rfl rfl subT may0 (wid_tr _ _ _ _ e.ids[q] lq Y15) apT ?_)
  intro x40 hJ
  try dsimp only at hJ
  try dsimp only
  rw [idsB_app (bs ++ hdT e) hlq]
  refine go [7,16,8,10,2,6,0,7] ?_
  exact G.next ((q + 1, x40)) Y22 (by (try dsimp only); omega) (.consE rfl veqT (.cons rfl (.cons rfl (.cons rfl .nil)))) subT
 obtain rfl : q = e.ids.length := by omega
 rw [itB_app]
 refine go [18,14,14,19] ?_
 exact G.doneXE (vw) trT rfl Y7 subT
set_option maxRecDepth 20000 in
set_option maxHeartbeats 4000000 in
theorem woutM_tr (D : Nat) (v : Value) (bs : List UInt8) (hb : bs.length ≤ 1000000000) : Tr Tryz.prog 56 #[.pointer (some ⟨D, 0, none⟩)] [blk D 142 [.bool true, .bool false, v], own 5 1 v bs.length (bs.map vByte)] []
 (TX (fun _ : Value => True) (fun x => .tuple #[x, .int .i64 0]) (fun x => [ownB 5 x bs])) := by
 refine Tr.of (l := [(0, .pointer (some ⟨D, 0, none⟩))]) Tryz.func56 rfl (n := 24) rfl (.cons rfl .nil) (fun w0 hro => ?_)
 obtain ⟨hr, ho⟩ := ro2 hro
 refine go [9,10,1,1,7,8,9,15,9,10,0,2,50,3,0,3,0,3,8,3,3,0] ?_
 refine G.want rfl rfl rfl (G.val rfl rfl (pv_load Tryz.underlying4 rfl rfl (ro_blk (v := .bool true) hr rfl)) ?_)
 refine go [3,25,2,2,1,7,8,60,0,9,10,0,2,8,2,3,1] ?_
 refine G.op rfl (G.val rfl rfl (pv_load Tryz.underlying4 rfl rfl (ro_blk (v := .bool false) hr rfl)) ?_)
 refine go [1,7,8,60,0,13,16,8,9,10,0,2,8,2,3,2] ?_
 refine G.op rfl (G.val rfl rfl (pv_load Tryz.underlying31 rfl rfl (ro_blk (v := v) hr rfl)) ?_)
 refine G.ownBNil 5 ?_
 refine G.op rfl (G.appendB (xs := []) (ys := bs) (Ps := fun k => v.ownBlock = some k) rfl Tryz.underlying31 Tryz.infoByte rfl rfl .here (ro_own ho) (by simp only [List.length_nil]; omega) (by simp only [List.length_nil]; omega) ?_)
 intro v'
 rw [List.nil_append bs]
 refine go [1,1,7,8,11] ?_
 exact G.doneX2 (v') trT rfl rfl rfl Y7 subT
set_option maxRecDepth 20000 in
set_option maxHeartbeats 4000000 in
theorem mbytes_tr {Ps : Nat → Prop} (a : Mh) (v : Value) (xs : List IT) : Tr Tryz.prog 17 #[.agg #[.int .i64 a.c, .int .i64 a.k, .int .i64 a.n, .int .i64 a.t, v]] [slc rIT Ps v xs] []
 (TX (fun _ : Value => True) (fun x => .tuple #[x, .int .i64 (bytesE a (its xs))]) (fun x => [ownB 5 x (bytesO a (its xs))])) := by
 refine Tr.of (l := [(0, .agg #[.int .i64 a.c, .int .i64 a.k, .int .i64 a.n, .int .i64 a.t, v])]) Tryz.func17 rfl (n := 68) rfl (.cons rfl .nil) (fun w0 hro => ?_)
 have hv := ro1 hro
 have hv' := hv
 obtain ⟨av, cv, bv, fv, rfl, hcapv, hmaxv, hnilv, hadv, helv⟩ := Ro.open hv
 have hel' := its_length xs
 have hI := Ro.allI helv
 have h16 : ∀ x ∈ its xs, all16 x.ids := fun x hx => by obtain ⟨y, hy, rfl⟩ := List.mem_map.1 hx; exact (hI y hy).2.1
 have hq := hdM_len a xs.length
 refine go [9,10,60,10] ?_
 intro b1
 refine go [1,1,7,8,9,9,10,2,50,4] ?_
 refine G.op rfl (G.cR rfl rfl rfl rfl Tryz.func52 rfl rfl (may1 Y5) (mcheck_tr _ _ _ ) ?_)
 refine go [0,2,7,2,7,1,1,7,8,9,10,0,2,14,7,8] ?_
 refine G.condP rfl (fun h19 => ?_) (fun h19 => ?_)
 ·obtain ⟨he1, he2⟩ := bytesE_bad h19
  rw [he1, he2]
  refine go [9,10,0,1,1,7,8,11,12] ?_
  refine G.ownBNil 5 ?_
  exact G.doneX2 (.slice none 0 0) trT rfl rfl rfl Y7 subT
 have hz : (checkI a (its xs)).1 = 0 := by omega
 obtain ⟨hn5, h200, hall⟩ := checkI_w hz
 refine go [13,8,9,10] ?_
 refine G.op rfl (G.cS rfl rfl rfl rfl Tryz.func53 rfl rfl subT may0 (new_tr) apT ?_)
 intro x21 hJ
 try dsimp only at hJ
 try dsimp only
 refine go [1,7,8,9,9,10,2,3,0,2,4,2,3,1,2,4,2,3,2,2,4,2,3,3,2,4,2,3,4,2,4,2,5] ?_
 refine G.op rfl (G.lit1 (vs := [_, _, _, _, _]) rfl Tryz.underlying29 kr rfl (by decide) (by decide) rfl rfl ?_)
 intro b33
 rw [show ([.int .i64 a.c, .int .i64 a.k, .int .i64 a.n, .int .i64 a.t, .int .i64 (xs.length : Int)] : List Value) = (numL a xs.length).map vInt from rfl]
 refine go [2,5,0,7,8,15] ?_
 have hz0 := numsB_zero [] (numL a xs.length)
 refine G.loopK (X := Nat × Value) (ts := [1, 2, 3, 6, 33, 34]) (fun st => st.1 ≤ 5) (fun st => [(35, .int .i64 (st.1 : Int))]) (fun st => [blk x21 142 [.bool true, .bool false, st.2], own 5 1 st.2 (([] ++ numsB (numL a xs.length) st.1) : List UInt8).length ((([] ++ numsB (numL a xs.length) st.1) : List UInt8).map vByte)]) (fun st => 5 - st.1) (x0 := (0, .slice none 0 0)) (.cons rfl (.cons rfl (.cons rfl (.cons rfl (.cons rfl (.cons rfl .nil)))))) subT (.cons .nil) apT Y30 (.consE rfl veqT .nil) (fun st hJ => ?_)
 obtain ⟨i, vw⟩ := st
 try dsimp only at hJ
 try dsimp only
 have hki := hJ
 have qj := numsB_len (numL a xs.length) i
 refine go [9,10,2,9,7,8,9] ?_
 refine G.condP rfl (fun h36 => ?_) (fun h36 => ?_)
 ·have hlt : i < (numL a xs.length).length := by show i < 5; omega
  have hx5 := hn5 _ (by rw [hel']; exact List.getElem_mem hlt)
  have hel5 : ((numL a xs.length).map vInt)[0 + i * 1]? = some (.int .i64 (numL a xs.length)[i]) := (by rw [show 0 + i * 1 = i by omega, List.getElem?_map, List.getElem?_eq_getElem hlt]; rfl)
  refine go [13,8,9,15,9,10] ?_
  refine G.op rfl (G.val rfl rfl (pv_ixSl (sz := 1) (k := i) Tryz.underlying29 kr rfl rfl (fun _ => rfl) (by omega) (by omega)) ?_)
  refine G.op rfl (G.val rfl rfl (pv_load Tryz.underlying3 rfl rfl (blk_cell selD hel5)) ?_)
  refine go [1,7,8,10,0,0] ?_
  refine G.op rfl (G.cS rfl rfl rfl rfl Tryz.func54 rfl rfl subT may0 (wintF _ _ _ (numL a xs.length)[i] hx5 Y15) apT ?_)
  intro x41 hJ
  try dsimp only at hJ
  try dsimp only
  rw [numsB_app [] hlt]
  refine go [7,16,8,10,2,6,0,7] ?_
  exact G.next ((i + 1, x41)) Y22 (by (try dsimp only); omega) (.consE rfl veqT (.cons rfl (.cons rfl (.cons rfl (.cons rfl (.cons rfl (.cons rfl .nil))))))) subT
 obtain rfl : i = 5 := by omega
 rw [List.nil_append (numsB (numL a xs.length) 5), show numsB (numL a xs.length) 5 = hdM a xs.length from rfl]
 refine go [18,14,14,19,8,9,9,10,2,3,4,2,4,2,5,0,7,8,15] ?_
 rw [← itsB_zero (hdM a xs.length) (its xs)]
 refine G.loopK (X := Nat × Value) (ts := [2, 3, 6, 44, 45]) (fun st => st.1 ≤ xs.length) (fun st => [(46, .int .i64 (st.1 : Int))]) (fun st => [blk x21 142 [.bool true, .bool false, st.2], own 5 1 st.2 ((hdM a xs.length ++ itsB (its xs) st.1) : List UInt8).length (((hdM a xs.length ++ itsB (its xs) st.1) : List UInt8).map vByte)]) (fun st => xs.length - st.1) (x0 := (0, vw)) (.cons rfl (.cons rfl (.cons rfl (.cons rfl (.cons rfl .nil))))) subT (.cons .nil) apT Y30 (.consE rfl veqT .nil) (fun st hJ => ?_)
 obtain ⟨i, vi⟩ := st
 try dsimp only at hJ
 try dsimp only
 have hki := hJ
 have qk := itsB_len hall h16 i
 refine go [9,10,2,9,7,8,9] ?_
 refine G.condP rfl (fun h47 => ?_) (fun h47 => ?_)
 ·have hlt : i < xs.length := by omega
  have hEv := helv i hlt
  have hRv := Ro.itRng hEv
  have hDv := Ro.itIds hEv
  have hOv := Ro.itOk hEv
  obtain ⟨hk1v, hk2v, hk3v, hlpv, hltv, hlnv⟩ := hOv
  have hCv := Ro.one1I hDv
  have hw : ItW xs[i].1 := hall _ (List.mem_map.2 ⟨_, List.getElem_mem hlt, rfl⟩)
  have hg := its_get hlt
  have hlt' : i < (its xs).length := by omega
  have hap := itsB_app (hdM a xs.length) hlt'
  rw [hg] at hap
  refine go [13,8,9,15,9,10] ?_
  refine G.op rfl (G.val rfl rfl (pv_ixSl (sz := 6) (k := i) Tryz.underlying37 kr rfl rfl adT (by omega) (by omega)) ?_)
  refine go [2,50,10,60,11] ?_
  intro b10
  refine go [20,7,8,10,0,2,50,10] ?_
  refine G.op rfl (G.cS rfl rfl rfl rfl Tryz.func55 rfl rfl subT (may1 Y5) (mwrite_tr _ _ _ xs[i].1 _ hw Y15) apT ?_)
  intro x52 hJ
  try dsimp only at hJ
  try dsimp only
  rw [hap]
  refine go [7,16,8,10,2,6,0,7] ?_
  exact G.next ((i + 1, x52)) Y22 (by (try dsimp only); omega) (.consE rfl veqT (.cons rfl (.cons rfl (.cons rfl (.cons rfl (.cons rfl .nil)))))) subT
 obtain rfl : i = xs.length := by omega
 have hman : hdM a xs.length ++ itsB (its xs) xs.length = manB a (its xs) := by unfold manB; rw [hel']
 have qk := itsB_len hall h16 xs.length
 have hml : (manB a (its xs)).length ≤ 100000000 := by rw [← hman, List.length_append]; omega
 rw [hman]
 refine go [18,14,14,19,8,9,10,0] ?_
 refine G.op rfl (G.cS rfl rfl rfl rfl Tryz.func56 rfl rfl subT (may2 Y5 Y5) (woutM_tr _ _ _ (by omega)) apT ?_)
 intro x56 hJ
 try dsimp only at hJ
 try dsimp only
 refine go [0,2,7,2,7,1,1,7,8,9,15,9,10,0,2,14,1,7,8,60,0,9,10] ?_
 refine G.ownBSl (v := x56) selT (fun ad9 cap9 hv9 => ?_)
 subst hv9
 refine go [0,2,5,2,10,1,7,8] ?_
 refine G.condP rfl (fun h63 => ?_) (fun h63 => ?_)
 ·refine go [9,10,1,1,7,8,11,17,12] ?_
  obtain ⟨he1, he2⟩ := bytesE_long hz (by omega)
  rw [he1, he2]
  refine G.ownBNil 5 ?_
  exact G.doneX2 (.slice none 0 0) trT rfl rfl rfl Y7 subT
 refine go [13,16,8,9,10,0,1,1,7,8,11] ?_
 obtain ⟨he1, he2⟩ := bytesE_ok hz (by omega)
 rw [he1, he2]
 exact G.doneX2 (.slice ad9 (manB a (its xs)).length cap9) trT rfl rfl rfl Y7 subT
def setL (out : List (List UInt8)) : List (List UInt8 × Value) := out.map fun x => (x, .agg #[])
theorem setL_get (out : List (List UInt8)) (x : List UInt8) : mget (setL out) x = if x ∈ out then some (.agg #[]) else none := by
 induction out with
 | nil => rfl
 | cons y out ih =>
  show (if y = x then some (Value.agg #[]) else mget (setL out) x) = _
  rw [ih]
  by_cases h : y = x
  ·rw [if_pos h, if_pos (by rw [h]; exact List.mem_cons_self ..)]
  rw [if_neg h]
  by_cases h2 : x ∈ out
  ·rw [if_pos h2, if_pos (List.mem_cons_of_mem _ h2)]
  rw [if_neg h2, if_neg (fun h3 => by rcases List.mem_cons.1 h3 with h4 | h4; exact h h4.symm; exact h2 h4)]
theorem setL_set {out : List (List UInt8)} {x : List UInt8} (h : ¬ x ∈ out) : mset (setL out) x (.agg #[]) = setL (out ++ [x]) := by
 rw [mset_new fun p hp => ?_]
 ·simp [setL]
 obtain ⟨y, hy, rfl⟩ := List.mem_map.1 hp
 exact fun e => h (e ▸ hy)
theorem setL_look (out : List (List UInt8)) (x : List UInt8) : (if true = true then Value.tuple #[(mget (setL out) x).getD (.agg #[]), .bool (mget (setL out) x).isSome] else (mget (setL out) x).getD (.agg #[])) = .tuple #[.agg #[], .bool (decide (x ∈ out))] := by
 rw [setL_get, if_pos rfl]
 by_cases h : x ∈ out
 ·rw [if_pos h, decide_eq_true h]
  rfl
 rw [if_neg h, decide_eq_false h]
 rfl
theorem own_oneI (out : List (List UInt8)) (x : List UInt8) (e : TypeId) (v : Value) : own e 16 v (out.length + 1) (flatI out ++ x.map vByte) = own e 16 v (out ++ [x]).length (flatI (out ++ [x])) := by
 rw [flatI_app, List.length_append]
 congr 2
 simp [flatI]
end Go.Proofs.YtngbglhmiefcpaaGreat
set_option linter.unusedVariables false
set_option linter.unusedSimpArgs false
set_option maxRecDepth 100000
namespace Go.Proofs.YtngbglhmiefcpaaGreat
def gI (l : List Int) (i : Nat) : Int := l.getD i 0
def w32 (x : Int) : Int := x % 4294967296
def orM (x y : Int) : Int := bits .or .u32 x y
def xorM (x y : Int) : Int := bits .xor .u32 x y
def andM (x y : Int) : Int := bits .and .u32 x y
def notM (x : Int) : Int := bits .xor .u32 4294967295 x
def addM (x y : Int) : Int := w32 (x + y)
def rotM (x : Int) (n : Nat) : Int := orM (w32 (x * 2 ^ (32 - n))) (x / 2 ^ n)
def byteM (b : List UInt8) (i : Nat) : Int := ((b.getD i 0).toNat : Int)
def wordM (b : List UInt8) (i : Nat) : Int := orM (orM (orM (w32 (byteM b (4 * i) * 2 ^ 24)) (w32 (byteM b (4 * i + 1) * 2 ^ 16))) (w32 (byteM b (4 * i + 2) * 2 ^ 8))) (byteM b (4 * i + 3))
def sigA (x : Int) : Int := xorM (xorM (rotM x 7) (rotM x 18)) (x / 2 ^ 3)
def sigB (x : Int) : Int := xorM (xorM (rotM x 17) (rotM x 19)) (x / 2 ^ 10)
def nextW (l : List Int) : Int := addM (addM (addM (gI l (l.length - 16)) (sigA (gI l (l.length - 15)))) (gI l (l.length - 7))) (sigB (gI l (l.length - 2)))
def wordsFirst (b : List UInt8) (k : Nat) : List Int := (List.range k).map (wordM b)
def wordsM (b : List UInt8) : Nat → List Int
 | 0 => wordsFirst b 16
 | n + 1 => wordsM b n ++ [nextW (wordsM b n)]
def kM : List Int := [0x428a2f98, 0x71374491, 0xb5c0fbcf, 0xe9b5dba5, 0x3956c25b, 0x59f111f1, 0x923f82a4, 0xab1c5ed5, 0xd807aa98, 0x12835b01, 0x243185be, 0x550c7dc3, 0x72be5d74, 0x80deb1fe, 0x9bdc06a7, 0xc19bf174, 0xe49b69c1, 0xefbe4786, 0x0fc19dc6, 0x240ca1cc, 0x2de92c6f, 0x4a7484aa, 0x5cb0a9dc, 0x76f988da, 0x983e5152, 0xa831c66d, 0xb00327c8, 0xbf597fc7, 0xc6e00bf3, 0xd5a79147, 0x06ca6351, 0x14292967, 0x27b70a85, 0x2e1b2138, 0x4d2c6dfc, 0x53380d13, 0x650a7354, 0x766a0abb, 0x81c2c92e, 0x92722c85, 0xa2bfe8a1, 0xa81a664b, 0xc24b8b70, 0xc76c51a3, 0xd192e819, 0xd6990624, 0xf40e3585, 0x106aa070, 0x19a4c116, 0x1e376c08, 0x2748774c, 0x34b0bcb5, 0x391c0cb3, 0x4ed8aa4a, 0x5b9cca4f, 0x682e6ff3, 0x748f82ee, 0x78a5636f, 0x84c87814, 0x8cc70208, 0x90befffa, 0xa4506ceb, 0xbef9a3f7, 0xc67178f2]
def firstM : List Int := [0x6a09e667, 0xbb67ae85, 0x3c6ef372, 0xa54ff53a, 0x510e527f, 0x9b05688c, 0x1f83d9ab, 0x5be0cd19]
def tM (r : List Int) (k w : Int) : Int :=
 addM (addM (addM (addM (gI r 7) (xorM (xorM (rotM (gI r 4) 6) (rotM (gI r 4) 11)) (rotM (gI r 4) 25))) (xorM (andM (gI r 4) (gI r 5)) (andM (notM (gI r 4)) (gI r 6)))) k) w
def uM (r : List Int) : Int :=
 addM (xorM (xorM (rotM (gI r 0) 2) (rotM (gI r 0) 13)) (rotM (gI r 0) 22)) (xorM (xorM (andM (gI r 0) (gI r 1)) (andM (gI r 0) (gI r 2))) (andM (gI r 1) (gI r 2)))
def turnM (r : List Int) (t u : Int) : List Int := [addM t u, gI r 0, gI r 1, gI r 2, addM (gI r 3) t, gI r 4, gI r 5, gI r 6]
def roundM (W : List Int) (r : List Int) (i : Nat) : List Int := turnM r (tM r (gI kM i) (gI W i)) (uM r)
def roundsM (W s : List Int) : Nat → List Int
 | 0 => s
 | n + 1 => roundM W (roundsM W s n) n
def sumTo (r s : List Int) (k : Nat) : List Int := (List.range 8).map fun i => if i < k then addM (gI r i) (gI s i) else gI r i
def stepM (s : List Int) (b : List UInt8) : List Int := sumTo (roundsM (wordsM b 48) s 64) s 8
def stateN (s : List Int) (l : List UInt8) : Nat → List Int
 | 0 => s
 | n + 1 => stepM (stateN s l n) ((l.drop (64 * n)).take 64)
def stateM (l : List UInt8) : List Int := stateN firstM l (l.length / 64)
def lenBytes (bits : Nat) : List UInt8 := [56, 48, 40, 32, 24, 16, 8, 0].map fun i => UInt8.ofNat (bits / 2 ^ i)
def padM (n : Nat) : List UInt8 := 128 :: List.replicate ((119 - n % 64) % 64) 0 ++ lenBytes (8 * n)
def outM (s : List Int) : List UInt8 := (List.range 32).map fun i => UInt8.ofNat ((gI s (i / 4)).toNat / 2 ^ (24 - 8 * (i % 4)))
def sumM (b : List UInt8) : List UInt8 := outM (stateM (b ++ padM b.length))
end Go.Proofs.YtngbglhmiefcpaaGreat
