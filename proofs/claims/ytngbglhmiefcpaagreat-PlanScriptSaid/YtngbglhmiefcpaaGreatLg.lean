/- Merged of SD, SE, VT, SF, SG, ZW, SH, SI, NoteOpn, TreeOpn, PlanOpn. Conditions: none. -/
import Derived.Test.YtngbglhmiefcpaaGreatLf
import Derived.ChangeMaps5
set_option maxRecDepth 20000
set_option linter.unusedVariables false
set_option linter.unusedSimpArgs false
namespace Go.Proofs.YtngbglhmiefcpaaGreat
open Go.RowKit
def lackI (k : List Nat) (t : Nat) (ns : List Int) : Nat → List Nat
 | 0 => k
 | i + 1 => lackI k t ns i ++ if ns[i]? = some 0 then [t * 16 + i] else []
theorem lackI_hit {k : List Nat} {t i : Nat} {ns : List Int} (hi : i < ns.length) (h : ns[i] = 0) : lackI k t ns (i + 1) = lackI k t ns i ++ [t * 16 + i] := by
 rw [lackI, if_pos (by rw [List.getElem?_eq_getElem hi, h])]
theorem lackI_skip {k : List Nat} {t i : Nat} {ns : List Int} (hi : i < ns.length) (h : ¬ ns[i] = 0) : lackI k t ns (i + 1) = lackI k t ns i := by
 rw [lackI, if_neg (by rw [List.getElem?_eq_getElem hi]; exact fun e => h (Option.some.inj e)), List.append_nil]
theorem lackI_len (k : List Nat) (t : Nat) (ns : List Int) : ∀ i, (lackI k t ns i).length ≤ k.length + i
 | 0 => Nat.le_refl _
 | i + 1 => by
  have := lackI_len k t ns i
  rw [lackI, List.length_append]
  split
  ·rw [List.length_singleton]; omega
  rw [List.length_nil]; omega
theorem lackI_mem {k : List Nat} {t : Nat} {ns : List Int} {x : Nat} : ∀ {i}, x ∈ lackI k t ns i → x ∈ k ∨ x < t * 16 + i
 | 0, h => .inl h
 | i + 1, h => by
  rw [lackI] at h
  rcases List.mem_append.1 h with h | h
  ·rcases lackI_mem h with h | h
   ·exact .inl h
   exact .inr (by omega)
  split at h
  ·obtain rfl : x = _ := by simpa using h
   exact .inr (by omega)
  cases h
theorem vN_snoc (xs : List Nat) (x : Nat) : xs.map vN ++ [vN x] = (xs ++ [x]).map vN := by simp
def goodR (r : RP) (q x : Nt) : Bool × RP :=
 if q.k = 1 then (decide (x.k = 16 ∧ x.ns = [0]), r)
 else if q.k = 2 then (decide (x.k = 16 ∧ x.ns = [n0 q.ns + q.bs.length]), r)
 else if q.k = 4 then (decide (x.k = 18 ∧ x.ids[0]? = q.ids[0]?), r)
 else if q.k ≠ 3 ∨ x.k ≠ 17 ∨ x.ns.length ≠ q.ids.length then (false, r)
 else if ∃ n ∈ x.ns, 1 < n then (false, r)
 else (true, { r with lacks := lackI r.lacks r.told x.ns x.ns.length })
section
variable {r : RP} {q x : Nt}
theorem goodR_1 (h : q.k = 1) : goodR r q x = (decide (x.k = 16 ∧ x.ns = [0]), r) := if_pos h
theorem goodR_2 (h : q.k = 2) : goodR r q x = (decide (x.k = 16 ∧ x.ns = [n0 q.ns + q.bs.length]), r) := (if_neg (by omega)).trans (if_pos h)
theorem goodR_4 (h : q.k = 4) : goodR r q x = (decide (x.k = 18 ∧ x.ids[0]? = q.ids[0]?), r) := (if_neg (by omega)).trans ((if_neg (by omega)).trans (if_pos h))
theorem goodR_no (h1 : ¬ q.k = 1) (h2 : ¬ q.k = 2) (h4 : ¬ q.k = 4) (h : q.k ≠ 3 ∨ x.k ≠ 17 ∨ x.ns.length ≠ q.ids.length) : goodR r q x = (false, r) := (if_neg h1).trans ((if_neg h2).trans ((if_neg h4).trans (if_pos h)))
theorem goodR_bad (h3 : q.k = 3) (h : ∃ n ∈ x.ns, 1 < n) : goodR r q x = (false, r) := by
 unfold goodR
 rw [if_neg (by omega), if_neg (by omega), if_neg (by omega), if_pos h, ite_self]
theorem goodR_yes (h3 : q.k = 3) (h : ¬ (q.k ≠ 3 ∨ x.k ≠ 17 ∨ x.ns.length ≠ q.ids.length)) (h2 : ∀ n ∈ x.ns, n ≤ 1) : goodR r q x = (true, { r with lacks := lackI r.lacks r.told x.ns x.ns.length }) := by
 unfold goodR
 rw [if_neg (by omega), if_neg (by omega), if_neg (by omega), if_neg h, if_neg (fun ⟨n, hn, hk⟩ => by have := h2 n hn; omega)]
end
set_option maxHeartbeats 4000000 in
theorem good_tr {F : Nat → Prop} {W : World} {Pv1 Pv2 Pv3 : Nat → Prop} (k : Int) (v1 v2 v3 : Value) (ns : List Int) (ids : List (List UInt8)) (bs : List UInt8) (D : Nat) (z : RZ) (x : NV) (hz : RvOk F W z) (hx : NvOk F W x) (hy : YOk ⟨k, ns, ids, bs⟩) (hp2 : x.n.k = 2 → ∃ a : Nat, x.n.ns = [(a : Int)] ∧ a ≤ 100000000) (hp4 : x.n.k = 4 → x.n.ids.length = 1) (ht : z.told ≤ 200000000) (hlk : z.lacks.length ≤ 10000000) : Tr Tryz.prog 92 #[.pointer (some ⟨D, 0, none⟩), .agg #[.int .i64 x.n.k, x.vN, x.vI, x.vB], .agg #[.int .i64 k, v1, v2, v3]] [slc rInt Pv1 v1 ns, slc rID Pv2 v2 ids, slc rByte Pv3 v3 bs] [blk D 80 [z.bv, z.lv, .int .i64 z.cm, .int .i64 z.tk, .int .i64 (z.ph : Nat), z.notesv, .int .i64 (z.sent : Nat), .int .i64 (z.told : Nat), z.lacksv, .int .i64 (z.rounds : Nat), .bool z.over, .int .i64 z.num, .int .i64 z.e], frz F W, own 3 1 z.lacksv z.lacks.length (z.lacks.map vN)]
 (TX (fun z' : RZ => z'.rp = (goodR z.rp x.n ⟨k, ns, ids, bs⟩).2 ∧ RvOk F W z' ∧ ∃ v lk, z' = { z with lacksv := v, lacks := lk }) (fun _ => .bool (goodR z.rp x.n ⟨k, ns, ids, bs⟩).1) (fun z' => [blk D 80 [z'.bv, z'.lv, .int .i64 z'.cm, .int .i64 z'.tk, .int .i64 (z'.ph : Nat), z'.notesv, .int .i64 (z'.sent : Nat), .int .i64 (z'.told : Nat), z'.lacksv, .int .i64 (z'.rounds : Nat), .bool z'.over, .int .i64 z'.num, .int .i64 z'.e], frz F W, own 3 1 z'.lacksv z'.lacks.length (z'.lacks.map vN)])) := by
 refine Tr.of (l := [(0, .pointer (some ⟨D, 0, none⟩)), (1, .agg #[.int .i64 x.n.k, x.vN, x.vI, x.vB]), (2, .agg #[.int .i64 k, v1, v2, v3])]) Tryz.func92 rfl (n := 104) rfl (.cons rfl (.cons rfl (.cons rfl .nil))) (fun w0 hro => ?_)
 obtain ⟨hA, hB, hC⟩ := ro3 hro
 have oa := Ro.open hA
 have ob := Ro.open hB
 have oc := Ro.open hC
 obtain ⟨aa, ca, qa, oa', rfl, hca, hma, -, had, hel⟩ := oa
 obtain ⟨ab, cb, qb, ob', rfl, hcb, hmb, -, hbd, hbl⟩ := ob
 obtain ⟨ac, cc, qc, oc', rfl, hcc, -⟩ := oc
 have hx0 := hx
 obtain ⟨hx1, hx2, hx3, hx4, hx5, hx6, hx7⟩ := hx0
 obtain ⟨cN, dN, eN, fN, hvN, _, _, _, hNd, hNe⟩ := hx1.open
 obtain ⟨cI, dI, eI, fI, hvI, _, _, _, hId, hIe⟩ := hx2.open
 obtain ⟨cB, dB, eB, fB, hvB, _⟩ := hx3.open
 refine go [9,10,60,2] ?_
 intro b4
 refine go [60,2] ?_
 intro b5
 refine go [1,7,8,9,9,10,2,3,0,2,50,0,7,8,15,9,10,2,13,1,7,8] ?_
 refine G.condP rfl (fun h11 => ?_) (fun h11 => ?_)
 ·refine go [9,10,2,50,8,60,12] ?_
  intro b14
  refine G.ownBlk (b := b14) (k := 1) (sz := 1) selT rfl (by omega) ?_
  refine G.op rfl (G.cR rfl rfl rfl rfl Tryz.func131 rfl rfl (may4 (.old hA) (.old hB) (.old hC) (may_ownN selD (fun x hx => by obtain rfl : x = _ := (by simpa using hx); exact ⟨by omega, by omega⟩))) (is_tr k _ _ _ ns ids bs 16 _ [0]) ?_)
  refine go [1,7,8,11,17,12] ?_
  rw [goodR_1 (show x.n.k = 1 from by assumption)]
  exact G.doneX1 (z) Y33 rfl rfl rfl subT
 refine go [9,10,2,13,1,7,8] ?_
 refine G.condP rfl (fun h16 => ?_) (fun h16 => ?_)
 ·obtain ⟨a, hxa, ha⟩ := hp2 (by assumption)
  have hNl : x.n.ns.length = 1 := by rw [hxa]; rfl
  have hE := hNe 0 (by omega)
  have hN0 : x.n.ns[0] = (a : Int) := by simp [hxa]
  rw [hN0] at hE
  refine G.seq ?_
  refine G.drawT (nn := 12) (p := []) (rem := 4095) [0, 0, 2, 4, 8, 0, 32, 64, 144, 256, 513, 2047] [0, 0, 2, 4, 8, 0, 32, 64, 144, 256, 513, 1024] kr ⟨rfl, by kernel_rfl, by kernel_rfl⟩ subT kr (fun hT5 => ?_)
  refine go [22,1,4093,3,1,22,5,4061,3,3,22,0,4060,50,8] ?_
  refine G.takeT hT5 (i := 2) (rem' := 4056) rfl rfl rfl kr (fun _ _ _ h => h) rfl ((pv_load (v := x.vN) Tryz.underlying29 rfl rfl (by exact blk_cell selD (by rfl))).cast hvN) subT ?_
  refine G.takeT hT5 (i := 3) (rem' := 4048) rfl rfl rfl kr (fun _ _ _ h => h) rfl (pv_ixSl (sz := 1) (k := 0) Tryz.underlying29 kr rfl rfl hNd rfl (by omega)) subT ?_
  refine G.takeT hT5 (i := 4) (rem' := 4032) rfl rfl rfl kr (fun _ _ _ h => h) rfl (pv_load (v := .int .i64 (a : Int)) Tryz.underlying3 rfl rfl (frz_int selD hE)) subT ?_
  refine go [24,6,3968] ?_
  refine G.turnOp rfl rfl (G.val rfl rfl ((pv_load (v := x.vB) Tryz.underlying31 rfl rfl (by exact blk_cell selD (by rfl))).cast hvB) ?_)
  refine go [26,22,7,3840,5,22,8,3584,6,24,9,3072,60,18] ?_
  intro b27
  refine go [26,24,10,2048] ?_
  refine G.ownBlk (b := b27) (k := 1) (sz := 1) selT rfl (by omega) ?_
  refine G.turnOp rfl rfl (G.cR rfl rfl rfl rfl Tryz.func131 rfl rfl (may4 (.old hA) (.old hB) (.old hC) (may_ownN selD (fun x hx => by obtain rfl : x = _ := (by simpa using hx); exact ⟨by omega, by omega⟩))) (is_tr k _ _ _ ns ids bs 16 _ [(a : Int) + (x.n.bs.length : Int)]) ?_)
  refine go [26,22,11,0,1,27,8,11,17,12] ?_
  rw [goodR_2 (show x.n.k = 2 from by assumption)]
  exact G.doneX1 (z) Y33 rfl rfl (by show Value.bool _ = Value.bool (decide (k = 16 ∧ ns = [n0 x.n.ns + _])); rw [n0_eq (show 0 < x.n.ns.length from by omega), hN0]) subT
 refine go [9,10,2,13,1,7,8] ?_
 refine G.condP rfl (fun h29 => ?_) (fun h29 => ?_)
 ·have hI1 := hp4 (by assumption)
  have hE := hIe 0 (by omega)
  have lx := hE.1
  have hx0 : x.n.ids[0]? = some x.n.ids[0] := List.getElem?_eq_getElem (by omega)
  refine G.seq ?_
  refine G.drawT (nn := 15) (p := []) (rem := 32767) [0, 1, 2, 4, 8, 24, 40, 72, 8, 264, 520, 1032, 2184, 4104, 16383] [0, 1, 2, 4, 8, 24, 40, 72, 8, 264, 520, 1032, 2184, 4104, 8192] kr ⟨rfl, by kernel_rfl, by kernel_rfl⟩ subT kr (fun hT7 => ?_)
  refine go [22,0,32766,3,0,24,1,32764,25,50,0,26,22,2,32760,13,22,3,32752,0] ?_
  refine G.partP (t := 34) rfl (fun h34 => ?_) (fun h34 => ?_)
  ·have hlt : 0 < ids.length := hy.2 (by assumption)
   have hG := Ro.arr8 (hbl 0 hlt)
   obtain ⟨lg, rg⟩ := hG
   have hy0 : ids[0]? = some ids[0] := List.getElem?_eq_getElem hlt
   refine go [22,4,32736,3,2,22,5,32704,50,0,22,6,32640,20,16] ?_
   refine G.takeT hT7 (i := 7) (rem' := 32512) rfl rfl rfl kr (fun _ _ _ h => h) rfl (pv_loadN (cs := ids[0].map vByte) Tryz.underlying52 rfl (by rw [List.length_map, lg]; kernel_rfl) rfl rg) subT ?_
   refine go [22,8,32256,3,2,24,9,31744] ?_
   refine G.turnOp rfl rfl (G.val rfl rfl ((pv_load (v := x.vI) Tryz.underlying30 rfl rfl (by exact blk_cell selD (by rfl))).cast hvI) ?_)
   refine go [26] ?_
   refine G.takeT hT7 (i := 10) (rem' := 30720) rfl rfl rfl kr (fun _ _ _ h => h) rfl (pv_ixSl (sz := 16) (k := 0) Tryz.underlying30 kr rfl rfl hId rfl (by omega)) subT ?_
   refine go [24,11,28672] ?_
   refine G.turnOp rfl rfl (G.val rfl rfl (pv_loadN (cs := x.n.ids[0].map vByte) Tryz.underlying52 rfl (by rw [List.length_map, lx]; kernel_rfl) rfl (frz_id selD hE (by omega))) ?_)
   refine go [26] ?_
   refine G.takeT hT7 (i := 12) (rem' := 24576) rfl rfl rfl kr (fun _ _ _ h => h) rfl (pv_eqlAr8 (a := ids[0]) (b := x.n.ids[0]) Tryz.underlying52 rfl kr Tryz.underlying5 kr rfl rfl lg lx) subT ?_
   refine go [22,13,16384,2,22,14,0,1,27,8,11,17,12] ?_
   rw [goodR_4 (show x.n.k = 4 from by assumption)]
   exact G.doneX1 (z) Y33 rfl rfl (by show Value.bool _ = Value.bool (decide (k = 18 ∧ ids[0]? = _)); rw [hy0, hx0]; simp [*]) subT
  refine go [23,4,32736,23,5,32704,23,6,32640,23,7,32512,23,8,32256,23,9,31744,23,10,30720,23,11,28672,23,12,24576,22,13,16384,2,22,14,0,1,27,8,11,17,12] ?_
  rw [goodR_4 (show x.n.k = 4 from by assumption)]
  exact G.doneX1 (z) Y33 rfl rfl (by show Value.bool _ = Value.bool (decide (k = 18 ∧ _)); simp [*]) subT
 refine go [13,16,8,9,9,10,2,3,0,2,50,0,2,14,0] ?_
 refine G.partP (t := 48) rfl (fun h48 => ?_) (fun h48 => ?_)
 ·refine go [4,4,4,2,2,0,4,4,4,4,4,4,4,2,2,7,8,60,1,9,10,1,7,8,11,12] ?_
  rw [goodR_no (by assumption) (by assumption) (by assumption) (Or.inl (by assumption))]
  exact G.doneX1 (z) Y33 rfl rfl rfl subT
 refine go [3,3,0,3,50,0,3,14,2,2,0] ?_
 refine G.partP (t := 53) rfl (fun h53 => ?_) (fun h53 => ?_)
 ·refine go [4,4,4,4,4,4,4,2,2,7,8,60,1,9,10,1,7,8,11,12] ?_
  rw [goodR_no (by assumption) (by assumption) (by assumption) (Or.inr (Or.inl (by assumption)))]
  exact G.doneX1 (z) Y33 rfl rfl rfl subT
 refine go [3,3,1,3,50,0,3,5,3,3,2] ?_
 refine G.want rfl rfl rfl (G.val rfl rfl ((pv_load (v := x.vI) Tryz.underlying30 rfl rfl (by exact blk_cell selD (by rfl))).cast hvI) ?_)
 refine go [3,5,3,14,2,2,7,8] ?_
 refine G.condP rfl (fun h61 => ?_) (fun h61 => ?_)
 ·refine go [9,10,1,7,8,11,12] ?_
  rw [goodR_no (by assumption) (by assumption) (by assumption) (Or.inr (Or.inr (show ns.length ≠ x.n.ids.length from by omega)))]
  exact G.doneX1 (z) Y33 rfl rfl rfl subT
 have h3 : x.n.k = 3 := by omega
 have hk : ¬ (x.n.k ≠ 3 ∨ (⟨k, ns, ids, bs⟩ : Nt).k ≠ 17 ∨ (⟨k, ns, ids, bs⟩ : Nt).ns.length ≠ x.n.ids.length) := by show ¬ (x.n.k ≠ 3 ∨ k ≠ 17 ∨ ns.length ≠ x.n.ids.length); omega
 have hk2 : ns.length = x.n.ids.length := by omega
 refine go [13,8,9,9,10,1,7,8,15] ?_
 refine G.loopK (X := Nat) (ts := [0, 5]) (fun i => i ≤ ns.length ∧ (∀ n ∈ ns.take i, n ≤ 1)) (fun i => [(7, .int .i64 (i : Int))]) (fun i => []) (fun i => ns.length - i) (x0 := 0) (.cons rfl (.cons rfl .nil)) subT (.cons .nil) apT (by first | exact trivial | ((try dsimp only) <;> exact ⟨Nat.zero_le _, (by simp)⟩)) (.consE rfl veqT .nil) (fun i hJ => ?_)
 try dsimp only at hJ
 try dsimp only
 obtain ⟨hki, hJ⟩ := hJ
 refine go [9,9,10,0,2,3,1,2,50,0,2,5,2,9,7,8] ?_
 refine G.condP rfl (fun h66 => ?_) (fun h66 => ?_)
 ·have hlt : i < ns.length := by omega
  have hE := hel i hlt
  refine go [13,8,9,15,9,10,2,3,1,2,50,0,0] ?_
  refine G.op rfl (G.val rfl rfl (pv_ixSl (sz := 1) (k := i) Tryz.underlying29 kr rfl rfl had rfl (by omega)) ?_)
  refine G.op rfl (G.val rfl rfl (pv_load (v := .int .i64 ns[i]) Tryz.underlying3 rfl rfl (ro_int hE)) ?_)
  refine go [2,10,7,8] ?_
  refine G.condP rfl (fun h74 => ?_) (fun h74 => ?_)
  ·refine go [9,10,1,7,8,11,17,12,12,17,12] ?_
   rw [goodR_bad h3 ⟨ns[i], List.getElem_mem hlt, by omega⟩]
   exact G.doneX1 (z) Y33 rfl rfl rfl subT
  refine go [13,16,8,10,0,2,6,1,7] ?_
  exact G.next (i + 1) (by first | exact trivial | ((try dsimp only) <;> exact ⟨by omega, take_all hJ hlt (by omega)⟩)) (by (try dsimp only); omega) (.consE rfl veqT (.cons rfl (.cons rfl .nil))) subT
 obtain rfl : i = ns.length := by omega
 rw [List.take_length] at hJ
 have hall := hJ
 refine go [18,14,14,19,8,9,9,10,1,7,8,15] ?_
 refine G.loopK (X := Nat × Value) (ts := [0, 5]) (fun st => st.1 ≤ ns.length) (fun st => [(8, .int .i64 (st.1 : Int))]) (fun st => [blk D 80 [z.bv, z.lv, .int .i64 z.cm, .int .i64 z.tk, .int .i64 (z.ph : Nat), z.notesv, .int .i64 (z.sent : Nat), .int .i64 (z.told : Nat), st.2, .int .i64 (z.rounds : Nat), .bool z.over, .int .i64 z.num, .int .i64 z.e], own 3 1 st.2 (lackI z.lacks z.told ns st.1).length ((lackI z.lacks z.told ns st.1).map vN)]) (fun st => ns.length - st.1) (x0 := (0, z.lacksv)) (.cons rfl (.cons rfl .nil)) subT (.cons .nil) apT Y27 (.consE rfl veqT .nil) (fun st hJ => ?_)
 obtain ⟨i, vl⟩ := st
 try dsimp only at hJ
 try dsimp only
 have hki := hJ
 have hLl := lackI_len z.lacks z.told ns i
 refine go [9,9,10,0,2,3,1,2,50,0,2,5,2,9,7,8] ?_
 refine G.condP rfl (fun h79 => ?_) (fun h79 => ?_)
 ·have hlt : i < ns.length := by omega
  have hE := hel i hlt
  refine go [13,8,9,15,9,10,2,3,1,2,50,0,0] ?_
  refine G.op rfl (G.val rfl rfl (pv_ixSl (sz := 1) (k := i) Tryz.underlying29 kr rfl rfl had rfl (by omega)) ?_)
  refine G.op rfl (G.val rfl rfl (pv_load (v := .int .i64 ns[i]) Tryz.underlying3 rfl rfl (ro_int hE)) ?_)
  refine go [2,13,7,8] ?_
  refine G.condP rfl (fun h87 => ?_) (fun h87 => ?_)
  ·refine G.drawE (nn := 17) (p := [own 3 1 vl _ _]) (rem := 16383) [0, 0, 2, 4, 8, 0, 32, 64, 128, 256, 0, 1536, 2048, 4112, 16383, 32767, 49151] [0, 0, 2, 4, 8, 0, 32, 64, 128, 256, 0, 1536, 2048, 4112, 1, 16384, 40960] [16, 15, 14] [65535, 32767, 16383] 14 kr ⟨rfl, by kernel_rfl, by kernel_rfl⟩ kr kr kr subT (fun hT19 => ?_)
   refine go [22,0,16382,0,22,1,16380,0,22,2,16376,8,22,3,16368,3,8,22,5,16336,0,22,6,16272,8,22,7,16144,3,7,22,10,15120,0,22,4,15104,50,0,24,8,14848,25,50,0,26] ?_
   refine G.takeT hT19 (i := 9) (rem' := 14336) rfl rfl rfl kr (fun _ _ _ h => h) rfl (pv_mul64 rfl rfl (by omega)) subT ?_
   refine G.takeT hT19 (i := 11) (rem' := 12288) rfl rfl rfl kr (fun _ _ _ h => h) rfl ((pv_add64 rfl rfl (by omega)).cast (v' := vN (z.told * 16 + i)) (congrArg _ (by omega))) subT ?_
   refine go [24,12,8192,60,18] ?_
   intro b100
   refine go [26,24,13,0] ?_
   refine G.turnOp rfl rfl (G.append (k := (lackI z.lacks z.told ns i).length) (j := 1) (cs := (lackI z.lacks z.told ns i).map vN) (news := [vN (z.told * 16 + i)]) (b := b100) (off := 0) rfl Tryz.underlying29 Tryz.infoInt' rfl rfl rfl selT (fun _ => rfl) (fun h => by cases h) rfl (blk_news (k := 1) selT rfl) (vN_one [z.told * 16 + i]) (by omega) (by omega) ?_)
   intro vn
   refine G.ownFact (v := vn) selT (fun hvn _ => ?_)
   rw [vN_snoc, ← lackI_hit hlt (show ns[i] = 0 from by assumption), show (lackI z.lacks z.told ns i).length + 1 = (lackI z.lacks z.told ns (i + 1)).length from by rw [lackI_hit hlt (show ns[i] = 0 from by assumption), List.length_append]; rfl]
   refine go [26,27] ?_
   refine G.tailS [16, 15] 14 rfl ?_
   refine go [25,8] ?_
   refine G.tailS [16] 15 rfl ?_
   refine go [25,3,8] ?_
   refine G.tailS [] 16 rfl ?_
   refine go [30,60,6,16,8,10,0,2,6,1,7] ?_
   exact G.next ((i + 1, vn)) Y25 (by (try dsimp only); omega) (.consE rfl veqT (.cons rfl (.cons rfl .nil))) subT
  rw [← lackI_skip hlt (show ¬ ns[i] = 0 from by assumption)]
  refine go [13,16,8,10,0,2,6,1,7] ?_
  exact G.next ((i + 1, vl)) Y25 (by (try dsimp only); omega) (.consE rfl veqT (.cons rfl (.cons rfl .nil))) subT
 obtain rfl : i = ns.length := by omega
 refine go [18,14,14,19,8,9,10,1,7,8,11] ?_
 rw [goodR_yes h3 hk hall]
 exact G.doneX1 ({ z with lacksv := vl, lacks := lackI z.lacks z.told ns ns.length }) (by first | exact trivial | ((try dsimp only) <;> exact ⟨rfl, ⟨hz.b, hz.l, hz.lk, hz.notes⟩, _, _, rfl⟩)) rfl rfl rfl subT
def answerR (r : RP) (q x : Nt) : RP :=
 if ncheckM x.k x.ns x.ids.length x.bs.length ≠ 0 then endR r 0 370
 else if (q.k = 1 ∨ q.k = 5) ∧ x.k = 19 then endR r (n0 x.ns) 0
 else if (q.k = 5 ∧ r.rounds < 3 ∧ 0 < r.l.length) ∧ x.k = 20 ∧ n0 x.ns = 6 then entR r 3
 else if x.k = 20 ∧ n0 x.ns ≠ 0 then endR r 0 (n0 x.ns)
 else if (goodR r q x).1 = false then endR (goodR r q x).2 0 370
 else if (goodR r q x).2.told + 1 = (goodR r q x).2.notes.length then entR { (goodR r q x).2 with told := (goodR r q x).2.told + 1 } ((goodR r q x).2.ph + 1)
 else { (goodR r q x).2 with told := (goodR r q x).2.told + 1 }
section
variable {r : RP} {q x : Nt}
theorem answerR_bad (h : ncheckM x.k x.ns x.ids.length x.bs.length ≠ 0) : answerR r q x = endR r 0 370 := if_pos h
theorem answerR_done (h : ncheckM x.k x.ns x.ids.length x.bs.length = 0) (h1 : (q.k = 1 ∨ q.k = 5) ∧ x.k = 19) : answerR r q x = endR r (n0 x.ns) 0 := (if_neg (not_not_intro h)).trans (if_pos h1)
theorem answerR_again (h : ncheckM x.k x.ns x.ids.length x.bs.length = 0) (h1 : ¬ ((q.k = 1 ∨ q.k = 5) ∧ x.k = 19)) (h2 : (q.k = 5 ∧ r.rounds < 3 ∧ 0 < r.l.length) ∧ x.k = 20 ∧ n0 x.ns = 6) : answerR r q x = entR r 3 := (if_neg (not_not_intro h)).trans ((if_neg h1).trans (if_pos h2))
theorem answerR_fail (h : ncheckM x.k x.ns x.ids.length x.bs.length = 0) (h1 : ¬ ((q.k = 1 ∨ q.k = 5) ∧ x.k = 19)) (h2 : ¬ ((q.k = 5 ∧ r.rounds < 3 ∧ 0 < r.l.length) ∧ x.k = 20 ∧ n0 x.ns = 6)) (h3 : x.k = 20 ∧ n0 x.ns ≠ 0) : answerR r q x = endR r 0 (n0 x.ns) := (if_neg (not_not_intro h)).trans ((if_neg h1).trans ((if_neg h2).trans (if_pos h3)))
theorem answerR_good (h : ncheckM x.k x.ns x.ids.length x.bs.length = 0) (h1 : ¬ ((q.k = 1 ∨ q.k = 5) ∧ x.k = 19)) (h2 : ¬ ((q.k = 5 ∧ r.rounds < 3 ∧ 0 < r.l.length) ∧ x.k = 20 ∧ n0 x.ns = 6)) (h3 : ¬ (x.k = 20 ∧ n0 x.ns ≠ 0)) : answerR r q x =
 if (goodR r q x).1 = false then endR (goodR r q x).2 0 370
 else if (goodR r q x).2.told + 1 = (goodR r q x).2.notes.length then entR { (goodR r q x).2 with told := (goodR r q x).2.told + 1 } ((goodR r q x).2.ph + 1)
 else { (goodR r q x).2 with told := (goodR r q x).2.told + 1 } := (if_neg (not_not_intro h)).trans ((if_neg h1).trans ((if_neg h2).trans (if_neg h3)))
theorem goodR_keep (r : RP) (q x : Nt) : ∃ lk, (goodR r q x).2 = { r with lacks := lk } ∧ lk.length ≤ r.lacks.length + x.ns.length ∧ ((goodR r q x).1 = true → q.k = 1 ∨ q.k = 2 ∨ q.k = 3 ∨ q.k = 4) ∧ ((∀ i ∈ r.lacks, i < r.l.length) → (q.k = 3 → r.told * 16 + q.ids.length ≤ r.l.length) → ∀ i ∈ lk, i < r.l.length) := by
 have h0 : ∃ lk, r = { r with lacks := lk } ∧ lk.length ≤ r.lacks.length + x.ns.length ∧ ((∀ i ∈ r.lacks, i < r.l.length) → (q.k = 3 → r.told * 16 + q.ids.length ≤ r.l.length) → ∀ i ∈ lk, i < r.l.length) := ⟨r.lacks, rfl, Nat.le_add_right _ _, fun h _ => h⟩
 obtain ⟨lk, e1, e2, e3⟩ := h0
 by_cases h1 : q.k = 1
 ·rw [goodR_1 h1]; exact ⟨lk, e1, e2, fun _ => .inl h1, e3⟩
 by_cases h2 : q.k = 2
 ·rw [goodR_2 h2]; exact ⟨lk, e1, e2, fun _ => .inr (.inl h2), e3⟩
 by_cases h4 : q.k = 4
 ·rw [goodR_4 h4]; exact ⟨lk, e1, e2, fun _ => .inr (.inr (.inr h4)), e3⟩
 by_cases h : q.k ≠ 3 ∨ x.k ≠ 17 ∨ x.ns.length ≠ q.ids.length
 ·rw [goodR_no h1 h2 h4 h]; exact ⟨lk, e1, e2, (fun h => by cases h), e3⟩
 have h3 : q.k = 3 := by omega
 by_cases hb : ∃ n ∈ x.ns, 1 < n
 ·rw [goodR_bad h3 hb]; exact ⟨lk, e1, e2, (fun h => by cases h), e3⟩
 rw [goodR_yes h3 h (fun n hn => by
  by_cases hk : n ≤ 1
  ·exact hk
  exact absurd ⟨n, hn, by omega⟩ hb)]
 refine ⟨_, rfl, lackI_len _ _ _ _, fun _ => .inr (.inr (.inl h3)), fun hl hq i hi => ?_⟩
 rcases lackI_mem hi with hi | hi
 ·exact hl i hi
 have := hq h3
 omega
theorem check_ns {k : Int} {ns : List Int} {il bl : Nat} (h : ncheckM k ns il bl = 0) : ns.length ≤ 128 ∧ il ≤ 16 ∧ bl ≤ 1024 := by
 obtain ⟨s, h1, h2⟩ := check_some h
 have h3 := checkS_zero h2
 have h4 := shOk (shM_in h1).2.2
 omega
end
theorem renter_tr {F : Nat → Prop} {W : World} (D : Nat) (z : RZ) (k : Nat) (hk : 1 ≤ k ∧ k ≤ 5) (hz : RvOk F W z) (hg : RgOk z.rp) (hr : z.rounds ≤ 1000) : Tr Tryz.prog 61 #[.pointer (some ⟨D, 0, none⟩), .int .i64 (k : Int)] [] [blk D 80 [z.bv, z.lv, .int .i64 z.cm, .int .i64 z.tk, .int .i64 (z.ph : Nat), z.notesv, .int .i64 (z.sent : Nat), .int .i64 (z.told : Nat), z.lacksv, .int .i64 (z.rounds : Nat), .bool z.over, .int .i64 z.num, .int .i64 z.e], frz F W, own 3 1 z.lacksv z.lacks.length (z.lacks.map vN)]
 (TX (fun x : RZ × (Nat → Prop) × World => Up F W x.2.1 x.2.2 ∧ RvOk x.2.1 x.2.2 x.1 ∧ x.1.rp = entR z.rp k) (fun _ => .tuple #[]) (fun x => [blk D 80 [x.1.bv, x.1.lv, .int .i64 x.1.cm, .int .i64 x.1.tk, .int .i64 (x.1.ph : Nat), x.1.notesv, .int .i64 (x.1.sent : Nat), .int .i64 (x.1.told : Nat), x.1.lacksv, .int .i64 (x.1.rounds : Nat), .bool x.1.over, .int .i64 x.1.num, .int .i64 x.1.e], frz x.2.1 x.2.2, own 3 1 x.1.lacksv x.1.lacks.length (x.1.lacks.map vN)])) := by
 rcases (show k = 1 ∨ k = 2 ∨ k = 3 ∨ k = 4 ∨ k = 5 by omega) with rfl | rfl | rfl | rfl | rfl
 ·exact renter1_tr D z hz hg hr
 ·exact renter2_tr D z hz hg hr
 ·exact renter3_tr D z hz hg hr
 ·exact renter4_tr D z hz hg (by omega)
 exact renter5_tr D z hz hg (by omega)
set_option maxHeartbeats 4000000 in
theorem answer_tr {F : Nat → Prop} {W : World} {Pv1 Pv2 Pv3 : Nat → Prop} (k : Int) (v1 v2 v3 : Value) (ns : List Int) (ids : List (List UInt8)) (bs : List UInt8) (D : Nat) (z : RZ) (x : NV) (hz : RvOk F W z) (hx : NvOk F W x) (hg : RcOk z.rp) (hph : x.n.k = (z.ph : Int) ∧ 1 ≤ z.ph ∧ z.ph ≤ 5) (hp2 : x.n.k = 2 → ∃ a : Nat, x.n.ns = [(a : Int)] ∧ a ≤ 100000000) (hp4 : x.n.k = 4 → x.n.ids.length = 1) (hp3 : x.n.k = 3 → z.told * 16 + x.n.ids.length ≤ z.l.length) (hlk : z.lacks.length ≤ 10000000) : Tr Tryz.prog 63 #[.pointer (some ⟨D, 0, none⟩), .agg #[.int .i64 x.n.k, x.vN, x.vI, x.vB], .agg #[.int .i64 k, v1, v2, v3]] [slc rInt Pv1 v1 ns, slc rID Pv2 v2 ids, slc rByte Pv3 v3 bs] [blk D 80 [z.bv, z.lv, .int .i64 z.cm, .int .i64 z.tk, .int .i64 (z.ph : Nat), z.notesv, .int .i64 (z.sent : Nat), .int .i64 (z.told : Nat), z.lacksv, .int .i64 (z.rounds : Nat), .bool z.over, .int .i64 z.num, .int .i64 z.e], frz F W, own 3 1 z.lacksv z.lacks.length (z.lacks.map vN)]
 (TX (fun y : RZ × (Nat → Prop) × World => Up F W y.2.1 y.2.2 ∧ RvOk y.2.1 y.2.2 y.1 ∧ y.1.rp = answerR z.rp x.n ⟨k, ns, ids, bs⟩) (fun _ => .tuple #[]) (fun y => [blk D 80 [y.1.bv, y.1.lv, .int .i64 y.1.cm, .int .i64 y.1.tk, .int .i64 (y.1.ph : Nat), y.1.notesv, .int .i64 (y.1.sent : Nat), .int .i64 (y.1.told : Nat), y.1.lacksv, .int .i64 (y.1.rounds : Nat), .bool y.1.over, .int .i64 y.1.num, .int .i64 y.1.e], frz y.2.1 y.2.2, own 3 1 y.1.lacksv y.1.lacks.length (y.1.lacks.map vN)])) := by
 refine Tr.of (l := [(0, .pointer (some ⟨D, 0, none⟩)), (1, .agg #[.int .i64 x.n.k, x.vN, x.vI, x.vB]), (2, .agg #[.int .i64 k, v1, v2, v3])]) Tryz.func63 rfl (n := 118) rfl (.cons rfl (.cons rfl (.cons rfl .nil))) (fun w0 hro => ?_)
 obtain ⟨hA, hB, hC⟩ := ro3 hro
 have oa := Ro.open hA
 have ob := Ro.open hB
 have oc := Ro.open hC
 obtain ⟨aa, ca, qa, oa', rfl, hca, hma, -, had, hel⟩ := oa
 obtain ⟨ab, cb, qb, ob', rfl, hcb, hmb, -, hbd, hbl⟩ := ob
 obtain ⟨ac, cc, qc, oc', rfl, hcc, -⟩ := oc
 have hx0 := hx
 obtain ⟨hx1, hx2, hx3, hx4, hx5, hx6, hx7⟩ := hx0
 have hvN1 := hx1.one
 have hvI1 := hx2.one
 have hvB1 := hx3.one
 obtain ⟨cL, dL, eL, fL, hvL, _⟩ := hz.l.open
 have hgr : z.rounds ≤ 1000 := hg.rounds
 have hts : z.told ≤ z.sent := hg.told
 have hsn : z.sent ≤ z.notes.length := by have := hg.sent; rwa [rp_notes] at this
 have hfew : z.notes.length ≤ 200000000 := by have := hg.few; rwa [rp_notes] at this
 have hrl := rp_l z
 obtain ⟨aN9, cN9, _, _, hvN9, _⟩ := hz.notes.open
 refine go [9,10,60,2] ?_
 intro b4
 refine go [60,2] ?_
 intro b5
 refine go [7,8,9] ?_
 refine G.cutK (X := Unit) (ts := [0, 4, 5]) (p := []) (fun _ => True) (fun _ => [(6, .bool (decide (x.n.k = 1 ∨ x.n.k = 5)))]) (fun _ => []) (.cons rfl (.cons rfl (.cons rfl .nil))) subT (.cons .nil) apT ?_ ?_
 ·refine go [10,2,3,0,2,50,0,2,13,0] ?_
  refine G.partP (t := 11) rfl (fun h11 => ?_) (fun h11 => ?_)
  ·refine go [4,4,4,2,2,1,7] ?_
   exact G.meet (()) trT (.consE rfl (congrArg Value.bool Y15) (.cons rfl (.cons rfl (.cons rfl .nil)))) subT
  refine go [3,3,0,3,50,0,3,13,2,2,1,7] ?_
  exact G.meet (()) trT (.consE rfl (congrArg Value.bool Y15) (.cons rfl (.cons rfl (.cons rfl .nil)))) subT
 intro _ hJ
 try dsimp only at hJ
 try dsimp only
 refine G.seq ?_
 refine G.cutK (X := Unit) (ts := [0, 4, 5, 6]) (p := []) (fun _ => True) (fun _ => [(7, .bool (decide (x.n.k = 5 ∧ z.rounds < 3 ∧ 0 < z.l.length)))]) (fun _ => []) (.cons rfl (.cons rfl (.cons rfl (.cons rfl .nil)))) subT (.cons .nil) apT ?_ ?_
 ·refine go [10,2,3,0,2,50,0,2,13,0] ?_
  refine G.partP (t := 19) rfl (fun h19 => ?_) (fun h19 => ?_)
  ·refine go [3,0,3,8,3,3,9,3,50,0,3,9,2,2,0] ?_
   refine G.partP (t := 26) rfl (fun h26 => ?_) (fun h26 => ?_)
   ·refine go [3,0,3,8,3,3,1] ?_
    refine G.want rfl rfl rfl (G.val rfl rfl ((pv_load (v := z.lv) Tryz.underlying40 rfl rfl (by exact blk_cell selD (by rfl))).cast hvL) ?_)
    refine go [3,5,3,10,2,2,1,7] ?_
    exact G.meet (()) trT (.consE rfl (congrArg Value.bool Y15) (.cons rfl (.cons rfl (.cons rfl (.cons rfl .nil))))) subT
   refine go [4,4,4,4,4,4,2,2,1,7] ?_
   exact G.meet (()) trT (.consE rfl (congrArg Value.bool Y15) (.cons rfl (.cons rfl (.cons rfl (.cons rfl .nil))))) subT
  refine go [4,4,4,4,4,2,2,0,4,4,4,4,4,4,2,2,1,7] ?_
  exact G.meet (()) trT (.consE rfl (congrArg Value.bool Y15) (.cons rfl (.cons rfl (.cons rfl (.cons rfl .nil))))) subT
 intro _ hJ
 try dsimp only at hJ
 try dsimp only
 refine go [15,9,10,2,50,8] ?_
 refine G.op rfl (G.cR rfl rfl rfl rfl Tryz.func90 rfl rfl (may3 (.old hA) (.old hB) (.old hC)) (checkR k _ _ _ ns ids bs) ?_)
 refine go [2,14,1,7,8] ?_
 refine G.condP rfl (fun h58 => ?_) (fun h58 => ?_)
 ·refine go [10,0] ?_
  refine G.op rfl (G.cS rfl rfl rfl rfl Tryz.func91 rfl rfl subT may0 (rend_tr D z 0 370) apT ?_)
  intro x63 hJ
  try dsimp only at hJ
  try dsimp only
  refine go [7,16] ?_
  rw [answerR_bad (show ncheckM k ns ids.length bs.length ≠ 0 from by omega)]
  exact G.doneXE ((z.end 0 370, F, W)) (by first | exact trivial | ((try dsimp only) <;> exact ⟨Up.refl _ _, rend_ok hz _ _, rfl⟩)) rfl rfl subT
 have hck : ncheckM k ns ids.length bs.length = 0 := by omega
 have hyy := check_y (ids := ids) (bs := bs) hck
 have hcn := check_ns hck
 refine G.seq ?_
 refine G.cutK (X := Unit) (ts := [0, 4, 5, 7]) (p := []) (fun _ => True) (fun _ => [(64, .bool (decide ((x.n.k = 1 ∨ x.n.k = 5) ∧ k = 19)))]) (fun _ => []) (.cons rfl (.cons rfl (.cons rfl (.cons rfl .nil)))) subT (.cons .nil) apT ?_ ?_
 ·refine go [10,0,0] ?_
  refine G.partP (t := 66) rfl (fun h66 => ?_) (fun h66 => ?_)
  ·refine go [3,3,0,3,50,0,3,13,2,2,1,7] ?_
   exact G.meet (()) trT (.consE rfl (congrArg Value.bool Y15) (.cons rfl (.cons rfl (.cons rfl (.cons rfl .nil))))) subT
  refine go [4,4,4,2,2,1,7] ?_
  exact G.meet (()) trT (.consE rfl (congrArg Value.bool Y15) (.cons rfl (.cons rfl (.cons rfl (.cons rfl .nil))))) subT
 intro _ hJ
 try dsimp only at hJ
 try dsimp only
 refine G.condP rfl (fun h64 => ?_) (fun h64 => ?_)
 ·have hpa : (x.n.k = 1 ∨ x.n.k = 5) ∧ (⟨k, ns, ids, bs⟩ : Nt).k = 19 := by assumption
  have hlt : 0 < ns.length := hyy.1 Y60
  have hE := hel 0 hlt
  have h0 : n0 ns = ns[0] := n0_eq hlt
  refine go [10,0,2,3,1,2,50,0] ?_
  refine G.op rfl (G.val rfl rfl (pv_ixSl (sz := 1) (k := 0) Tryz.underlying29 kr rfl rfl had rfl (by omega)) ?_)
  refine G.op rfl (G.val rfl rfl (pv_load (v := .int .i64 ns[0]) Tryz.underlying3 rfl rfl (ro_int hE)) ?_)
  refine G.op rfl (G.cS rfl rfl rfl rfl Tryz.func91 rfl rfl subT may0 (rend_tr D z ns[0] 0) apT ?_)
  intro x76 hJ
  try dsimp only at hJ
  try dsimp only
  refine go [7,16] ?_
  rw [answerR_done hck hpa]
  try dsimp only
  rw [h0]
  exact G.doneXE ((z.end ns[0] 0, F, W)) (by first | exact trivial | ((try dsimp only) <;> exact ⟨Up.refl _ _, rend_ok hz _ _, rfl⟩)) rfl rfl subT
 have hpa : ¬ ((x.n.k = 1 ∨ x.n.k = 5) ∧ (⟨k, ns, ids, bs⟩ : Nt).k = 19) := by assumption
 refine G.seq ?_
 refine G.cutK (X := Unit) (ts := [0, 4, 5]) (p := []) (fun _ => True) (fun _ => [(77, .bool (decide ((x.n.k = 5 ∧ z.rounds < 3 ∧ 0 < z.l.length) ∧ k = 20 ∧ n0 ns = 6)))]) (fun _ => []) (.cons rfl (.cons rfl (.cons rfl .nil))) subT (.cons .nil) apT ?_ ?_
 ·refine go [10,0,0] ?_
  refine G.partP (t := 79) rfl (fun h79 => ?_) (fun h79 => ?_)
  ·refine go [3,3,0,3,50,0,3,13,2,2,0] ?_
   refine G.partP (t := 84) rfl (fun h84 => ?_) (fun h84 => ?_)
   ·have hlt : 0 < ns.length := hyy.1 Y60
    have hE := hel 0 hlt
    have h0 : n0 ns = ns[0] := n0_eq hlt
    refine go [3,3,1,3,50,0] ?_
    refine G.want rfl rfl rfl (G.val rfl rfl (pv_ixSl (sz := 1) (k := 0) Tryz.underlying29 kr rfl rfl had rfl (by omega)) ?_)
    refine G.want rfl rfl rfl (G.val rfl rfl (pv_load (v := .int .i64 ns[0]) Tryz.underlying3 rfl rfl (ro_int hE)) ?_)
    refine go [3,13,2,2,1,7] ?_
    exact G.meet (()) trT (.consE rfl (congrArg Value.bool Y15) (.cons rfl (.cons rfl (.cons rfl .nil)))) subT
   refine go [4,4,4,4,4,2,2,1,7] ?_
   exact G.meet (()) trT (.consE rfl (congrArg Value.bool Y15) (.cons rfl (.cons rfl (.cons rfl .nil)))) subT
  refine go [4,4,4,2,2,0,4,4,4,4,4,2,2,1,7] ?_
  exact G.meet (()) trT (.consE rfl (congrArg Value.bool Y15) (.cons rfl (.cons rfl (.cons rfl .nil)))) subT
 intro _ hJ
 try dsimp only at hJ
 try dsimp only
 refine G.condP rfl (fun h77 => ?_) (fun h77 => ?_)
 ·have hpb : (x.n.k = 5 ∧ z.rp.rounds < 3 ∧ 0 < z.rp.l.length) ∧ (⟨k, ns, ids, bs⟩ : Nt).k = 20 ∧ n0 (⟨k, ns, ids, bs⟩ : Nt).ns = 6 := by rw [hrl]; assumption
  refine go [10,0] ?_
  refine G.op rfl (G.cS rfl rfl rfl rfl Tryz.func61 rfl rfl subT may0 (renter_tr (F := F) (W := W) D z 3 (by omega) hz hg.toRgOk hgr) apT ?_)
  intro x92 hJ
  obtain ⟨z3, F3, W3⟩ := x92
  try dsimp only at hJ
  try dsimp only
  refine go [7,16] ?_
  rw [answerR_again hck hpa hpb]
  exact G.doneXE ((z3, F3, W3)) Y30 rfl rfl subT
 have hpb : ¬ ((x.n.k = 5 ∧ z.rp.rounds < 3 ∧ 0 < z.rp.l.length) ∧ (⟨k, ns, ids, bs⟩ : Nt).k = 20 ∧ n0 (⟨k, ns, ids, bs⟩ : Nt).ns = 6) := by rw [hrl]; assumption
 refine G.seq ?_
 refine G.cutK (X := Unit) (ts := [0, 4, 5]) (p := []) (fun _ => True) (fun _ => [(93, .bool (decide (k = 20 ∧ n0 ns ≠ 0)))]) (fun _ => []) (.cons rfl (.cons rfl (.cons rfl .nil))) subT (.cons .nil) apT ?_ ?_
 ·refine go [10,2,3,0,2,50,0,2,13,0] ?_
  refine G.partP (t := 97) rfl (fun h97 => ?_) (fun h97 => ?_)
  ·have hlt : 0 < ns.length := hyy.1 Y60
   have hE := hel 0 hlt
   have h0 : n0 ns = ns[0] := n0_eq hlt
   refine go [3,3,1,3,50,0] ?_
   refine G.want rfl rfl rfl (G.val rfl rfl (pv_ixSl (sz := 1) (k := 0) Tryz.underlying29 kr rfl rfl had rfl (by omega)) ?_)
   refine G.want rfl rfl rfl (G.val rfl rfl (pv_load (v := .int .i64 ns[0]) Tryz.underlying3 rfl rfl (ro_int hE)) ?_)
   refine go [3,14,2,2,1,7] ?_
   exact G.meet (()) trT (.consE rfl (congrArg Value.bool Y15) (.cons rfl (.cons rfl (.cons rfl .nil)))) subT
  refine go [4,4,4,4,4,2,2,1,7] ?_
  exact G.meet (()) trT (.consE rfl (congrArg Value.bool Y15) (.cons rfl (.cons rfl (.cons rfl .nil)))) subT
 intro _ hJ
 try dsimp only at hJ
 try dsimp only
 refine G.condP rfl (fun h93 => ?_) (fun h93 => ?_)
 ·have hpc : (⟨k, ns, ids, bs⟩ : Nt).k = 20 ∧ n0 (⟨k, ns, ids, bs⟩ : Nt).ns ≠ 0 := by assumption
  have hlt : 0 < ns.length := hyy.1 Y60
  have hE := hel 0 hlt
  have h0 : n0 ns = ns[0] := n0_eq hlt
  refine go [10,0,2,3,1,2,50,0] ?_
  refine G.op rfl (G.val rfl rfl (pv_ixSl (sz := 1) (k := 0) Tryz.underlying29 kr rfl rfl had rfl (by omega)) ?_)
  refine G.op rfl (G.val rfl rfl (pv_load (v := .int .i64 ns[0]) Tryz.underlying3 rfl rfl (ro_int hE)) ?_)
  refine G.op rfl (G.cS rfl rfl rfl rfl Tryz.func91 rfl rfl subT may0 (rend_tr D z 0 ns[0]) apT ?_)
  intro x109 hJ
  try dsimp only at hJ
  try dsimp only
  refine go [7,16] ?_
  rw [answerR_fail hck hpa hpb hpc]
  try dsimp only
  rw [h0]
  exact G.doneXE ((z.end 0 ns[0], F, W)) (by first | exact trivial | ((try dsimp only) <;> exact ⟨Up.refl _ _, rend_ok hz _ _, rfl⟩)) rfl rfl subT
 have hpc : ¬ ((⟨k, ns, ids, bs⟩ : Nt).k = 20 ∧ n0 (⟨k, ns, ids, bs⟩ : Nt).ns ≠ 0) := by assumption
 refine go [9,10,0,2,50,8,2,50,8] ?_
 refine G.op rfl (G.cS rfl rfl rfl rfl Tryz.func92 rfl rfl subT (may3 (.old hA) (.old hB) (.old hC)) (good_tr (F := F) (W := W) k _ _ _ ns ids bs D z x hz hx hyy hp2 hp4 (by omega) hlk) apT ?_)
 intro x114 hJ
 obtain z2 := x114
 try dsimp only at hJ
 try dsimp only
 obtain ⟨hrp, hz2, v2, lk2, hzz⟩ := hJ
 subst hzz
 try dsimp only
 obtain ⟨lk9, hk1, hk2, hk3, hk4⟩ := goodR_keep z.rp x.n ⟨k, ns, ids, bs⟩
 rw [← hrp] at hk1
 obtain rfl : lk2 = lk9 := congrArg RP.lacks hk1
 have hk5 := hk4 hg.lks (fun h => by rw [hrl]; exact hp3 h)
 replace hk2 : lk2.length ≤ z.lacks.length + ns.length := hk2
 obtain ⟨gb, hgb⟩ : ∃ b, (goodR z.rp x.n ⟨k, ns, ids, bs⟩).1 = b := ⟨_, rfl⟩
 rw [hgb] at hk3
 rw [hgb]
 have hgo := answerR_good (r := z.rp) (q := x.n) (x := ⟨k, ns, ids, bs⟩) hck hpa hpb hpc
 rw [hgb, ← hrp] at hgo
 refine go [2,25,1,7,8] ?_
 refine G.cond rfl (fun h110 => ?_) (fun h110 => ?_)
 ·have hgf : gb = false := by simpa using h110
  rw [if_pos hgf] at hgo
  refine go [10,0] ?_
  refine G.op rfl (G.cS rfl rfl rfl rfl Tryz.func91 rfl rfl subT may0 (rend_tr D { z with lacksv := v2, lacks := lk2 } 0 370) apT ?_)
  intro x117 hJ
  try dsimp only at hJ
  try dsimp only
  refine go [7,16] ?_
  rw [hgo]
  exact G.doneXE ((({ z with lacksv := v2, lacks := lk2 } : RZ).end 0 370, F, W)) (by first | exact trivial | ((try dsimp only) <;> exact ⟨Up.refl _ _, rend_ok hz2 _ _, rfl⟩)) rfl rfl subT
 have hgt : gb = true := by simpa using h110
 rw [if_neg (by rw [hgt]; exact fun h => by cases h)] at hgo
 have hq4 := hk3 hgt
 have hph4 : z.ph ≤ 4 := by omega
 refine go [9,10,0,2,8,2,3,7,2,50,0] ?_
 refine G.op rfl (G.val rfl rfl ((pv_add64 rfl rfl (by omega)).cast (v' := .int .i64 ((z.told + 1 : Nat) : Int)) (congrArg _ (by omega))) ?_)
 refine go [2,8,2,3,7,21,7,8,9] ?_
 refine G.drawT (nn := 10) (p := []) (rem := 1023) [0, 1, 2, 4, 0, 16, 32, 64, 128, 264] [0, 1, 2, 4, 0, 16, 32, 64, 128, 264] kr ⟨rfl, by kernel_rfl, by kernel_rfl⟩ subT kr (fun hT4 => ?_)
 refine go [22,0,1022,0,22,1,1020,8,22,2,1016,3,7,22,4,1000,0,22,5,968,8,22,6,904,3,5,22,3,896,50,0,24,7,768] ?_
 refine G.turnOp rfl rfl (G.val rfl rfl ((pv_load (v := z.notesv) Tryz.underlying55 rfl rfl (by exact blk_cell selD (by rfl))).cast hvN9) ?_)
 refine go [26,22,8,512,5,22,9,0,13,27,8] ?_
 refine G.condP rfl (fun h50 => ?_) (fun h50 => ?_)
 ·have hpe : z.told + 1 = z.notes.length := by omega
  rw [if_pos (show ({ z with lacksv := v2, lacks := lk2 } : RZ).rp.told + 1 = ({ z with lacksv := v2, lacks := lk2 } : RZ).rp.notes.length from by rw [rp_notes]; exact hpe)] at hgo
  refine go [10,0,0,2,8,2,3,4,2,50,0] ?_
  refine G.op rfl (G.val rfl rfl ((pv_add64 rfl rfl (by omega)).cast (v' := .int .i64 ((z.ph + 1 : Nat) : Int)) (congrArg _ (by omega))) ?_)
  refine G.op rfl (G.cS rfl rfl rfl rfl Tryz.func61 rfl rfl subT may0 (renter_tr (F := F) (W := W) D { z with lacksv := v2, lacks := lk2, told := z.told + 1 } (z.ph + 1) (by omega) ⟨hz2.b, hz2.l, hz2.lk, hz2.notes⟩ ⟨hg.cm, hg.tk, hg.b0, hg.b, hg.l, hk5, by show lk2.length ≤ _; omega⟩ hgr) apT ?_)
  intro x57 hJ
  obtain ⟨z3, F3, W3⟩ := x57
  try dsimp only at hJ
  try dsimp only
  refine go [7,16] ?_
  rw [hgo]
  exact G.doneXE ((z3, F3, W3)) (by first | exact trivial | ((try dsimp only) <;> exact ⟨hJ.1, hJ.2.1, hJ.2.2.trans rfl⟩)) rfl rfl subT
 have hpe : ¬ z.told + 1 = z.notes.length := by omega
 rw [if_neg (show ¬ ({ z with lacksv := v2, lacks := lk2 } : RZ).rp.told + 1 = ({ z with lacksv := v2, lacks := lk2 } : RZ).rp.notes.length from by rw [rp_notes]; exact hpe)] at hgo
 refine go [13,16] ?_
 rw [hgo]
 exact G.doneXE (({ z with lacksv := v2, lacks := lk2, told := z.told + 1 }, F, W)) (by first | exact trivial | ((try dsimp only) <;> exact ⟨Up.refl _ _, ⟨hz2.b, hz2.l, hz2.lk, hz2.notes⟩, rfl⟩)) rfl rfl subT
theorem takeC_16 {acc : List (List UInt8 × List UInt8)} {b : List UInt8} (h : ∀ p ∈ acc, p.1.length = 16) : ∀ p ∈ takeC acc b, p.1.length = 16 := fun p hp => by
 unfold takeC at hp
 split at hp
 ·exact h p hp
 rcases List.mem_append.1 hp with hp | hp
 ·exact h p hp
 obtain rfl : p = _ := by simpa using hp
 exact nameM_len b
theorem collC_16 {acc : List (List UInt8 × List UInt8)} (h : ∀ p ∈ acc, p.1.length = 16) (l : List (List UInt8)) : ∀ p ∈ collC acc l, p.1.length = 16 := by
 induction l generalizing acc with
 | nil => exact h
 | cons b l ih => exact ih (takeC_16 h)
theorem makeC_16 (es : List En) : ∀ p ∈ makeC es, p.1.length = 16 := collC_16 (fun p hp => by cases hp) _
theorem nms_16 {ck : List CT} (h : ∀ p ∈ cks ck, p.1.length = 16) : all16 (nmsC ck) := fun x hx => by
 obtain ⟨p, hp, rfl⟩ := List.mem_map.1 hx
 exact h p hp
theorem takeC_in {acc : List (List UInt8 × List UInt8)} {b : List UInt8} (h : nameM b ∈ acc.map (·.1)) : takeC acc b = acc := if_pos h
theorem takeC_new {acc : List (List UInt8 × List UInt8)} {b : List UInt8} (h : ¬ nameM b ∈ acc.map (·.1)) : takeC acc b = acc ++ [(nameM b, b)] := if_neg h
theorem nms_len (ck : List CT) : (nmsC ck).length = ck.length := by unfold nmsC cks; simp
set_option maxHeartbeats 4000000 in
theorem mmakeR_tr {Ps : Nat → Prop} (c k t : Int) (v : Value) (xs : List ET) (hd : ∀ x ∈ xs, x.1.data.length ≤ 10000) : Tr Tryz.prog 59 #[.int .i64 c, .int .i64 k, .int .i64 t, v] [slc rEV Ps v xs] []
 (TX (fun z : (Value × List IT) × Value × List CT => its z.1.2 = (mkM (⟨c, k, 0, t⟩ : Mh) (ens xs)).1.2 ∧ cks z.2.2 = (mkM (⟨c, k, 0, t⟩ : Mh) (ens xs)).2.1) (fun z => .tuple #[.agg #[.int .i64 (mkM (⟨c, k, 0, t⟩ : Mh) (ens xs)).1.1.c, .int .i64 (mkM (⟨c, k, 0, t⟩ : Mh) (ens xs)).1.1.k, .int .i64 (mkM (⟨c, k, 0, t⟩ : Mh) (ens xs)).1.1.n, .int .i64 (mkM (⟨c, k, 0, t⟩ : Mh) (ens xs)).1.1.t, z.1.1], z.2.1, .int .i64 (mkM (⟨c, k, 0, t⟩ : Mh) (ens xs)).2.2]) (fun z => [own 104 6 z.1.1 z.1.2.length (z.1.2.flatMap itC), datI 52 z.1.2, own 54 17 z.2.1 z.2.2.length (z.2.2.flatMap chC), datD 5 z.2.2])) := by
 refine Tr.of (l := [(0, .int .i64 c), (1, .int .i64 k), (2, .int .i64 t), (3, v)]) Tryz.func59 rfl (n := 128) rfl (.cons rfl (.cons rfl (.cons rfl (.cons rfl .nil)))) (fun w0 hro => ?_)
 have hv := ro1 hro
 have hv' := hv
 obtain ⟨av, cv, bv, fv, rfl, hcapv, hmaxv, hnilv, hadv, helv⟩ := Ro.openT hv
 have hel' := ens_length xs
 have hEn : ∀ e ∈ ens xs, EnOk e ∧ e.data.length ≤ 10000 := fun e he => by obtain ⟨x, hx, rfl⟩ := List.mem_map.1 he; obtain ⟨q, hq, rfl⟩ := List.getElem_of_mem hx; exact ⟨Ro.evOk (helv q hq), hd _ hx⟩
 refine go [9,10,60,10] ?_
 intro b8
 refine go [1,1,7,8,9,10,0] ?_
 refine G.op rfl (G.cR rfl rfl rfl rfl Tryz.func81 rfl rfl (may1 (.old hv)) (tcheckR_tr _ xs) ?_)
 refine go [0,2,7,2,7,1,1,7,8,9,9,10,0,2,14,7,8] ?_
 refine G.condP rfl (fun h29 => ?_) (fun h29 => ?_)
 ·refine go [9,10,2,50,11,0,20,1,1,7,8,11,12] ?_
  rw [mkM_bad (by assumption)]
  refine G.ownNil 104 6 ?_
  refine G.datINil 52 ?_
  refine go [60,11] ?_
  refine G.datDNil 5 ?_
  exact G.doneG (((.slice none 0 0, []), .slice none 0 0, [])) Y48 rfl (Rv.cellN (cs := [_, _, _, _, _]) rfl Tryz.underlying39 rfl kr Y46 (Rv.tmp rfl (Rv.tmp rfl Rv.nil))) rfl subT
 obtain ⟨h200, -, -⟩ := checkT_zero (es := ens xs) (by omega)
 have hz0 : (checkT (ens xs)).1 = 0 := by omega
 refine go [13,8,9,10,0,0,0,2,50,11,60,10] ?_
 intro b13
 refine go [20,7,8,9,10,1,7,8,9,10,1,7,8,9,9,10,1,7,8,15] ?_
 refine G.ownNil 104 6 ?_
 refine G.datINil 52 ?_
 refine go [60,11] ?_
 refine G.datDNil 5 ?_
 refine go [60,4] ?_
 refine G.loopK (X := Nat × Value × Value × (List CT) × Value × (List IT)) (ts := [3, 8, 9, 10, 13]) (fun st => st.1 ≤ xs.length ∧ (cks st.2.2.2.1 = makeC ((ens xs).take st.1) ∧ its st.2.2.2.2.2 = ((ens xs).take st.1).map mkI ∧ st.2.2.2.1.length ≤ st.1 * 20000 ∧ st.2.2.2.2.2.length = st.1)) (fun st => [(16, .int .i64 (st.1 : Int)), (14, st.2.1), (15, st.2.2.1)]) (fun st => [own 54 17 st.2.1 st.2.2.2.1.length (st.2.2.2.1.flatMap chC), datD 5 st.2.2.2.1, own 52 16 st.2.2.1 (nmsC st.2.2.2.1).length (flatI (nmsC st.2.2.2.1)), own 104 6 st.2.2.2.2.1 st.2.2.2.2.2.length (st.2.2.2.2.2.flatMap itC), datI 52 st.2.2.2.2.2, blk b13 39 [.int .i64 c, .int .i64 k, .int .i64 0, .int .i64 t, st.2.2.2.2.1]]) (fun st => xs.length - st.1) (x0 := (0, .slice none 0 0, .slice none 0 0, [], .slice none 0 0, [])) (.cons rfl (.cons rfl (.cons rfl (.cons rfl (.cons rfl .nil))))) subT (.cons (.cons (.cons .nil))) apT (by first | exact trivial | ((try dsimp only) <;> exact ⟨Nat.zero_le _, ⟨rfl, rfl, Nat.zero_le _, rfl⟩⟩)) (.consE rfl veqT (.consE rfl veqT (.consE rfl veqT .nil))) (fun st hJ => ?_)
 obtain ⟨i, vk, vh, cks', vw, ys⟩ := st
 try dsimp only at hJ
 try dsimp only
 obtain ⟨hki, hJ⟩ := hJ
 obtain ⟨hck, hys, hcl, hyl⟩ := hJ
 refine go [9,9,10,0,0,2,5,2,9,7,8] ?_
 refine G.condP rfl (fun h39 => ?_) (fun h39 => ?_)
 ·have hlt : i < xs.length := by omega
  have hlt' : i < (ens xs).length := by omega
  have hdi := hd _ (List.getElem_mem hlt)
  have hmk : ((ens xs).take (i + 1)).map mkI = ((ens xs).take i).map mkI ++ [mkI xs[i].1] := by rw [List.take_succ_eq_append_getElem hlt', List.map_append, ens_get hlt]; rfl
  have hcm := makeC_take hlt'
  rw [ens_get hlt] at hcm
  have hEv := helv i hlt
  have hRv := Ro.evRng hEv
  have hDv := Ro.evDat hEv
  obtain ⟨hk1v, hk2v, hlpv, hldv, hltv⟩ := Ro.evOk hEv
  have hCv := Ro.one1 hDv
  obtain ⟨aD, cD, hx2⟩ := Ro.slv hDv
  rw [hx2] at hRv hCv hDv
  refine go [13,8,9,15,9] ?_
  refine G.drawT (nn := 29) (p := []) (rem := 536870911) [0, 0, 3, 4, 8, 0, 0, 96, 128, 256, 0, 0, 3072, 4096, 8192, 0, 0, 98304, 131072, 262144, 524288, 0, 0, 6291456, 8388608, 16777216, 34619920, 0, 268435455] [0, 0, 3, 4, 8, 0, 0, 96, 128, 256, 0, 0, 3072, 4096, 8192, 0, 0, 98304, 131072, 262144, 524288, 0, 0, 6291456, 8388608, 16777216, 34619920, 0, 201326592] kr ⟨rfl, by kernel_rfl, by kernel_rfl⟩ subT kr (fun hT10 => ?_)
  refine go [22,0,536870910,0,22,1,536870908,0] ?_
  refine G.takeT hT10 (i := 2) (rem' := 536870904) rfl rfl rfl kr (fun _ _ _ h => h) rfl (pv_ixSl (sz := 5) (k := i) Tryz.underlying35 kr rfl rfl Y32 (by omega) (by omega)) subT ?_
  refine go [22,3,536870896,3,0,22,5,536870864,0,22,6,536870800,0] ?_
  refine G.takeT hT10 (i := 7) (rem' := 536870672) rfl rfl rfl kr (fun _ _ _ h => h) rfl (pv_ixSl (sz := 5) (k := i) Tryz.underlying35 kr rfl rfl Y32 (by omega) (by omega)) subT ?_
  refine go [22,8,536870416,3,1,22,10,536869392,0,22,11,536867344,0] ?_
  refine G.takeT hT10 (i := 12) (rem' := 536863248) rfl rfl rfl kr (fun _ _ _ h => h) rfl (pv_ixSl (sz := 5) (k := i) Tryz.underlying35 kr rfl rfl Y32 (by omega) (by omega)) subT ?_
  refine go [22,13,536855056,3,2,22,15,536822288,0,22,16,536756752,0] ?_
  refine G.takeT hT10 (i := 17) (rem' := 536625680) rfl rfl rfl kr (fun _ _ _ h => h) rfl (pv_ixSl (sz := 5) (k := i) Tryz.underlying35 kr rfl rfl Y32 (by omega) (by omega)) subT ?_
  refine go [22,18,536363536,3,3,22,21,534266384,0,22,22,530072080,0] ?_
  refine G.takeT hT10 (i := 23) (rem' := 521683472) rfl rfl rfl kr (fun _ _ _ h => h) rfl (pv_ixSl (sz := 5) (k := i) Tryz.underlying35 kr rfl rfl Y32 (by omega) (by omega)) subT ?_
  refine go [22,24,504906256,3,4,22,4,504906240,4,22,9,504905728,4,22,14,504889344,4,22,19,504365056,4,22,20,503316480,5,22,25,469762048,4] ?_
  refine G.takeT hT10 (i := 26) (rem' := 402653184) rfl rfl rfl kr (fun _ _ _ h => h) rfl (pv_buildSt (z := [.string ⟨#[]⟩, .int .i64 0, .int .i64 0, .int .i64 0, .string ⟨#[]⟩, .slice none 0 0]) (pl := [(0, 1), (1, 1), (2, 1), (3, 1), (4, 1), (5, 1)]) Tryz.underlying104 kr kr rfl flT) subT ?_
  refine go [24,27,268435456] ?_
  refine G.turnOp rfl rfl (G.alloc (z := .agg #[.string ⟨#[]⟩, .int .i64 0, .int .i64 0, .int .i64 0, .string ⟨#[]⟩, .slice none 0 0]) (cs := [.string ⟨#[]⟩, .int .i64 0, .int .i64 0, .int .i64 0, .string ⟨#[]⟩, .slice none 0 0]) rfl kr rfl ?_)
  intro b17
  refine go [26,24,28,0,29,26,27,8,9,10,0,0] ?_
  refine G.op rfl (G.val rfl rfl (pv_ixSl (sz := 5) (k := i) Tryz.underlying35 kr rfl rfl Y32 (by omega) (by omega)) ?_)
  refine go [2,3,3,2,4] ?_
  refine G.op rfl (G.cS rfl rfl rfl rfl Tryz.func82 rfl rfl subT (may1 Y3) (csplitR_tr _ xs[i].1.data (by omega)) apT ?_)
  intro x74 hJ
  obtain ⟨sv, l⟩ := x74
  try dsimp only at hJ
  try dsimp only
  have hl : l.map (·.1) = chunksC xs[i].1.data := hJ
  have hll : l.length = (chunksC xs[i].1.data).length := by rw [← hl, List.length_map]
  have hcl2 := chunksC_len xs[i].1.data
  refine G.ownNews (v := sv) selT (fun a9 c9 b9 hsv hks hms hads hnils hnews => ?_)
  subst hsv
  refine go [1,7,8,9,9,10,1,7,8,15,60,4] ?_
  refine G.loopK (X := Nat × Value × Value × (List CT) × Value) (ts := [3, 8, 9, 10, 13, 16, 17, 18]) (fun st => st.1 ≤ l.length ∧ (cks st.2.2.2.1 = collC (makeC ((ens xs).take i)) ((chunksC xs[i].1.data).take st.1) ∧ st.2.2.2.1.length ≤ cks'.length + st.1)) (fun st => [(19, .int .i64 (st.1 : Int)), (14, st.2.1), (15, st.2.2.1)]) (fun st => [own 54 17 st.2.1 st.2.2.2.1.length (st.2.2.2.1.flatMap chC), datD 5 st.2.2.2.1, own 52 16 st.2.2.1 (nmsC st.2.2.2.1).length (flatI (nmsC st.2.2.2.1)), own 52 16 st.2.2.2.2 (((chunksC xs[i].1.data).take st.1).map nameM).length (flatI (((chunksC xs[i].1.data).take st.1).map nameM)), blk b17 104 [.string (sB xs[i].1.path), .int .i64 xs[i].1.kind, .int .i64 xs[i].1.mode, .int .i64 (xs[i].1.data.length : Int), .string (sB xs[i].1.to), st.2.2.2.2]]) (fun st => l.length - st.1) (x0 := (0, vk, vh, cks', .slice none 0 0)) (.cons rfl (.cons rfl (.cons rfl (.cons rfl (.cons rfl (.cons rfl (.cons rfl (.cons rfl .nil)))))))) subT (.cons (.cons (.cons .nil))) apT (by first | exact trivial | ((try dsimp only) <;> exact ⟨Nat.zero_le _, ⟨hck, Nat.le_refl _⟩⟩)) (.consE rfl veqT (.consE rfl veqT (.consE rfl veqT .nil))) (fun st hJ => ?_)
  obtain ⟨q, vq, vhq, ckq, vI⟩ := st
  try dsimp only at hJ
  try dsimp only
  obtain ⟨hkq, hJ⟩ := hJ
  obtain ⟨hqk, hql⟩ := hJ
  refine go [9,9,10,0,0,2,5,2,9,7,8] ?_
  refine G.condP rfl (fun h78 => ?_) (fun h78 => ?_)
  ·have hq : q < l.length := by omega
   have hq' : q < (chunksC xs[i].1.data).length := by omega
   have hpi : l[q].1 = (chunksC xs[i].1.data)[q] := (by have h : (l.map (·.1))[q]? = (chunksC xs[i].1.data)[q]? := (by rw [hl]); rw [List.getElem?_map, List.getElem?_eq_getElem hq, List.getElem?_eq_getElem hq'] at h; exact Option.some.inj h)
   have hpl : l[q].1.length ≤ xs[i].1.data.length := chunksC_le (by rw [hpi]; exact List.getElem_mem hq')
   have hids : ((chunksC xs[i].1.data).take q).map nameM ++ [nameM l[q].1] = ((chunksC xs[i].1.data).take (q + 1)).map nameM := by rw [List.take_succ_eq_append_getElem hq', List.map_append, hpi]; rfl
   have hidl : (((chunksC xs[i].1.data).take q).map nameM).length ≤ q := by rw [List.length_map]; exact List.length_take_le _ _
   have hmem : (l[q].1, l[q].2) ∈ l := List.getElem_mem hq
   have hco := collC_take (makeC ((ens xs).take i)) hq'
   rw [← hqk, ← hpi] at hco
   have hn16 : all16 (nmsC ckq) := nms_16 (by rw [hqk]; exact collC_16 (makeC_16 _) _)
   have hnl := nms_len ckq
   obtain ⟨id, hid⟩ : ∃ c, nameM l[q].1 = c := ⟨_, rfl⟩
   have lq := nameM_len l[q].1
   rw [hid] at lq hids
   refine go [13,8,9,15,9,10,0,0] ?_
   refine G.op rfl (G.val rfl rfl (pv_ixSl (sz := 1) (k := q) Tryz.underlying136 kr rfl rfl hads rfl hq) ?_)
   refine G.op rfl (G.val rfl rfl (pv_load (v := l[q].2) Tryz.underlying31 rfl rfl (fun w hw => by have h := hnews selT w hw q l[q].2 (by rw [List.getElem?_map, List.getElem?_eq_getElem hq]; rfl); simpa using h)) ?_)
   refine G.op rfl (G.cR rfl rfl rfl rfl Tryz.func83 rfl rfl (may1 (may_datB selT (x := l[q].1) (u := l[q].2) hmem)) (nameR_tr _ l[q].1 (by omega)) ?_)
   rw [hid]
   refine go [60,22] ?_
   intro b20
   refine G.op rfl (G.storeN Y19 rfl rfl (List.all_eq_true.2 (vByte_one _)) selT (by simp [lq]) ?_)
   rw [putN_whole _ _ (by rw [List.length_map, lq]; rfl)]
   refine go [7,8,9,10,2,3,5,2,4] ?_
   refine G.op rfl (G.val rfl rfl (pv_loadN (cs := id.map vByte) Tryz.underlying52 rfl Y19 rfl (blk_range (k := 16) selT (List.take_of_length_le Y16))) ?_)
   refine G.op rfl (G.buildSlice (sz := 16) (cs := id.map vByte) rfl Tryz.underlying30 Tryz.infoIDfill (by decide) (by decide) rfl (fillID _ (by rw [List.length_map, lq])) ?_)
   intro b89
   refine G.op rfl (G.append (k := (((chunksC xs[i].1.data).take q).map nameM).length) (j := 1) (cs := flatI (((chunksC xs[i].1.data).take q).map nameM)) (news := id.map vByte) (b := b89) (off := 0) rfl Tryz.underlying30 Tryz.infoID' rfl rfl rfl selT (fun _ => rfl) (fun h => by cases h) (by rw [List.length_map, lq]) (blk_news (k := 16) selT (List.take_of_length_le Y16)) (vByte_one _) (by omega) (by omega) ?_)
   intro vi3
   rw [own_oneI, hids]
   refine G.ownFact (v := vi3) selT (fun hvnvi3 _ => ?_)
   refine go [2,3,5,21,7,8,9,10,0] ?_
   refine G.op rfl (G.val rfl rfl (pv_loadN (cs := id.map vByte) Tryz.underlying52 rfl Y19 rfl (blk_range (k := 16) selT (List.take_of_length_le Y16))) ?_)
   refine G.op rfl (G.cR rfl rfl rfl rfl Tryz.func84 rfl rfl (may1 (may_ownI selT hn16)) (in_tr _ (nmsC ckq) id lq) ?_)
   refine go [2,25,7,8] ?_
   refine G.cond rfl (fun h95 => ?_) (fun h95 => ?_)
   ·have hni : ¬ id ∈ nmsC ckq := by simpa using h95
    have hni2 : ¬ nameM l[q].1 ∈ (cks ckq).map (·.1) := by rw [hid]; exact hni
    refine go [9,10,0] ?_
    refine G.op rfl (G.val rfl rfl (pv_loadN (cs := id.map vByte) Tryz.underlying52 rfl Y19 rfl (blk_range (k := 16) selT (List.take_of_length_le Y16))) ?_)
    refine G.op rfl (G.buildSlice (sz := 16) (cs := id.map vByte) rfl Tryz.underlying30 Tryz.infoIDfill (by decide) (by decide) rfl (fillID _ (by rw [List.length_map, lq])) ?_)
    intro b98
    refine G.op rfl (G.append (k := (nmsC ckq).length) (j := 1) (cs := flatI (nmsC ckq)) (news := id.map vByte) (b := b98) (off := 0) rfl Tryz.underlying30 Tryz.infoID' rfl rfl rfl selT (fun _ => rfl) (fun h => by cases h) (by rw [List.length_map, lq]) (blk_news (k := 16) selT (List.take_of_length_le Y16)) (vByte_one _) (by omega) (by omega) ?_)
    intro vh3
    rw [own_oneI, show nmsC ckq ++ [id] = nmsC (ckq ++ [((id, l[q].1), Value.bool false)]) from (nms_snoc ckq ((id, l[q].1), Value.bool false)).symm]
    refine G.ownFact (v := vh3) selT (fun hvnvh3 _ => ?_)
    refine go [1,7,8] ?_
    refine G.drawT (nn := 12) (p := [own 54 17 vq ckq.length (ckq.flatMap chC), datD 5 ckq]) (rem := 4095) [0, 0, 0, 0, 0, 24, 32, 68, 130, 256, 641, 2047] [0, 0, 0, 0, 0, 24, 32, 68, 130, 256, 513, 1025] kr ⟨rfl, by kernel_rfl, by kernel_rfl⟩ subT kr (fun hT19 => ?_)
    refine go [22,0,4094,0,22,3,4086,0,22,4,4070,0] ?_
    refine G.takeT hT19 (i := 5) (rem' := 4038) rfl rfl rfl kr (fun _ _ _ h => h) rfl (pv_ixSl (sz := 1) (k := q) Tryz.underlying136 kr rfl rfl hads rfl hq) subT ?_
    refine G.takeT hT19 (i := 1) (rem' := 4036) rfl rfl rfl kr (fun _ _ _ h => h) rfl (pv_loadN (cs := id.map vByte) Tryz.underlying52 rfl Y19 rfl (blk_range (k := 16) selT (List.take_of_length_le Y16))) subT ?_
    refine G.takeT hT19 (i := 6) (rem' := 3972) rfl rfl rfl kr (fun _ _ _ h => h) rfl (pv_load (v := l[q].2) Tryz.underlying31 rfl rfl (fun w hw => by have h := hnews selT w hw q l[q].2 (by rw [List.getElem?_map, List.getElem?_eq_getElem hq]; rfl); simpa using h)) subT ?_
    refine go [24,2,3968,60,14] ?_
    intro b102
    refine G.blkOwnB (b := b102) (xs := []) selT (by decide) ?_
    refine go [26,24,7,3840] ?_
    refine G.turnOp rfl rfl (G.appendB (xs := []) (ys := l[q].1) (Ps := (datB 5 l).S) rfl Tryz.underlying31 Tryz.infoByte rfl rfl selT (fun w hw => datB_sl (hw.holds _ (Sel.mem selT)) _ hmem) (by simp; omega) (by simp; omega) ?_)
    intro x107
    rw [List.nil_append l[q].1]
    refine G.ownBFact (v := x107) selT (fun hone => ?_)
    refine go [26] ?_
    refine G.takeT hT19 (i := 8) (rem' := 3584) rfl rfl rfl kr (fun _ _ _ h => h) rfl (pv_build (cells := (chC ((id, l[q].1), x107)).toArray) (fun a ha => ha.pevs rfl) (builtCk lq hone)) subT ?_
    refine go [24,9,3072] ?_
    refine G.turnOp rfl rfl (G.buildSlice (sz := 17) (cs := chC ((id, l[q].1), x107)) rfl Tryz.underlying40 Tryz.infoCkfill (by decide) (by decide) rfl (fillCk _ (chC_len _)) ?_)
    intro b109
    refine go [26,24,10,2048] ?_
    refine G.turnOp rfl rfl (G.append (k := ckq.length) (j := 1) (cs := ckq.flatMap chC) (news := chC ((id, l[q].1), x107)) (b := b109) (off := 0) rfl Tryz.underlying40 Tryz.infoCk rfl rfl rfl selT (fun _ => rfl) (fun h => by cases h) (chC_len _) (blk_news (k := 17) selT Y52) (chC_one hone) (by omega) (by omega) ?_)
    intro vk3
    rw [chC_snoc ckq ((id, l[q].1), x107), show ckq.length + 1 = (ckq ++ [((id, l[q].1), x107)]).length from by rw [List.length_append]; rfl]
    refine G.datDSnoc (ys := ckq) (x := ((id, l[q].1), x107)) selT selT ?_
    refine G.ownFact (v := vk3) selT (fun hvk3 _ => ?_)
    rw [show nmsC (ckq ++ [((id, l[q].1), Value.bool false)]) = nmsC (ckq ++ [((id, l[q].1), x107)]) from by rw [nms_snoc, nms_snoc]]
    refine go [26,22,11,0,1,27,16,8,10,0,2,6,1,7] ?_
    exact G.next ((q + 1, (vk3, vh3, ckq ++ [((id, l[q].1), x107)], vi3))) (by first | exact trivial | ((try dsimp only) <;> exact ⟨by omega, ⟨by rw [cks_snoc, hco, takeC_new hni2, hid], by rw [List.length_append, List.length_singleton]; omega⟩⟩)) (by (try dsimp only); omega) (.consE rfl veqT (.consE rfl veqT (.consE rfl veqT (.cons rfl (.cons rfl (.cons rfl (.cons rfl (.cons rfl (.cons rfl (.cons rfl (.cons rfl .nil))))))))))) subT
   have hyi : id ∈ nmsC ckq := by simpa using h95
   have hyi2 : nameM l[q].1 ∈ (cks ckq).map (·.1) := by rw [hid]; exact hyi
   refine go [13,16,8,10,0,2,6,1,7] ?_
   exact G.next ((q + 1, (vq, vhq, ckq, vi3))) (by first | exact trivial | ((try dsimp only) <;> exact ⟨by omega, ⟨by rw [hco, takeC_in hyi2], by omega⟩⟩)) (by (try dsimp only); omega) (.consE rfl veqT (.consE rfl veqT (.consE rfl veqT (.cons rfl (.cons rfl (.cons rfl (.cons rfl (.cons rfl (.cons rfl (.cons rfl (.cons rfl .nil))))))))))) subT
  obtain rfl : q = l.length := by omega
  rw [hll, List.take_length] at hqk
  rw [hll, List.take_length]
  refine G.ownFact (v := vI) selT (fun h39 _ => ?_)
  obtain ⟨it, hit⟩ : ∃ c, mkI xs[i].1 = c := ⟨_, rfl⟩
  rw [show own 52 16 vI ((chunksC xs[i].1.data).map nameM).length (flatI ((chunksC xs[i].1.data).map nameM)) = own 52 16 vI it.ids.length (flatI it.ids) from by rw [← hit]; rfl, show blk b17 104 [.string (sB xs[i].1.path), .int .i64 xs[i].1.kind, .int .i64 xs[i].1.mode, .int .i64 (xs[i].1.data.length : Int), .string (sB xs[i].1.to), vI] = blk b17 104 (itC (it, vI)) from by rw [← hit]; rfl]
  refine go [18,14,14,19,8,10,2,3,4,2,4] ?_
  refine G.op rfl (G.val rfl rfl (pv_loadN (cs := itC (it, vI)) Tryz.underlying104 rfl kr rfl (blk_range (k := 6) selT rfl)) ?_)
  refine G.op rfl (G.buildSlice (z := .agg #[.string ⟨#[]⟩, .int .i64 0, .int .i64 0, .int .i64 0, .string ⟨#[]⟩, .slice none 0 0]) (sz := 6) (cs := itC (it, vI)) rfl Tryz.underlying37 kr (by decide) (by decide) rfl kr ?_)
  intro b114
  refine G.op rfl (G.append (k := ys.length) (j := 1) (cs := ys.flatMap itC) (news := itC (it, vI)) (b := b114) (off := 0) rfl Tryz.underlying37 Tryz.infoIt rfl rfl rfl selT (fun _ => rfl) (fun h => by cases h) rfl (blk_news (k := 6) selT rfl) (itC_one h39) (by omega) (by omega) ?_)
  intro vn
  rw [itC_snoc ys (it, vI), show ys.length + 1 = (ys ++ [(it, vI)]).length from by rw [List.length_append]; rfl]
  refine G.datISnoc (ys := ys) (x := (it, vI)) selT selT ?_
  refine G.ownFact (v := vn) selT (fun hvn _ => ?_)
  refine go [2,3,4,21,7,16,8,10,0,2,6,1,7] ?_
  exact G.next ((i + 1, (vq, vhq, ckq, vn, ys ++ [(it, vI)]))) (by first | exact trivial | ((try dsimp only) <;> exact ⟨by omega, ⟨by rw [hqk, hcm], by rw [its_snoc, hys, hmk, hit], by omega, by rw [List.length_append, hyl]; rfl⟩⟩)) (by (try dsimp only); omega) (.consE rfl veqT (.consE rfl veqT (.consE rfl veqT (.cons rfl (.cons rfl (.cons rfl (.cons rfl (.cons rfl .nil)))))))) subT
 obtain rfl : i = xs.length := by omega
 rw [← hel', List.take_length] at hck hys
 refine G.ownFact (v := vw) selT (fun hvw _ => ?_)
 refine G.ownFact (v := vk) selT (fun hvk _ => ?_)
 have hok : ∀ x ∈ ys, ItOk x.1 ∧ all16 x.1.ids := fun x hx => by have h1 : x.1 ∈ its ys := List.mem_map.2 ⟨x, hx, rfl⟩; rw [hys] at h1; obtain ⟨e, he, h2⟩ := List.mem_map.1 h1; rw [← h2]; exact ⟨mkI_ok (hEn e he).1 (hEn e he).2, mkI_16 e⟩
 refine go [18,14,14,19,8,9,10,2,50,5] ?_
 refine G.op rfl (G.cS rfl rfl rfl rfl Tryz.func60 rfl rfl subT (may1 (may_items selT selT hok)) (mbytesR_tr (⟨c, k, 0, t⟩ : Mh) _ ys) apT ?_)
 intro x119 hJ
 try dsimp only at hJ
 try dsimp only
 refine go [0,2,7,2,7,1,1,7,8,9,9,10,0,2,14,7,8] ?_
 refine G.condP rfl (fun h123 => ?_) (fun h123 => ?_)
 ·refine go [9,10,2,50,11,0,20,1,1,7,8,11,12] ?_
  rw [mkM_no hz0 (by rw [← hys]; assumption), ← hys]
  refine G.ownNil 104 6 ?_
  refine G.datINil 52 ?_
  refine go [60,11] ?_
  refine G.datDNil 5 ?_
  exact G.doneG (((.slice none 0 0, []), .slice none 0 0, [])) Y48 rfl (Rv.cellN (cs := [_, _, _, _, _]) rfl Tryz.underlying39 rfl kr Y46 (Rv.tmp rfl (Rv.tmp rfl Rv.nil))) rfl subT
 refine go [13,8,9,10,2,50,5,0,20,1,1,7,8,11] ?_
 rw [mkM_ok hz0 (by rw [← hys]; omega)]
 exact G.doneG (((vw, ys), vk, cks')) (by first | exact trivial | ((try dsimp only) <;> exact ⟨hys, hck⟩)) rfl (Rv.cellN (cs := [_, _, _, _, _]) rfl Tryz.underlying39 rfl kr Y46 (Rv.tmp rfl (Rv.tmp rfl Rv.nil))) rfl subT
def sendR (r : RP) : Option Nt × RP := if r.over = true ∨ r.sent = r.notes.length ∨ 8 ≤ openR r then (none, r) else (r.notes[r.sent]?, { r with sent := r.sent + 1 })
def takeR (r : RP) (y : Nt) : Int × RP := if r.over = true ∨ openR r = 0 then (9, r) else (0, answerR r (r.notes[r.told]?.getD ntz) y)
theorem takeR_no {r : RP} {y : Nt} (h : r.over = true ∨ openR r = 0) : takeR r y = (9, r) := if_pos h
theorem takeR_go {r : RP} {y : Nt} (h : ¬ (r.over = true ∨ openR r = 0)) : takeR r y = (0, answerR r (r.notes[r.told]?.getD ntz) y) := if_neg h
theorem sendR_no {r : RP} (h : r.over = true ∨ r.sent = r.notes.length ∨ 8 ≤ openR r) : sendR r = (none, r) := if_pos h
theorem sendR_go {r : RP} (h : ¬ (r.over = true ∨ r.sent = r.notes.length ∨ 8 ≤ openR r)) : sendR r = (r.notes[r.sent]?, { r with sent := r.sent + 1 }) := if_neg h
theorem openR_off {r : RP} (h : r.over = true) : openR r = 0 := if_pos h
theorem openR_on {r : RP} (h : r.over = false) : openR r = (r.sent : Int) - r.told := if_neg (by rw [h]; exact fun h => by cases h)
theorem nvs_get {xs : List NV} {i : Nat} (h : i < xs.length) : (nvs xs)[i]? = some xs[i].n := by
 unfold nvs
 rw [List.getElem?_map, List.getElem?_eq_getElem h]
 rfl
def ntV : NV := ⟨ntz, .slice none 0 0, .slice none 0 0, .slice none 0 0⟩
theorem ntV_ok {F : Nat → Prop} {W : World} : NvOk F W ntV := ⟨IsSl.nil _ _ _, IsSl.nil _ _ _, IsSl.nil _ _ _, ⟨by show (-9223372036854775808 : Int) ≤ 0; omega, by show (0 : Int) ≤ _; omega⟩, Nat.zero_le _, Nat.zero_le _, Nat.zero_le _⟩
def newRQ (c k t : Int) (es : List En) : RP := ⟨bytesO (mkM (⟨c, k, 0, t⟩ : Mh) es).1.1 (mkM (⟨c, k, 0, t⟩ : Mh) es).1.2, (mkM (⟨c, k, 0, t⟩ : Mh) es).2.1, k, t, 0, [], 0, 0, [], 0, false, 0, 0⟩
def newR (c k t : Int) (es : List En) : RP := entR1 (newRQ c k t es)
set_option maxHeartbeats 4000000 in
theorem rsend_tr {F : Nat → Prop} {W : World} (D : Nat) (z : RZ) (hz : RvOk F W z) (hg : RcOk z.rp) : Tr Tryz.prog 33 #[.pointer (some ⟨D, 0, none⟩)] [] [blk D 80 [z.bv, z.lv, .int .i64 z.cm, .int .i64 z.tk, .int .i64 (z.ph : Nat), z.notesv, .int .i64 (z.sent : Nat), .int .i64 (z.told : Nat), z.lacksv, .int .i64 (z.rounds : Nat), .bool z.over, .int .i64 z.num, .int .i64 z.e], frz F W]
 (TX (fun x : RZ × NV => RvOk F W x.1 ∧ x.1.rp = (sendR z.rp).2 ∧ NvOk F W x.2 ∧ x.2.n = (sendR z.rp).1.getD ntz ∧ ∃ s, x.1 = { z with sent := s }) (fun x => .tuple #[.agg #[.int .i64 x.2.n.k, x.2.vN, x.2.vI, x.2.vB], .bool (sendR z.rp).1.isSome]) (fun x => [blk D 80 [x.1.bv, x.1.lv, .int .i64 x.1.cm, .int .i64 x.1.tk, .int .i64 (x.1.ph : Nat), x.1.notesv, .int .i64 (x.1.sent : Nat), .int .i64 (x.1.told : Nat), x.1.lacksv, .int .i64 (x.1.rounds : Nat), .bool x.1.over, .int .i64 x.1.num, .int .i64 x.1.e], frz F W])) := by
 refine Tr.of (l := [(0, .pointer (some ⟨D, 0, none⟩))]) Tryz.func33 rfl (n := 44) rfl (.cons rfl .nil) (fun w0 hro => ?_)
 obtain ⟨aN, cN, bN, oN, hvN, hNc, hNm, hNn, hNd, hNe⟩ := hz.notes.open
 have hts : z.told ≤ z.sent := hg.told
 have hsn : z.sent ≤ z.notes.length := by have := hg.sent; rwa [rp_notes] at this
 have hfew : z.notes.length ≤ 200000000 := by have := hg.few; rwa [rp_notes] at this
 have hnl : z.rp.notes.length = z.notes.length := rp_notes z
 refine go [9,10,60,5] ?_
 intro b2
 refine go [1,7,8,9,9] ?_
 refine G.drawT (nn := 21) (p := []) (rem := 2097151) [0, 1, 2, 4, 8, 16, 48, 80, 144, 16, 528, 1040, 2064, 4112, 8464, 16400, 32784, 65536, 196608, 327680, 589824] [0, 1, 2, 4, 8, 16, 48, 80, 144, 16, 528, 1040, 2064, 4112, 8464, 16400, 32768, 65536, 196608, 327680, 589824] kr ⟨rfl, by kernel_rfl, by kernel_rfl⟩ subT kr (fun hT1 => ?_)
 refine go [22,0,2097150,0,22,1,2097148,8,22,2,2097144,3,10,24,3,2097136,25,50,0,26,22,4,2097120,0] ?_
 refine G.part (t := 8) rfl (fun h8 => ?_) (fun h8 => ?_)
 ·refine go [23,5,2097088,23,6,2097024,23,7,2096896,23,8,2096640,23,9,2096128,23,10,2095104,23,11,2093056,23,12,2088960,23,13,2080768,23,14,2064384,22,15,2031616,2,22,16,1966080,0,23,17,1835008,23,18,1572864,23,19,1048576,22,20,0,2,27,8,60,1,9,10,2,50,2,20,1,7,8,11,12] ?_
  rw [sendR_no (Or.inl (show z.over = true from by assumption))]
  exact G.doneG ((z, ntV)) (by first | exact trivial | ((try dsimp only) <;> exact ⟨hz, rfl, ntV_ok, rfl, z.sent, rfl⟩)) rfl (Rv.cellN (cs := [_, _, _, _]) rfl Tryz.underlying33 rfl kr Y23 (Rv.tmp rfl Rv.nil)) rfl subT
 refine go [22,5,2097088,0,22,6,2097024,8,22,7,2096896,3,6,22,8,2096640,50,0,22,9,2096128,0,22,10,2095104,8,22,11,2093056,3,5,24,12,2088960] ?_
 refine G.turnOp rfl rfl (G.val rfl rfl ((pv_load (v := z.notesv) Tryz.underlying55 rfl rfl (by exact blk_cell selD (by rfl))).cast hvN) ?_)
 refine go [26,22,13,2080768,5,22,14,2064384,13,22,15,2031616,2,22,16,1966080,0] ?_
 refine G.partP (t := 20) rfl (fun h20 => ?_) (fun h20 => ?_)
 ·refine go [23,17,1835008,23,18,1572864,23,19,1048576,22,20,0,2,27,8,60,1,9,10,2,50,2,20,1,7,8,11,12] ?_
  rw [sendR_no (Or.inr (Or.inl (by rw [hnl]; show z.sent = _; omega)))]
  exact G.doneG ((z, ntV)) (by first | exact trivial | ((try dsimp only) <;> exact ⟨hz, rfl, ntV_ok, rfl, z.sent, rfl⟩)) rfl (Rv.cellN (cs := [_, _, _, _]) rfl Tryz.underlying33 rfl kr Y23 (Rv.tmp rfl Rv.nil)) rfl subT
 refine go [22,17,1835008,0,24,18,1572864] ?_
 refine G.turnOp rfl rfl (G.cR rfl rfl rfl rfl Tryz.func36 rfl rfl (may1 (Sel.may selD)) (ropen_tr D z (by omega) hts) ?_)
 refine go [26,22,19,1048576,12,22,20,0,2,27,8] ?_
 refine G.condP rfl (fun h24 => ?_) (fun h24 => ?_)
 ·refine go [9,10,2,50,2,20,1,7,8,11,12] ?_
  rw [sendR_no (Or.inr (Or.inr (by omega)))]
  exact G.doneG ((z, ntV)) (by first | exact trivial | ((try dsimp only) <;> exact ⟨hz, rfl, ntV_ok, rfl, z.sent, rfl⟩)) rfl (Rv.cellN (cs := [_, _, _, _]) rfl Tryz.underlying33 rfl kr Y23 (Rv.tmp rfl Rv.nil)) rfl subT
 have ho9 : z.over = false := by first | assumption | (simpa using (by assumption : ¬ z.over = true))
 have hop : openR z.rp = (z.sent : Int) - z.told := openR_on ho9
 have hno : ¬ (z.rp.over = true ∨ z.rp.sent = z.rp.notes.length ∨ 8 ≤ openR z.rp) := by rw [hop, hnl]; intro h; rcases h with h | h | h; (have h1 : z.over = true := h; rw [ho9] at h1; cases h1); (have h1 : z.sent = z.notes.length := h; omega); omega
 have hlt : z.sent < z.notes.length := by omega
 have hR := hNe z.sent hlt
 refine go [13,8,9,10,0,2,8,2,3,6,2,50,0] ?_
 refine G.op rfl (G.val rfl rfl ((pv_add64 rfl rfl (by omega)).cast (v' := .int .i64 ((z.sent + 1 : Nat) : Int)) (congrArg _ (by omega))) ?_)
 refine go [2,8,2,3,6,21,7,8,9] ?_
 refine G.drawE (nn := 13) (p := []) (rem := 2047) [0, 1, 2, 4, 0, 16, 32, 64, 128, 264, 512, 2047, 4095] [0, 1, 2, 4, 0, 16, 32, 64, 128, 264, 512, 1024, 0] [12, 11] [4095, 2047] 11 kr ⟨rfl, by kernel_rfl, by kernel_rfl⟩ kr kr kr subT (fun hT4 => ?_)
 refine go [22,0,2046,0,22,1,2044,8,22,2,2040,3,5,22,4,2024,0,22,5,1992,8,22,6,1928,3,6] ?_
 refine G.takeT hT4 (i := 3) (rem' := 1920) rfl rfl rfl kr (fun _ _ _ h => h) rfl ((pv_load (v := z.notesv) Tryz.underlying55 rfl rfl (by exact blk_cell selD (by rfl))).cast hvN) subT ?_
 refine go [24,7,1792,25,50,0,26] ?_
 refine G.takeT hT4 (i := 8) (rem' := 1536) rfl rfl rfl kr (fun _ _ _ h => h) rfl ((pv_sub64 rfl rfl (by omega)).cast (v' := .int .i64 (z.sent : Int)) (congrArg _ (by omega))) subT ?_
 refine G.takeT hT4 (i := 9) (rem' := 1024) rfl rfl rfl kr (fun _ _ _ h => h) rfl (pv_ixSl (sz := 4) (k := z.sent) Tryz.underlying55 kr rfl rfl hNd rfl (by omega)) subT ?_
 refine go [24,10,0] ?_
 refine G.turnOp rfl rfl (G.val rfl rfl (pv_loadN (cs := nvC z.notes[z.sent]) Tryz.underlying33 rfl kr rfl (frz_rng selD hR.1 hR.2.1)) ?_)
 refine go [26,27] ?_
 refine G.tailS [12] 11 rfl ?_
 refine G.turnOp rfl rfl (G.storeN (vs := nvC z.notes[z.sent]) kr rfl rfl (List.all_eq_true.2 (nvC_one hR.2.2)) selT (by show 0 + 4 ≤ 4; omega) ?_)
 rw [show putN [.int .i64 0, .slice none 0 0, .slice none 0 0, .slice none 0 0] 0 (nvC z.notes[z.sent]) = [.int .i64 z.notes[z.sent].n.k, z.notes[z.sent].vN, z.notes[z.sent].vI, z.notes[z.sent].vB] from rfl]
 refine G.tailS [] 12 rfl ?_
 refine go [25,1,60,6,8,11] ?_
 rw [sendR_go hno, show z.rp.notes[z.rp.sent]? = some z.notes[z.sent].n from nvs_get hlt]
 exact G.doneG (({ z with sent := z.sent + 1 }, z.notes[z.sent])) (by first | exact trivial | ((try dsimp only) <;> exact ⟨⟨hz.b, hz.l, hz.lk, hz.notes⟩, rfl, hR.2.2, rfl, _, rfl⟩)) rfl (Rv.cellN (cs := [_, _, _, _]) rfl Tryz.underlying33 rfl kr Y23 (Rv.tmp rfl Rv.nil)) rfl subT
set_option maxHeartbeats 4000000 in
theorem rtake_tr {F : Nat → Prop} {W : World} {Pv1 Pv2 Pv3 : Nat → Prop} (k : Int) (v1 v2 v3 : Value) (ns : List Int) (ids : List (List UInt8)) (bs : List UInt8) (D : Nat) (z : RZ) (hz : RvOk F W z) (hg : RcOk z.rp) (hph : ∀ n ∈ z.rp.notes, n.k = (z.ph : Int)) (h15 : 1 ≤ z.ph ∧ z.ph ≤ 5) (hp2 : ∀ n ∈ z.rp.notes, n.k = 2 → ∃ a : Nat, n.ns = [(a : Int)] ∧ a ≤ 100000000) (hp4 : ∀ n ∈ z.rp.notes, n.k = 4 → n.ids.length = 1) (hp3 : ∀ n, z.rp.notes[z.told]? = some n → n.k = 3 → z.told * 16 + n.ids.length ≤ z.l.length) (hlk : z.lacks.length ≤ 10000000) : Tr Tryz.prog 38 #[.pointer (some ⟨D, 0, none⟩), .agg #[.int .i64 k, v1, v2, v3]] [slc rInt Pv1 v1 ns, slc rID Pv2 v2 ids, slc rByte Pv3 v3 bs] [blk D 80 [z.bv, z.lv, .int .i64 z.cm, .int .i64 z.tk, .int .i64 (z.ph : Nat), z.notesv, .int .i64 (z.sent : Nat), .int .i64 (z.told : Nat), z.lacksv, .int .i64 (z.rounds : Nat), .bool z.over, .int .i64 z.num, .int .i64 z.e], frz F W, own 3 1 z.lacksv z.lacks.length (z.lacks.map vN)]
 (TX (fun y : RZ × (Nat → Prop) × World => Up F W y.2.1 y.2.2 ∧ RvOk y.2.1 y.2.2 y.1 ∧ y.1.rp = (takeR z.rp ⟨k, ns, ids, bs⟩).2) (fun _ => .int .i64 (takeR z.rp ⟨k, ns, ids, bs⟩).1) (fun y => [blk D 80 [y.1.bv, y.1.lv, .int .i64 y.1.cm, .int .i64 y.1.tk, .int .i64 (y.1.ph : Nat), y.1.notesv, .int .i64 (y.1.sent : Nat), .int .i64 (y.1.told : Nat), y.1.lacksv, .int .i64 (y.1.rounds : Nat), .bool y.1.over, .int .i64 y.1.num, .int .i64 y.1.e], frz y.2.1 y.2.2, own 3 1 y.1.lacksv y.1.lacks.length (y.1.lacks.map vN)])) := by
 refine Tr.of (l := [(0, .pointer (some ⟨D, 0, none⟩)), (1, .agg #[.int .i64 k, v1, v2, v3])]) Tryz.func38 rfl (n := 27) rfl (.cons rfl (.cons rfl .nil)) (fun w0 hro => ?_)
 obtain ⟨hA, hB, hC⟩ := ro3 hro
 have oa := Ro.open hA
 have ob := Ro.open hB
 have oc := Ro.open hC
 obtain ⟨aa, ca, qa, oa', rfl, hca, hma, -, had, hel⟩ := oa
 obtain ⟨ab, cb, qb, ob', rfl, hcb, hmb, -, hbd, hbl⟩ := ob
 obtain ⟨ac, cc, qc, oc', rfl, hcc, -⟩ := oc
 obtain ⟨aN, cN, bN, oN, hvN, hNc, hNm, hNn, hNd, hNe⟩ := hz.notes.open
 have hts : z.told ≤ z.sent := hg.told
 have hsn : z.sent ≤ z.notes.length := by have := hg.sent; rwa [rp_notes] at this
 have hfew : z.notes.length ≤ 200000000 := by have := hg.few; rwa [rp_notes] at this
 have hnl : z.rp.notes.length = z.notes.length := rp_notes z
 refine go [9,10,60,2] ?_
 intro b3
 refine go [1,7,8,9,9,10,0,2,8,2,3,10,2,50,0,0] ?_
 refine G.part (t := 9) rfl (fun h9 => ?_) (fun h9 => ?_)
 ·refine go [4,4,4,2,2,7,8,60,1,9,10,1,7,8,11,12] ?_
  rw [takeR_no (Or.inl (show z.over = true from by assumption))]
  exact G.doneX1 ((z, F, W)) Y54 rfl rfl rfl subT
 refine go [3,0] ?_
 refine G.want rfl rfl rfl (G.cR rfl rfl rfl rfl Tryz.func36 rfl rfl (may1 (Sel.may selD)) (ropen_tr D z (by omega) hts) ?_)
 refine go [3,13,2,2,7,8] ?_
 refine G.condP rfl (fun h13 => ?_) (fun h13 => ?_)
 ·refine go [9,10,1,7,8,11,12] ?_
  rw [takeR_no (Or.inr (by omega))]
  exact G.doneX1 ((z, F, W)) Y54 rfl rfl rfl subT
 have ho9 : z.over = false := by first | assumption | (simpa using (by assumption : ¬ z.over = true))
 have hop : openR z.rp = (z.sent : Int) - z.told := openR_on ho9
 have hno : ¬ (z.rp.over = true ∨ openR z.rp = 0) := fun h => by rcases h with h | h; (have h1 : z.over = true := h; rw [ho9] at h1; cases h1); omega
 have hlt : z.told < z.notes.length := by omega
 have hR := hNe z.told hlt
 have hng : z.rp.notes[z.told]? = some z.notes[z.told].n := nvs_get hlt
 have hmem : z.notes[z.told].n ∈ z.rp.notes := List.mem_of_getElem? hng
 refine go [13,8,9] ?_
 refine G.drawE (nn := 13) (p := []) (rem := 4095) [0, 0, 2, 4, 8, 0, 32, 64, 128, 272, 512, 0, 3073] [0, 0, 2, 4, 8, 0, 32, 64, 128, 272, 512, 0, 3073] [12] [4095] 12 kr ⟨rfl, by kernel_rfl, by kernel_rfl⟩ kr kr kr subT (fun hT3 => ?_)
 refine go [22,0,4094,0,22,1,4092,0,22,2,4088,8,22,3,4080,3,5,22,5,4048,0,22,6,3984,8,22,7,3856,3,7] ?_
 refine G.takeT hT3 (i := 4) (rem' := 3840) rfl rfl rfl kr (fun _ _ _ h => h) rfl ((pv_load (v := z.notesv) Tryz.underlying55 rfl rfl (by exact blk_cell selD (by rfl))).cast hvN) subT ?_
 refine go [22,8,3584,50,0] ?_
 refine G.takeT hT3 (i := 9) (rem' := 3072) rfl rfl rfl kr (fun _ _ _ h => h) rfl (pv_ixSl (sz := 4) (k := z.told) Tryz.underlying55 kr rfl rfl hNd rfl (by omega)) subT ?_
 refine G.takeT hT3 (i := 10) (rem' := 2048) rfl rfl rfl kr (fun _ _ _ h => h) rfl (pv_loadN (cs := nvC z.notes[z.told]) Tryz.underlying33 rfl kr rfl (frz_rng selD hR.1 hR.2.1)) subT ?_
 refine go [24,11,0,25,50,9,26,27] ?_
 refine G.tailS [] 12 rfl ?_
 refine G.turnOp rfl rfl (G.cS rfl rfl rfl rfl Tryz.func63 rfl rfl subT (may3 (.old hA) (.old hB) (.old hC)) (answer_tr (F := F) (W := W) k _ _ _ ns ids bs D z z.notes[z.told] hz hR.2.2 hg ⟨hph _ hmem, h15.1, h15.2⟩ (hp2 _ hmem) (hp4 _ hmem) (hp3 _ hng) hlk) apT ?_)
 intro x26 hJ
 obtain ⟨z3, F3, W3⟩ := x26
 try dsimp only at hJ
 try dsimp only
 refine go [60,6,8,9,10,1,7,8,11] ?_
 rw [takeR_go hno, show z.rp.notes[z.rp.told]?.getD ntz = z.notes[z.told].n from by rw [show z.rp.notes[z.rp.told]? = some z.notes[z.told].n from hng]; rfl]
 exact G.doneX1 ((z3, F3, W3)) (by first | exact trivial | ((try dsimp only) <;> exact ⟨hJ.1, hJ.2.1, hJ.2.2.trans rfl⟩)) rfl rfl rfl subT
set_option maxHeartbeats 4000000 in
theorem rnew_bad {Ps : Nat → Prop} (c k t : Int) (v : Value) (xs : List ET) (hd : ∀ x ∈ xs, x.1.data.length ≤ 10000) (h : ¬ (mkM (⟨c, k, 0, t⟩ : Mh) (ens xs)).2.2 = 0) : Tr Tryz.prog 30 #[.int .i64 c, .int .i64 k, .int .i64 t, v] [slc rEV Ps v xs] []
 (T0 (.tuple #[.pointer none, .int .i64 (mkM (⟨c, k, 0, t⟩ : Mh) (ens xs)).2.2])) := by
 refine Tr.of (l := [(0, .int .i64 c), (1, .int .i64 k), (2, .int .i64 t), (3, v)]) Tryz.func30 rfl (n := 42) rfl (.cons rfl (.cons rfl (.cons rfl (.cons rfl .nil)))) (fun w0 hro => ?_)
 have hv := ro1 hro
 refine go [9,10,1,1,7,8,9,10,0,0,0,0] ?_
 refine G.op rfl (G.cS rfl rfl rfl rfl Tryz.func59 rfl rfl subT (may1 (.old hv)) (mmakeR_tr c k t _ xs hd) apT ?_)
 intro x21 hJ
 obtain ⟨⟨vz, ys⟩, vk, ck⟩ := x21
 try dsimp only at hJ
 try dsimp only
 refine G.ownFact (v := vz) selT (fun hvz _ => ?_)
 refine G.ownFact (v := vk) selT (fun hvk _ => ?_)
 refine go [0] ?_
 refine G.op rfl (G.val rfl rfl (pv_extract (v := .agg #[.int .i64 (mkM (⟨c, k, 0, t⟩ : Mh) (ens xs)).1.1.c, .int .i64 (mkM (⟨c, k, 0, t⟩ : Mh) (ens xs)).1.1.k, .int .i64 (mkM (⟨c, k, 0, t⟩ : Mh) (ens xs)).1.1.n, .int .i64 (mkM (⟨c, k, 0, t⟩ : Mh) (ens xs)).1.1.t, vz]) rfl rfl) ?_)
 refine G.op rfl (G.val rfl rfl (pv_extract (v := vk) rfl rfl) ?_)
 refine G.op rfl (G.val rfl rfl (pv_extract (v := .int .i64 (mkM (⟨c, k, 0, t⟩ : Mh) (ens xs)).2.2) rfl rfl) ?_)
 refine go [60,10] ?_
 intro b10
 refine go [20,1,1,7,8,9,9,10,0,2,14,7,8] ?_
 refine G.condP rfl (fun h26 => ?_) (fun h26 => ?_)
 ·refine go [9,10,0,1,1,7,8,11,12] ?_
  exact G.done0G rfl (Rv.tmp rfl (Rv.tmp rfl Rv.nil)) Y7
 exfalso; omega
set_option maxHeartbeats 4000000 in
theorem rnew_ok {Ps : Nat → Prop} (c k t : Int) (v : Value) (xs : List ET) (hd : ∀ x ∈ xs, x.1.data.length ≤ 10000) (hn : xs.length ≤ 500) (hk : I64 k) (ht : I64 t) (h : (mkM (⟨c, k, 0, t⟩ : Mh) (ens xs)).2.2 = 0) : Tr Tryz.prog 30 #[.int .i64 c, .int .i64 k, .int .i64 t, v] [slc rEV Ps v xs] []
 (TX (fun x : RZ × Nat × (Nat → Prop) × World => RvOk x.2.2.1 x.2.2.2 x.1 ∧ x.1.rp = newR c k t (ens xs)) (fun x => .tuple #[.pointer (some ⟨x.2.1, 0, none⟩), .int .i64 0]) (fun x => [blk x.2.1 80 [x.1.bv, x.1.lv, .int .i64 x.1.cm, .int .i64 x.1.tk, .int .i64 (x.1.ph : Nat), x.1.notesv, .int .i64 (x.1.sent : Nat), .int .i64 (x.1.told : Nat), x.1.lacksv, .int .i64 (x.1.rounds : Nat), .bool x.1.over, .int .i64 x.1.num, .int .i64 x.1.e], frz x.2.2.1 x.2.2.2, own 3 1 x.1.lacksv x.1.lacks.length (x.1.lacks.map vN)])) := by
 refine Tr.of (l := [(0, .int .i64 c), (1, .int .i64 k), (2, .int .i64 t), (3, v)]) Tryz.func30 rfl (n := 42) rfl (.cons rfl (.cons rfl (.cons rfl (.cons rfl .nil)))) (fun w0 hro => ?_)
 have hv := ro1 hro
 have hel' := ens_length xs
 obtain ⟨hmk, hz0, hb0⟩ := mkM_zero h
 obtain ⟨hbo, hb1, hb2⟩ := bytesO_len (by rfl) hb0
 obtain ⟨av, cv, bv, fv, rfl, _, _, _, _, hel⟩ := Ro.openT hv
 have hEn : ∀ e ∈ ens xs, EnOk e ∧ e.data.length ≤ 10000 := fun e he => by obtain ⟨x, hx, rfl⟩ := List.mem_map.1 he; obtain ⟨q, hq, rfl⟩ := List.getElem_of_mem hx; exact ⟨Ro.evOk (hel q hq), hd _ hx⟩
 refine go [9,10,1,1,7,8,9,10,0,0,0,0] ?_
 refine G.op rfl (G.cS rfl rfl rfl rfl Tryz.func59 rfl rfl subT (may1 (.old hv)) (mmakeR_tr c k t _ xs hd) apT ?_)
 intro x21 hJ
 obtain ⟨⟨vz, ys⟩, vk, ck⟩ := x21
 try dsimp only at hJ
 try dsimp only
 rw [hmk] at hJ
 rw [hmk]
 obtain ⟨hys, hck⟩ := hJ
 refine G.ownFact (v := vz) selT (fun hvz _ => ?_)
 refine G.ownFact (v := vk) selT (fun hvk _ => ?_)
 have hok : ∀ x ∈ ys, ItOk x.1 ∧ all16 x.1.ids := fun x hx => by have h1 : x.1 ∈ its ys := List.mem_map.2 ⟨x, hx, rfl⟩; rw [hys] at h1; obtain ⟨e, he, h2⟩ := List.mem_map.1 h1; rw [← h2]; exact ⟨mkI_okX (hEn e he).1 (by have := (hEn e he).2; omega), mkI_16 e⟩
 have hcA : ∀ x ∈ ck, x.1.1 = nameM x.1.2 ∧ x.1.2.length ≤ 10000 := fun x hx => makeC_all (fun e he => (hEn e he).2) x.1 (by have hcc : cks ck = makeC (ens xs) := hck; rw [← hcc]; exact List.mem_map.2 ⟨x, hx, rfl⟩)
 have hcl : ck.length ≤ 10000000 := by have h1 := makeC_few (n := 10000) (fun e he => (hEn e he).2); have hcc : cks ck = makeC (ens xs) := hck; rw [← hcc, hel'] at h1; simp only [cks, List.length_map] at h1; omega
 refine go [0] ?_
 refine G.op rfl (G.val rfl rfl (pv_extract (v := .agg #[.int .i64 (⟨c, k, 0, t⟩ : Mh).c, .int .i64 (⟨c, k, 0, t⟩ : Mh).k, .int .i64 (⟨c, k, 0, t⟩ : Mh).n, .int .i64 (⟨c, k, 0, t⟩ : Mh).t, vz]) rfl rfl) ?_)
 refine G.op rfl (G.val rfl rfl (pv_extract (v := vk) rfl rfl) ?_)
 refine go [2,50,12,60,10] ?_
 intro b10
 refine go [20,1,1,7,8,9,9,10,0,2,14,7,8,60,0,13,8,9,10,2,50,5] ?_
 refine G.op rfl (G.cS rfl rfl rfl rfl Tryz.func60 rfl rfl subT (may1 (may_items selT selT hok)) (mbytesR_tr (⟨c, k, 0, t⟩ : Mh) _ ys) apT ?_)
 intro x30 hJ
 try dsimp only at hJ
 try dsimp only
 rw [show its ys = (ens xs).map mkI from hys, hbo]
 refine G.ownFact (v := x30) selT (fun hvb _ => ?_)
 refine go [0] ?_
 refine G.op rfl (G.val rfl rfl (pv_extract (v := x30) rfl rfl) ?_)
 refine go [2,7,1,1,7,8,9,10,0,0,0,0] ?_
 refine G.op rfl (G.val rfl rfl (pv_buildSt (z := [.slice none 0 0, .slice none 0 0, .int .i64 0, .int .i64 0, .int .i64 0, .slice none 0 0, .int .i64 0, .int .i64 0, .slice none 0 0, .int .i64 0, .bool false, .int .i64 0, .int .i64 0]) (pl := [(0, 1), (1, 1), (2, 1), (3, 1), (4, 1), (5, 1), (6, 1), (7, 1), (8, 1), (9, 1), (10, 1), (11, 1), (12, 1)]) Tryz.underlying80 kr kr rfl flT) ?_)
 refine G.op rfl (G.box rfl rfl (cs := [_, _, _, _, _, _, _, _, _, _, _, _, _]) rfl ?_)
 intro b38
 refine go [1,7,8,9,10] ?_
 refine G.frz0 (fun W9 => ?_)
 refine G.freeze (F := fun _ => False) (W := W9) (p := [own 54 17 vk ck.length (ck.flatMap chC), datD 5 ck, own 5 1 x30 _ _]) selT subT (fun F1 W1 hU hC => ?_)
 have q1 := hC _ (List.mem_cons_self ..)
 have q2 := hC _ (List.mem_cons_of_mem _ (List.mem_cons_self ..))
 have q3 := hC _ (List.mem_cons_of_mem _ (List.mem_cons_of_mem _ (List.mem_cons_self ..)))
 have h16 : ∀ x ∈ ck, x.1.1.length = 16 := fun x hx => by rw [(hcA x hx).1]; exact nameM_len _
 have hzz : RvOk F1 W1 (⟨x30, vk, k, t, 0, .slice none 0 0, 0, 0, .slice none 0 0, 0, false, 0, 0, manB (⟨c, k, 0, t⟩ : Mh) ((ens xs).map mkI), ck, [], []⟩ : RZ) := ⟨frz_own1 (f := vByte) (p := fun _ => True) _ q3 rfl (fun _ _ => trivial), frz_cks ck q1 q2 (fun x hx => ⟨h16 x hx, by have := (hcA x hx).2; omega⟩), (fun x hx => ⟨(datD_sl q2.1 x hx).mono q2.2, h16 x hx, by have := (hcA x hx).2; omega⟩), IsSl.nil _ _ _⟩
 have hgg : RgOk ((⟨x30, vk, k, t, 0, .slice none 0 0, 0, 0, .slice none 0 0, 0, false, 0, 0, manB (⟨c, k, 0, t⟩ : Mh) ((ens xs).map mkI), ck, [], []⟩ : RZ) : RZ).rp := ⟨hk, ht, hb1, by show (manB _ _).length ≤ _; omega, by rw [rp_l]; exact hcl, fun i hi => (by cases hi), Nat.zero_le _⟩
 refine go [60,7,0] ?_
 refine G.op rfl (G.cS rfl rfl rfl rfl Tryz.func61 rfl rfl subT may0 (renter1_tr (F := F1) (W := W1) b38 (⟨x30, vk, k, t, 0, .slice none 0 0, 0, 0, .slice none 0 0, 0, false, 0, 0, manB (⟨c, k, 0, t⟩ : Mh) ((ens xs).map mkI), ck, [], []⟩ : RZ) hzz hgg (Nat.zero_le _)) apT ?_)
 intro x40 hJ
 obtain ⟨z3, F3, W3⟩ := x40
 try dsimp only at hJ
 try dsimp only
 refine go [7,8,9,10,0,1,1,7,8,11] ?_
 exact G.doneX2 ((z3, b38, F3, W3)) (by first | exact trivial | ((try dsimp only) <;> exact ⟨hJ.2.1, hJ.2.2.trans (by unfold newR newRQ; rw [hmk]; unfold RZ.rp; dsimp only; rw [hbo, show cks ck = makeC (ens xs) from hck]; rfl)⟩)) rfl rfl rfl rfl subT
set_option maxHeartbeats 4000000 in
theorem sendB_tr {F : Nat → Prop} {W : World} (D : Nat) (z : PZ) (hz : PvOk F W z) : Tr Tryz.prog 21 #[.pointer (some ⟨D, 0, none⟩)] [] [blk D 85 [.bool z.made, z.bv, z.lv, .int .i64 z.cm, .int .i64 z.tk, .int .i64 (z.ph : Nat), z.leftv, z.waitv, .int .i64 (z.asked : Nat), z.lacksv, .int .i64 (z.rounds : Nat), .bool z.over, .int .i64 z.num, .int .i64 z.e], frz F W, que 92 5 z.waitv z.wait.length (z.wait.flatMap awC), own 54 17 z.lacksv z.lacks.length (z.lacks.flatMap chC)]
 (TX (fun x : PZ × Value × Value × Value => PvOk F W x.1 ∧ x.1.pm = (sendP z.pm).2) (fun x => .tuple #[.agg #[.int .i64 (sentN z.pm).k, x.2.1, x.2.2.1, x.2.2.2], .bool (sendP z.pm).1.isSome]) (fun x => [blk D 85 [.bool x.1.made, x.1.bv, x.1.lv, .int .i64 x.1.cm, .int .i64 x.1.tk, .int .i64 (x.1.ph : Nat), x.1.leftv, x.1.waitv, .int .i64 (x.1.asked : Nat), x.1.lacksv, .int .i64 (x.1.rounds : Nat), .bool x.1.over, .int .i64 x.1.num, .int .i64 x.1.e], frz F W, que 92 5 x.1.waitv x.1.wait.length (x.1.wait.flatMap awC), own 54 17 x.1.lacksv x.1.lacks.length (x.1.lacks.flatMap chC), own 3 1 x.2.1 (sentN z.pm).ns.length ((sentN z.pm).ns.map vInt), own 52 16 x.2.2.1 (sentN z.pm).ids.length (flatI (sentN z.pm).ids), ownB 5 x.2.2.2 (sentN z.pm).bs])) := by
 refine Tr.of (l := [(0, .pointer (some ⟨D, 0, none⟩))]) Tryz.func21 rfl (n := 64) rfl (.cons rfl .nil) (fun w0 hro => ?_)
 obtain ⟨cL, dL, eL, fL, hvL, _, _, hnL, hLd, hLe⟩ := hz.left.open
 refine G.queFact (v := z.waitv) selT (fun _ hql qad qcap hvw => ?_)
 refine go [9,10,60,5] ?_
 intro b2
 refine go [1,7,8,9,9,10,0,2,50,4,0,3,0,3,8,3,3,6] ?_
 refine G.want rfl rfl rfl (G.val rfl rfl ((pv_load (v := z.leftv) Tryz.underlying83 rfl rfl (by exact blk_cell selD (by rfl))).cast hvL) ?_)
 refine go [3,5,3,13,2,2,0] ?_
 refine G.partP (t := 16) rfl (fun h16 => ?_) (fun h16 => ?_)
 ·refine go [4,4,4,4,4,4,2,2,7,8,60,1,9,10,2,50,2,20,1,7,8,11,12] ?_
  rw [show sentN z.pm = ntz from by unfold sentN; rw [sendP_no (Or.inl (aws_nil (by omega)))]; rfl, sendP_no (Or.inl (aws_nil (by omega)))]
  refine go [60,7,60,4,60,8] ?_
  exact G.doneG ((z, .slice none 0 0, .slice none 0 0, .slice none 0 0)) Y26 rfl (Rv.cellN (cs := [_, _, _, _]) rfl Tryz.underlying33 rfl kr Y23 (Rv.tmp rfl Rv.nil)) rfl subT
 refine go [3,0,3,8,3,3,7] ?_
 refine G.want rfl rfl rfl (G.val rfl rfl ((pv_load (v := z.waitv) Tryz.underlying83 rfl rfl (by exact blk_cell selD (by rfl))).cast hvw) ?_)
 refine go [3,5,3,12,2,2,7,8] ?_
 refine G.condP rfl (fun h23 => ?_) (fun h23 => ?_)
 ·refine go [9,10,2,50,2,20,1,7,8,11,12] ?_
  rw [show sentN z.pm = ntz from by unfold sentN; rw [sendP_no (Or.inr (by rw [pm_wait]; omega))]; rfl, sendP_no (Or.inr (by rw [pm_wait]; omega))]
  refine go [60,7,60,4,60,8] ?_
  exact G.doneG ((z, .slice none 0 0, .slice none 0 0, .slice none 0 0)) Y26 rfl (Rv.cellN (cs := [_, _, _, _]) rfl Tryz.underlying33 rfl kr Y23 (Rv.tmp rfl Rv.nil)) rfl subT
 have hw8 : ¬ 8 ≤ z.wait.length := by omega
 obtain ⟨X, t, hXt⟩ : ∃ X t, z.left = X :: t := by cases e : z.left with | nil => (exfalso; have h0 := congrArg List.length e; rw [List.length_nil] at h0; omega) | cons X t => exact ⟨X, t, rfl⟩
 have hXl : z.left.length = t.length + 1 := by rw [hXt]; rfl
 have hR := hLe 0 (by omega)
 rw [show z.left[0] = X from by simp [hXt]] at hR
 have hX := hR.2.2
 refine go [13,8,9,10,0,2,8,2,3,6] ?_
 refine G.op rfl (G.val rfl rfl ((pv_load (v := z.leftv) Tryz.underlying83 rfl rfl (by exact blk_cell selD (by rfl))).cast hvL) ?_)
 refine G.op rfl (G.val rfl rfl (pv_ixSl (sz := 5) (k := 0) Tryz.underlying83 kr rfl rfl hLd rfl (by omega)) ?_)
 refine G.op rfl (G.val rfl rfl (pv_loadN (cs := awC X) Tryz.underlying92 rfl kr rfl (frz_rng selT hR.1 hR.2.1)) ?_)
 refine go [60,23] ?_
 intro b4
 refine G.op rfl (G.storeN (vs := awC X) kr rfl rfl (List.all_eq_true.2 (awC_one hR.2.2)) selT (by show 0 + 5 ≤ 5; omega) ?_)
 rw [show putN [.int .i64 0, .slice none 0 0, .slice none 0 0, .slice none 0 0, .nilFunc] 0 (awC X) = awC X from rfl]
 refine go [7,8,9,10,0,0,2,8,2,3,6] ?_
 refine G.op rfl (G.val rfl rfl ((pv_load (v := z.leftv) Tryz.underlying83 rfl rfl (by exact blk_cell selD (by rfl))).cast hvL) ?_)
 refine go [2,50,16,2,8,2,3,6] ?_
 refine G.op rfl (G.store kr rfl rfl (sub_one1 _ _ _ _ _) selT leT ?_)
 refine go [7,8,9] ?_
 refine G.drawE (nn := 11) (p := [que 92 5 _ _ _]) (rem := 255) [0, 0, 2, 4, 8, 0, 32, 80, 255, 511, 767] [0, 0, 2, 4, 8, 0, 32, 80, 1, 256, 640] [10, 9, 8] [1023, 511, 255] 8 kr ⟨rfl, by kernel_rfl, by kernel_rfl⟩ kr kr kr subT (fun hT5 => ?_)
 refine go [22,0,254,0,22,1,252,0,22,2,248,8,22,3,240,3,7,22,4,224,50,0,24,5,192] ?_
 refine G.turnOp rfl rfl (G.val rfl rfl (pv_loadN (cs := awC X) Tryz.underlying92 rfl kr rfl (blk_range (k := 5) selD rfl)) ?_)
 refine go [26,24,6,128] ?_
 refine G.turnOp rfl rfl (G.buildSlice (z := .agg #[.int .i64 0, .slice none 0 0, .slice none 0 0, .slice none 0 0, .nilFunc]) (sz := 5) (cs := awC X) rfl Tryz.underlying83 kr (by decide) (by decide) rfl kr ?_)
 intro b45
 refine go [26,24,7,0] ?_
 refine G.turnOp rfl rfl (G.appendQ (k := z.wait.length) (j := 1) (cs := z.wait.flatMap awC) (news := awC X) (b := b45) (off := 0) rfl Tryz.underlying83 Tryz.infoAw rfl rfl rfl selT (by omega) rfl (blk_news (k := 5) selT rfl) (awC_one hX) (by omega) (by omega) ?_)
 intro vq
 rw [awC_app, show z.wait.length + 1 = (z.wait ++ [X]).length from by rw [List.length_append]; rfl]
 refine G.queFact (v := vq) selT (fun hvq _ _ _ _ => ?_)
 refine go [26,27] ?_
 refine G.tailS [10, 9] 8 rfl ?_
 refine go [25,8] ?_
 refine G.tailS [10] 9 rfl ?_
 refine go [25,3,7] ?_
 refine G.tailS [] 10 rfl ?_
 refine go [30,60,6,8,9,10,2,3,0] ?_
 refine G.op rfl (G.val rfl rfl (pv_loadN (cs := nvC X.nv) Tryz.underlying33 rfl kr rfl (blk_range (k := 4) selT rfl)) ?_)
 refine go [60,5] ?_
 intro b5
 refine G.op rfl (G.storeN (vs := nvC X.nv) kr rfl rfl (List.all_eq_true.2 (nvC_one hX.1)) selT (by show 0 + 4 ≤ 4; omega) ?_)
 rw [show putN [.int .i64 0, .slice none 0 0, .slice none 0 0, .slice none 0 0] 0 (nvC X.nv) = [.int .i64 X.nv.n.k, X.nv.vN, X.nv.vI, X.nv.vB] from rfl]
 obtain ⟨hx1, hx2, hx3, hx4, hx5, hx6, hx7⟩ := hX.1
 refine go [7,8,9] ?_
 refine G.drawE (nn := 15) (p := []) (rem := 1023) [0, 1, 2, 0, 8, 20, 0, 64, 160, 223, 991, 1791, 3839, 8191, 16383] [0, 1, 2, 0, 8, 16, 0, 64, 128, 0, 516, 0, 2080, 0, 8448] [14, 13, 12, 11, 10] [16383, 8191, 4095, 2047, 1023] 10 kr ⟨rfl, by kernel_rfl, by kernel_rfl⟩ kr kr kr subT (fun hT7 => ?_)
 refine go [22,0,1022,3,1,22,3,1014,3,2,22,6,950,3,3,22,1,948,50,0,22,4,932,50,0,22,7,804,50,0,24,2,800,60,7] ?_
 refine G.turnOp rfl rfl (G.appendS (k := 0) (cs := []) (xs := X.nv.n.ns) (f := vInt) (p := I64) (Ps := F) rfl Tryz.underlying29 Tryz.infoInt' rfl rfl selT (frz_sl selT hx1) (vInt_one _) (by omega) (by omega) ?_)
 intro vN
 rw [Nat.zero_add X.nv.n.ns.length, List.nil_append]
 refine G.ownFact (v := vN) selT (fun hvN _ => ?_)
 refine go [26,22,9,288,3,1,24,5,256,60,4] ?_
 refine G.turnOp rfl rfl (G.appendI (k := 0) (cs := []) (ids := X.nv.n.ids) (Ps := F) rfl Tryz.underlying30 Tryz.infoID' rfl rfl selT (frz_sl selT hx2) (by omega) ?_)
 intro vI
 rw [Nat.zero_add X.nv.n.ids.length, List.nil_append]
 refine G.ownFact (v := vI) selT (fun hvI _ => ?_)
 refine go [26,24,8,0,60,8] ?_
 refine G.turnOp rfl rfl (G.appendB (xs := []) (ys := X.nv.n.bs) (Ps := F) rfl Tryz.underlying31 Tryz.infoByte rfl rfl selT (frz_sl selT hx3) (by simp only [List.length_nil]; omega) (by simp only [List.length_nil]; omega) ?_)
 intro vB
 rw [List.nil_append X.nv.n.bs]
 refine G.ownBFact (v := vB) selT (fun hvB => ?_)
 refine go [26,27] ?_
 refine G.tailS [14, 13, 12, 11] 10 rfl ?_
 refine go [30] ?_
 refine G.tailS [14, 13, 12] 11 rfl ?_
 refine go [25,3,2] ?_
 refine G.tailS [14, 13] 12 rfl ?_
 refine go [30] ?_
 refine G.tailS [14] 13 rfl ?_
 refine go [25,3,3] ?_
 refine G.tailS [] 14 rfl ?_
 refine go [30,60,6,8,9,10,2,50,9,20,1,7,8,11] ?_
 rw [show sentN z.pm = X.nv.n from by unfold sentN; rw [sendP_yes hXt hw8]; rfl, sendP_yes hXt hw8]
 exact G.doneG (({ z with leftv := subV 5 cL 1 z.left.length dL, left := t, waitv := vq, wait := z.wait ++ [X] }, vN, vI, vB)) (by first | exact trivial | ((try dsimp only) <;> exact ⟨⟨hz.b, hz.l, hz.lk, (by have h0 := hz.left; rw [hvL, hXt] at h0; have := sub_tail h0; rwa [← hXl] at this), (fun y hy => hz.leftO y (by rw [hXt]; exact List.mem_cons_of_mem _ hy)), (fun y hy => by rcases List.mem_append.1 hy with hy | hy; exact hz.wait y hy; obtain rfl : y = X := (by simpa using hy); exact hz.leftO _ (by rw [hXt]; exact List.mem_cons_self ..)), hz.lacks⟩, rfl⟩)) rfl (Rv.cellN (cs := [_, _, _, _]) rfl Tryz.underlying33 rfl kr Y23 (Rv.tmp rfl Rv.nil)) rfl subT
set_option maxHeartbeats 4000000 in
theorem copyNoteB_tr {Pv1 Pv2 Pv3 : Nat → Prop} (k : Int) (v1 v2 v3 : Value) (ns : List Int) (ids : List (List UInt8)) (bs : List UInt8) (h1 : ns.length ≤ 1000000) (h2 : ids.length ≤ 1000000) (h3 : bs.length ≤ 1000000) : Tr Tryz.prog 37 #[.agg #[.int .i64 k, v1, v2, v3]] [slc rInt Pv1 v1 ns, slc rID Pv2 v2 ids, slc rByte Pv3 v3 bs] []
 (TX (fun _ : Value × Value × Value => True) (fun x => .agg #[.int .i64 k, x.1, x.2.1, x.2.2]) (fun x => [own 3 1 x.1 ns.length (ns.map vInt), own 52 16 x.2.1 ids.length (flatI ids), ownB 5 x.2.2 bs])) := by
 refine Tr.of (l := [(0, .agg #[.int .i64 k, v1, v2, v3])]) Tryz.func37 rfl (n := 17) rfl (.cons rfl .nil) (fun w0 hro => ?_)
 obtain ⟨hA, hB, hC⟩ := ro3 hro
 have oa := Ro.open hA
 have ob := Ro.open hB
 have oc := Ro.open hC
 obtain ⟨aa, ca, qa, oa, rfl, -⟩ := oa
 obtain ⟨ab, cb, qb, ob, rfl, -⟩ := ob
 obtain ⟨ac, cc, qc, oc, rfl, -⟩ := oc
 refine go [9,10,60,2] ?_
 intro b1
 refine go [60,5] ?_
 intro b2
 refine go [7,8,9] ?_
 refine G.drawT (nn := 15) (p := [blk b2 _ _]) (rem := 32767) [0, 1, 0, 0, 8, 20, 0, 0, 128, 352, 0, 1024, 2560, 4642, 16383] [0, 1, 0, 0, 8, 20, 0, 0, 128, 320, 0, 1024, 2048, 4642, 8192] kr ⟨rfl, by kernel_rfl, by kernel_rfl⟩ subT kr (fun hT1 => ?_)
 refine go [22,0,32766,3,0,22,3,32758,3,1,22,7,32630,3,2,22,10,31606,3,3,22,1,31604,50,0,22,4,31588,50,0,22,8,31332,50,0,22,11,29284,50,0] ?_
 refine G.twoT hT1 (i := 2) (j := 6) (rem' := 29280) (rem'' := 29220) kr kr kr ?_ ?_
 ·refine go [60,14] ?_
  intro b5
  refine G.ownBlk (b := b5) (k := 0) (sz := 1) selT rfl (by omega) ?_
  refine go [26] ?_
  refine G.twoT hT1 (i := 5) (j := 6) (rem' := 29248) (rem'' := 29216) kr kr kr ?_ ?_
  ·refine G.turnOp rfl rfl (G.appendS (k := 0) (cs := []) (xs := ns) (f := vInt) (p := I64) (Ps := Pv1) rfl Tryz.underlying29 Tryz.infoInt' rfl rfl selT (ro_sl hA) (vInt_one _) (by omega) (by omega) ?_)
   intro vN
   rw [Nat.zero_add ns.length, List.nil_append]
   refine G.ownFact (v := vN) selT (fun hvN _ => ?_)
   refine go [26,24,6,29184,60,14] ?_
   intro b9
   refine G.ownBlk (b := b9) (k := 0) (sz := 16) selT rfl (by omega) ?_
   refine go [26,24,9,28672] ?_
   refine G.turnOp rfl rfl (G.appendI (k := 0) (cs := []) (ids := ids) (Ps := Pv2) rfl Tryz.underlying30 Tryz.infoID' rfl rfl selT (ro_sl hB) (by omega) ?_)
   intro vI
   rw [Nat.zero_add ids.length, List.nil_append]
   refine G.ownFact (v := vI) selT (fun hvI _ => ?_)
   refine go [26,24,12,24576] ?_
   refine G.turnOp rfl rfl (G.cS rfl rfl rfl rfl Tryz.func58 rfl rfl subT (may1 (.old hC)) (copyB_tr _ bs (by omega)) apT ?_)
   intro x15 hJ
   try dsimp only at hJ
   try dsimp only
   refine G.ownBFact (v := x15) selT (fun hvB => ?_)
   refine go [26,22,13,16384,50,2,24,14,0,29,26,27,8,11] ?_
   exact G.doneG ((vN, vI, x15)) trT rfl (Rv.cellN (cs := [_, _, _, _]) rfl Tryz.underlying33 rfl kr Y23 Rv.nil) Y7 subT
  refine go [60,14] ?_
  intro b9
  refine G.ownBlk (b := b9) (k := 0) (sz := 16) selT rfl (by omega) ?_
  refine go [26,24,5,29184] ?_
  refine G.turnOp rfl rfl (G.appendS (k := 0) (cs := []) (xs := ns) (f := vInt) (p := I64) (Ps := Pv1) rfl Tryz.underlying29 Tryz.infoInt' rfl rfl selT (ro_sl hA) (vInt_one _) (by omega) (by omega) ?_)
  intro vN
  rw [Nat.zero_add ns.length, List.nil_append]
  refine G.ownFact (v := vN) selT (fun hvN _ => ?_)
  refine go [26,24,9,28672] ?_
  refine G.turnOp rfl rfl (G.appendI (k := 0) (cs := []) (ids := ids) (Ps := Pv2) rfl Tryz.underlying30 Tryz.infoID' rfl rfl selT (ro_sl hB) (by omega) ?_)
  intro vI
  rw [Nat.zero_add ids.length, List.nil_append]
  refine G.ownFact (v := vI) selT (fun hvI _ => ?_)
  refine go [26,24,12,24576] ?_
  refine G.turnOp rfl rfl (G.cS rfl rfl rfl rfl Tryz.func58 rfl rfl subT (may1 (.old hC)) (copyB_tr _ bs (by omega)) apT ?_)
  intro x15 hJ
  try dsimp only at hJ
  try dsimp only
  refine G.ownBFact (v := x15) selT (fun hvB => ?_)
  refine go [26,22,13,16384,50,2,24,14,0,29,26,27,8,11] ?_
  exact G.doneG ((vN, vI, x15)) trT rfl (Rv.cellN (cs := [_, _, _, _]) rfl Tryz.underlying33 rfl kr Y23 Rv.nil) Y7 subT
 refine go [60,14] ?_
 intro b9
 refine G.ownBlk (b := b9) (k := 0) (sz := 16) selT rfl (by omega) ?_
 refine go [26,24,2,29216,60,14] ?_
 intro b5
 refine G.ownBlk (b := b5) (k := 0) (sz := 1) selT rfl (by omega) ?_
 refine go [26,24,5,29184] ?_
 refine G.turnOp rfl rfl (G.appendS (k := 0) (cs := []) (xs := ns) (f := vInt) (p := I64) (Ps := Pv1) rfl Tryz.underlying29 Tryz.infoInt' rfl rfl selT (ro_sl hA) (vInt_one _) (by omega) (by omega) ?_)
 intro vN
 rw [Nat.zero_add ns.length, List.nil_append]
 refine G.ownFact (v := vN) selT (fun hvN _ => ?_)
 refine go [26,24,9,28672] ?_
 refine G.turnOp rfl rfl (G.appendI (k := 0) (cs := []) (ids := ids) (Ps := Pv2) rfl Tryz.underlying30 Tryz.infoID' rfl rfl selT (ro_sl hB) (by omega) ?_)
 intro vI
 rw [Nat.zero_add ids.length, List.nil_append]
 refine G.ownFact (v := vI) selT (fun hvI _ => ?_)
 refine go [26,24,12,24576] ?_
 refine G.turnOp rfl rfl (G.cS rfl rfl rfl rfl Tryz.func58 rfl rfl subT (may1 (.old hC)) (copyB_tr _ bs (by omega)) apT ?_)
 intro x15 hJ
 try dsimp only at hJ
 try dsimp only
 refine G.ownBFact (v := x15) selT (fun hvB => ?_)
 refine go [26,22,13,16384,50,2,24,14,0,29,26,27,8,11] ?_
 exact G.doneG ((vN, vI, x15)) trT rfl (Rv.cellN (cs := [_, _, _, _]) rfl Tryz.underlying33 rfl kr Y23 Rv.nil) Y7 subT
section
variable {P : Program} {n : Nat} {w0 : World} {S : Nat → Prop} {l : Fr} {m : List Ck} {K : Act → World → Prop}
theorem G.ownAny {e sz k g cap : Nat} {cs : List Value} {r : List Ck} (hs : Sel m (blk g e cs) r) (hl : cs.length = cap * sz) (hc : k ≤ cap) (hm : cap ≤ 9223372036854775807) (h : ∀ ds, G n w0 S l (own e sz (.slice (some ⟨g, 0, none⟩) k cap) k ds :: r) K) : G n w0 S l m K := fun a w ha hw => by
 have hk : k * sz ≤ cap * sz := Nat.mul_le_mul_right _ hc
 have e1 : cs = cs.take (k * sz) ++ cs.drop (k * sz) := (List.take_append_drop ..).symm
 refine G.ownOf (l := l) (K := K) (m := blk g e (cs.take (k * sz) ++ cs.drop (k * sz)) :: r) (cs := cs.take (k * sz)) (sp := cs.drop (k * sz)) Sel.here (by rw [List.length_take]; omega) hc hm (by rw [← e1]; exact hl) (h _) a w ha ?_
 rw [← e1]
 exact hw.sel hs
end
theorem id7Built : Tryz.prog.built 52 [(0, .int .u8 7)] = some (#[.int .u8 7] ++ Array.replicate 15 (.int .u8 0)) := by kernel_rfl
set_option maxHeartbeats 4000000 in
theorem overNote_tr (k : Int) (v1 v2 v3 : Value) (ns : List Int) (ids : List (List UInt8)) (bs : List UInt8) (h1 : ns.length ≤ 1000000) (h2 : ids.length ≤ 1000000) : Tr Tryz.prog 35 #[.agg #[.int .i64 k, v1, v2, v3]] [] [own 3 1 v1 ns.length (ns.map vInt), own 52 16 v2 ids.length (flatI ids), ownB 5 v3 bs]
 (TX (fun _ : Unit => True) (fun _ => .tuple #[]) (fun _ => [])) := by
 refine Tr.of (l := [(0, .agg #[.int .i64 k, v1, v2, v3])]) Tryz.func35 rfl (n := 30) rfl (.cons rfl .nil) (fun w0 hro => ?_)
 refine G.ownOpen (v := v1) selT (fun a1 c1 q1 _ _ => ?_)
 subst q1
 refine G.ownOpen (v := v2) selT (fun a2 c2 q2 _ _ => ?_)
 subst q2
 refine G.ownBFact (v := v3) selT (fun q3 => ?_)
 refine go [9,10,60,2] ?_
 intro b1
 refine go [7,8,9,9,10,1,7,8,15] ?_
 refine G.loopK (X := Nat × (List Value)) (ts := [1]) (fun st => st.1 ≤ ns.length) (fun st => [(2, .int .i64 (st.1 : Int))]) (fun st => [own 3 1 (.slice a1 ns.length c1) ns.length st.2]) (fun st => ns.length - st.1) (x0 := (0, (ns.map vInt))) (.cons rfl .nil) subT (.cons .nil) apT Y27 (.consE rfl veqT .nil) (fun st hJ => ?_)
 obtain ⟨i, cs⟩ := st
 try dsimp only at hJ
 try dsimp only
 have hki := hJ
 refine go [9,9,10,0,2,3,1,2,50,0,2,5,2,9,7,8] ?_
 refine G.condP rfl (fun h8 => ?_) (fun h8 => ?_)
 ·have hlt : i < ns.length := by omega
  refine G.ownTo (v := .slice a1 ns.length c1) selT (by omega) (fun g cap sp hvv hkc hmx hl hlen => ?_)
  injection hvv with e1 e2 e3
  subst e1
  subst e3
  refine go [13,8,9,15,10,2,3,1,2,50,0,0] ?_
  refine G.op rfl (G.val rfl rfl (pv_ixSl (sz := 1) (k := i) Tryz.underlying29 kr rfl rfl (fun _ => rfl) rfl (by omega)) ?_)
  refine G.op rfl (G.store kr rfl rfl rfl selT (by rw [hl]; omega) ?_)
  refine go [7,16,8,10,0,2,6,1,7] ?_
  refine G.ownAny (k := ns.length) (cap := c1) selT (by rw [List.length_set]; exact hl) (by omega) hmx (fun ds => ?_)
  exact G.next ((i + 1, ds)) Y25 (by (try dsimp only); omega) (.consE rfl veqT (.cons rfl .nil)) subT
 refine go [18,14,14,19,8,9,9,10,1,7,8,15] ?_
 refine G.loopK (X := Nat × (List Value)) (ts := [1]) (fun st => st.1 ≤ ids.length) (fun st => [(3, .int .i64 (st.1 : Int))]) (fun st => [own 52 16 (.slice a2 ids.length c2) ids.length st.2]) (fun st => ids.length - st.1) (x0 := (0, (flatI ids))) (.cons rfl .nil) subT (.cons .nil) apT Y27 (.consE rfl veqT .nil) (fun st hJ => ?_)
 obtain ⟨i, cs⟩ := st
 try dsimp only at hJ
 try dsimp only
 have hki := hJ
 refine go [9,9,10,0,2,3,2,2,50,0,2,5,2,9,7,8] ?_
 refine G.condP rfl (fun h19 => ?_) (fun h19 => ?_)
 ·have hlt : i < ids.length := by omega
  refine G.ownTo (v := .slice a2 ids.length c2) selT (by omega) (fun g cap sp hvv hkc hmx hl hlen => ?_)
  injection hvv with e1 e2 e3
  subst e1
  subst e3
  refine go [13,8,9,15,10,2,3,2,2,50,0,0] ?_
  refine G.op rfl (G.val rfl rfl (pv_build (ps := [(0, .int .u8 7)]) (fun a ha => ha.pevs (xs := [(0, _)]) rfl) id7Built) ?_)
  refine G.op rfl (G.val rfl rfl (pv_ixSl (sz := 16) (k := i) Tryz.underlying30 kr rfl rfl (fun _ => rfl) rfl (by omega)) ?_)
  refine G.op rfl (G.storeN (vs := [.int .u8 7, .int .u8 0, .int .u8 0, .int .u8 0, .int .u8 0, .int .u8 0, .int .u8 0, .int .u8 0, .int .u8 0, .int .u8 0, .int .u8 0, .int .u8 0, .int .u8 0, .int .u8 0, .int .u8 0, .int .u8 0]) kr rfl rfl (by rfl) selT (by rw [hl]; show 0 + i * 16 + 16 ≤ _; omega) ?_)
  refine go [7,16,8,10,0,2,6,1,7] ?_
  refine G.ownAny (k := ids.length) (cap := c2) selT (by rw [putN_len]; exact hl) (by omega) hmx (fun ds => ?_)
  exact G.next ((i + 1, ds)) Y25 (by (try dsimp only); omega) (.consE rfl veqT (.cons rfl .nil)) subT
 refine go [18,14,14,19,8,10,2,3,3,2,50,0] ?_
 refine G.op rfl (G.cS rfl rfl rfl rfl Tryz.func62 rfl rfl subT may0 (overB_tr v3 bs) apT ?_)
 intro x29 hJ
 try dsimp only at hJ
 try dsimp only
 refine G.nil ?_
 exact G.doneXE (()) trT rfl rfl subT
theorem entF4 (f : Nat) (p : PM) : entF (f + 2) p 4 = if p.lacks = [] then { p with ph := 5, left := [⟨5, [], [], []⟩] } else { p with ph := 4, left := p.lacks.map give } := by
 by_cases h : p.lacks = []
 ·rw [if_pos h]
  have e : entF (f + 2) p 4 = entF (f + 1) { p with ph := 4 } 5 := if_pos (by show p.lacks.map give = []; rw [h]; rfl)
  rw [e]
  rfl
 rw [if_neg h]
 exact if_neg (fun hh => h (List.map_eq_nil_iff.1 hh))
theorem enter4 (p : PM) : enterM p 4 = if p.lacks = [] then { p with ph := 5, left := [⟨5, [], [], []⟩], wait := [], asked := 0 } else { p with ph := 4, left := p.lacks.map give, wait := [], asked := 0 } := by
 unfold enterM
 exact entF4 0 _
theorem enter3 (p : PM) : enterM p 3 = if queriesL (p.l.map (·.1)) = [] then { p with ph := 5, left := [⟨5, [], [], []⟩], wait := [], asked := 0, lacks := [], rounds := p.rounds + 1 } else { p with ph := 3, left := queriesL (p.l.map (·.1)), wait := [], asked := 0, lacks := [], rounds := p.rounds + 1 } := by
 unfold enterM
 by_cases h : queriesL (p.l.map (·.1)) = []
 ·rw [if_pos h]
  have e : entF 3 { p with left := [], wait := [], asked := 0 } 3 = entF 2 { p with left := [], wait := [], asked := 0, ph := 3, lacks := [], rounds := p.rounds + 1 } 4 := if_pos h
  exact e.trans ((entF4 0 _).trans (if_pos rfl))
 rw [if_neg h]
 exact if_neg h
theorem enter2 (p : PM) (h : 0 < p.b.length) : enterM p 2 = { p with ph := 2, left := partsL p.b, wait := [], asked := 0 } := by
 unfold enterM
 refine if_neg (fun hh => ?_)
 have h3 := congrArg List.length hh
 simp [phsM, partsL, partsT] at h3
 omega
def lkL (l : List (List UInt8 × List UInt8)) (lk : List Nat) : List (List UInt8 × List UInt8) := lk.map fun i => (l[i]?).getD ([], [])
theorem gvL_lk (l : List (List UInt8 × List UInt8)) (lk : List Nat) : gvL l lk = (lkL l lk).map give := by
 unfold gvL lkL
 rw [List.map_map]
 rfl
theorem lkL_len (l : List (List UInt8 × List UInt8)) (lk : List Nat) : (lkL l lk).length = lk.length := List.length_map ..
theorem lackI_T {l : List (List UInt8 × List UInt8)} {k : List Nat} {t : Nat} {ns : List Int} : ∀ i, t * 16 + i ≤ l.length → lkL l (lackI k t ns i) = lackT (lkL l k) l (16 * t) ns i
 | 0, _ => rfl
 | i + 1, h => by
  have ih := lackI_T (l := l) (k := k) (t := t) (ns := ns) i (by omega)
  have hlt : 16 * t + i < l.length := by omega
  have e : lkL l (lackI k t ns i ++ if ns[i]? = some 0 then [t * 16 + i] else []) = lkL l (lackI k t ns i) ++ lkL l (if ns[i]? = some 0 then [t * 16 + i] else []) := List.map_append
  rw [lackI, lackT, e, ih]
  congr 1
  split
  ·rw [show t * 16 + i = 16 * t + i from by omega]
   simp [lkL, List.getElem?_eq_getElem hlt]
  rfl
structure Rl0 (p : PM) (r : RP) : Prop where
 made : p.made = true
 b : p.b = r.b
 l : p.l = r.l
 cm : p.cm = r.cm
 tk : p.tk = r.tk
 rounds : p.rounds = r.rounds
 over : p.over = r.over
 num : p.num = r.num
 e : p.e = r.e
 lacks : p.lacks = lkL r.l r.lacks
 lks : ∀ i ∈ r.lacks, i < r.l.length
 b0 : 0 < r.b.length
 bl : r.b.length ≤ 100000000
 ll : r.l.length ≤ 10000000
 kl : r.lacks.length ≤ 10000000
structure NsOk (r : RP) : Prop where
 ph : 1 ≤ r.ph ∧ r.ph ≤ 5
 kinds : ∀ n ∈ r.notes, n.k = (r.ph : Int)
 two : r.ph = 2 → ∀ n ∈ r.notes, ∃ a : Nat, n.ns = [(a : Int)] ∧ a ≤ 100000000
 three : r.ph = 3 → r.notes = queriesL (r.l.map (·.1))
 four : r.ph = 4 → ∀ n ∈ r.notes, n.ids.length = 1
 ids64 : ∀ n ∈ r.notes, n.ids.length ≤ 64
 few : r.notes.length ≤ 100000000
structure Rel (p : PM) (r : RP) : Prop extends Rl0 p r, NsOk r where
 phe : r.over = false → p.ph = r.ph
 ts : r.told ≤ r.sent
 sn : r.sent ≤ r.notes.length
 live : r.over = false → r.told < r.notes.length
 left : r.over = false → p.left = r.notes.drop r.sent ∧ p.wait = (r.notes.take r.sent).drop r.told
 dead : r.over = true → p.left = [] ∧ p.wait = []
 asked : r.over = false → r.ph = 3 → p.asked = 16 * r.told
section
variable {p : PM} {r : RP}
theorem rel_wait (h : Rel p r) : (p.wait.length : Int) = openR r := by
 cases e : r.over with
 | true =>
  rw [(h.dead e).2, openR_off e]
  rfl
 | false =>
  rw [(h.left e).2, openR_on e, List.length_drop, List.length_take]
  have h1 := h.ts
  have h2 := h.sn
  omega
theorem rel_phase (h : Rel p r) : (if p.over = true then 0 else (p.ph : Int)) = phaseR r := by
 unfold phaseR
 rw [h.over]
 cases e : r.over with
 | true => rfl
 | false =>
  rw [if_neg (by simp), if_neg (by simp), h.phe e]
theorem rel_rc (h : Rel p r) (hp : PcOk p) : RcOk r :=
 ⟨⟨by rw [← h.cm]; exact hp.cm, by rw [← h.tk]; exact hp.tk, h.b0, h.bl, h.ll, h.lks, by have := h.kl; omega⟩, by rw [← h.rounds]; have := hp.rounds; omega, h.ts, h.sn, by have := h.few; omega⟩
theorem batch_len (ids : List (List UInt8)) (q : Nat) : (batch ids q).ids.length = min 16 (ids.length - 16 * q) := by
 show ((ids.drop (16 * q)).take 16).length = _
 rw [List.length_take, List.length_drop]
theorem ns_three (h : NsOk r) {n : Nt} (hn : r.notes[r.told]? = some n) (hk : n.k = 3) : r.told * 16 + n.ids.length ≤ r.l.length := by
 have h1 := h.kinds n (List.mem_of_getElem? hn)
 have h3 := h.three (by omega)
 rw [h3] at hn
 unfold queriesL at hn
 rw [List.getElem?_map] at hn
 obtain ⟨q, hq, rfl⟩ := Option.map_eq_some_iff.1 hn
 obtain ⟨hlt, rfl⟩ := List.getElem?_eq_some_iff.1 hq
 rw [List.length_range] at hlt
 rw [List.getElem_range, batch_len, List.length_map]
 rw [List.length_map] at hlt
 omega
theorem ns_two (h : NsOk r) : ∀ n ∈ r.notes, n.k = 2 → ∃ a : Nat, n.ns = [(a : Int)] ∧ a ≤ 100000000 := fun n hn hk => by
 have h1 := h.kinds n hn
 exact h.two (by omega) n hn
theorem ns_four (h : NsOk r) : ∀ n ∈ r.notes, n.k = 4 → n.ids.length = 1 := fun n hn hk => by
 have h1 := h.kinds n hn
 exact h.four (by omega) n hn
theorem drop_get {α : Type} {L : List α} {j s : Nat} (h1 : j < s) (h2 : s ≤ L.length) : (L.take s).drop j = L[j] :: (L.take s).drop (j + 1) := by
 rw [List.drop_eq_getElem_cons (by rw [List.length_take]; omega), List.getElem_take]
theorem rel_send (h : Rel p r) : (sendP p).1 = (sendR r).1 ∧ Rel (sendP p).2 (sendR r).2 := by
 cases e : r.over with
 | true =>
  rw [sendP_no (.inl (h.dead e).1), sendR_no (.inl e)]
  exact ⟨rfl, h⟩
 | false =>
  have hw := rel_wait h
  have hts := h.ts
  have hsn := h.sn
  by_cases hn : r.sent = r.notes.length ∨ 8 ≤ openR r
  ·rw [sendR_no (.inr hn), sendP_no (by
    rcases hn with hn | hn
    ·exact .inl (by rw [(h.left e).1, hn, List.drop_length])
    exact .inr (by omega))]
   exact ⟨rfl, h⟩
  have hlt : r.sent < r.notes.length := by omega
  have hl := (h.left e).1
  rw [List.drop_eq_getElem_cons hlt] at hl
  have hs : sendP p = (some r.notes[r.sent], { p with left := r.notes.drop (r.sent + 1), wait := p.wait ++ [r.notes[r.sent]] }) := by
   unfold sendP
   rw [if_neg (by rw [hl]; intro hh; rcases hh with hh | hh; cases hh; omega), hl]
   rfl
  have hnn : ¬ (r.over = true ∨ r.sent = r.notes.length ∨ 8 ≤ openR r) := by rw [e]; intro hh; rcases hh with hh | hh; cases hh; exact hn hh
  rw [hs, sendR_go hnn]
  refine ⟨(List.getElem?_eq_getElem hlt).symm, ⟨⟨h.made, h.b, h.l, h.cm, h.tk, h.rounds, h.over, h.num, h.e, h.lacks, h.lks, h.b0, h.bl, h.ll, h.kl⟩, ⟨h.ph, h.kinds, h.two, h.three, h.four, h.ids64, h.few⟩, h.phe, by show r.told ≤ r.sent + 1; omega, hlt, h.live, fun _ => ⟨rfl, ?_⟩, fun hh => ?_, h.asked⟩⟩
  ·show p.wait ++ [r.notes[r.sent]] = (r.notes.take (r.sent + 1)).drop r.told
   rw [(h.left e).2, List.take_succ_eq_append_getElem hlt, List.drop_append_of_le_length (by rw [List.length_take]; omega)]
  have hh : r.over = true := hh
  rw [e] at hh
  cases hh
theorem rel_end (h : Rel p r) (n e : Int) : Rel (endP p n e) (endR r n e) :=
 ⟨⟨h.made, h.b, h.l, h.cm, h.tk, h.rounds, rfl, rfl, rfl, h.lacks, h.lks, h.b0, h.bl, h.ll, h.kl⟩, ⟨h.ph, h.kinds, h.two, h.three, h.four, h.ids64, h.few⟩, (fun h => by cases h), h.ts, h.sn, (fun h => by cases h), (fun h => by cases h), fun _ => ⟨rfl, rfl⟩, (fun h => by cases h)⟩
theorem rel_at (c : Rl0 p r) (ho : r.over = false) (k : Nat) (L : List Nt) (hL : ¬ L = []) (hn : NsOk { r with ph := k, sent := 0, told := 0, notes := L }) : Rel { p with ph := k, left := L, wait := [], asked := 0 } { r with ph := k, sent := 0, told := 0, notes := L } :=
 ⟨⟨c.made, c.b, c.l, c.cm, c.tk, c.rounds, c.over, c.num, c.e, c.lacks, c.lks, c.b0, c.bl, c.ll, c.kl⟩, hn, fun _ => rfl, Nat.le_refl _, Nat.zero_le _, fun _ => (by
  cases L with
  | nil => exact absurd rfl hL
  | cons x t => show 0 < t.length + 1; omega), fun _ => ⟨rfl, rfl⟩, (fun h => by have h : r.over = true := h; rw [ho] at h; cases h), fun _ _ => rfl⟩
theorem ns5 (r : RP) : NsOk { r with ph := 5, sent := 0, told := 0, notes := [⟨5, [], [], []⟩] } :=
 ⟨⟨by show 1 ≤ 5; omega, by show 5 ≤ 5; omega⟩, (fun n hn => by obtain rfl : n = _ := List.mem_singleton.1 hn; rfl), (fun h => by cases h), (fun h => by cases h), (fun h => by cases h), (fun n hn => by obtain rfl : n = _ := List.mem_singleton.1 hn; show 0 ≤ 64; omega), (by show 1 ≤ 100000000; omega)⟩
theorem ns4 (r : RP) {lk : List Nat} (h : lk.length ≤ 20000000) : NsOk { r with ph := 4, sent := 0, told := 0, notes := gvL r.l lk } :=
 ⟨⟨by show 1 ≤ 4; omega, by show 4 ≤ 5; omega⟩, (fun n hn => by obtain ⟨i, _, rfl⟩ := List.mem_map.1 hn; rfl), (fun h => by cases h), (fun h => by cases h), (fun _ n hn => by obtain ⟨i, _, rfl⟩ := List.mem_map.1 hn; rfl), (fun n hn => by obtain ⟨i, _, rfl⟩ := List.mem_map.1 hn; show 1 ≤ 64; omega), gv_few h⟩
theorem ns3 (r : RP) (h : r.l.length ≤ 10000000) (lk : List Nat) (rd : Nat) : NsOk { r with ph := 3, sent := 0, told := 0, notes := queriesL (r.l.map (·.1)), lacks := lk, rounds := rd } :=
 ⟨⟨by show 1 ≤ 3; omega, by show 3 ≤ 5; omega⟩, (fun n hn => by obtain ⟨i, _, rfl⟩ := List.mem_map.1 hn; rfl), (fun h => by cases h), (fun _ => rfl), (fun h => by cases h), (fun n hn => by obtain ⟨i, _, rfl⟩ := List.mem_map.1 hn; rw [batch_len]; omega), queries_few (by rw [List.length_map]; exact h)⟩
theorem ns2 (r : RP) (h : r.b.length ≤ 100000000) : NsOk { r with ph := 2, sent := 0, told := 0, notes := partsL r.b } :=
 ⟨⟨by show 1 ≤ 2; omega, by show 2 ≤ 5; omega⟩, (fun n hn => by obtain ⟨i, _, rfl⟩ := List.mem_map.1 hn; rfl), (fun _ n hn => by
  obtain ⟨i, hi, rfl⟩ := List.mem_map.1 hn
  have h3 := List.mem_range.1 hi
  exact ⟨1000 * i, rfl, by omega⟩), (fun h => by cases h), (fun h => by cases h), (fun n hn => by obtain ⟨i, _, rfl⟩ := List.mem_map.1 hn; show 0 ≤ 64; omega), parts_few h⟩
theorem rel_5 (c : Rl0 p r) (ho : r.over = false) : Rel (enterM p 5) (entR r 5) := rel_at c ho 5 [⟨5, [], [], []⟩] (by simp) (ns5 r)
theorem rel_4 (c : Rl0 p r) (ho : r.over = false) : Rel (enterM p 4) (entR r 4) := by
 show Rel _ (entR4 r)
 rw [enter4]
 by_cases h : p.lacks = []
 ·rw [if_pos h, entR4_go (by rw [gvL_lk, ← c.lacks, h]; rfl)]
  exact rel_5 c ho
 have hne : ¬ gvL r.l r.lacks = [] := by rw [gvL_lk, ← c.lacks]; exact fun hh => h (List.map_eq_nil_iff.1 hh)
 rw [if_neg h, entR4_end hne, show p.lacks.map give = gvL r.l r.lacks from by rw [gvL_lk, ← c.lacks]]
 exact rel_at c ho 4 _ hne (ns4 r (by have := c.kl; omega))
theorem rel_3 (c : Rl0 p r) (ho : r.over = false) : Rel (enterM p 3) (entR r 3) := by
 have c2 : Rl0 { p with lacks := [], rounds := p.rounds + 1 } { r with lacks := [], rounds := r.rounds + 1 } :=
  ⟨c.made, c.b, c.l, c.cm, c.tk, congrArg (· + 1) c.rounds, c.over, c.num, c.e, rfl, (fun i hi => by cases hi), c.b0, c.bl, c.ll, Nat.zero_le _⟩
 show Rel _ (entR3 r)
 rw [enter3, show p.l.map (·.1) = r.l.map (·.1) from by rw [c.l]]
 by_cases h : queriesL (r.l.map (·.1)) = []
 ·rw [if_pos h, entR3_go h]
  exact (rel_4 c2 ho : _)
 rw [if_neg h, entR3_end h]
 exact rel_at c2 ho 3 _ h (ns3 { r with lacks := [], rounds := r.rounds + 1 } c.ll [] (r.rounds + 1))
theorem rel_2 (c : Rl0 p r) (ho : r.over = false) : Rel (enterM p 2) (entR r 2) := by
 show Rel _ (entR2 r)
 rw [enter2 p (by rw [c.b]; exact c.b0), show partsL p.b = partsL r.b from by rw [c.b]]
 exact rel_at c ho 2 _ (parts_ne c.b0) (ns2 r c.bl)
theorem rel_enter (c : Rl0 p r) (ho : r.over = false) {k : Nat} (h2 : 2 ≤ k) (h5 : k ≤ 5) : Rel (enterM p k) (entR r k) := by
 rcases (show k = 2 ∨ k = 3 ∨ k = 4 ∨ k = 5 by omega) with rfl | rfl | rfl | rfl
 ·exact rel_2 c ho
 ·exact rel_3 c ho
 ·exact rel_4 c ho
 exact rel_5 c ho
end
theorem rel_new {c k t : Int} {es : List En} (hk : I64 k) (ht : I64 t) (hd : ∀ e ∈ es, e.data.length ≤ 12000) (hn : es.length ≤ 500) (h : (mkM ⟨c, k, 0, t⟩ es).2.2 = 0) : Rel (newP c k t es) (newR c k t es) := by
 have hok := new_ok hk ht hd hn h
 obtain ⟨hmk, hz0, hb0⟩ := mkM_zero h
 obtain ⟨hbo, hb1, hb2⟩ := bytesO_len (a := (⟨c, k, 0, t⟩ : Mh)) (by rfl) hb0
 have c0 : Rl0 (newQ c k t es) (newRQ c k t es) := ⟨rfl, rfl, rfl, rfl, rfl, rfl, rfl, rfl, rfl, rfl, (fun i hi => by cases hi), by
  show 0 < (bytesO _ _).length
  rw [hmk]
  show 0 < (bytesO _ _).length
  rw [hbo]
  exact hb1, hok.b, hok.l, Nat.zero_le _⟩
 exact rel_at c0 rfl 1 [⟨1, [k, t, ((newRQ c k t es).b.length : Int)], [], []⟩] (by simp) ⟨⟨by show 1 ≤ 1; omega, by show 1 ≤ 5; omega⟩, (fun n hn => by obtain rfl : n = _ := List.mem_singleton.1 hn; rfl), (fun h => by cases h), (fun h => by cases h), (fun h => by cases h), (fun n hn => by obtain rfl : n = _ := List.mem_singleton.1 hn; show 0 ≤ 64; omega), (by show 1 ≤ 100000000; omega)⟩
theorem sh16n : (shM 16).map (·.ns) = some 1 := by kernel_rfl
theorem ns16 {k : Int} {ns : List Int} {il bl : Nat} (h : ncheckM k ns il bl = 0) (hk : k = 16) : ∃ a, ns = [a] := by
 obtain ⟨s, h1, h2⟩ := check_some h
 have h3 := checkS_zero h2
 subst hk
 have e1 := sh16
 have e2 := sh16n
 rw [h1] at e1 e2
 have e3 : s.n = 1 := Option.some.inj e1
 have e4 : s.ns = 1 := Option.some.inj e2
 match ns, h3 with
 | [], h3 => exfalso; simp at h3; omega
 | [a], _ => exact ⟨a, rfl⟩
 | a :: b :: t, h3 => exfalso; simp at h3; omega
theorem just_is {k : Int} {ns : List Int} {ids : List (List UInt8)} {bs : List UInt8} (h : ncheckM k ns ids.length bs.length = 0) (n : Int) : justP ⟨k, ns, ids, bs⟩ 16 n = decide (k = 16 ∧ ns = [n]) := by
 unfold justP
 rw [decide_eq_decide]
 constructor
 ·rintro ⟨h1, h2⟩
  have h1 : k = 16 := h1
  obtain ⟨a, rfl⟩ := ns16 h h1
  exact ⟨h1, by rw [show a = n from Option.some.inj h2]⟩
 rintro ⟨h1, rfl⟩
 exact ⟨h1, rfl⟩
theorem judP_at {ph k : Nat} {p : PM} {x y : Nt} (h : ph = k) : judP ph p x y = judP k p x y := by rw [h]
theorem rel_judge {p : PM} {r : RP} {q y : Nt} {t : List Nt} (h : Rel p r) (ho : r.over = false) (hq : r.notes[r.told]? = some q) (hc : ncheckM y.k y.ns y.ids.length y.bs.length = 0) (hl : ¬ ((q.k = 1 ∨ q.k = 5) ∧ y.k = 19)) :
 (judP p.ph { p with wait := t } q y).1 = (goodR r q y).1 ∧ ((goodR r q y).1 = true → ∃ lkp ak lk, (judP p.ph { p with wait := t } q y).2 = { p with wait := t, lacks := lkp, asked := ak } ∧ (goodR r q y).2 = { r with lacks := lk } ∧ lkp = lkL r.l lk ∧ (∀ i ∈ lk, i < r.l.length) ∧ (r.ph = 3 → ak = p.asked + q.ids.length) ∧ r.ph ≤ 4 ∧ lk.length ≤ r.lacks.length + y.ns.length) ∧ ((goodR r q y).1 = false → (judP p.ph { p with wait := t } q y).2 = { p with wait := t } ∧ (goodR r q y).2 = r) := by
 obtain ⟨k, ns, ids, bs⟩ := y
 have hk := h.kinds q (List.mem_of_getElem? hq)
 have hpe := h.phe ho
 have keep := h.lks
 have h3 := fun hk3 => ns_three h.toNsOk hq hk3
 have hsame : (judP p.ph { p with wait := t } q ⟨k, ns, ids, bs⟩).2 = { p with wait := t } → (goodR r q ⟨k, ns, ids, bs⟩).2 = r → r.ph ≤ 4 → ¬ r.ph = 3 → ∃ lkp ak lk, (judP p.ph { p with wait := t } q ⟨k, ns, ids, bs⟩).2 = { p with wait := t, lacks := lkp, asked := ak } ∧ (goodR r q ⟨k, ns, ids, bs⟩).2 = { r with lacks := lk } ∧ lkp = lkL r.l lk ∧ (∀ i ∈ lk, i < r.l.length) ∧ (r.ph = 3 → ak = p.asked + q.ids.length) ∧ r.ph ≤ 4 ∧ lk.length ≤ r.lacks.length + ns.length := fun e1 e2 h4 hn3 => ⟨p.lacks, p.asked, r.lacks, e1.trans rfl, e2.trans rfl, h.lacks, h.lks, fun h => absurd h hn3, h4, Nat.le_add_right _ _⟩
 rcases (show r.ph = 1 ∨ r.ph = 2 ∨ r.ph = 3 ∨ r.ph = 4 ∨ r.ph = 5 by have := h.ph; omega) with hp | hp | hp | hp | hp
 ·have hk1 : q.k = 1 := by omega
  have hy : ¬ k = 19 := fun e => hl ⟨.inl hk1, e⟩
  have ej : judP p.ph { p with wait := t } q ⟨k, ns, ids, bs⟩ = (justP ⟨k, ns, ids, bs⟩ 16 0, { p with wait := t }) := (judP_at (hpe.trans hp)).trans (begunP_on (x := q) hy)
  refine ⟨?_, fun _ => hsame (by rw [ej]) (by rw [goodR_1 hk1]) (by omega) (by omega), fun _ => ⟨by rw [ej], by rw [goodR_1 hk1]⟩⟩
  rw [ej, goodR_1 hk1]
  exact just_is hc 0
 ·have hk2 : q.k = 2 := by omega
  have ej : judP p.ph { p with wait := t } q ⟨k, ns, ids, bs⟩ = (justP ⟨k, ns, ids, bs⟩ 16 (n0 q.ns + q.bs.length), { p with wait := t }) := judP_at (hpe.trans hp)
  refine ⟨?_, fun _ => hsame (by rw [ej]) (by rw [goodR_2 hk2]) (by omega) (by omega), fun _ => ⟨by rw [ej], by rw [goodR_2 hk2]⟩⟩
  rw [ej, goodR_2 hk2]
  exact just_is hc _
 ·have hk3 : q.k = 3 := by omega
  have ej : judP p.ph { p with wait := t } q ⟨k, ns, ids, bs⟩ = hadP { p with wait := t } q ⟨k, ns, ids, bs⟩ := judP_had (hpe.trans hp)
  by_cases hn : k ≠ 17 ∨ ns.length ≠ q.ids.length
  ·have e1 : hadP { p with wait := t } q ⟨k, ns, ids, bs⟩ = (false, { p with wait := t }) := hadP_no hn
   rw [ej, e1, goodR_no (by omega) (by omega) (by omega) (.inr hn)]
   exact ⟨rfl, (fun h => by cases h), fun _ => ⟨rfl, rfl⟩⟩
  by_cases hb : ∃ n ∈ ns, 1 < n
  ·have e1 : hadP { p with wait := t } q ⟨k, ns, ids, bs⟩ = (false, { p with wait := t }) := hadP_bad hb
   rw [ej, e1, goodR_bad hk3 hb]
   exact ⟨rfl, (fun h => by cases h), fun _ => ⟨rfl, rfl⟩⟩
  have hle : ∀ n ∈ ns, n ≤ 1 := fun n hn => by
   rcases (show n ≤ 1 ∨ 1 < n by omega) with h1 | h1
   ·exact h1
   exact absurd ⟨n, hn, h1⟩ hb
  have e1 : hadP { p with wait := t } q ⟨k, ns, ids, bs⟩ = (true, { p with wait := t, lacks := lackT p.lacks p.l p.asked ns ns.length, asked := p.asked + q.ids.length }) := hadP_yes hn hle
  have e2 := goodR_yes (r := r) (q := q) (x := ⟨k, ns, ids, bs⟩) hk3 (fun hh => by rcases hh with hh | hh; exact hh hk3; exact hn hh) hle
  have h4 := h3 hk3
  have hnl : ns.length = q.ids.length := by omega
  rw [ej, e1, e2]
  refine ⟨rfl, fun _ => ⟨_, _, _, rfl, rfl, ?_, fun i hi => ?_, fun _ => rfl, by omega, lackI_len _ _ _ _⟩, fun h => by cases h⟩
  ·show lackT p.lacks p.l p.asked ns ns.length = lkL r.l (lackI r.lacks r.told ns ns.length)
   rw [lackI_T ns.length (by omega), h.lacks, h.l, h.asked ho hp]
  rcases lackI_mem hi with hi | hi
  ·exact h.lks i hi
  have hi : i < r.told * 16 + ns.length := hi
  omega
 ·have hk4 : q.k = 4 := by omega
  have ej : judP p.ph { p with wait := t } q ⟨k, ns, ids, bs⟩ = (decide (k = 18 ∧ ids[0]? = q.ids[0]?), { p with wait := t }) := judP_at (hpe.trans hp)
  refine ⟨?_, fun _ => hsame (by rw [ej]) (by rw [goodR_4 hk4]) (by omega) (by omega), fun _ => ⟨by rw [ej], by rw [goodR_4 hk4]⟩⟩
  rw [ej, goodR_4 hk4]
 have hk5 : q.k = 5 := by omega
 have hy : ¬ k = 19 := fun e => hl ⟨.inr hk5, e⟩
 have ej : judP p.ph { p with wait := t } q ⟨k, ns, ids, bs⟩ = (false, { p with wait := t }) := (judP_at (hpe.trans hp)).trans (committedP_on (x := q) hy)
 rw [ej, goodR_no (by omega) (by omega) (by omega) (.inl (by omega))]
 exact ⟨rfl, (fun h => by cases h), fun _ => ⟨rfl, rfl⟩⟩
theorem rel_take {p : PM} {r : RP} (y : Nt) (h : Rel p r) (hp : PmOk p) : (takeM p y).1 = (takeR r y).1 ∧ Rel (takeM p y).2 (takeR r y).2 := by
 have hwl := rel_wait h
 by_cases hn : r.over = true ∨ openR r = 0
 ·rw [takeR_no hn, takeM_no (by
   rcases hn with hn | hn
   ·exact .inl (h.over.trans hn)
   exact .inr (List.eq_nil_of_length_eq_zero (by omega)))]
  exact ⟨rfl, h⟩
 have ho : r.over = false := by
  cases e : r.over with
  | false => rfl
  | true => exact absurd (.inl e) hn
 have hts := h.ts
 have hsn := h.sn
 have hop := openR_on ho
 have hlt : r.told < r.sent := by omega
 have hlt2 : r.told < r.notes.length := by omega
 have hq : r.notes[r.told]? = some r.notes[r.told] := List.getElem?_eq_getElem hlt2
 have hw : p.wait = r.notes[r.told] :: (r.notes.take r.sent).drop (r.told + 1) := by rw [(h.left ho).2, drop_get hlt hsn]
 have hk := h.kinds _ (List.mem_of_getElem? hq)
 rw [takeR_go hn, hq]
 show _ ∧ Rel _ (answerR r r.notes[r.told] y)
 unfold takeM
 rw [if_neg (by rw [h.over, ho, hw]; intro hh; rcases hh with hh | hh <;> cases hh), hw]
 refine ⟨rfl, ?_⟩
 generalize hqq : r.notes[r.told] = q at *
 generalize htt : (r.notes.take r.sent).drop (r.told + 1) = t at *
 show Rel (takeB { p with wait := t } q y) (answerR r q y)
 have hendp : ∀ n e, endP { p with wait := t } n e = endP p n e := fun _ _ => rfl
 by_cases hc : ¬ ncheckM y.k y.ns y.ids.length y.bs.length = 0
 ·rw [takeB_bad hc, answerR_bad hc, hendp]
  exact rel_end h _ _
 replace hc := Decidable.of_not_not hc
 have hph := h.phe ho
 by_cases h1 : (q.k = 1 ∨ q.k = 5) ∧ y.k = 19
 ·have hk19 := h1.2
  have hj : judP p.ph { p with wait := t } q y = (true, endP p (n0 y.ns) 0) := by
   rcases h1.1 with hk1 | hk5
   ·exact (judP_at (k := 1) (by omega)).trans (begunP_done (p := { p with wait := t }) (x := q) hk19)
   exact (judP_at (k := 5) (by omega)).trans (committedP_done (p := { p with wait := t }) (x := q) hk19)
  rw [answerR_done hc h1, takeB_jud hc (fun hh => by have := hh.1; omega) (fun hh => by have := hh.1; omega)]
  show Rel (if (judP p.ph { p with wait := t } q y).1 = false then _ else if (judP p.ph { p with wait := t } q y).2.over = false ∧ _ then _ else (judP p.ph { p with wait := t } q y).2) _
  rw [hj, if_neg (by simp), if_neg (fun hh => by cases hh.1)]
  exact rel_end h _ _
 have hcore : Rl0 { p with wait := t } r := ⟨h.made, h.b, h.l, h.cm, h.tk, h.rounds, h.over, h.num, h.e, h.lacks, h.lks, h.b0, h.bl, h.ll, h.kl⟩
 have hag : (y.k = 20 ∧ againP { p with wait := t } y = true) ↔ ((q.k = 5 ∧ r.rounds < 3 ∧ 0 < r.l.length) ∧ y.k = 20 ∧ n0 y.ns = 6) := by
  unfold againP
  rw [decide_eq_true_iff]
  show (y.k = 20 ∧ p.ph = 5 ∧ n0 y.ns = 6 ∧ p.rounds < 3 ∧ 0 < p.l.length) ↔ _
  rw [h.rounds, h.l]
  constructor
  ·rintro ⟨a, b, c, d, e⟩
   exact ⟨⟨by omega, d, e⟩, a, c⟩
  rintro ⟨⟨b, d, e⟩, a, c⟩
  exact ⟨a, by omega, c, d, e⟩
 by_cases h2 : (q.k = 5 ∧ r.rounds < 3 ∧ 0 < r.l.length) ∧ y.k = 20 ∧ n0 y.ns = 6
 ·rw [answerR_again hc h1 h2, takeB_again hc (hag.2 h2)]
  exact rel_enter hcore ho (by omega) (by omega)
 have h2' := fun hh => h2 (hag.1 hh)
 by_cases h3 : y.k = 20 ∧ n0 y.ns ≠ 0
 ·rw [answerR_fail hc h1 h2 h3, takeB_fail hc h2' h3, hendp]
  exact rel_end h _ _
 rw [answerR_good hc h1 h2 h3, takeB_jud hc h2' h3]
 show Rel (if (judP p.ph { p with wait := t } q y).1 = false then endP (judP p.ph { p with wait := t } q y).2 0 370 else if (judP p.ph { p with wait := t } q y).2.over = false ∧ (judP p.ph { p with wait := t } q y).2.left.length + (judP p.ph { p with wait := t } q y).2.wait.length = 0 then enterM (judP p.ph { p with wait := t } q y).2 ((judP p.ph { p with wait := t } q y).2.ph + 1) else (judP p.ph { p with wait := t } q y).2) _
 obtain ⟨j1, j2, j3⟩ := rel_judge (t := t) h ho hq hc h1
 cases hg : (goodR r q y).1 with
 | false =>
  rw [hg] at j1
  rw [if_pos j1, if_pos rfl]
  obtain ⟨e1, e2⟩ := j3 hg
  rw [e1, e2, hendp]
  exact rel_end h _ _
 | true =>
  rw [hg] at j1
  obtain ⟨lkp, ak, lk, e1, e2, e3, e4, e5, e6, e7⟩ := j2 hg
  rw [if_neg (show ¬ (judP p.ph { p with wait := t } q y).1 = false from by rw [j1]; simp), if_neg (show ¬ (true = false) from by simp), e1, e2]
  have hcj : PcOk (judP p.ph { p with wait := t } q y).2 := core_jud (core_pop hp.toPcOk t) (fun hp3 => by
   have h3 := hp.three (h.over.trans ho) hp3
   rw [hw, List.cons_append, List.map_cons, List.sum_cons] at h3
   exact ⟨by show p.asked + q.ids.length ≤ p.l.length; omega, h3.2⟩)
  rw [e1] at hcj
  have hkl : lk.length ≤ 10000000 := by
   have h8 : lkp.length ≤ p.l.length := hcj.lacks
   have h7 : p.l.length ≤ 10000000 := hcj.l
   rw [e3, lkL_len] at h8
   omega
  have c2 : Rl0 { p with wait := t, lacks := lkp, asked := ak } { r with lacks := lk, told := r.told + 1 } := ⟨h.made, h.b, h.l, h.cm, h.tk, h.rounds, h.over, h.num, h.e, e3, e4, h.b0, h.bl, h.ll, hkl⟩
  have hlen : ({ p with wait := t, lacks := lkp, asked := ak } : PM).left.length + ({ p with wait := t, lacks := lkp, asked := ak } : PM).wait.length = 0 ↔ r.told + 1 = r.notes.length := by
   show p.left.length + t.length = 0 ↔ _
   rw [(h.left ho).1, ← htt, List.length_drop, List.length_drop, List.length_take]
   omega
  by_cases hz : r.told + 1 = r.notes.length
  ·rw [if_pos ⟨h.over.trans ho, hlen.2 hz⟩, if_pos hz]
   show Rel (enterM _ (p.ph + 1)) (entR _ (r.ph + 1))
   rw [show p.ph + 1 = r.ph + 1 from by omega]
   exact rel_enter (k := r.ph + 1) c2 ho (by have := h.ph; omega) (by omega)
  rw [if_neg (fun hh => hz (hlen.1 hh.2)), if_neg hz]
  refine ⟨c2, ⟨h.ph, h.kinds, h.two, h.three, h.four, h.ids64, h.few⟩, h.phe, ?_, h.sn, fun _ => ?_, fun _ => ⟨(h.left ho).1, htt.symm⟩, (fun hh => by have hh : r.over = true := hh; rw [ho] at hh; cases hh), fun _ hp3 => ?_⟩
  ·show r.told + 1 ≤ r.sent
   omega
  ·show r.told + 1 < r.notes.length
   omega
  show ak = 16 * (r.told + 1)
  have hp3 : r.ph = 3 := hp3
  rw [e5 hp3, h.asked ho hp3]
  have h5 := h.three hp3
  have h6 := hq
  rw [h5] at h6
  unfold queriesL at h6
  rw [List.getElem?_map] at h6
  obtain ⟨i, hi, hi2⟩ := Option.map_eq_some_iff.1 h6
  obtain ⟨hlt3, hi3⟩ := List.getElem?_eq_some_iff.1 hi
  rw [List.getElem_range] at hi3
  have h7 : q.ids.length = min 16 (r.l.length - 16 * r.told) := by rw [← hi2, ← hi3, batch_len, List.length_map]
  have h8 := congrArg List.length h5
  unfold queriesL at h8
  simp only [List.length_map, List.length_range] at h8
  omega
theorem same27S {Ps Pu : Nat → Prop} (v u : Value) (xs ys : List ET) (h : ens xs = ens ys) : Tr Tryz.prog 31 #[v, u] [slc rEV Ps v xs, slc rEV Pu u ys] [] (T0 (.bool true)) := by
 have := sameTree_tr (Ps := Ps) (Pu := Pu) v u xs ys
 rwa [decide_eq_true h] at this
theorem sn_self {Pv1 Pv2 Pv3 Pu1 Pu2 Pu3 : Nat → Prop} (a b : Nt) (v1 v2 v3 u1 u2 u3 : Value) (h : a = b) : Tr Tryz.prog 34 #[.agg #[.int .i64 a.k, v1, v2, v3], .agg #[.int .i64 b.k, u1, u2, u3]] [slc rInt Pv1 v1 a.ns, slc rID Pv2 v2 a.ids, slc rByte Pv3 v3 a.bs, slc rInt Pu1 u1 b.ns, slc rID Pu2 u2 b.ids, slc rByte Pu3 u3 b.bs] [] (T0 (.bool true)) := by
 subst h
 have := sameNote_tr (Pv1 := Pv1) (Pv2 := Pv2) (Pv3 := Pv3) (Pu1 := Pu1) (Pu2 := Pu2) (Pu3 := Pu3) a.k a.k v1 v2 v3 u1 u2 u3 a.ns a.ns a.ids a.ids a.bs a.bs
 rwa [decide_eq_true ⟨rfl, rfl, rfl, rfl⟩] at this
theorem fit_len {q : Nt} {kd bits : Int} (h : q.ids.length ≤ 64) : (fitP q kd bits).ns.length ≤ 1000 ∧ (fitP q kd bits).ids.length ≤ 1000 := by
 unfold fitP
 split
 ·exact ⟨by show 1 ≤ 1000; omega, by show 0 ≤ 1000; omega⟩
 split
 ·exact ⟨by show 1 ≤ 1000; omega, by show 0 ≤ 1000; omega⟩
 split
 ·exact ⟨by show 0 ≤ 1000; omega, by show q.ids.length ≤ 1000; omega⟩
 split
 ·exact ⟨by show (bitsL _ _).length ≤ 1000; rw [bitsL_len]; omega, by show 0 ≤ 1000; omega⟩
 split
 ·exact ⟨by show 2 ≤ 1000; omega, by show 0 ≤ 1000; omega⟩
 exact ⟨by show 1 ≤ 1000; omega, by show 0 ≤ 1000; omega⟩
theorem slI64 {Ps : Nat → Prop} {w : World} {v : Value} {ns : List Int} (h : IsSl rInt Ps w v ns) : ∀ x ∈ ns, I64 x := fun x hx => by
 obtain ⟨ad, cap, b, off, h2, -, -, -, -, h3⟩ := h.open
 obtain ⟨i, hi, rfl⟩ := List.getElem_of_mem hx
 exact (h3 i hi).2.2
theorem not_large {xs : List At27} (h : ¬ largeP xs) : xs.length ≤ 80 ∧ ∀ x ∈ xs, ¬ longP x.n := by
 have h1 : xs.length ≤ 80 := by
  rcases Nat.lt_or_ge 80 xs.length with h1 | h1
  ·exact absurd (.inr h1) h
  exact h1
 refine ⟨h1, fun x hx hl => h (.inl ⟨x, ?_, hl⟩)⟩
 rwa [List.take_of_length_le (by omega)]
set_option maxHeartbeats 4000000 in
theorem script_bad {Pv Pa : Nat → Prop} (c k t : Int) (v u : Value) (xs : List ET) (ya : List At27) (hk : I64 k) (ht : I64 t) (he : ¬ (mkM (⟨c, k, 0, t⟩ : Mh) (ens xs)).2.2 = 0) : Tr Tryz.prog 6 #[.int .i64 c, .int .i64 k, .int .i64 t, v, u] [slc rEV Pv v xs, slc rA27 Pa u ya] [] (T0 (.bool true)) := by
 refine Tr.of (l := [(0, .int .i64 c), (1, .int .i64 k), (2, .int .i64 t), (3, v), (4, u)]) Tryz.func6 rfl (n := 200) rfl (.cons rfl (.cons rfl (.cons rfl (.cons rfl (.cons rfl .nil))))) (fun w0 hro => ?_)
 obtain ⟨hv, ha⟩ := ro2 hro
 have hel' := ens_length xs
 have ha0 := ha
 obtain ⟨au, cu, bu, fu, rfl, hcapa, hmaxa, hnila, hada, hela⟩ := Ro.open ha0
 have hv0 := hv
 obtain ⟨av, cv, bv, fv, rfl, _, _, _, _, hel⟩ := Ro.openT hv0
 have hEn : ∀ e ∈ ens xs, EnOk e := fun e he => by obtain ⟨x, hx, rfl⟩ := List.mem_map.1 he; obtain ⟨q, hq, rfl⟩ := List.getElem_of_mem hx; exact Ro.evOk (hel q hq)
 refine go [9,10,1,7,8,9,9,10,0] ?_
 refine G.op rfl (G.cR rfl rfl rfl rfl Tryz.func18 rfl rfl (may1 (.old hv)) (big_tr _ xs 20 6000 (by omega)) ?_)
 refine go [0] ?_
 refine G.partP (t := 33) rfl (fun h33 => ?_) (fun h33 => ?_)
 ·refine go [4,4,2,2,7,8,60,1,9,10] ?_
  refine G.op rfl (G.cR rfl rfl rfl rfl Tryz.func15 rfl rfl may0 (awake27_tr) ?_)
  refine go [1,7,8,11,12] ?_
  exact G.done0G rfl (Rv.tmp rfl Rv.nil) Y7
 refine go [3,0] ?_
 refine G.want rfl rfl rfl (G.cS rfl rfl rfl rfl Tryz.func26 rfl rfl subT (may1 (.old ha)) (large27_tr _ ya) apT ?_)
 intro x35 hJ
 try dsimp only at hJ
 try dsimp only
 refine go [2,2,7,8] ?_
 refine G.cond rfl (fun h36 => ?_) (fun h36 => ?_)
 ·refine go [9,10] ?_
  refine G.op rfl (G.cR rfl rfl rfl rfl Tryz.func15 rfl rfl may0 (awake27_tr) ?_)
  refine go [1,7,8,11,12] ?_
  exact G.done0G rfl (Rv.tmp rfl Rv.nil) Y7
 have hnb : ¬ bigM (ens xs) 20 6000 := by assumption
 have hx20 : xs.length ≤ 20 := by unfold bigM at hnb; omega
 have hds : ∀ x ∈ xs, x.1.data.length ≤ 10000 := fun x hx => by have := data_smallZ hnb x hx; omega
 have hde : ∀ e ∈ ens xs, e.data.length ≤ 12000 := fun e he => by obtain ⟨x, hx, rfl⟩ := List.mem_map.1 he; have := hds x hx; omega
 have hlg : ¬ largeP ya := fun h => by have h9 := hJ.2 h; simp_all
 obtain ⟨ha80, hnlong⟩ := not_large hlg
 refine go [13,8,9,10,0] ?_
 refine G.op rfl (G.cS rfl rfl rfl rfl Tryz.func29 rfl rfl subT (may1 (.old hv)) (copyT_tr _ xs (by omega)) apT ?_)
 intro x39 hJ
 obtain ⟨iv, is⟩ := x39
 try dsimp only at hJ
 try dsimp only
 have his : ens is = ens xs := hJ
 have hiok : ∀ x ∈ is, EnOk x.1 := fun x hx => hEn _ (by rw [← his]; exact List.mem_map.2 ⟨x, hx, rfl⟩)
 have hisl : is.length ≤ 20 := by rw [← ens_length, his, ens_length]; exact hx20
 have hids : ∀ x ∈ is, x.1.data.length ≤ 12000 := fun x hx => hde _ (by rw [← his]; exact List.mem_map.2 ⟨x, hx, rfl⟩)
 refine G.ownFact (v := iv) selT (fun hiv _ => ?_)
 refine go [1,7,8,9,10,0,0,0,0] ?_
 refine G.op rfl (G.cR rfl rfl rfl rfl Tryz.func19 rfl rfl (may1 (may_tree selT selT hiok)) (pnew_bad c k t _ is hids (by rw [his]; exact he)) ?_)
 rw [his]
 refine go [0] ?_
 refine G.op rfl (G.val rfl rfl (pv_extract (v := .pointer none) rfl rfl) ?_)
 refine G.op rfl (G.val rfl rfl (pv_extract (v := .int .i64 (mkM (⟨c, k, 0, t⟩ : Mh) (ens xs)).2.2) rfl rfl) ?_)
 refine go [1,1,7,8,9,10,0,0,0,0] ?_
 refine G.op rfl (G.cR rfl rfl rfl rfl Tryz.func30 rfl rfl (may1 (.old hv)) (rnew_bad c k t _ xs hds he) ?_)
 refine go [0] ?_
 refine G.op rfl (G.val rfl rfl (pv_extract (v := .pointer none) rfl rfl) ?_)
 refine G.op rfl (G.val rfl rfl (pv_extract (v := .int .i64 (mkM (⟨c, k, 0, t⟩ : Mh) (ens xs)).2.2) rfl rfl) ?_)
 refine go [1,1,7,8,9,9,10,0,0] ?_
 refine G.op rfl (G.val rfl rfl ((pv_neq rfl rfl).cast (v' := .bool false) (congrArg Value.bool (by exact decide_eq_false (fun h => h rfl)))) ?_)
 refine go [0,3,0,3,50,4,3,0,3,50,4] ?_
 refine G.want rfl rfl rfl (G.val rfl rfl ((pv_neqB Tryz.underlying4 rfl rfl).cast (v' := .bool false) (congrArg Value.bool (by rfl))) ?_)
 refine go [2,2,0,3,0,3,0] ?_
 refine G.want rfl rfl rfl (G.cR rfl rfl rfl rfl Tryz.func31 rfl rfl (may2 (may_tree selT selT hiok) (.old hv)) (same27S _ _ is xs his) ?_)
 refine go [3,25,2,2,7,8,60,0,13,8,9,10,0] ?_
 refine G.op rfl (G.cS rfl rfl rfl rfl Tryz.func32 rfl rfl subT may0 (overT_tr _ is (by omega)) apT ?_)
 intro x73 hJ
 try dsimp only at hJ
 try dsimp only
 refine go [7,8,9,9,10,0,2,50,4,7,8,60,1,9,10] ?_
 refine G.op rfl (G.cR rfl rfl rfl rfl Tryz.func15 rfl rfl may0 (awake27_tr) ?_)
 refine go [1,7,8,11,12] ?_
 exact G.done0G rfl (Rv.tmp rfl Rv.nil) Y7
set_option maxHeartbeats 4000000 in
theorem script_ok {Pv Pa : Nat → Prop} (c k t : Int) (v u : Value) (xs : List ET) (ya : List At27) (hk : I64 k) (ht : I64 t) (he : (mkM (⟨c, k, 0, t⟩ : Mh) (ens xs)).2.2 = 0) : Tr Tryz.prog 6 #[.int .i64 c, .int .i64 k, .int .i64 t, v, u] [slc rEV Pv v xs, slc rA27 Pa u ya] [] (T0 (.bool true)) := by
 refine Tr.of (l := [(0, .int .i64 c), (1, .int .i64 k), (2, .int .i64 t), (3, v), (4, u)]) Tryz.func6 rfl (n := 200) rfl (.cons rfl (.cons rfl (.cons rfl (.cons rfl (.cons rfl .nil))))) (fun w0 hro => ?_)
 obtain ⟨hv, ha⟩ := ro2 hro
 have hel' := ens_length xs
 have ha0 := ha
 obtain ⟨au, cu, bu, fu, rfl, hcapa, hmaxa, hnila, hada, hela⟩ := Ro.open ha0
 have hv0 := hv
 obtain ⟨av, cv, bv, fv, rfl, _, _, _, _, hel⟩ := Ro.openT hv0
 have hEn : ∀ e ∈ ens xs, EnOk e := fun e he => by obtain ⟨x, hx, rfl⟩ := List.mem_map.1 he; obtain ⟨q, hq, rfl⟩ := List.getElem_of_mem hx; exact Ro.evOk (hel q hq)
 refine go [9,10,1,7,8,9,9,10,0] ?_
 refine G.op rfl (G.cR rfl rfl rfl rfl Tryz.func18 rfl rfl (may1 (.old hv)) (big_tr _ xs 20 6000 (by omega)) ?_)
 refine go [0] ?_
 refine G.partP (t := 33) rfl (fun h33 => ?_) (fun h33 => ?_)
 ·refine go [4,4,2,2,7,8,60,1,9,10] ?_
  refine G.op rfl (G.cR rfl rfl rfl rfl Tryz.func15 rfl rfl may0 (awake27_tr) ?_)
  refine go [1,7,8,11,12] ?_
  exact G.done0G rfl (Rv.tmp rfl Rv.nil) Y7
 refine go [3,0] ?_
 refine G.want rfl rfl rfl (G.cS rfl rfl rfl rfl Tryz.func26 rfl rfl subT (may1 (.old ha)) (large27_tr _ ya) apT ?_)
 intro x35 hJ
 try dsimp only at hJ
 try dsimp only
 refine go [2,2,7,8] ?_
 refine G.cond rfl (fun h36 => ?_) (fun h36 => ?_)
 ·refine go [9,10] ?_
  refine G.op rfl (G.cR rfl rfl rfl rfl Tryz.func15 rfl rfl may0 (awake27_tr) ?_)
  refine go [1,7,8,11,12] ?_
  exact G.done0G rfl (Rv.tmp rfl Rv.nil) Y7
 have hnb : ¬ bigM (ens xs) 20 6000 := by assumption
 have hx20 : xs.length ≤ 20 := by unfold bigM at hnb; omega
 have hds : ∀ x ∈ xs, x.1.data.length ≤ 10000 := fun x hx => by have := data_smallZ hnb x hx; omega
 have hde : ∀ e ∈ ens xs, e.data.length ≤ 12000 := fun e he => by obtain ⟨x, hx, rfl⟩ := List.mem_map.1 he; have := hds x hx; omega
 have hlg : ¬ largeP ya := fun h => by have h9 := hJ.2 h; simp_all
 obtain ⟨ha80, hnlong⟩ := not_large hlg
 refine go [13,8,9,10,0] ?_
 refine G.op rfl (G.cS rfl rfl rfl rfl Tryz.func29 rfl rfl subT (may1 (.old hv)) (copyT_tr _ xs (by omega)) apT ?_)
 intro x39 hJ
 obtain ⟨iv, is⟩ := x39
 try dsimp only at hJ
 try dsimp only
 have his : ens is = ens xs := hJ
 have hiok : ∀ x ∈ is, EnOk x.1 := fun x hx => hEn _ (by rw [← his]; exact List.mem_map.2 ⟨x, hx, rfl⟩)
 have hisl : is.length ≤ 20 := by rw [← ens_length, his, ens_length]; exact hx20
 have hids : ∀ x ∈ is, x.1.data.length ≤ 12000 := fun x hx => hde _ (by rw [← his]; exact List.mem_map.2 ⟨x, hx, rfl⟩)
 refine G.ownFact (v := iv) selT (fun hiv _ => ?_)
 refine go [1,7,8,9,10,0,0,0,0] ?_
 refine G.op rfl (G.cS rfl rfl rfl rfl Tryz.func19 rfl rfl subT (may1 (may_tree selT selT hiok)) (pnew_ok c k t _ is hids (by omega) hk ht (by rw [his]; exact he)) apT ?_)
 intro x45 hJ
 obtain ⟨z0, D, F0, W0⟩ := x45
 try dsimp only at hJ
 try dsimp only
 obtain ⟨hz0, hp0⟩ := hJ
 rw [his] at hp0
 refine go [0] ?_
 refine G.op rfl (G.val rfl rfl (pv_extract (v := .pointer (some ⟨D, 0, none⟩)) rfl rfl) ?_)
 refine go [2,50,12,1,1,7,8,9,10,0,0,0,0] ?_
 refine G.op rfl (G.cS rfl rfl rfl rfl Tryz.func30 rfl rfl subT (may1 (.old hv)) (rnew_ok c k t _ xs hds (by omega) hk ht he) apT ?_)
 intro x53 hJ
 obtain ⟨y0, E, G0, V0⟩ := x53
 try dsimp only at hJ
 try dsimp only
 obtain ⟨hy0, hr0⟩ := hJ
 have hrel0 : Rel z0.pm y0.rp := by rw [hp0, hr0]; exact rel_new hk ht hde (by omega) he
 have hpm0 : PmOk z0.pm := by rw [hp0]; exact new_ok hk ht hde (by omega) he
 refine go [0] ?_
 refine G.op rfl (G.val rfl rfl (pv_extract (v := .pointer (some ⟨E, 0, none⟩)) rfl rfl) ?_)
 refine go [2,50,12,1,1,7,8,9,9,10,0,0] ?_
 refine G.op rfl (G.val rfl rfl ((pv_neq rfl rfl).cast (v' := .bool false) (congrArg Value.bool (by exact decide_eq_false (fun h => h rfl)))) ?_)
 refine go [0,3,0,3,50,4,3,0,3,50,4] ?_
 refine G.want rfl rfl rfl (G.val rfl rfl ((pv_neqB Tryz.underlying4 rfl rfl).cast (v' := .bool false) (congrArg Value.bool (by rfl))) ?_)
 refine go [2,2,0,3,0,3,0] ?_
 refine G.want rfl rfl rfl (G.cR rfl rfl rfl rfl Tryz.func31 rfl rfl (may2 (may_tree selT selT hiok) (.old hv)) (same27S _ _ is xs his) ?_)
 refine go [3,25,2,2,7,8,60,0,13,8,9,10,0] ?_
 refine G.op rfl (G.cS rfl rfl rfl rfl Tryz.func32 rfl rfl subT may0 (overT_tr _ is (by omega)) apT ?_)
 intro x73 hJ
 try dsimp only at hJ
 try dsimp only
 refine go [7,8,9,9,10,0,2,50,4,7,8,60,0,13,8,9,9,10,1,7,8,15] ?_
 refine G.loopK (X := Nat × PZ × (Nat → Prop) × World × RZ × (Nat → Prop) × World) (ts := [4, 12, 14]) (fun st => st.1 ≤ ya.length ∧ (PvOk st.2.2.1 st.2.2.2.1 st.2.1 ∧ RvOk st.2.2.2.2.2.1 st.2.2.2.2.2.2 st.2.2.2.2.1 ∧ PmOk st.2.1.pm ∧ Rel st.2.1.pm st.2.2.2.2.1.rp)) (fun st => [(16, .int .i64 (st.1 : Int))]) (fun st => [blk D 85 [.bool st.2.1.made, st.2.1.bv, st.2.1.lv, .int .i64 st.2.1.cm, .int .i64 st.2.1.tk, .int .i64 (st.2.1.ph : Nat), st.2.1.leftv, st.2.1.waitv, .int .i64 (st.2.1.asked : Nat), st.2.1.lacksv, .int .i64 (st.2.1.rounds : Nat), .bool st.2.1.over, .int .i64 st.2.1.num, .int .i64 st.2.1.e], frz st.2.2.1 st.2.2.2.1, que 92 5 st.2.1.waitv st.2.1.wait.length (st.2.1.wait.flatMap awC), own 54 17 st.2.1.lacksv st.2.1.lacks.length (st.2.1.lacks.flatMap chC), blk E 80 [st.2.2.2.2.1.bv, st.2.2.2.2.1.lv, .int .i64 st.2.2.2.2.1.cm, .int .i64 st.2.2.2.2.1.tk, .int .i64 (st.2.2.2.2.1.ph : Nat), st.2.2.2.2.1.notesv, .int .i64 (st.2.2.2.2.1.sent : Nat), .int .i64 (st.2.2.2.2.1.told : Nat), st.2.2.2.2.1.lacksv, .int .i64 (st.2.2.2.2.1.rounds : Nat), .bool st.2.2.2.2.1.over, .int .i64 st.2.2.2.2.1.num, .int .i64 st.2.2.2.2.1.e], frz st.2.2.2.2.2.1 st.2.2.2.2.2.2, own 3 1 st.2.2.2.2.1.lacksv st.2.2.2.2.1.lacks.length (st.2.2.2.2.1.lacks.map vN)]) (fun st => ya.length - st.1) (x0 := (0, z0, F0, W0, y0, G0, V0)) (.cons rfl (.cons rfl (.cons rfl .nil))) subT (.cons .nil) apT (by first | exact trivial | ((try dsimp only) <;> exact ⟨Nat.zero_le _, ⟨hz0, hy0, hpm0, hrel0⟩⟩)) (.consE rfl veqT .nil) (fun st hJ => ?_)
 obtain ⟨i, z, F1, W1, y, G1, V1⟩ := st
 try dsimp only at hJ
 try dsimp only
 obtain ⟨hki, hJ⟩ := hJ
 obtain ⟨hz, hy, hpm, hrel⟩ := hJ
 have hrc := rel_rc hrel hpm.toPcOk
 refine go [9,9,10,0,0,2,5,2,9,7,8] ?_
 refine G.condP rfl (fun h80 => ?_) (fun h80 => ?_)
 ·have hlt : i < ya.length := by omega
  have hE := hela i hlt
  have hR := Ro.a7Rng hE
  have hnl := hnlong _ (List.getElem_mem hlt)
  unfold longP at hnl
  refine go [13,8,9,15,9] ?_
  refine G.cutK (X := PZ × (Nat → Prop) × World × RZ × (Nat → Prop) × World) (ts := [4, 12, 14, 16]) (p := [blk D 85 _, frz F1 W1, que 92 5 _ _ _, own 54 17 _ _ _, blk E 80 _, frz G1 V1, own 3 1 y.lacksv _ _]) (fun st => PvOk st.2.1 st.2.2.1 st.1 ∧ RvOk st.2.2.2.2.1 st.2.2.2.2.2 st.2.2.2.1 ∧ PmOk st.1.pm ∧ Rel st.1.pm st.2.2.2.1.rp) (fun st => []) (fun st => [blk D 85 [.bool st.1.made, st.1.bv, st.1.lv, .int .i64 st.1.cm, .int .i64 st.1.tk, .int .i64 (st.1.ph : Nat), st.1.leftv, st.1.waitv, .int .i64 (st.1.asked : Nat), st.1.lacksv, .int .i64 (st.1.rounds : Nat), .bool st.1.over, .int .i64 st.1.num, .int .i64 st.1.e], frz st.2.1 st.2.2.1, que 92 5 st.1.waitv st.1.wait.length (st.1.wait.flatMap awC), own 54 17 st.1.lacksv st.1.lacks.length (st.1.lacks.flatMap chC), blk E 80 [st.2.2.2.1.bv, st.2.2.2.1.lv, .int .i64 st.2.2.2.1.cm, .int .i64 st.2.2.2.1.tk, .int .i64 (st.2.2.2.1.ph : Nat), st.2.2.2.1.notesv, .int .i64 (st.2.2.2.1.sent : Nat), .int .i64 (st.2.2.2.1.told : Nat), st.2.2.2.1.lacksv, .int .i64 (st.2.2.2.1.rounds : Nat), .bool st.2.2.2.1.over, .int .i64 st.2.2.2.1.num, .int .i64 st.2.2.2.1.e], frz st.2.2.2.2.1 st.2.2.2.2.2, own 3 1 st.2.2.2.1.lacksv st.2.2.2.1.lacks.length (st.2.2.2.1.lacks.map vN)]) (.cons rfl (.cons rfl (.cons rfl (.cons rfl .nil)))) subT Ap.nil apT ?_ ?_
  ·refine go [9,10,0,0] ?_
   refine G.op rfl (G.val rfl rfl (pv_ixSl (sz := 6) (k := i) Tryz.underlying63 kr rfl rfl hada rfl (by omega)) ?_)
   refine go [2,3,0,2,50,0,2,9,7,8] ?_
   refine G.condP rfl (fun h88 => ?_) (fun h88 => ?_)
   ·refine go [9,10,0] ?_
    refine G.op rfl (G.cS rfl rfl rfl rfl Tryz.func21 rfl rfl subT may0 (sendB_tr (F := F1) (W := W1) D z hz) apT ?_)
    intro x91 hJ
    obtain ⟨z2, uN, uI, uB⟩ := x91
    try dsimp only at hJ
    try dsimp only
    obtain ⟨hz2, hp2⟩ := hJ
    have h16s := sent_16 hz
    have h64s := sent_i64 hz
    obtain ⟨hss, hrl2⟩ := rel_send hrel
    rw [← hp2] at hrl2
    have hpm2 : PmOk z2.pm := by rw [hp2]; exact send_ok hpm
    obtain ⟨sb, hsb⟩ : ∃ b, (sendP z.pm).1.isSome = b := ⟨_, rfl⟩
    rw [hsb]
    refine G.ownFact (v := uN) selT (fun huN _ => ?_)
    refine G.ownFact (v := uI) selT (fun huI _ => ?_)
    refine G.ownBFact (v := uB) selT (fun huB => ?_)
    refine go [0] ?_
    refine G.op rfl (G.val rfl rfl (pv_extract (v := .agg #[.int .i64 (sentN z.pm).k, uN, uI, uB]) rfl rfl) ?_)
    refine G.op rfl (G.val rfl rfl (pv_extract (v := .bool sb) rfl rfl) ?_)
    refine go [60,5] ?_
    intro b17
    refine go [20,1,7,8,9,10,0] ?_
    refine G.op rfl (G.cS rfl rfl rfl rfl Tryz.func33 rfl rfl subT may0 (rsend_tr (F := G1) (W := V1) E y hy hrc) apT ?_)
    intro x96 hJ
    obtain ⟨y2, xN⟩ := x96
    try dsimp only at hJ
    try dsimp only
    obtain ⟨hy2, hry2, hxok, hxn, s2, hys⟩ := hJ
    subst hys
    try dsimp only
    rw [← hry2] at hrl2
    have hrel2 := hrl2
    have hxs : sentN z.pm = xN.n := by rw [hxn, ← hss]; rfl
    rw [← hss, hsb]
    have hxv1 := hxok.1.one
    have hxv2 := hxok.2.1.one
    have hxv3 := hxok.2.2.1.one
    obtain ⟨_, _, _, hxk, hx1l, hx2l, hx3l⟩ := id hxok
    have hsl1 : (sentN z.pm).ns.length ≤ 1000 := by rw [hxs]; exact hx1l
    have hsl2 : (sentN z.pm).ids.length ≤ 1000 := by rw [hxs]; exact hx2l
    refine go [0] ?_
    refine G.op rfl (G.val rfl rfl (pv_extract (v := .agg #[.int .i64 xN.n.k, xN.vN, xN.vI, xN.vB]) rfl rfl) ?_)
    refine G.op rfl (G.val rfl rfl (pv_extract (v := .bool sb) rfl rfl) ?_)
    refine go [60,5] ?_
    intro b19
    refine go [20,1,7,8,9,9,10,0,0] ?_
    refine G.op rfl (G.val rfl rfl ((pv_neqB Tryz.underlying4 rfl rfl).cast (v' := .bool false) (congrArg Value.bool (by cases sb <;> rfl))) ?_)
    refine go [0,3,50,9,3,50,9] ?_
    refine G.want rfl rfl rfl (G.cR rfl rfl rfl rfl Tryz.func34 rfl rfl (may6 (may_ownN selD h64s) (may_ownI selD h16s) (may_ownB selD) (may_frz selD hxok.1) (may_frz selD hxok.2.1) (may_frz selD hxok.2.2.1)) (sn_self (sentN z.pm) xN.n _ _ _ _ _ _ hxs) ?_)
    refine go [3,25,2,2,7,8,60,0,13,8,10,2,50,9] ?_
    refine G.op rfl (G.cS rfl rfl rfl rfl Tryz.func35 rfl rfl subT may0 (overNote_tr (sentN z.pm).k uN uI uB (sentN z.pm).ns (sentN z.pm).ids (sentN z.pm).bs (by omega) (by omega)) apT ?_)
    intro x109 hJ
    try dsimp only at hJ
    try dsimp only
    refine G.nil ?_
    exact G.meet (z2, F1, W1, { y with sent := s2 }, G1, V1) (by first | exact trivial | ((try dsimp only) <;> exact ⟨hz2, hy2, hpm2, hrel2⟩)) (.cons rfl (.cons rfl (.cons rfl (.cons rfl .nil)))) subT
   refine go [9,10,0,0] ?_
   refine G.op rfl (G.val rfl rfl (pv_ixSl (sz := 6) (k := i) Tryz.underlying63 kr rfl rfl hada rfl (by omega)) ?_)
   refine go [2,3,2] ?_
   refine G.op rfl (G.val rfl rfl (pv_loadN (cs := [.int .i64 ya[i].n.k, ya[i].v1, ya[i].v2, ya[i].v3]) Tryz.underlying33 rfl kr rfl (ro_rngR (k := 4) hR (by rfl))) ?_)
   have hx1o := (Ro.a7N hE).1.one
   have hx2o := (Ro.a7I hE).1.one
   have hx3o := (Ro.a7B hE).1.one
   refine go [60,5] ?_
   intro b21
   refine go [20,7,8,9] ?_
   refine G.cutK (X := Nt × Value × Value × Value × (Nat → Prop) × (Nat → Prop) × (Nat → Prop) × Value × Nat × (List Value) × Value × Nat × (List Value)) (ts := [4, 12, 14, 16, 21]) (p := [blk b21 _ _]) (fun st => (∀ m r, Sel m (own 3 1 st.2.2.2.2.2.2.2.1 st.2.2.2.2.2.2.2.2.1 st.2.2.2.2.2.2.2.2.2.1) r → May w0 (U []) m (slc rInt st.2.2.2.2.1 st.2.1 st.1.ns)) ∧ (∀ m r, Sel m (own 52 16 st.2.2.2.2.2.2.2.2.2.2.1 st.2.2.2.2.2.2.2.2.2.2.2.1 st.2.2.2.2.2.2.2.2.2.2.2.2) r → May w0 (U []) m (slc rID st.2.2.2.2.2.1 st.2.2.1 st.1.ids)) ∧ (∀ m, May w0 (U []) m (slc rByte st.2.2.2.2.2.2.1 st.2.2.2.1 st.1.bs)) ∧ (st.2.1.oneCell' = true ∧ st.2.2.1.oneCell' = true ∧ st.2.2.2.1.oneCell' = true) ∧ (∀ x ∈ st.1.ns, I64 x) ∧ all16 st.1.ids ∧ st.1.ns.length ≤ 1000 ∧ st.1.ids.length ≤ 1000 ∧ st.1.bs.length ≤ 1000000) (fun st => []) (fun st => [blk b21 33 [.int .i64 st.1.k, st.2.1, st.2.2.1, st.2.2.2.1], own 3 1 st.2.2.2.2.2.2.2.1 st.2.2.2.2.2.2.2.2.1 st.2.2.2.2.2.2.2.2.2.1, own 52 16 st.2.2.2.2.2.2.2.2.2.2.1 st.2.2.2.2.2.2.2.2.2.2.2.1 st.2.2.2.2.2.2.2.2.2.2.2.2]) (.cons rfl (.cons rfl (.cons rfl (.cons rfl (.cons rfl .nil))))) subT Ap.nil apT ?_ ?_
   ·refine go [9,10,0,0] ?_
    refine G.op rfl (G.val rfl rfl (pv_ixSl (sz := 6) (k := i) Tryz.underlying63 kr rfl rfl hada rfl (by omega)) ?_)
    refine go [2,3,0,2,50,0,2,9,0] ?_
    refine G.partP (t := 121) rfl (fun h121 => ?_) (fun h121 => ?_)
    ·refine go [3,0] ?_
     refine G.want rfl rfl rfl (G.cR rfl rfl rfl rfl Tryz.func36 rfl rfl (may1 (Sel.may selD)) (ropen_tr E y (Nat.le_trans hrc.sent hrc.few) hrc.told) ?_)
     refine go [3,10,2,2,7,8] ?_
     refine G.condP rfl (fun h125 => ?_) (fun h125 => ?_)
     ·have hop0 : 0 < openR y.rp := by omega
      have hyo : y.rp.over = false := by cases e : y.rp.over with | false => rfl | true => (exfalso; rw [openR_off e] at hop0; omega)
      have hop1 : openR y.rp = (y.sent : Int) - y.told := openR_on hyo
      have hts9 : y.told < y.sent := by omega
      have hsn9 : y.sent ≤ y.notes.length := by have := hrel.sn; rwa [rp_notes] at this
      have hlt9 : y.told < y.notes.length := by omega
      have hfew9 : y.notes.length ≤ 200000000 := by have := hrc.few; rwa [rp_notes] at this
      obtain ⟨aN, cN9, bN9, oN9, hvN9, hNc9, hNm9, hNn9, hNd9, hNe9⟩ := hy.notes.open
      obtain ⟨q0, hqe⟩ : ∃ q0, y.notes[y.told] = q0 := ⟨_, rfl⟩
      have hR9 := hNe9 y.told hlt9
      rw [hqe] at hR9
      have hq0 : NvOk G1 V1 q0 := hR9.2.2
      have hqm : q0.n ∈ y.rp.notes := by rw [← hqe]; exact List.mem_of_getElem? (nvs_get hlt9)
      have hq2 := ns_two hrel.toNsOk _ hqm
      have hq1 := hrel.ids64 _ hqm
      have hq3 : q0.n.bs.length ≤ 1000000 := hq0.2.2.2.2.2.2
      have hEb := Ro.a7Ok hE
      refine G.drawE (nn := 16) (p := []) (rem := 32767) [0, 1, 2, 4, 0, 16, 32, 64, 136, 256, 0, 0, 3072, 4096, 8704, 32767] [0, 1, 2, 4, 0, 16, 32, 64, 136, 256, 0, 0, 3072, 4096, 8704, 16384] [15] [32767] 15 kr ⟨rfl, by kernel_rfl, by kernel_rfl⟩ kr kr kr subT (fun hT22 => ?_)
      refine go [22,0,32766,0,22,1,32764,8,22,2,32760,3,5,22,4,32744,0,22,5,32712,8,22,6,32648,3,7,22,10,31624,0,22,11,29576,0] ?_
      refine G.takeT hT22 (i := 12) (rem' := 25480) rfl rfl rfl kr (fun _ _ _ h => h) rfl (pv_ixSl (sz := 6) (k := i) Tryz.underlying63 kr rfl rfl hada rfl (by omega)) subT ?_
      refine G.takeT hT22 (i := 3) (rem' := 25472) rfl rfl rfl kr (fun _ _ _ h => h) rfl ((pv_load (v := y.notesv) Tryz.underlying55 rfl rfl (by exact blk_cell selD (by rfl))).cast hvN9) subT ?_
      refine G.takeT hT22 (i := 7) (rem' := 25344) rfl rfl rfl kr (fun _ _ _ h => h) rfl (pv_load (v := .int .i64 (y.told : Int)) Tryz.underlying3 rfl rfl (by exact blk_cell selD (by rfl))) subT ?_
      refine G.takeT hT22 (i := 8) (rem' := 25088) rfl rfl rfl kr (fun _ _ _ h => h) rfl (pv_ixSl (sz := 4) (k := y.told) Tryz.underlying55 kr rfl rfl hNd9 rfl (by omega)) subT ?_
      refine G.takeT hT22 (i := 9) (rem' := 24576) rfl rfl rfl kr (fun _ _ _ h => h) rfl (pv_loadN (cs := nvC q0) Tryz.underlying33 rfl kr rfl (frz_rng selD hR9.1 hR9.2.1)) subT ?_
      refine go [24,13,16384] ?_
      refine G.turnOp rfl rfl (G.val rfl rfl (pv_loadN (cs := atC7 ya[i]) Tryz.underlying66 rfl kr rfl (ro_rng0 hR)) ?_)
      refine go [26,24,14,0] ?_
      refine G.turnOp rfl rfl (G.cS rfl rfl rfl rfl Tryz.func27 rfl rfl subT (may3 (may_frz selD hq0.1) (may_frz selD hq0.2.1) (may_frz selD hq0.2.2.1)) (fitting_tr q0.n _ _ _ ya[i] hEb.2.1 hq2 hq1 hq3) apT ?_)
      intro x140 hJ
      obtain ⟨fN, fI⟩ := x140
      try dsimp only at hJ
      try dsimp only
      refine G.ownFact (v := fN) selT (fun hfN _ => ?_)
      refine G.ownFact (v := fI) selT (fun hfI _ => ?_)
      refine go [26,27] ?_
      refine G.tailS [] 15 rfl ?_
      refine go [29,60,6] ?_
      exact G.meet (fitP q0.n ya[i].kd ya[i].bits, fN, fI, .slice none 0 0, (fun b => fN.ownBlock = some b), (fun b => fI.ownBlock = some b), (fun _ => False), fN, _, _, fI, _, _) (by first | exact trivial | ((try dsimp only) <;> exact ⟨fun m r h => may_ownN h (fit_i64 hq2 hq3), fun m r h => may_ownI h (fit_16 (IsSl.flat hq0.2.1).1), fun m => (by rw [fit_bs]; exact may_nilZ), ⟨hfN, hfI, rfl⟩, fit_i64 hq2 hq3, fit_16 (IsSl.flat hq0.2.1).1, (fit_len hq1).1, (fit_len hq1).2, by rw [fit_bs]; exact Nat.zero_le _⟩)) (.cons rfl (.cons rfl (.cons rfl (.cons rfl (.cons rfl .nil))))) subT
     refine go [60,7,60,4,13] ?_
     exact G.meet (ya[i].n, ya[i].v1, ya[i].v2, ya[i].v3, Pa, Pa, Pa, .slice none 0 0, 0, [], .slice none 0 0, 0, []) (by first | exact trivial | ((try dsimp only) <;> exact ⟨fun m r h => .old (Ro.a7N hE), fun m r h => .old (Ro.a7I hE), fun m => .old (Ro.a7B hE), ⟨hx1o, hx2o, hx3o⟩, slI64 (Ro.a7N hE).1, (IsSl.flat (Ro.a7I hE).1).1, by omega, by omega, by omega⟩)) (.cons rfl (.cons rfl (.cons rfl (.cons rfl (.cons rfl .nil))))) subT
    refine go [4,4,4,2,2,7,8,60,0,60,7,60,4,13] ?_
    exact G.meet (ya[i].n, ya[i].v1, ya[i].v2, ya[i].v3, Pa, Pa, Pa, .slice none 0 0, 0, [], .slice none 0 0, 0, []) (by first | exact trivial | ((try dsimp only) <;> exact ⟨fun m r h => .old (Ro.a7N hE), fun m r h => .old (Ro.a7I hE), fun m => .old (Ro.a7B hE), ⟨hx1o, hx2o, hx3o⟩, slI64 (Ro.a7N hE).1, (IsSl.flat (Ro.a7I hE).1).1, by omega, by omega, by omega⟩)) (.cons rfl (.cons rfl (.cons rfl (.cons rfl (.cons rfl .nil))))) subT
   intro st hJ
   obtain ⟨yn, y1, y2, y3, Q1, Q2, Q3, o1, n1, c1, o2, n2, c2⟩ := st
   try dsimp only at hJ
   try dsimp only
   obtain ⟨hm1, hm2, hm3, ⟨hy1o, hy2o, hy3o⟩, hy64, hy16, hyl1, hyl2, hyl3⟩ := hJ
   refine go [9,10,2,50,9] ?_
   refine G.op rfl (G.cS rfl rfl rfl rfl Tryz.func37 rfl rfl subT (may3 (hm1 _ _ selT) (hm2 _ _ selT) (hm3 _)) (copyNoteB_tr yn.k y1 y2 y3 yn.ns yn.ids yn.bs (by omega) (by omega) (by omega)) apT ?_)
   intro x142 hJ
   obtain ⟨cN, cI, cB⟩ := x142
   try dsimp only at hJ
   try dsimp only
   refine G.ownFact (v := cN) selT (fun hcN _ => ?_)
   refine G.ownFact (v := cI) selT (fun hcI _ => ?_)
   refine G.ownBFact (v := cB) selT (fun hcB => ?_)
   refine go [60,5] ?_
   intro b22
   refine go [20,7,8,9] ?_
   refine G.drawE (nn := 8) (p := [blk D 85 _, frz F1 W1, que 92 5 _ _ _, own 54 17 _ _ _]) (rem := 31) [0, 0, 3, 0, 0, 28, 39, 127] [0, 0, 3, 0, 0, 24, 4, 32] [7, 6, 5] [127, 63, 31] 5 kr ⟨rfl, by kernel_rfl, by kernel_rfl⟩ kr kr kr subT (fun hT24 => ?_)
   refine go [22,0,30,0,22,3,22,0,22,1,20,50,9,22,4,4,50,9,24,2,0] ?_
   refine G.turnOp rfl rfl (G.cS rfl rfl rfl rfl Tryz.func14 rfl rfl subT (may3 (may_ownN (v := cN) selD hy64) (may_ownI (v := cI) selD hy16) (may_ownB (v := cB) selD)) (ptake_tr (F := F1) (W := W1) yn.k cN cI cB yn.ns yn.ids yn.bs D z hz hpm (by have := hpm.l; rwa [pm_l] at this)) apT ?_)
   intro x145 hJ
   obtain ⟨z3, F3, W3⟩ := x145
   try dsimp only at hJ
   try dsimp only
   obtain ⟨hU3, hz3, hp3⟩ := hJ
   have hpm3 : PmOk z3.pm := by rw [hp3]; exact take_ok _ hpm
   obtain ⟨hgg, hrl3⟩ := rel_take ⟨yn.k, yn.ns, yn.ids, yn.bs⟩ hrel hpm
   rw [← hp3] at hrl3
   obtain ⟨g, hg⟩ : ∃ g, (takeM z.pm ⟨yn.k, yn.ns, yn.ids, yn.bs⟩).1 = g := ⟨_, rfl⟩
   rw [hg] at hgg
   rw [hg]
   refine go [26,27] ?_
   refine G.tailS [7, 6] 5 rfl ?_
   refine G.turnOp rfl rfl (G.cS rfl rfl rfl rfl Tryz.func38 rfl rfl subT (may3 (hm1 _ _ selD) (hm2 _ _ selD) (hm3 _)) (rtake_tr (F := G1) (W := V1) yn.k y1 y2 y3 yn.ns yn.ids yn.bs E y hy hrc hrel.kinds hrel.ph (ns_two hrel.toNsOk) (ns_four hrel.toNsOk) (fun n hn hk => by have := ns_three hrel.toNsOk hn hk; rwa [rp_l] at this) hrel.kl) apT ?_)
   intro x148 hJ
   obtain ⟨yz, G3, V3⟩ := x148
   try dsimp only at hJ
   try dsimp only
   obtain ⟨hU4, hy3, hp4⟩ := hJ
   rw [← hp4] at hrl3
   have hrel3 := hrl3
   rw [← hgg]
   refine G.tailS [7] 6 rfl ?_
   refine go [25,1] ?_
   refine G.tailS [] 7 rfl ?_
   refine go [25,1,60,6,8,9,9,10,0,0] ?_
   refine G.op rfl (G.val rfl rfl ((pv_neq rfl rfl).cast (v' := .bool false) (congrArg Value.bool (by exact decide_eq_false (fun h => h rfl)))) ?_)
   refine go [0,3,50,9,3,50,9] ?_
   refine G.want rfl rfl rfl (G.cR rfl rfl rfl rfl Tryz.func34 rfl rfl (may6 (hm1 _ _ selD) (hm2 _ _ selD) (hm3 _) (may_ownN (v := cN) selD hy64) (may_ownI (v := cI) selD hy16) (may_ownB (v := cB) selD)) (sn_self yn yn _ _ _ _ _ _ rfl) ?_)
   refine go [3,25,2,2,7,8,60,0,13,8,10,2,50,9] ?_
   refine G.op rfl (G.cS rfl rfl rfl rfl Tryz.func35 rfl rfl subT may0 (overNote_tr yn.k cN cI cB yn.ns yn.ids yn.bs (by omega) (by omega)) apT ?_)
   intro x159 hJ
   try dsimp only at hJ
   try dsimp only
   refine G.nil ?_
   exact G.meet (z3, F3, W3, yz, G3, V3) (by first | exact trivial | ((try dsimp only) <;> exact ⟨hz3, hy3, hpm3, hrel3⟩)) (.cons rfl (.cons rfl (.cons rfl (.cons rfl .nil)))) subT
  intro st hJ
  obtain ⟨z', F', W', y', G', V'⟩ := st
  try dsimp only at hJ
  try dsimp only
  obtain ⟨hz', hy', hpm', hrel'⟩ := hJ
  have hrc' := rel_rc hrel' hpm'.toPcOk
  have hnn : z'.num = y'.num := hrel'.num
  have hne : z'.e = y'.e := hrel'.e
  have hno : z'.over = y'.over := hrel'.over
  have hwo : (z'.wait.length : Int) = openR y'.rp := by have := rel_wait hrel'; rwa [pm_wait] at this
  have hpo : (if z'.over = true then 0 else (z'.ph : Int)) = phaseR y'.rp := rel_phase hrel'
  have hsn' : y'.sent ≤ 200000000 := Nat.le_trans hrc'.sent hrc'.few
  refine go [9,10,0] ?_
  refine G.op rfl (G.cR rfl rfl rfl rfl Tryz.func28 rfl rfl (may1 (Sel.may selD)) (done_tr D z') ?_)
  refine go [0] ?_
  refine G.op rfl (G.val rfl rfl (pv_extract (v := .int .i64 z'.num) rfl rfl) ?_)
  refine G.op rfl (G.val rfl rfl (pv_extract (v := .int .i64 z'.e) rfl rfl) ?_)
  refine G.op rfl (G.val rfl rfl (pv_extract (v := .bool z'.over) rfl rfl) ?_)
  refine go [1,1,1,7,8,9,10,0] ?_
  refine G.op rfl (G.cR rfl rfl rfl rfl Tryz.func39 rfl rfl (may1 (Sel.may selD)) (rdone_tr E y') ?_)
  refine go [0] ?_
  refine G.op rfl (G.val rfl rfl (pv_extract (v := .int .i64 y'.num) rfl rfl) ?_)
  refine G.op rfl (G.val rfl rfl (pv_extract (v := .int .i64 y'.e) rfl rfl) ?_)
  refine G.op rfl (G.val rfl rfl (pv_extract (v := .bool y'.over) rfl rfl) ?_)
  refine go [1,1,1,7,8,9,10,0,0] ?_
  refine G.op rfl (G.val rfl rfl ((pv_neq rfl rfl).cast (v' := .bool false) (congrArg Value.bool (by exact decide_eq_false (fun h => h hnn)))) ?_)
  refine go [0,3,0,3,0] ?_
  refine G.want rfl rfl rfl (G.val rfl rfl ((pv_neq rfl rfl).cast (v' := .bool false) (congrArg Value.bool (by exact decide_eq_false (fun h => h hne)))) ?_)
  refine go [2,2,0,3,0,3,0] ?_
  refine G.want rfl rfl rfl (G.val rfl rfl ((pv_neqB Tryz.underlying4 rfl rfl).cast (v' := .bool false) (congrArg Value.bool (by rw [hno]; cases y'.over <;> rfl))) ?_)
  refine go [2,2,0,3,0] ?_
  refine G.want rfl rfl rfl (G.cR rfl rfl rfl rfl Tryz.func22 rfl rfl (may2 (Sel.may selD) (Sel.may selD)) (open_tr D z') ?_)
  refine go [3,0] ?_
  refine G.want rfl rfl rfl (G.cR rfl rfl rfl rfl Tryz.func36 rfl rfl (may1 (Sel.may selD)) (ropen_tr E y' hsn' hrc'.told) ?_)
  refine G.want rfl rfl rfl (G.val rfl rfl ((pv_neq rfl rfl).cast (v' := .bool false) (congrArg Value.bool (by exact decide_eq_false (fun h => h hwo)))) ?_)
  refine go [2,2,0,3,0] ?_
  refine G.want rfl rfl rfl (G.cR rfl rfl rfl rfl Tryz.func40 rfl rfl (may1 (Sel.may selD)) (phase_tr D z') ?_)
  refine go [3,0] ?_
  refine G.want rfl rfl rfl (G.cR rfl rfl rfl rfl Tryz.func41 rfl rfl (may1 (Sel.may selD)) (rphase_tr E y') ?_)
  refine G.want rfl rfl rfl (G.val rfl rfl ((pv_neq rfl rfl).cast (v' := .bool false) (congrArg Value.bool (by exact decide_eq_false (fun h => h hpo)))) ?_)
  refine go [2,2,7,8,60,0,13,16,8,10,0,2,6,1,7] ?_
  exact G.next ((i + 1, z', F', W', y', G', V')) (by first | exact trivial | ((try dsimp only) <;> exact ⟨by omega, ⟨hz', hy', hpm', hrel'⟩⟩)) (by (try dsimp only); omega) (.consE rfl veqT (.cons rfl (.cons rfl (.cons rfl .nil)))) subT
 refine go [18,14,14,19,8,9,10] ?_
 refine G.op rfl (G.cR rfl rfl rfl rfl Tryz.func15 rfl rfl may0 (awake27_tr) ?_)
 refine go [1,7,8,11] ?_
 exact G.done0G rfl (Rv.tmp rfl Rv.nil) Y7
theorem script27_tr {Pv Pa : Nat → Prop} (c k t : Int) (v u : Value) (xs : List ET) (ya : List At27) (hk : I64 k) (ht : I64 t) : Tr Tryz.prog 6 #[.int .i64 c, .int .i64 k, .int .i64 t, v, u] [slc rEV Pv v xs, slc rA27 Pa u ya] [] (T0 (.bool true)) := by
 by_cases he : (mkM (⟨c, k, 0, t⟩ : Mh) (ens xs)).2.2 = 0
 ·exact script_ok c k t v u xs ya hk ht he
 exact script_bad c k t v u xs ya hk ht he
end Go.Proofs.YtngbglhmiefcpaaGreat
set_option maxRecDepth 100000
namespace Go.Proofs.YtngbglhmiefcpaaGreat
open Go.ChangeShapes Go.WideShapes Go.ChangeAt Go.RowKit Go.Deep
theorem in1 {p : Ck → Prop} {a : Ck} (h : p a) : ∀ x ∈ [a], p x := fun x hx => by obtain rfl : x = a := (by simpa using hx); exact h
theorem inC {p : Ck → Prop} {a : Ck} {l : List Ck} (h : p a) (r : ∀ x ∈ l, p x) : ∀ x ∈ a :: l, p x := fun x hx => by
 rcases List.mem_cons.1 hx with rfl | hx
 ·exact h
 exact r x hx
section
variable {H : Type} {enc : TypeId × Value → H} {W : World}
end
end Go.Proofs.YtngbglhmiefcpaaGreat
set_option maxRecDepth 100000
namespace Go.Proofs.YtngbglhmiefcpaaGreat
open Go.ChangeShapes Go.WideShapes Go.ChangeAt Go.RowKit Go.Deep
section
variable {H : Type} {enc : TypeId × Value → H} {W : World}
theorem opn_weak {P : Program} {α β : Type} {t : TypeId} {E : Rdr α} {F : Rdr β} (h : Opn H enc P W t E) (hs : E.sz = F.sz) (hf : ∀ Ps w b o a, E.R Ps w b o a → ∃ a', F.R Ps w b o a') : Opn H enc P W t F := ⟨h.sz.trans hs, fun fuel cs x b o hx hwt hA hb => by
 obtain ⟨a, ha⟩ := h.mem fuel cs x b o hx hwt hA hb
 exact hf _ _ _ _ _ ha⟩
theorem opn_entry : Opn H enc Tryz.prog W 102 rEV := by
 refine opn_weak (opn_struct Tryz.underlying102 (F := rProd rStrB (rProd rInt (rProd rInt (rProd (rSlB rByte) (rProd rStrB rUnit))))) kr
  (.cons (opn_str Tryz.underlying9 kr) rfl (.cons (opn_int Tryz.underlying3 kr) rfl (.cons (opn_int Tryz.underlying3 kr) rfl
   (.cons (opn_rSl Tryz.underlying31 kr (of_decide_eq_true kr) (opn_byte Tryz.underlying5 kr) (by decide)) rfl (.cons (opn_str Tryz.underlying9 kr) rfl .nil)))))) rfl ?_
 rintro Ps w b o ⟨a0, a1, a2, a3, a4, _⟩ ⟨⟨hb, h0, l0⟩, ⟨_, h1, l1⟩, ⟨_, h2, l2⟩, ⟨⟨_, d, h3, hd⟩, l3⟩, ⟨_, h4, l4⟩, _⟩
 refine ⟨(⟨a0, a1, a2, a3, a4⟩, d), hb, fun j v hj => ?_, hd, l1, l2, l0, l3, l4⟩
 have hlt : j < 5 := by
  have := (List.getElem?_eq_some_iff.1 hj).1
  exact this
 rcases (by omega : j = 0 ∨ j = 1 ∨ j = 2 ∨ j = 3 ∨ j = 4) with rfl | rfl | rfl | rfl | rfl
 ·obtain rfl : _ = v := Option.some.inj hj
  exact h0
 ·obtain rfl : _ = v := Option.some.inj hj
  exact h1
 ·obtain rfl : _ = v := Option.some.inj hj
  exact h2
 ·obtain rfl : _ = v := Option.some.inj hj
  exact h3
 obtain rfl : _ = v := Option.some.inj hj
 exact h4
theorem opn_tree {v : Value} {d : DataW H} {p : List MemPlace} {r : Reach} {base : Nat} (hok : Value.okWide Tryz.prog W r base 35 v) (h : DataW.Trod enc Tryz.prog W 0 (fun _ => true) true 35 v d p)
 {ts : List TypeId} {ds : List (DataW H)} {j : Nat} (hsz : (DataW.weightsEach Tryz.prog ts ds).all (· ≤ reachBytes) = true) (hts : ts[j]? = some 35) (hds : ds[j]? = some d) :
 ∃ xs : List ET, Ro W (fun _ => False) (slc rEV (· < W.heap.size) v xs) ∧ xs.length ≤ 140737488355328 :=
 opn_arg Tryz.underlying35 (of_decide_eq_true kr) opn_entry (by decide) hok h hsz hts hds
end
end Go.Proofs.YtngbglhmiefcpaaGreat
set_option maxRecDepth 100000
namespace Go.Proofs.YtngbglhmiefcpaaGreat
open Go.ChangeShapes Go.WideShapes Go.ChangeAt Go.RowKit Go.Deep
section
variable {H : Type} {enc : TypeId × Value → H} {W : World}
theorem opn_i7 : Opn H enc Tryz.prog W 3 rInt := opn_int Tryz.underlying3 kr
theorem opn_act7 : Opn H enc Tryz.prog W 66 rA27 := by
 refine opn_weak (opn_struct Tryz.underlying66 (F := rProd rInt (rProd rInt (rProd (rProd rInt (rProd (rSlB rInt) (rProd (rSlB rID) (rProd (rSlB rByte) rUnit)))) rUnit))) kr
  (.cons opn_i7 rfl (.cons opn_i7 rfl (.cons (opn_struct Tryz.underlying33 (F := rProd rInt (rProd (rSlB rInt) (rProd (rSlB rID) (rProd (rSlB rByte) rUnit)))) kr
   (.cons opn_i7 rfl (.cons (opn_rSl Tryz.underlying29 kr (of_decide_eq_true kr) opn_i7 (by decide)) rfl
    (.cons (opn_rSl Tryz.underlying30 kr (of_decide_eq_true kr) (opn_arr Tryz.underlying52 kr (opn_byte Tryz.underlying5 kr)) (by decide)) rfl
     (.cons (opn_rSl Tryz.underlying31 kr (of_decide_eq_true kr) (opn_byte Tryz.underlying5 kr) (by decide)) rfl .nil))))) rfl .nil)))) rfl ?_
 rintro Ps w b o ⟨a0, a1, ⟨a2, a3, a4, a5, _⟩, _⟩ ⟨⟨hb, h0, l0⟩, ⟨_, h1, l1⟩, ⟨⟨_, h2, l2⟩, ⟨⟨_, d3, h3, k3⟩, l3⟩, ⟨⟨_, d4, h4, k4⟩, l4⟩, ⟨⟨_, d5, h5, k5⟩, l5⟩, _⟩, _⟩
 refine ⟨⟨a0, a1, ⟨a2, a3, a4, a5⟩, d3, d4, d5⟩, hb, fun j v hj => ?_, k3, k4, k5, l0, l1, l2⟩
 have hlt : j < 6 := by
  have := (List.getElem?_eq_some_iff.1 hj).1
  exact this
 rcases (by omega : j = 0 ∨ j = 1 ∨ j = 2 ∨ j = 3 ∨ j = 4 ∨ j = 5) with rfl | rfl | rfl | rfl | rfl | rfl
 ·obtain rfl : _ = v := Option.some.inj hj
  exact h0
 ·obtain rfl : _ = v := Option.some.inj hj
  exact h1
 ·obtain rfl : _ = v := Option.some.inj hj
  exact h2
 ·obtain rfl : _ = v := Option.some.inj hj
  exact h3
 ·obtain rfl : _ = v := Option.some.inj hj
  exact h4
 obtain rfl : _ = v := Option.some.inj hj
 exact h5
theorem opn_acts {v : Value} {d : DataW H} {p : List MemPlace} {r : Reach} {base : Nat} (hok : Value.okWide Tryz.prog W r base 63 v) (h : DataW.Trod enc Tryz.prog W 0 (fun _ => true) true 63 v d p)
 {ts : List TypeId} {ds : List (DataW H)} {j : Nat} (hsz : (DataW.weightsEach Tryz.prog ts ds).all (· ≤ reachBytes) = true) (hts : ts[j]? = some 63) (hds : ds[j]? = some d) :
 ∃ xs : List At27, Ro W (fun _ => False) (slc rA27 (· < W.heap.size) v xs) ∧ xs.length ≤ 140737488355328 :=
 opn_arg Tryz.underlying63 (of_decide_eq_true kr) opn_act7 (by decide) hok h hsz hts hds
end
end Go.Proofs.YtngbglhmiefcpaaGreat
