/- Merged of WV, TX, TY, TZ, UA, UC. Conditions: none. -/
import Derived.Test.YtchgaedidfefoaaGc
import Derived.Lib.Overlaps
import Derived.Lib.AppendZeros
import Derived.Laws.Externs
import Derived.ChangeMaps5
set_option linter.unusedVariables false
set_option linter.unusedSimpArgs false
namespace Go.Proofs.Ytchgaedidfefoaa
open Go.RowKit
section
variable {P : Program} {n : Nat} {w0 : World} {S : Nat → Prop} {l : Fr} {m : List Ck} {Q : Exit → Act → World → Prop} {K : Act → World → Prop}
  {ty : TypeId} {pos : String} {after : Array Edge} {g : Option (Nat × Bool)}
theorem run_copy_any {w : World} {dT sT ty e sz b o dLen dCap sLen sCap : Nat} {a : Addr} {cur cs : List Value} {t : TypeId} (hu : P.underlying dT = some (.slice e)) (hs : (P.info? e).map (·.size) = some sz) (hg : w.heap[b]? = some (.cells cur.toArray t (0, 0)))
    (hn : cs.length = Nat.min sLen dLen * sz) (hsrc : ∀ j v, cs[j]? = some v → w.cell? (a.add j) = some v) (hfit : o + cs.length ≤ cur.length) (h1 : ∀ v ∈ cs, v.oneCell' = true) :
    (Builtin.copy_ #[dT, sT] ty #[.slice (some ⟨b, o, none⟩) dLen dCap, .slice (some a) sLen sCap]).run P w = .ok (.int .i64 (Nat.min sLen dLen : Nat)) (w.setCells b o cs) := by
  have hl := run_firstCells_some (P := P) w sz (Nat.min sLen dLen) a sLen sCap cs hn hsrc
  have hst := run_storeCells_cells (P := P) b o cs 0 w (fun j hj => by
    rw [cell_of_row _ _ _ _ _ _ hg, List.getElem?_toArray, List.getElem?_eq_getElem (by omega)]
    rfl) (fun j hj => frozen_of_row _ _ _ _ _ hg) h1
  rw [Nat.add_zero] at hst
  cases hq : P.info? e with
  | none => simp [hq] at hs
  | some i =>
    have hi : i.size = sz := by simpa [hq] using hs
    subst hi
    simp [Builtin.copy_, run_underlying hu, Builtin.lenOf, sizeOf, typeInfo, hq, hl, hst, goInt]
/-- 'copy' of whole elements into a block of the call's own -/
theorem G.copyN {dT sT e d b o dLen dCap j cap b' off sz : Nat} {xd xs : Operand} {T : TypeId} {cs news : List Value} {r : List Ck} (hn : Nat.blt d n = true) (hu : P.underlying dT = some (.slice e)) (hsz : (P.info? e).map (·.size) = some sz)
    (hd : ev l xd = some (.slice (some ⟨b, o, none⟩) dLen dCap)) (hs : ev l xs = some (.slice (some ⟨b', off, none⟩) j cap)) (hsel : Sel m (blk b T cs) r) (hnews : ∀ w, Hp w0 S w m → News w b' off news) (hl : news.length = Nat.min j dLen * sz) (h1 : ∀ u ∈ news, u.oneCell' = true) (hfit : o + news.length ≤ cs.length)
    (h : G n w0 S ((d, .int .i64 (Nat.min j dLen : Nat)) :: l) (blk b T (putN cs o news) :: r) K) : G n w0 S l m (fun a w => Oper.wp P ⟨some d, .call ⟨.builtin .copy, #[xd, xs], #[dT, sT]⟩, ty, pos, after, g⟩ a w K Q) := G.eff rfl hn fun a w ha hw => by
  have hw' := hw.sel hsel
  have hh := hw'.holds _ (List.mem_cons_self ..)
  have hr := run_copy_any (P := P) (ty := ty) (sT := sT) (dCap := dCap) (sCap := cap) (a := ⟨b', off, none⟩) hu hsz hh hl (fun i u hi => by rw [addr_mid]; exact hnews w hw i u hi) hfit h1
  refine ⟨_, _, _, ?_, setCells_blk news cs o hw', h⟩
  simp only [execOp, resolve, invoke, builtin, Sem.run_bind, Sem.run_pure, Result.andThen_ok, List.map_toArray, List.map_cons, List.map_nil, ha.eval hd, ha.eval hs, hr]
theorem run_append_make {w : World} {t tn ty e : TypeId} {i : TypeInfo} {z : Value} {k kn : IntKind} (ht : P.underlying t = some (.slice e)) (htn : P.underlying tn = some (.int kn)) (hi : P.info? e = some i) (hz : i.zero = some z)
    {a : Addr} {sLen sCap : Nat} {olds : List Value} (hlo : olds.length = sLen * i.size) (holds : ∀ j v, olds[j]? = some v → w.cell? (a.add j) = some v) {c : Nat} (h0 : 0 < c) (hs : 0 < i.size) (hg : sCap < sLen + c) (h63 : sLen + c ≤ 9223372036854775807) (h48 : (sLen + c) * i.bytes ≤ 140737488355328) :
    (Builtin.append_ #[t, tn] ty #[.slice (some a) sLen sCap, .int k c]).run P w =
      .ok (.slice (some ⟨w.heap.size, 0, none⟩) (sLen + c) (grownCap w (sLen + c) sCap e)) (w.drew.alloc (.cells (olds.toArray ++ Builtin.zeroCells z.cells c ++ Builtin.zeroCells z.cells (grownCap w (sLen + c) sCap e - (sLen + c))) e)) := by
  have hn : ¬ (sLen + c ≤ sCap) := by omega
  have h63' : ¬ (9223372036854775807 < ((sLen : Int) + (c : Int))) := by omega
  have hfit := growslice_fits (old := sCap) hg h48
  have h48' : ¬ (281474976710656 < Builtin.nextslicecap (sLen + c) sCap * i.bytes) := by omega
  have hc48 : c * i.bytes ≤ 140737488355328 := Nat.le_trans (Nat.mul_le_mul_right _ (by omega)) h48
  have h48i : ¬ (281474976710656 < (c : Int) * (i.bytes : Int)) := by
    have : ((c * i.bytes : Nat) : Int) ≤ 140737488355328 := by omega
    rw [Int.natCast_mul] at this
    omega
  have hw : IntKind.i64.wrap (c : Int) = c := by rw [IntKind.wrap_i64]; omega
  have hf := run_firstCells_some (P := P) w.drew i.size sLen a sLen sCap olds hlo (by simpa using holds)
  have hneg : ¬ ((c : Int) < 0) := by omega
  have hns : ¬ (c * i.size = 0) := Nat.mul_ne_zero (by omega) (by omega)
  simp [Builtin.append_, run_underlying ht, run_underlying htn, sizeOf, typeInfo, zeroValue, hi, hz, hw, hn, h63', h48', h48i, hneg, hns, asInt, asIntOf, Question.forced, hf, newRow, grownCap]
/-- append of as many zeros, where there is no room: a block of its own -/
theorem G.appendMake {t tn e d b i cap c sz bytes : Nat} {s x : Operand} {k kn : IntKind} {j : Int} {olds : List Value} {z : List Value} (hn : Nat.blt d n = true) (hu : P.underlying t = some (.slice e)) (hun : P.underlying tn = some (.int kn)) (hi : (P.info? e).map (fun i => (i.zero.map (·.cells), i.size, i.bytes)) = some (some z.toArray, sz, bytes)) (hzl : z.length = sz) (hsz : Nat.blt 0 sz = true)
    (hs : ev l s = some (.slice (some ⟨b, 0, none⟩) i cap)) (hx : ev l x = some (.int k j)) (hj : j = (c : Int)) (holds : ∀ w, Hp w0 S w m → News w b 0 olds) (hol : olds.length = i * sz) (hc : 0 < c) (hg : cap < i + c) (h63 : i + c ≤ 9223372036854775807) (h48 : (i + c) * bytes ≤ 140737488355328)
    (h : ∀ b' cap' sp, i + c ≤ cap' → cap' ≤ 9223372036854775807 → (olds ++ sp).length = cap' * sz → G n w0 S ((d, .slice (some ⟨b', 0, none⟩) (i + c) cap') :: l) (blk b' e (olds ++ sp) :: m) K) : G n w0 S l m (fun a w => Oper.wp P ⟨some d, .call ⟨.builtin .append, #[s, x], #[t, tn]⟩, ty, pos, after, g⟩ a w K Q) := G.eff rfl hn fun a w ha hw => by
  obtain ⟨i1, hi1, hi2⟩ := Option.map_eq_some_iff.1 hi
  have hi3 : i1.zero.map (·.cells) = some z.toArray := congrArg Prod.fst hi2
  have hi4 : i1.size = sz := congrArg (fun p => p.2.1) hi2
  have hi5 : i1.bytes = bytes := congrArg (fun p => p.2.2) hi2
  obtain ⟨zv, hz1, hz2⟩ := Option.map_eq_some_iff.1 hi3
  subst hi4 hi5 hj
  have hr := run_append_make (P := P) (w := w) (ty := ty) (k := k) (a := ⟨b, 0, none⟩) hu hun hi1 hz1 hol (fun q u hq => by rw [addr_mid]; exact holds w hw q u hq) hc (Nat.le_of_ble_eq_true hsz) hg h63 h48
  have hge := grownCap_ge w (i + c) cap e
  have hcm := grownCap_le_maxLen w (i + c) cap e (by unfold maxLen; omega)
  unfold maxLen at hcm
  have hzz : zv.cells.size = i1.size := by rw [hz2]; simpa using hzl
  have e1 : olds.toArray ++ Builtin.zeroCells zv.cells c ++ Builtin.zeroCells zv.cells (grownCap w (i + c) cap e - (i + c)) = (olds ++ ((Builtin.zeroCells zv.cells c).toList ++ (Builtin.zeroCells zv.cells (grownCap w (i + c) cap e - (i + c))).toList)).toArray := by
    apply Array.ext'
    simp [List.append_assoc]
  rw [e1] at hr
  have hex : (execOp a.eval (⟨some d, .call ⟨.builtin .append, #[s, x], #[t, tn]⟩, ty, pos, after, g⟩ : Oper)).run P w = .ok (.value (.slice (some ⟨w.heap.size, 0, none⟩) (i + c) (grownCap w (i + c) cap e))) (w.drew.alloc (.cells (olds ++ ((Builtin.zeroCells zv.cells c).toList ++ (Builtin.zeroCells zv.cells (grownCap w (i + c) cap e - (i + c))).toList)).toArray e)) := by
    simp only [execOp, resolve, invoke, builtin, Sem.run_bind, Sem.run_pure, Result.andThen_ok, List.map_toArray, List.map_cons, List.map_nil, ha.eval hs, ha.eval hx, hr]
  have hlen : (olds ++ ((Builtin.zeroCells zv.cells c).toList ++ (Builtin.zeroCells zv.cells (grownCap w (i + c) cap e - (i + c))).toList)).length = grownCap w (i + c) cap e * i1.size := by
    have q1 : ∀ k, (Builtin.zeroCells zv.cells k).toList.length = k * i1.size := fun k => by rw [Array.length_toList, size_zeroCells, hzz]
    rw [List.length_append, List.length_append, q1, q1, hol, ← Nat.add_mul, ← Nat.add_mul]
    congr 1
    omega
  exact ⟨_, _, _, hex, hw.drew.alloc _ e, h _ _ _ hge (by omega) hlen⟩
/-- slices.overlaps at two slices in two blocks -/
theorem pv_overlaps {dst : Option Tmp} {f : FuncId} {x y : Operand} {ts : Array TypeId} {fn : Func} {T1 T2 tS tR e sz b1 b2 o2 la ca lb cb : Nat} {c1 c2 : List Value} {r1' r2' : List Ck} (hf : P.funcs[f]? = some fn) (hname : (fn.name == "runtime.NumGoroutine") = false)
    (hb : fn.body.isNone = true) (hn : Extern.findNext fn = none) (he : Extern.find fn = some (Extern.SlicesOverlaps.overlaps #[tS, tS] #[tR])) (hu : P.underlying tS = some (.slice e)) (hsz : (P.info? e).map (·.size) = some sz)
    (hx : ev l x = some (.slice (some ⟨b1, 0, none⟩) la ca)) (hy : ev l y = some (.slice (some ⟨b2, o2, none⟩) lb cb)) (h1 : ∀ w, Hp w0 S w m → w.heap[b1]? = some (.cells c1.toArray T1 (0, 0))) (h2 : ∀ w, Hp w0 S w m → w.heap[b2]? = some (.cells c2.toArray T2 (0, 0))) (hne : ∀ w, Hp w0 S w m → b1 ≠ b2) (hc2 : c2.length ≠ 0) :
    PV P n w0 S l m ⟨dst, .call ⟨.value (.func f), #[x, y], ts⟩, ty, pos, after, g⟩ (.bool false) := fun a w ha hw => by
  have hh1 := h1 w hw
  have hh2 := h2 w hw
  have s1 : w.shape? b1 = some (T1, c1.length) := by unfold World.shape?; rw [hh1]; simp
  have s2 : w.shape? b2 = some (T2, c2.length) := by unfold World.shape?; rw [hh2]; simp
  have hr := Lib.run_overlaps_apart (P := P) w tS tR e hu sz (run_sizeOf hsz) ⟨b1, 0, none⟩ ⟨b2, o2, none⟩ la ca lb cb (hne w hw) T1 T2 c1.length c2.length s1 s2 hc2 (frozen_of_row _ _ _ _ _ hh1) (frozen_of_row _ _ _ _ _ hh1)
  have hc := run_callFunc_extern (P := P) hf hname hb hn he #[.slice (some ⟨b1, 0, none⟩) la ca, .slice (some ⟨b2, o2, none⟩) lb cb] w
  rw [hr] at hc
  have e2 : a.eval (.func f) = .func (.func f) #[] #[] := rfl
  simp only [execOp, resolve, Deferred.ofValue, e2, invoke, Sem.run_bind, Sem.run_pure, Result.andThen_ok, List.map_toArray, List.map_cons, List.map_nil, ha.eval hx, ha.eval hy]
  simpa using hc
end
end Go.Proofs.Ytchgaedidfefoaa

set_option linter.unusedVariables false
set_option linter.unusedSimpArgs false
namespace Go.Proofs.Ytchgaedidfefoaa
open Go.RowKit
theorem putN_eq (cs vs : List Value) (o : Nat) (h : o + vs.length ≤ cs.length) : putN cs o vs = cs.take o ++ vs ++ cs.drop (o + vs.length) := by
  apply List.ext_getElem?
  intro j
  rw [putN_get _ _ _ _ h]
  have hl : (cs.take o).length = o := by rw [List.length_take]; omega
  rcases Nat.lt_or_ge j o with h1 | h1
  · rw [if_neg (by omega), List.append_assoc, List.getElem?_append_left (by omega), List.getElem?_take_of_lt h1]
  · rcases Nat.lt_or_ge j (o + vs.length) with h2 | h2
    · rw [if_pos ⟨h1, h2⟩, List.append_assoc, List.getElem?_append_right (by omega), List.getElem?_append_left (by omega), hl]
    · rw [if_neg (by omega), List.getElem?_append_right (by rw [List.length_append]; omega), List.getElem?_drop]
      congr 1
      rw [List.length_append]
      omega
/-- a list with an element laid into it -/
def insT (xs : List ET) (i : Nat) (x : ET) : List ET := xs.take i ++ [x] ++ xs.drop i
theorem insT_length {xs : List ET} {i : Nat} (h : i ≤ xs.length) (x : ET) : (insT xs i x).length = xs.length + 1 := by
  unfold insT
  rw [List.length_append, List.length_append, List.length_take, List.length_drop, List.length_singleton]
  omega
theorem flat_insT (xs : List ET) (i : Nat) (x : ET) : flatT (insT xs i x) = flatT (xs.take i) ++ (evC x ++ flatT (xs.drop i)) := by
  unfold insT
  rw [flatT_app, flatT_app, flatT_one, List.append_assoc]
/-- in place: what is behind is moved, then the new one is laid -/
theorem ins_place {xs : List ET} {sp : List Value} {i : Nat} (h : i < xs.length) (hs : 5 ≤ sp.length) (x : ET) : ∃ sp', putN (putN (flatT xs ++ sp) (0 + (i + 1) * 5) (flatT (xs.drop i))) (0 + i * 5) (evC x) = flatT (insT xs i x) ++ sp' ∧ (flatT (insT xs i x) ++ sp').length = (flatT xs ++ sp).length := by
  have hl := flatT_length xs
  have hd : (flatT (xs.drop i)).length = (xs.length - i) * 5 := by rw [flatT_length, List.length_drop]
  have ht : (flatT (xs.take i)).length = i * 5 := by rw [flatT_length, List.length_take]; omega
  have hc : (flatT xs ++ sp).length = xs.length * 5 + sp.length := by rw [List.length_append, hl]
  have h1 := putN_eq (flatT xs ++ sp) (flatT (xs.drop i)) (0 + (i + 1) * 5) (by omega)
  obtain ⟨L, hL⟩ : ∃ L, putN (flatT xs ++ sp) (0 + (i + 1) * 5) (flatT (xs.drop i)) = L := ⟨_, rfl⟩
  have hLl : L.length = (flatT xs ++ sp).length := by rw [← hL, putN_len]
  have ht1 : L.take (0 + i * 5) = flatT (xs.take i) := by rw [← hL, putN_take _ _ _ _ (by omega), flat_take (by omega)]
  have hd1 : L.drop (0 + i * 5 + 5) = flatT (xs.drop i) ++ (flatT xs ++ sp).drop (0 + (i + 1) * 5 + (flatT (xs.drop i)).length) := by
    rw [← hL, h1, List.append_assoc, List.drop_append_of_le_length (by rw [List.length_take]; omega), List.drop_of_length_le (by rw [List.length_take]; omega), List.nil_append]
  rw [hL, putN_eq _ _ _ (by rw [evC_length]; omega), evC_length, ht1, hd1]
  refine ⟨(flatT xs ++ sp).drop (0 + (i + 1) * 5 + (flatT (xs.drop i)).length), by rw [flat_insT]; simp only [List.append_assoc], ?_⟩
  rw [List.length_append, flatT_length, insT_length (by omega), List.length_drop, hd]
  omega
/-- in a new block: the new one is laid, then what was behind -/
theorem ins_new {xs : List ET} {sp : List Value} {i : Nat} (h : i < xs.length) (hs : (xs.length + 1 - i) * 5 ≤ sp.length) (x : ET) : ∃ sp', putN (putN (flatT (xs.take i) ++ sp) (0 + i * 5) (evC x)) (0 + (i + 1) * 5) (flatT (xs.drop i)) = flatT (insT xs i x) ++ sp' ∧ (flatT (insT xs i x) ++ sp').length = (flatT (xs.take i) ++ sp).length := by
  have hd : (flatT (xs.drop i)).length = (xs.length - i) * 5 := by rw [flatT_length, List.length_drop]
  have ht : (flatT (xs.take i)).length = i * 5 := by rw [flatT_length, List.length_take]; omega
  have hc : (flatT (xs.take i) ++ sp).length = i * 5 + sp.length := by rw [List.length_append, ht]
  have h1 := putN_eq (flatT (xs.take i) ++ sp) (evC x) (0 + i * 5) (by rw [evC_length]; omega)
  obtain ⟨L, hL⟩ : ∃ L, putN (flatT (xs.take i) ++ sp) (0 + i * 5) (evC x) = L := ⟨_, rfl⟩
  have hLl : L.length = (flatT (xs.take i) ++ sp).length := by rw [← hL, putN_len]
  have e0 : (flatT (xs.take i) ++ sp).take (0 + i * 5) = flatT (xs.take i) := List.take_left' (by omega)
  have ht1 : L.take (0 + (i + 1) * 5) = flatT (xs.take i) ++ evC x := by
    rw [← hL, h1, e0]
    exact List.take_left' (by rw [List.length_append, evC_length]; omega)
  rw [hL, putN_eq _ _ _ (by omega), ht1]
  refine ⟨L.drop (0 + (i + 1) * 5 + (flatT (xs.drop i)).length), by rw [flat_insT]; simp only [List.append_assoc], ?_⟩
  rw [List.length_append, flatT_length, insT_length (by omega), List.length_drop, hd]
  omega
theorem ro_ne {w0 : World} {S : Nat → Prop} {m r : List Ck} {b g T1 T2 : Nat} {c1 c2 : List Value} (h : Ro w0 S (blk b T1 c1)) (hs : Sel m (blk g T2 c2) r) : ∀ w, Hp w0 S w m → b ≠ g := fun w hw e => by
  have h1 := h.2 b rfl
  have h2 := (hw.sel hs).own _ (List.mem_cons_self ..) g rfl
  subst e
  rcases h2.1 with k | k
  · exact h1.2 k
  · omega
theorem blk_heap {w0 : World} {S : Nat → Prop} {m r : List Ck} {g T2 : Nat} {c2 : List Value} (hs : Sel m (blk g T2 c2) r) : ∀ w, Hp w0 S w m → w.heap[g]? = some (.cells c2.toArray T2 (0, 0)) := fun w hw => (hw.sel hs).holds _ (List.mem_cons_self ..)
end Go.Proofs.Ytchgaedidfefoaa

set_option linter.unusedVariables false
set_option linter.unusedSimpArgs false
namespace Go.Proofs.Ytchgaedidfefoaa
open Go.RowKit
theorem flat_dropT {xs : List ET} {sp : List Value} {i : Nat} (h : i ≤ xs.length) : ((flatT xs ++ sp).drop (0 + i * 5)).take ((xs.length - i) * 5) = flatT (xs.drop i) := by
  have e : flatT xs = flatT (xs.take i) ++ flatT (xs.drop i) := by rw [← flatT_app, List.take_append_drop]
  have ht : (flatT (xs.take i)).length = 0 + i * 5 := by rw [flatT_length, List.length_take]; omega
  have hd : (flatT (xs.drop i)).length = (xs.length - i) * 5 := by rw [flatT_length, List.length_drop]
  rw [e, List.append_assoc, ← ht, List.drop_left, ← hd, List.take_left]
theorem flat_takeT {xs : List ET} {sp : List Value} {i : Nat} (h : i ≤ xs.length) : ((flatT xs ++ sp).drop 0).take (i * 5) = flatT (xs.take i) := by
  have := flat_take (ws := xs) (sp := sp) h
  rw [Nat.zero_add] at this
  rw [List.drop_zero, this]
set_option maxRecDepth 20000 in
set_option maxHeartbeats 4000000 in
theorem ins_tr (v : Value) (xs : List ET) (i b : Nat) (x : ET) (hi : i ≤ xs.length) (hn : xs.length ≤ 1000) (hx1 : x.2.oneCell' = true) (hys : ∀ y ∈ xs, y.2.oneCell' = true) : Tr Try.prog 56 #[v, .int .i64 (i : Int), .slice (some ⟨b, 0, none⟩) 1 1] [blk b 31 (evC x)] [ownT 31 v xs] (TX (fun _ : Value => True) (fun z => z) (fun z => [ownT 31 z (insT xs i x)])) := by
  refine Tr.of (l := [(0, v), (1, .int .i64 (i : Int)), (2, .slice (some ⟨b, 0, none⟩) 1 1)]) Try.func56 rfl (n := 95) rfl (.cons rfl (.cons rfl (.cons rfl .nil))) (fun w0 hro => ?_)
  have hb0 := ro1 hro
  rw [show ownT 31 v xs = own 31 5 v xs.length (flatT xs) from rfl]
  refine G.ownOpen (v := v) (by repeat (first | with_reducible exact Sel.here | exact Sel.here | apply Sel.there)) (fun a3 c3 h3 hk3 hm3 => ?_)
  subst h3
  refine G.seq ?_
  refine G.region ?_
  refine G.op rfl (G.val rfl rfl (pv_assign rfl) ?_)
  refine G.nil ?_
  refine G.nThen ?_
  refine G.seq ?_
  refine G.region ?_
  refine G.op rfl (G.val rfl rfl (pv_move rfl) ?_)
  refine G.op rfl (G.val rfl rfl (pv_move rfl) ?_)
  refine G.op rfl (G.val rfl rfl (pv_subL (sz := 5) (k := i) Try.underlying22 (by kernel_rfl) rfl rfl rfl (by omega)) ?_)
  refine G.nil ?_
  refine G.nThen ?_
  refine G.seq ?_
  refine G.region ?_
  refine G.op rfl (G.val rfl rfl (pv_move rfl) ?_)
  refine G.op rfl (G.val rfl rfl (pv_lenSl Try.underlying22 rfl) ?_)
  refine G.op rfl (G.val rfl rfl (pv_assign rfl) ?_)
  refine G.nil ?_
  refine G.nThen ?_
  refine G.seq ?_
  refine G.seq ?_
  refine G.region ?_
  refine G.op rfl (G.val rfl rfl (pv_move rfl) ?_)
  refine G.op rfl (G.val rfl rfl (pv_eql rfl rfl) ?_)
  refine G.nil ?_
  refine G.nThen ?_
  refine G.condP rfl (fun h16 => ?_) (fun h16 => ?_)
  · exfalso; omega
  · refine G.skip ?_
    refine G.nThen ?_
    refine G.seq ?_
    refine G.region ?_
    refine G.op rfl (G.val rfl rfl (pv_move rfl) ?_)
    refine G.op rfl (G.val rfl rfl (pv_lenSl Try.underlying22 rfl) ?_)
    refine G.op rfl (G.val rfl rfl (pv_assign rfl) ?_)
    refine G.nil ?_
    refine G.nThen ?_
    refine G.seq ?_
    refine G.seq ?_
    refine G.region ?_
    refine G.op rfl (G.val rfl rfl (pv_move rfl) ?_)
    refine G.op rfl (G.val rfl rfl (pv_move rfl) ?_)
    refine G.op rfl (G.val rfl rfl (pv_eql rfl rfl) ?_)
    refine G.nil ?_
    refine G.nThen ?_
    refine G.condP rfl (fun h22 => ?_) (fun h22 => ?_)
    · refine G.seq ?_
      refine G.region ?_
      refine G.op rfl (G.val rfl rfl (pv_move rfl) ?_)
      refine G.op rfl (G.val rfl rfl (pv_move rfl) ?_)
      refine G.op rfl (G.append (k := xs.length) (j := 1) (cs := flatT xs) (news := evC x) (b := b) (off := 0) rfl Try.underlying22 Try.infoEn' rfl rfl rfl (by repeat (first | with_reducible exact Sel.here | exact Sel.here | apply Sel.there)) (fun _ => rfl) (fun h => by cases h) rfl (ro_range (k := 5) hb0 rfl) (evC_one hx1) (by omega) (by omega) ?_)
      intro v'
      rw [show flatT xs ++ evC x = flatT (insT xs i x) from by rw [flat_insT, List.take_of_length_le (by omega), List.drop_of_length_le (by omega)]; simp [flatT], show xs.length + 1 = (insT xs i x).length from (insT_length (by omega) x).symm]
      refine G.op rfl (G.val rfl rfl (pv_assign rfl) ?_)
      refine G.nil ?_
      refine G.nThen ?_
      refine G.ret ?_
      refine G.rThen ?_
      exact G.doneX1 (v') (by first | exact trivial | ((try dsimp only); exact trivial)) rfl rfl rfl (by repeat (first | exact Sub.nil | (apply Sub.cons; (repeat (first | with_reducible exact Sel.here | exact Sel.here | apply Sel.there)))))
    · have hlt : i < xs.length := by omega
      refine G.ownTo (v := .slice a3 xs.length c3) (by repeat (first | with_reducible exact Sel.here | exact Sel.here | apply Sel.there)) (by omega) (fun g cap sp hvv hkc hmx hl hlen => ?_)
      injection hvv with e1 e2 e3
      subst e1
      subst e3
      have hl5 : xs.length * 5 + sp.length = c3 * 5 := by rw [← hl, List.length_append, flatT_length]
      refine G.skip ?_
      refine G.nThen ?_
      refine G.seq ?_
      refine G.seq ?_
      refine G.region ?_
      refine G.op rfl (G.val rfl rfl (pv_move rfl) ?_)
      refine G.op rfl (G.val rfl rfl (pv_move rfl) ?_)
      refine G.op rfl (G.val rfl rfl (pv_add64 rfl rfl (by omega)) ?_)
      refine G.op rfl (G.val rfl rfl (pv_move rfl) ?_)
      refine G.op rfl (G.val rfl rfl (pv_capSl Try.underlying22 rfl) ?_)
      refine G.op rfl (G.val rfl rfl (pv_gtr rfl rfl) ?_)
      refine G.nil ?_
      refine G.nThen ?_
      refine G.condP rfl (fun h31 => ?_) (fun h31 => ?_)
      · refine G.seq ?_
        refine G.region ?_
        refine G.op rfl (G.val rfl rfl (pv_move rfl) ?_)
        refine G.op rfl (G.val rfl rfl (pv_move rfl) ?_)
        refine G.op rfl (G.val rfl rfl (pv_subH (sz := 5) (k := i) Try.underlying22 (by kernel_rfl) rfl rfl rfl (by omega)) ?_)
        refine G.op rfl (G.val rfl rfl (pv_move rfl) ?_)
        refine G.op rfl (G.val rfl rfl (pv_move rfl) ?_)
        refine G.op rfl (G.val rfl rfl (pv_add64 rfl rfl (by omega)) ?_)
        refine G.op rfl (G.val rfl rfl (pv_move rfl) ?_)
        refine G.op rfl (G.val rfl rfl (pv_sub64 rfl rfl (by omega)) ?_)
        refine G.op rfl (G.appendMake (i := i) (c := xs.length + 1 - i) (sz := 5) (bytes := 72) (olds := flatT (xs.take i)) (z := [.string ⟨#[]⟩, .int .i64 0, .int .i64 0, .slice none 0 0, .string ⟨#[]⟩]) rfl Try.underlying22 Try.underlying3 (by kernel_rfl) rfl rfl rfl rfl (by omega) (blk_news (k := i * 5) (by (repeat (first | with_reducible exact Sel.here | exact Sel.here | apply Sel.there)); done) (flat_takeT (by omega))) (by rw [flatT_length, List.length_take]; omega) (by omega) (by omega) (by omega) (by omega) ?_)
        intro b40 cap4 sp2 hc4 hm4 hl4
        have hl6 : i * 5 + sp2.length = cap4 * 5 := by have := hl4; rw [List.length_append, flatT_length, List.length_take] at this; omega
        refine G.op rfl (G.val rfl rfl (pv_assign rfl) ?_)
        refine G.nil ?_
        refine G.nThen ?_
        refine G.seq ?_
        refine G.region ?_
        refine G.op rfl (G.val rfl rfl (pv_move rfl) ?_)
        refine G.op rfl (G.val rfl rfl (pv_move rfl) ?_)
        refine G.op rfl (G.val rfl rfl ((pv_subL (sz := 5) (k := i) Try.underlying22 (by kernel_rfl) rfl rfl rfl (by omega)).cast (v' := .slice (some ⟨b40, 0 + (i) * 5, none⟩) (i + (xs.length + 1 - i) - (i)) (cap4 - (i))) (by unfold subV; rw [if_neg (by omega), Option.map_some, addr_mid])) ?_)
        refine G.op rfl (G.val rfl rfl (pv_move rfl) ?_)
        refine G.op rfl (G.copyN (sz := 5) (b := b40) (o := 0 + (i) * 5) (news := evC x) rfl Try.underlying22 (by kernel_rfl) rfl rfl (by repeat (first | with_reducible exact Sel.here | exact Sel.here | apply Sel.there)) (ro_range (k := 5) hb0 rfl) (by rw [evC_length, show ∀ a b : Nat, Nat.min a b = min a b from fun _ _ => rfl]; omega) (evC_one hx1) (by rw [evC_length, hl4]; omega) ?_)
        refine G.nil ?_
        refine G.nThen ?_
        refine G.seq ?_
        refine G.drawT (nn := 9) (p := [blk b40 _ _]) (rem := 511) [0, 0, 0, 6, 9, 0, 0, 96, 144] [0, 0, 0, 6, 9, 0, 0, 96, 144] (by kernel_rfl) ⟨rfl, by kernel_rfl, by kernel_rfl⟩ (by repeat (first | exact Sub.nil | (apply Sub.cons; (repeat (first | with_reducible exact Sel.here | exact Sel.here | apply Sel.there))))) (by kernel_rfl) (fun hT11 => ?_)
        refine G.takeT hT11 (i := 0) (rem' := 510) rfl rfl rfl (by kernel_rfl) (fun _ _ _ h => h) rfl (pv_move rfl) (by repeat (first | exact Sub.nil | (apply Sub.cons; (repeat (first | with_reducible exact Sel.here | exact Sel.here | apply Sel.there))))) ?_
        refine G.takeT hT11 (i := 1) (rem' := 508) rfl rfl rfl (by kernel_rfl) (fun _ _ _ h => h) rfl (pv_move rfl) (by repeat (first | exact Sub.nil | (apply Sub.cons; (repeat (first | with_reducible exact Sel.here | exact Sel.here | apply Sel.there))))) ?_
        refine G.takeT hT11 (i := 2) (rem' := 504) rfl rfl rfl (by kernel_rfl) (fun _ _ _ h => h) rfl (pv_move rfl) (by repeat (first | exact Sub.nil | (apply Sub.cons; (repeat (first | with_reducible exact Sel.here | exact Sel.here | apply Sel.there))))) ?_
        refine G.takeT hT11 (i := 3) (rem' := 496) rfl rfl rfl (by kernel_rfl) (fun _ _ _ h => h) rfl (pv_add64 rfl rfl (by omega)) (by repeat (first | exact Sub.nil | (apply Sub.cons; (repeat (first | with_reducible exact Sel.here | exact Sel.here | apply Sel.there))))) ?_
        refine G.takeT hT11 (i := 4) (rem' := 480) rfl rfl rfl (by kernel_rfl) (fun _ _ _ h => h) rfl ((pv_subL (sz := 5) (k := i + 1) Try.underlying22 (by kernel_rfl) rfl rfl rfl (by omega)).cast (v' := .slice (some ⟨b40, 0 + (i + 1) * 5, none⟩) (i + (xs.length + 1 - i) - (i + 1)) (cap4 - (i + 1))) (by unfold subV; rw [if_neg (by omega), Option.map_some, addr_mid])) (by repeat (first | exact Sub.nil | (apply Sub.cons; (repeat (first | with_reducible exact Sel.here | exact Sel.here | apply Sel.there))))) ?_
        refine G.takeT hT11 (i := 5) (rem' := 448) rfl rfl rfl (by kernel_rfl) (fun _ _ _ h => h) rfl (pv_move rfl) (by repeat (first | exact Sub.nil | (apply Sub.cons; (repeat (first | with_reducible exact Sel.here | exact Sel.here | apply Sel.there))))) ?_
        refine G.takeT hT11 (i := 6) (rem' := 384) rfl rfl rfl (by kernel_rfl) (fun _ _ _ h => h) rfl (pv_move rfl) (by repeat (first | exact Sub.nil | (apply Sub.cons; (repeat (first | with_reducible exact Sel.here | exact Sel.here | apply Sel.there))))) ?_
        refine G.takeT hT11 (i := 7) (rem' := 256) rfl rfl rfl (by kernel_rfl) (fun _ _ _ h => h) rfl ((pv_subL (sz := 5) (k := i) Try.underlying22 (by kernel_rfl) rfl rfl rfl (by omega)).cast (v' := .slice (some ⟨g, 0 + (i) * 5, none⟩) (xs.length - (i)) (c3 - (i))) (by unfold subV; rw [if_neg (by omega), Option.map_some, addr_mid])) (by repeat (first | exact Sub.nil | (apply Sub.cons; (repeat (first | with_reducible exact Sel.here | exact Sel.here | apply Sel.there))))) ?_
        refine G.oneT hT11 (i := 8) (rem' := 0) (by kernel_rfl) (by kernel_rfl) ?_
        refine G.turnOp rfl rfl (G.copyN (sz := 5) (b := b40) (o := 0 + (i + 1) * 5) (news := flatT (xs.drop i)) rfl Try.underlying22 (by kernel_rfl) rfl rfl (by repeat (first | with_reducible exact Sel.here | exact Sel.here | apply Sel.there)) (blk_news (k := (xs.length - i) * 5) (by (repeat (first | with_reducible exact Sel.here | exact Sel.here | apply Sel.there)); done) (flat_dropT (by omega))) (by rw [flatT_length, List.length_drop, show ∀ a b : Nat, Nat.min a b = min a b from fun _ _ => rfl]; omega) (flatT_one' fun y hy => hys y (List.mem_of_mem_drop hy)) (by rw [putN_len, hl4, flatT_length, List.length_drop]; omega) ?_)
        refine G.back (by repeat (first | exact Sub.nil | (apply Sub.cons; (repeat (first | with_reducible exact Sel.here | exact Sel.here | apply Sel.there))))) ?_
        refine G.overT hT11 (by kernel_rfl) ?_
        refine G.nThen ?_
        refine G.seq ?_
        refine G.region ?_
        refine G.op rfl (G.val rfl rfl (pv_move rfl) ?_)
        refine G.op rfl (G.val rfl rfl (pv_assign rfl) ?_)
        refine G.nil ?_
        refine G.nThen ?_
        refine G.ret ?_
        refine G.rThen ?_
        obtain ⟨sp', he, hle⟩ := ins_new (sp := sp2) hlt (by omega) x
        rw [he]
        refine G.ownOf (sz := 5) (k := (insT xs i x).length) (cs := flatT (insT xs i x)) (sp := sp') (cap := cap4) (by repeat (first | with_reducible exact Sel.here | exact Sel.here | apply Sel.there)) (flatT_length _) (by rw [insT_length (by omega)]; omega) hm4 (by rw [hle]; exact hl4) ?_
        exact G.doneX1 (.slice (some ⟨b40, 0, none⟩) (insT xs i x).length cap4) (by first | exact trivial | ((try dsimp only); exact trivial)) rfl rfl (by rw [insT_length (by omega), show i + (xs.length + 1 - i) = xs.length + 1 by omega]) (by repeat (first | exact Sub.nil | (apply Sub.cons; (repeat (first | with_reducible exact Sel.here | exact Sel.here | apply Sel.there)))))
      · refine G.skip ?_
        refine G.nThen ?_
        refine G.seq ?_
        refine G.region ?_
        refine G.op rfl (G.val rfl rfl (pv_move rfl) ?_)
        refine G.op rfl (G.val rfl rfl (pv_move rfl) ?_)
        refine G.op rfl (G.val rfl rfl (pv_move rfl) ?_)
        refine G.op rfl (G.val rfl rfl (pv_add64 rfl rfl (by omega)) ?_)
        refine G.op rfl (G.val rfl rfl (pv_subH (sz := 5) (k := xs.length + 1) Try.underlying22 (by kernel_rfl) rfl rfl rfl (by omega)) ?_)
        refine G.op rfl (G.val rfl rfl (pv_assign rfl) ?_)
        refine G.nil ?_
        refine G.nThen ?_
        refine G.seq ?_
        refine G.seq ?_
        refine G.region ?_
        refine G.op rfl (G.val rfl rfl (pv_move rfl) ?_)
        refine G.op rfl (G.val rfl rfl (pv_move rfl) ?_)
        refine G.op rfl (G.val rfl rfl (pv_move rfl) ?_)
        refine G.op rfl (G.val rfl rfl (pv_move rfl) ?_)
        refine G.op rfl (G.val rfl rfl (pv_add64 rfl rfl (by omega)) ?_)
        refine G.op rfl (G.val rfl rfl ((pv_subL (sz := 5) (k := i + 1) Try.underlying22 (by kernel_rfl) rfl rfl rfl (by omega)).cast (v' := .slice (some ⟨g, 0 + (i + 1) * 5, none⟩) (xs.length + 1 - (i + 1)) (c3 - (i + 1))) (by unfold subV; rw [if_neg (by omega), Option.map_some, addr_mid])) ?_)
        refine G.op rfl (G.val rfl rfl (pv_overlaps (sz := 5) (r1' := []) (r2' := []) (tS := 22) (tR := 4) (T1 := 31) (c1 := evC x) (T2 := 31) (c2 := flatT xs ++ sp) (b1 := b) (b2 := g) Try.func73 (by kernel_rfl) (by kernel_rfl) (by kernel_rfl) (by kernel_rfl) Try.underlying22 (by kernel_rfl) rfl rfl (fun w hw => hb0.at hw) (blk_heap (by repeat (first | with_reducible exact Sel.here | exact Sel.here | apply Sel.there))) (ro_ne hb0 (by repeat (first | with_reducible exact Sel.here | exact Sel.here | apply Sel.there))) (by rw [hl]; omega)) ?_)
        refine G.op rfl (G.val rfl rfl ((pv_not rfl).cast (v' := .bool true) rfl) ?_)
        refine G.nil ?_
        refine G.nThen ?_
        refine G.condT rfl (rfl) ?_
        refine G.seq ?_
        refine G.drawT (nn := 9) (p := [blk g _ _]) (rem := 511) [0, 0, 0, 6, 9, 0, 0, 96, 144] [0, 0, 0, 6, 9, 0, 0, 96, 144] (by kernel_rfl) ⟨rfl, by kernel_rfl, by kernel_rfl⟩ (by repeat (first | exact Sub.nil | (apply Sub.cons; (repeat (first | with_reducible exact Sel.here | exact Sel.here | apply Sel.there))))) (by kernel_rfl) (fun hT15 => ?_)
        refine G.takeT hT15 (i := 0) (rem' := 510) rfl rfl rfl (by kernel_rfl) (fun _ _ _ h => h) rfl (pv_move rfl) (by repeat (first | exact Sub.nil | (apply Sub.cons; (repeat (first | with_reducible exact Sel.here | exact Sel.here | apply Sel.there))))) ?_
        refine G.takeT hT15 (i := 1) (rem' := 508) rfl rfl rfl (by kernel_rfl) (fun _ _ _ h => h) rfl (pv_move rfl) (by repeat (first | exact Sub.nil | (apply Sub.cons; (repeat (first | with_reducible exact Sel.here | exact Sel.here | apply Sel.there))))) ?_
        refine G.takeT hT15 (i := 2) (rem' := 504) rfl rfl rfl (by kernel_rfl) (fun _ _ _ h => h) rfl (pv_move rfl) (by repeat (first | exact Sub.nil | (apply Sub.cons; (repeat (first | with_reducible exact Sel.here | exact Sel.here | apply Sel.there))))) ?_
        refine G.takeT hT15 (i := 3) (rem' := 496) rfl rfl rfl (by kernel_rfl) (fun _ _ _ h => h) rfl (pv_add64 rfl rfl (by omega)) (by repeat (first | exact Sub.nil | (apply Sub.cons; (repeat (first | with_reducible exact Sel.here | exact Sel.here | apply Sel.there))))) ?_
        refine G.takeT hT15 (i := 4) (rem' := 480) rfl rfl rfl (by kernel_rfl) (fun _ _ _ h => h) rfl ((pv_subL (sz := 5) (k := i + 1) Try.underlying22 (by kernel_rfl) rfl rfl rfl (by omega)).cast (v' := .slice (some ⟨g, 0 + (i + 1) * 5, none⟩) (xs.length + 1 - (i + 1)) (c3 - (i + 1))) (by unfold subV; rw [if_neg (by omega), Option.map_some, addr_mid])) (by repeat (first | exact Sub.nil | (apply Sub.cons; (repeat (first | with_reducible exact Sel.here | exact Sel.here | apply Sel.there))))) ?_
        refine G.takeT hT15 (i := 5) (rem' := 448) rfl rfl rfl (by kernel_rfl) (fun _ _ _ h => h) rfl (pv_move rfl) (by repeat (first | exact Sub.nil | (apply Sub.cons; (repeat (first | with_reducible exact Sel.here | exact Sel.here | apply Sel.there))))) ?_
        refine G.takeT hT15 (i := 6) (rem' := 384) rfl rfl rfl (by kernel_rfl) (fun _ _ _ h => h) rfl (pv_move rfl) (by repeat (first | exact Sub.nil | (apply Sub.cons; (repeat (first | with_reducible exact Sel.here | exact Sel.here | apply Sel.there))))) ?_
        refine G.takeT hT15 (i := 7) (rem' := 256) rfl rfl rfl (by kernel_rfl) (fun _ _ _ h => h) rfl ((pv_subL (sz := 5) (k := i) Try.underlying22 (by kernel_rfl) rfl rfl rfl (by omega)).cast (v' := .slice (some ⟨g, 0 + (i) * 5, none⟩) (xs.length + 1 - (i)) (c3 - (i))) (by unfold subV; rw [if_neg (by omega), Option.map_some, addr_mid])) (by repeat (first | exact Sub.nil | (apply Sub.cons; (repeat (first | with_reducible exact Sel.here | exact Sel.here | apply Sel.there))))) ?_
        refine G.oneT hT15 (i := 8) (rem' := 0) (by kernel_rfl) (by kernel_rfl) ?_
        refine G.turnOp rfl rfl (G.copyN (sz := 5) (b := g) (o := 0 + (i + 1) * 5) (news := flatT (xs.drop i)) rfl Try.underlying22 (by kernel_rfl) rfl rfl (by repeat (first | with_reducible exact Sel.here | exact Sel.here | apply Sel.there)) (blk_news (k := (xs.length - i) * 5) (by (repeat (first | with_reducible exact Sel.here | exact Sel.here | apply Sel.there)); done) (flat_dropT (by omega))) (by rw [flatT_length, List.length_drop, show ∀ a b : Nat, Nat.min a b = min a b from fun _ _ => rfl]; omega) (flatT_one' fun y hy => hys y (List.mem_of_mem_drop hy)) (by rw [hl, flatT_length, List.length_drop]; omega) ?_)
        refine G.back (by repeat (first | exact Sub.nil | (apply Sub.cons; (repeat (first | with_reducible exact Sel.here | exact Sel.here | apply Sel.there))))) ?_
        refine G.overT hT15 (by kernel_rfl) ?_
        refine G.nThen ?_
        refine G.seq ?_
        refine G.region ?_
        refine G.op rfl (G.val rfl rfl (pv_move rfl) ?_)
        refine G.op rfl (G.val rfl rfl (pv_move rfl) ?_)
        refine G.op rfl (G.val rfl rfl ((pv_subL (sz := 5) (k := i) Try.underlying22 (by kernel_rfl) rfl rfl rfl (by omega)).cast (v' := .slice (some ⟨g, 0 + (i) * 5, none⟩) (xs.length + 1 - (i)) (c3 - (i))) (by unfold subV; rw [if_neg (by omega), Option.map_some, addr_mid])) ?_)
        refine G.op rfl (G.val rfl rfl (pv_move rfl) ?_)
        refine G.op rfl (G.copyN (sz := 5) (b := g) (o := 0 + (i) * 5) (news := evC x) rfl Try.underlying22 (by kernel_rfl) rfl rfl (by repeat (first | with_reducible exact Sel.here | exact Sel.here | apply Sel.there)) (ro_range (k := 5) hb0 rfl) (by rw [evC_length, show ∀ a b : Nat, Nat.min a b = min a b from fun _ _ => rfl]; omega) (evC_one hx1) (by rw [evC_length, putN_len, hl]; omega) ?_)
        refine G.nil ?_
        refine G.nThen ?_
        refine G.seq ?_
        refine G.region ?_
        refine G.op rfl (G.val rfl rfl (pv_move rfl) ?_)
        refine G.op rfl (G.val rfl rfl (pv_assign rfl) ?_)
        refine G.nil ?_
        refine G.nThen ?_
        refine G.ret ?_
        refine G.rThen ?_
        obtain ⟨sp', he, hle⟩ := ins_place (sp := sp) hlt (by omega) x
        rw [he]
        refine G.ownOf (sz := 5) (k := (insT xs i x).length) (cs := flatT (insT xs i x)) (sp := sp') (cap := c3) (by repeat (first | with_reducible exact Sel.here | exact Sel.here | apply Sel.there)) (flatT_length _) (by rw [insT_length (by omega)]; omega) hmx (by rw [hle]; exact hl) ?_
        exact G.doneX1 (.slice (some ⟨g, 0, none⟩) (insT xs i x).length c3) (by first | exact trivial | ((try dsimp only); exact trivial)) rfl rfl (by rw [insT_length (by omega)]) (by repeat (first | exact Sub.nil | (apply Sub.cons; (repeat (first | with_reducible exact Sel.here | exact Sel.here | apply Sel.there)))))
end Go.Proofs.Ytchgaedidfefoaa

set_option linter.unusedVariables false
set_option linter.unusedSimpArgs false
namespace Go.Proofs.Ytchgaedidfefoaa
open Go.RowKit
/-- what an entry's path being there makes of the list -/
def putT (xs : List ET) (x : ET) : List ET := if isAt (ens xs) x.1.path then xs.set (placeK (ens xs) x.1.path) x else insT xs (placeK (ens xs) x.1.path) x
theorem ens_insT (xs : List ET) (i : Nat) (x : ET) : ens (insT xs i x) = (ens xs).take i ++ [x.1] ++ (ens xs).drop i := by
  unfold insT ens
  simp [List.map_append, List.map_take, List.map_drop]
theorem putT_ens {xs : List ET} {x : ET} (hs : SortT (ens xs)) : ens (putT xs x) = putL (ens xs) x.1 := by
  unfold putT putL restL
  by_cases ha : isAt (ens xs) x.1.path
  · rw [if_pos ha, if_pos ha]
    obtain ⟨hk, _⟩ := placeK_spec hs ha
    obtain ⟨k, hk2⟩ : ∃ k, placeK (ens xs) x.1.path = k := ⟨_, rfl⟩
    simp only [hk2] at hk ⊢
    unfold ens at hk ⊢
    rw [List.map_set, List.set_eq_take_append_cons_drop, if_pos hk]
    simp
  · rw [if_neg ha, if_neg ha, ens_insT]
theorem putT_mem {xs : List ET} {x y : ET} (h : y ∈ putT xs x) : y = x ∨ y ∈ xs := by
  unfold putT at h
  split at h
  · rcases List.mem_or_eq_of_mem_set h with h | h
    · exact .inr h
    · exact .inl h
  · unfold insT at h
    rcases List.mem_append.1 h with h | h
    · rcases List.mem_append.1 h with h | h
      · exact .inr (List.mem_of_mem_take h)
      · exact .inl (by simpa using h)
    · exact .inr (List.mem_of_mem_drop h)
theorem Ro.wide {w0 : World} {S Pa Pb : Nat → Prop} {v : Value} {a : List UInt8} (h : Ro w0 S (slc rByte Pa v a)) (hb : ∀ k, Pb k → k < w0.heap.size ∧ ¬ S k) : Ro w0 S (slc rByte (fun k => Pa k ∨ Pb k) v a) := ⟨(show IsSl rByte Pa w0 v a from h.1).mono fun k hk => .inl hk, fun k hk => hk.elim (h.2 k) (hb k)⟩
theorem Ro.wideR {w0 : World} {S Pa Pb : Nat → Prop} {v : Value} {a : List UInt8} (h : Ro w0 S (slc rByte Pb v a)) (hb : ∀ k, Pa k → k < w0.heap.size ∧ ¬ S k) : Ro w0 S (slc rByte (fun k => Pa k ∨ Pb k) v a) := ⟨(show IsSl rByte Pb w0 v a from h.1).mono fun k hk => .inr hk, fun k hk => hk.elim (hb k) (h.2 k)⟩
end Go.Proofs.Ytchgaedidfefoaa

set_option linter.unusedVariables false
set_option linter.unusedSimpArgs false
namespace Go.Proofs.Ytchgaedidfefoaa
open Go.RowKit
set_option maxRecDepth 20000 in
set_option maxHeartbeats 4000000 in
theorem put_tr {Ps Pd : Nat → Prop} (v : Value) (xs : List ET) (e : En) (d : Value) (hok : EnOk e) : Tr Try.prog 30 #[v, .agg #[.string (sB e.path), .int .i64 e.kind, .int .i64 e.mode, d, .string (sB e.to)]] [slc rEV Ps v xs, slc rByte Pd d e.data] []
    (TX (fun z : Value × List ET => ens z.2 = (putM (ens xs) e).1) (fun z => .tuple #[z.1, .int .i64 (putM (ens xs) e).2]) (fun z => [ownT 31 z.1 z.2, datC 5 z.2])) := by
  refine Tr.of (l := [(0, v), (1, .agg #[.string (sB e.path), .int .i64 e.kind, .int .i64 e.mode, d, .string (sB e.to)])]) Try.func30 rfl (n := 50) rfl (.cons rfl (.cons rfl .nil)) (fun w0 hro => ?_)
  obtain ⟨hv0, hd0⟩ := ro2 hro
  have hv := hv0
  have hv' := hv
  obtain ⟨av, cv, bv, fv, rfl, hcapv, hmaxv, hnilv, hadv, helv⟩ := Ro.openT hv
  have hlx := ens_length xs
  have hd1 := Ro.one1 hd0
  obtain ⟨hok1, hok2, hok3, hok4, hok5⟩ := id hok
  have hokp : ∀ x ∈ putT xs (e, d), EnOk x.1 := fun x hx => by rcases putT_mem hx with h | h; rw [h]; exact hok; exact Ro.allOk helv x h
  have hPp : ∀ b, (Ps b ∨ Pd b) → b < w0.heap.size ∧ ¬ (U []) b := fun b hb => hb.elim (hv0.2 b) (hd0.2 b)
  have hdp : ∀ x ∈ putT xs (e, d), Ro w0 (U []) (slc rByte (fun k => Ps k ∨ Pd k) x.2 x.1.data) := fun x hx => by rcases putT_mem hx with h | h; rw [h]; exact Ro.wideR hd0 hv0.2; exact Ro.wide (Ro.allDat helv x h) hd0.2
  refine G.seq ?_
  refine G.region ?_
  refine G.op rfl (G.box rfl rfl (cs := [_, _, _, _, _]) rfl ?_)
  intro b3
  refine G.op rfl (G.val rfl rfl (pv_assign rfl) ?_)
  refine G.op rfl (G.val rfl rfl (pv_assign rfl) ?_)
  refine G.nil ?_
  refine G.nThen ?_
  refine G.seq ?_
  refine G.seq ?_
  refine G.region ?_
  refine G.op rfl (G.val rfl rfl (pv_move rfl) ?_)
  refine G.op rfl (G.cR rfl rfl rfl rfl Try.func11 rfl rfl (may1 (by first | (apply May.old; first | with_reducible assumption | assumption) | (apply Sel.may; (repeat (first | with_reducible exact Sel.here | exact Sel.here | apply Sel.there)); done) | (apply may_own; (repeat (first | with_reducible exact Sel.here | exact Sel.here | apply Sel.there)); exact rfl; exact (fun _ _ => trivial); done) | (apply may_ownB; (repeat (first | with_reducible exact Sel.here | exact Sel.here | apply Sel.there)); done) | (apply may_tree; (repeat (first | with_reducible exact Sel.here | exact Sel.here | apply Sel.there)); (repeat (first | with_reducible exact Sel.here | exact Sel.here | apply Sel.there)); assumption; done))) (tcheck_tr _ _) ?_)
  refine G.op rfl (G.val rfl rfl (pv_move rfl) ?_)
  refine G.op rfl (G.val rfl rfl (pv_extract rfl rfl) ?_)
  refine G.op rfl (G.val rfl rfl (pv_extract rfl rfl) ?_)
  refine G.op rfl (G.val rfl rfl (pv_assign rfl) ?_)
  refine G.op rfl (G.val rfl rfl (pv_assign rfl) ?_)
  refine G.nil ?_
  refine G.nThen ?_
  refine G.seq ?_
  refine G.region ?_
  refine G.op rfl (G.val rfl rfl (pv_move rfl) ?_)
  refine G.op rfl (G.val rfl rfl (pv_neq rfl rfl) ?_)
  refine G.nil ?_
  refine G.nThen ?_
  refine G.condP rfl (fun h19 => ?_) (fun h19 => ?_)
  · have hbad := put_bad (e := e) h19
    refine G.seq ?_
    refine G.region ?_
    refine G.op rfl (G.val rfl rfl (pv_move rfl) ?_)
    refine G.op rfl (G.val rfl rfl (pv_assign rfl) ?_)
    refine G.op rfl (G.val rfl rfl (pv_assign rfl) ?_)
    refine G.nil ?_
    refine G.nThen ?_
    refine G.ret ?_
    refine G.rThen ?_
    refine G.datNil 5 ?_
    refine G.ownNil 31 5 ?_
    exact G.doneX2 ((.slice none 0 0, [])) (by first | exact trivial | ((try dsimp only); exact (by rw [hbad]; rfl))) rfl rfl rfl (by rw [hbad]; first | done | rfl) (by repeat (first | exact Sub.nil | (apply Sub.cons; (repeat (first | with_reducible exact Sel.here | exact Sel.here | apply Sel.there)))))
  · have hx0 : (checkT (ens xs)).1 = 0 := Decidable.of_not_not (by assumption)
    obtain ⟨hx1, hx2, -⟩ := checkT_zero hx0
    have hsx := sort_all hx2
    have hpe : ens (putT xs (e, d)) = putL (ens xs) e := putT_ens hsx
    refine G.skip ?_
    refine G.nThen ?_
    refine G.seq ?_
    refine G.region ?_
    refine G.op rfl (G.val rfl rfl (pv_move rfl) ?_)
    refine G.op rfl (G.val rfl rfl (pv_fieldAddrK (sz := 0) (k := 0) Try.underlying31 rfl (by kernel_rfl) rfl rfl) ?_)
    refine G.op rfl (G.val rfl rfl (pv_load Try.underlying9 rfl rfl (by first | exact blk_cell (by (repeat (first | with_reducible exact Sel.here | exact Sel.here | apply Sel.there)); done) (by rfl) | exact rng_cell (by (repeat (first | with_reducible exact Sel.here | exact Sel.here | apply Sel.there)); done) (by rfl) | exact ro_blk (by assumption) (by rfl) | exact ro_rngC (by assumption) (by rfl) | exact ro_int (by assumption) | exact ro_byte (by assumption) | exact ro_str (by assumption) | with_reducible assumption | assumption)) ?_)
    refine G.op rfl (G.cR rfl rfl rfl rfl Try.func40 rfl rfl (may1 (by first | (apply May.old; first | with_reducible assumption | assumption) | (apply Sel.may; (repeat (first | with_reducible exact Sel.here | exact Sel.here | apply Sel.there)); done) | (apply may_own; (repeat (first | with_reducible exact Sel.here | exact Sel.here | apply Sel.there)); exact rfl; exact (fun _ _ => trivial); done) | (apply may_ownB; (repeat (first | with_reducible exact Sel.here | exact Sel.here | apply Sel.there)); done) | (apply may_tree; (repeat (first | with_reducible exact Sel.here | exact Sel.here | apply Sel.there)); (repeat (first | with_reducible exact Sel.here | exact Sel.here | apply Sel.there)); assumption; done))) (place_tr _ xs _ (by omega) hsx (by omega)) ?_)
    refine G.op rfl (G.val rfl rfl (pv_move rfl) ?_)
    refine G.op rfl (G.val rfl rfl (pv_extract rfl rfl) ?_)
    refine G.op rfl (G.val rfl rfl (pv_extract rfl rfl) ?_)
    refine G.op rfl (G.val rfl rfl (pv_assign rfl) ?_)
    refine G.op rfl (G.val rfl rfl (pv_assign rfl) ?_)
    refine G.nil ?_
    refine G.nThen ?_
    refine G.seq ?_
    refine G.region ?_
    refine G.op rfl (G.val rfl rfl (pv_move rfl) ?_)
    refine G.op rfl (G.cS rfl rfl rfl rfl Try.func55 rfl rfl (by repeat (first | exact Sub.nil | (apply Sub.cons; (repeat (first | with_reducible exact Sel.here | exact Sel.here | apply Sel.there))))) (may1 (by first | (apply May.old; first | with_reducible assumption | assumption) | (apply Sel.may; (repeat (first | with_reducible exact Sel.here | exact Sel.here | apply Sel.there)); done) | (apply may_own; (repeat (first | with_reducible exact Sel.here | exact Sel.here | apply Sel.there)); exact rfl; exact (fun _ _ => trivial); done) | (apply may_ownB; (repeat (first | with_reducible exact Sel.here | exact Sel.here | apply Sel.there)); done) | (apply may_tree; (repeat (first | with_reducible exact Sel.here | exact Sel.here | apply Sel.there)); (repeat (first | with_reducible exact Sel.here | exact Sel.here | apply Sel.there)); assumption; done))) (cloneE_tr _ _ (by omega)) (by repeat (first | exact Ap.nil | apply Ap.cons)) ?_)
    intro x29 hJ
    try dsimp only at hJ
    try dsimp only
    refine G.op rfl (G.val rfl rfl (pv_assign rfl) ?_)
    refine G.nil ?_
    refine G.nThen ?_
    refine G.seq ?_
    refine G.cutK (X := Value) (ts := [4, 5]) (p := [ownT 31 x29 _]) (fun vo => True) (fun vo => [(10, vo)]) (fun vo => [ownT 31 vo (putT xs (e, d))]) (.cons rfl (.cons rfl .nil)) (by repeat (first | exact Sub.nil | (apply Sub.cons; (repeat (first | with_reducible exact Sel.here | exact Sel.here | apply Sel.there))))) (.cons .nil) (by repeat (first | exact Ap.nil | apply Ap.cons)) ?_ ?_
    · refine G.seq ?_
      refine G.region ?_
      refine G.op rfl (G.val rfl rfl (pv_move rfl) ?_)
      refine G.nil ?_
      refine G.nThen ?_
      refine G.condP rfl (fun h30 => ?_) (fun h30 => ?_)
      · have hat : isAt (ens xs) e.path := by assumption
        obtain ⟨hkl, hkp⟩ := placeK_spec hsx hat
        have hpt : putT xs (e, d) = xs.set (placeK (ens xs) e.path) (e, d) := if_pos hat
        obtain ⟨k, hk⟩ : ∃ k, placeK (ens xs) e.path = k := ⟨_, rfl⟩
        simp only [hk] at hkl hpt
        rw [hk]
        rw [show ownT 31 x29 xs = own 31 5 x29 xs.length (flatT xs) from rfl]
        refine G.ownTo (v := x29) (by repeat (first | with_reducible exact Sel.here | exact Sel.here | apply Sel.there)) (by omega) (fun g cap sp hvv hkc hmx hl hlen => ?_)
        subst hvv
        refine G.region ?_
        refine G.op rfl (G.val rfl rfl (pv_move rfl) ?_)
        refine G.op rfl (G.val rfl rfl (pv_move rfl) ?_)
        refine G.op rfl (G.val rfl rfl (pv_loadN (cs := [_, _, _, _, _]) Try.underlying31 rfl (by kernel_rfl) rfl (by first | exact blk_range (k := 5) (by (repeat (first | with_reducible exact Sel.here | exact Sel.here | apply Sel.there)); done) (by rfl) | exact ro_rng0 (by assumption) | exact rng_range (k := 5) (by (repeat (first | with_reducible exact Sel.here | exact Sel.here | apply Sel.there)); done) (by rfl) | exact ro_range (k := 5) (by assumption) (by rfl) | exact ro_rngR (k := 5) (by assumption) (by rfl))) ?_)
        refine G.op rfl (G.val rfl rfl (pv_ixSl (sz := 5) (k := k) Try.underlying22 (by kernel_rfl) rfl rfl (fun _ => rfl) (by omega) (by omega)) ?_)
        refine G.op rfl (G.storeN (vs := evC (e, d)) (by kernel_rfl) rfl rfl (by exact (all1_cons rfl (all1_cons rfl (all1_cons rfl (all1_cons hd1 (all1_cons rfl all1_nil)))))) (by repeat (first | with_reducible exact Sel.here | exact Sel.here | apply Sel.there)) (by rw [evC_length, List.length_append, flatT_length]; omega) ?_)
        rw [flat_put (show k < xs.length by omega), ← hpt]
        refine G.ownOf (sz := 5) (k := (putT xs (e, d)).length) (cs := flatT (putT xs (e, d))) (sp := sp) (cap := cap) (by repeat (first | with_reducible exact Sel.here | exact Sel.here | apply Sel.there)) (flatT_length _) (by rw [hpt, List.length_set]; omega) hmx (by rw [List.length_append, flatT_length, hpt, List.length_set]; rw [List.length_append, flatT_length] at hl; exact hl) ?_
        refine G.nil ?_
        exact G.meet ((.slice (some ⟨g, 0, none⟩) (putT xs (e, d)).length cap)) (by first | exact trivial | ((try dsimp only); exact trivial)) (.consE rfl (by rw [hpt, List.length_set]) (.cons rfl (.cons rfl .nil))) (by repeat (first | exact Sub.nil | (apply Sub.cons; (repeat (first | with_reducible exact Sel.here | exact Sel.here | apply Sel.there)))))
      · have hnat : ¬ isAt (ens xs) e.path := by assumption
        have hpt : putT xs (e, d) = insT xs (placeK (ens xs) e.path) (e, d) := if_neg hnat
        have hple : placeK (ens xs) e.path ≤ xs.length := by have := List.findIdx_le_length (p := fun q : En => ! decide (compareM q.path e.path < 0)) (xs := ens xs); rw [ens_length] at this; exact this
        rw [hpt]
        refine G.region ?_
        refine G.op rfl (G.val rfl rfl (pv_move rfl) ?_)
        refine G.op rfl (G.val rfl rfl (pv_move rfl) ?_)
        refine G.op rfl (G.val rfl rfl (pv_loadN (cs := [_, _, _, _, _]) Try.underlying31 rfl (by kernel_rfl) rfl (by first | exact blk_range (k := 5) (by (repeat (first | with_reducible exact Sel.here | exact Sel.here | apply Sel.there)); done) (by rfl) | exact ro_rng0 (by assumption) | exact rng_range (k := 5) (by (repeat (first | with_reducible exact Sel.here | exact Sel.here | apply Sel.there)); done) (by rfl) | exact ro_range (k := 5) (by assumption) (by rfl) | exact ro_rngR (k := 5) (by assumption) (by rfl))) ?_)
        refine G.op rfl (G.buildSlice (z := .agg #[.string ⟨#[]⟩, .int .i64 0, .int .i64 0, .slice none 0 0, .string ⟨#[]⟩]) (sz := 5) (cs := evC (e, d)) rfl Try.underlying22 (by kernel_rfl) (by decide) (by decide) rfl (by kernel_rfl) ?_)
        intro b38
        refine G.op rfl (G.cS rfl rfl rfl rfl Try.func56 rfl rfl (by repeat (first | exact Sub.nil | (apply Sub.cons; (repeat (first | with_reducible exact Sel.here | exact Sel.here | apply Sel.there))))) (may1 (by first | (apply May.old; first | with_reducible assumption | assumption) | (apply Sel.may; (repeat (first | with_reducible exact Sel.here | exact Sel.here | apply Sel.there)); done) | (apply may_own; (repeat (first | with_reducible exact Sel.here | exact Sel.here | apply Sel.there)); exact rfl; exact (fun _ _ => trivial); done) | (apply may_ownB; (repeat (first | with_reducible exact Sel.here | exact Sel.here | apply Sel.there)); done) | (apply may_tree; (repeat (first | with_reducible exact Sel.here | exact Sel.here | apply Sel.there)); (repeat (first | with_reducible exact Sel.here | exact Sel.here | apply Sel.there)); assumption; done))) (ins_tr _ xs (placeK (ens xs) e.path) b38 (e, d) hple (by omega) hd1 (fun y hy => (Ro.allEO (P := Try.prog) helv y hy).2)) (by repeat (first | exact Ap.nil | apply Ap.cons)) ?_)
        intro x39 hJ
        try dsimp only at hJ
        try dsimp only
        refine G.op rfl (G.val rfl rfl (pv_assign rfl) ?_)
        refine G.nil ?_
        exact G.meet (x39) (by first | exact trivial | ((try dsimp only); exact trivial)) (.consE rfl (by first | rfl | exact int_eq (by first | omega | (dsimp only; omega)) | exact congrArg _ (by omega)) (.cons rfl (.cons rfl .nil))) (by repeat (first | exact Sub.nil | (apply Sub.cons; (repeat (first | with_reducible exact Sel.here | exact Sel.here | apply Sel.there)))))
    · intro vo hJ
      try dsimp only at hJ
      try dsimp only
      refine G.seq ?_
      refine G.seq ?_
      refine G.region ?_
      refine G.op rfl (G.val rfl rfl (pv_move rfl) ?_)
      refine G.op rfl (G.cR rfl rfl rfl rfl Try.func11 rfl rfl (may1 (may_treeR (by repeat (first | with_reducible exact Sel.here | exact Sel.here | apply Sel.there)) hokp hPp hdp)) (tcheck_tr _ (putT xs (e, d))) ?_)
      rw [hpe]
      refine G.op rfl (G.val rfl rfl (pv_move rfl) ?_)
      refine G.op rfl (G.val rfl rfl (pv_extract rfl rfl) ?_)
      refine G.op rfl (G.val rfl rfl (pv_extract rfl rfl) ?_)
      refine G.op rfl (G.val rfl rfl (pv_assign rfl) ?_)
      refine G.op rfl (G.val rfl rfl (pv_assign rfl) ?_)
      refine G.nil ?_
      refine G.nThen ?_
      refine G.seq ?_
      refine G.region ?_
      refine G.op rfl (G.val rfl rfl (pv_move rfl) ?_)
      refine G.op rfl (G.val rfl rfl (pv_neq rfl rfl) ?_)
      refine G.nil ?_
      refine G.nThen ?_
      refine G.condP rfl (fun h46 => ?_) (fun h46 => ?_)
      · have hbad2 := put_bad2 hx0 (by assumption)
        refine G.seq ?_
        refine G.region ?_
        refine G.op rfl (G.val rfl rfl (pv_move rfl) ?_)
        refine G.op rfl (G.val rfl rfl (pv_assign rfl) ?_)
        refine G.op rfl (G.val rfl rfl (pv_assign rfl) ?_)
        refine G.nil ?_
        refine G.nThen ?_
        refine G.ret ?_
        refine G.rThen ?_
        refine G.datNil 5 ?_
        refine G.ownNil 31 5 ?_
        exact G.doneX2 ((.slice none 0 0, [])) (by first | exact trivial | ((try dsimp only); exact (by rw [hbad2]; rfl))) rfl rfl rfl (by rw [hbad2]; first | done | rfl) (by repeat (first | exact Sub.nil | (apply Sub.cons; (repeat (first | with_reducible exact Sel.here | exact Sel.here | apply Sel.there)))))
      · have hgood := put_ok hx0 (Decidable.of_not_not (by assumption))
        have hcz : (checkT (putL (ens xs) e)).1 = 0 := Decidable.of_not_not (by assumption)
        have hpl : (putT xs (e, d)).length ≤ 200 := by have := (checkT_zero hcz).1; rw [← hpe, ens_length] at this; exact this
        refine G.skip ?_
        refine G.nThen ?_
        refine G.seq ?_
        refine G.region ?_
        refine G.op rfl (G.val rfl rfl (pv_move rfl) ?_)
        refine G.op rfl (G.cS rfl rfl rfl rfl Try.func41 rfl rfl (by repeat (first | exact Sub.nil | (apply Sub.cons; (repeat (first | with_reducible exact Sel.here | exact Sel.here | apply Sel.there))))) (may1 (may_treeR (by repeat (first | with_reducible exact Sel.here | exact Sel.here | apply Sel.there)) hokp hPp hdp)) (clone_tr _ (putT xs (e, d)) (by omega)) (by repeat (first | exact Ap.nil | apply Ap.cons)) ?_)
        intro x49 hJ
        obtain ⟨v', zs⟩ := x49
        try dsimp only at hJ
        try dsimp only
        refine G.op rfl (G.val rfl rfl (pv_assign rfl) ?_)
        refine G.op rfl (G.val rfl rfl (pv_assign rfl) ?_)
        refine G.nil ?_
        refine G.nThen ?_
        refine G.ret ?_
        exact G.doneX2 ((v', zs)) (by first | exact trivial | ((try dsimp only); exact (by rw [hgood, hJ, hpe]))) rfl rfl rfl (by rw [hgood]) (by repeat (first | exact Sub.nil | (apply Sub.cons; (repeat (first | with_reducible exact Sel.here | exact Sel.here | apply Sel.there)))))
end Go.Proofs.Ytchgaedidfefoaa

set_option linter.unusedVariables false
set_option linter.unusedSimpArgs false
namespace Go.Proofs.Ytchgaedidfefoaa
open Go.RowKit
def eX : En := ⟨[97], 1, 493, [120], []⟩
def eY : En := ⟨[97, 47, 98], 2, 420, [121], []⟩
def eD : En := ⟨[100], 1, 0, [], []⟩
def eF : En := ⟨[97], 2, 0, [], []⟩
theorem okX : EnOk eX := ⟨⟨by decide, by decide⟩, ⟨by decide, by decide⟩, by decide, by decide, by decide⟩
theorem okY : EnOk eY := ⟨⟨by decide, by decide⟩, ⟨by decide, by decide⟩, by decide, by decide, by decide⟩
theorem okD : EnOk eD := ⟨⟨by decide, by decide⟩, ⟨by decide, by decide⟩, by decide, by decide, by decide⟩
theorem okF : EnOk eF := ⟨⟨by decide, by decide⟩, ⟨by decide, by decide⟩, by decide, by decide, by decide⟩
theorem okA : EnOk eA := sam_ok (b := 0) _ (List.mem_cons_self ..)
theorem okC : EnOk eC := sam_ok (b := 0) (eC, .slice none 0 0) (by simp [sampleT])
theorem all1T {p : ET → Prop} {x : ET} (h : p x) : ∀ y ∈ [x], p y := fun y hy => by obtain rfl : y = x := (by simpa using hy); exact h
theorem allCT {p : ET → Prop} {x : ET} {l : List ET} (h : p x) (r : ∀ y ∈ l, p y) : ∀ y ∈ x :: l, p y := fun y hy => by
  rcases List.mem_cons.1 hy with rfl | hy
  · exact h
  · exact r y hy
theorem chk_turned : checkT [eC, eA] = (7, 1) := by kernel_rfl
theorem chk_data : checkT [eX] = (2, 0) := by kernel_rfl
theorem drop_b : dropM sampleE [98] = ([], 6) := by kernel_rfl
theorem put_F : (putM sampleE eF).2 = 6 := by kernel_rfl
theorem diff_known : diffM sampleE [eA, eY, eD] = ([[100]], [[99]], [[97, 47, 98]]) := by kernel_rfl
theorem size_sample : sizeM sampleE = 1 := by kernel_rfl
theorem oth_dat {b : Nat} {w : World} (h : (slc rByte (· = b) (dX b) [121]).φ w) : ∀ y ∈ [(eA, .slice none 0 0), (eY, dX b), (eD, .slice none 0 0)], IsSl rByte (slc rByte (· = b) (dX b) [121]).S w y.2 y.1.data := fun y hy => by
  have : y = (eA, .slice none 0 0) ∨ y = (eY, dX b) ∨ y = (eD, .slice none 0 0) := by simpa using hy
  rcases this with rfl | rfl | rfl
  · exact nil_sl _ _ _
  · exact h
  · exact nil_sl _ _ _
theorem dat_dat {b : Nat} {w : World} (h : (slc rByte (· = b) (dX b) [120]).φ w) : ∀ y ∈ [(eX, dX b)], IsSl rByte (slc rByte (· = b) (dX b) [120]).S w y.2 y.1.data := fun y hy => by
  have : y = (eX, dX b) := by simpa using hy
  subst this
  exact h
theorem may_nilB {w0 : World} {S : Nat → Prop} {m : List Ck} {α : Type} {E : Rdr α} : May w0 S m (slc E (fun _ => False) (.slice none 0 0) []) := .old ⟨nil_sl _ _ _, fun _ h => h.elim⟩
set_option maxRecDepth 20000 in
set_option maxHeartbeats 4000000 in
theorem sampleK_tr : Tr Try.prog 35 #[] [] [] (TX (fun _ : Nat × Nat => True) (fun z => .slice (some ⟨z.1, 0, none⟩) 3 3) (fun z => [blk z.1 31 (flatT (sampleT z.2)), samB z.2])) := by
  refine Tr.of (l := []) Try.func35 rfl (n := 7) rfl Fa.nil (fun w0 hro => ?_)
  refine G.seq ?_
  refine G.region ?_
  refine G.op rfl (G.val rfl rfl (pv_assign rfl) ?_)
  refine G.nil ?_
  refine G.nThen ?_
  refine G.seq ?_
  refine G.region ?_
  refine G.op rfl (G.val rfl rfl (pv_buildSt (z := [.string ⟨#[]⟩, .int .i64 0, .int .i64 0, .slice none 0 0, .string ⟨#[]⟩]) (pl := [(0, 1), (1, 1), (2, 1), (3, 1), (4, 1)]) Try.underlying31 (by kernel_rfl) (by kernel_rfl) rfl (by repeat (first | exact Fl.nil | (apply Fl.cons; exact rfl; (first | exact cells_of (by first | rfl | with_reducible assumption) | exact rfl); exact rfl; exact rfl; repeat (first | exact Sn.nil | (apply Sn.cons; repeat (first | exact St.zero | apply St.succ))))))) ?_)
  refine G.op rfl (G.lit1 (vs := [.int .u8 120]) rfl Try.underlying29 (by kernel_rfl) rfl (by decide) (by decide) rfl rfl ?_)
  intro b2
  refine G.op rfl (G.constB (b := b2) (xs := [120]) rfl Try.underlying29 Try.underlying5 rfl (by decide) (by repeat (first | with_reducible exact Sel.here | exact Sel.here | apply Sel.there)) ?_)
  refine G.op rfl (G.val rfl rfl (pv_buildSt (z := [.string ⟨#[]⟩, .int .i64 0, .int .i64 0, .slice none 0 0, .string ⟨#[]⟩]) (pl := [(0, 1), (1, 1), (2, 1), (3, 1), (4, 1)]) Try.underlying31 (by kernel_rfl) (by kernel_rfl) rfl (by repeat (first | exact Fl.nil | (apply Fl.cons; exact rfl; (first | exact cells_of (by first | rfl | with_reducible assumption) | exact rfl); exact rfl; exact rfl; repeat (first | exact Sn.nil | (apply Sn.cons; repeat (first | exact St.zero | apply St.succ))))))) ?_)
  refine G.op rfl (G.val rfl rfl (pv_buildSt (z := [.string ⟨#[]⟩, .int .i64 0, .int .i64 0, .slice none 0 0, .string ⟨#[]⟩]) (pl := [(0, 1), (1, 1), (2, 1), (3, 1), (4, 1)]) Try.underlying31 (by kernel_rfl) (by kernel_rfl) rfl (by repeat (first | exact Fl.nil | (apply Fl.cons; exact rfl; (first | exact cells_of (by first | rfl | with_reducible assumption) | exact rfl); exact rfl; exact rfl; repeat (first | exact Sn.nil | (apply Sn.cons; repeat (first | exact St.zero | apply St.succ))))))) ?_)
  refine G.op rfl (G.buildSlice (z := .agg #[.string ⟨#[]⟩, .int .i64 0, .int .i64 0, .slice none 0 0, .string ⟨#[]⟩]) (sz := 5) (cs := flatT (sampleT b2)) rfl Try.underlying22 (by kernel_rfl) (by decide) (by decide) rfl (by kernel_rfl) ?_)
  intro b6
  refine G.op rfl (G.val rfl rfl (pv_assign rfl) ?_)
  refine G.nil ?_
  refine G.nThen ?_
  refine G.ret ?_
  exact G.doneX1 ((b6, b2)) (by first | exact trivial | ((try dsimp only); exact trivial)) rfl rfl rfl (by repeat (first | exact Sub.nil | (apply Sub.cons; (repeat (first | with_reducible exact Sel.here | exact Sel.here | apply Sel.there)))))
set_option maxRecDepth 20000 in
set_option maxHeartbeats 4000000 in
theorem tknown : Tr Try.prog 7 #[] [] [] (T0 (.bool true)) := by
  refine Tr.of (l := []) Try.func7 rfl (n := 98) rfl Fa.nil (fun w0 hro => ?_)
  refine G.seq ?_
  refine G.region ?_
  refine G.op rfl (G.val rfl rfl (pv_assign rfl) ?_)
  refine G.nil ?_
  refine G.nThen ?_
  refine G.seq ?_
  refine G.drawT (nn := 9) (p := []) (rem := 511) [0, 1, 1, 4, 4, 16, 19, 79, 255] [0, 1, 0, 4, 0, 16, 2, 8, 32] (by kernel_rfl) ⟨rfl, by kernel_rfl, by kernel_rfl⟩ (by repeat (first | exact Sub.nil | (apply Sub.cons; (repeat (first | with_reducible exact Sel.here | exact Sel.here | apply Sel.there))))) (by kernel_rfl) (fun hT1 => ?_)
  refine G.oneT hT1 (i := 0) (rem' := 510) (by kernel_rfl) (by kernel_rfl) ?_
  refine G.turnOp rfl rfl (G.cS rfl rfl rfl rfl Try.func35 rfl rfl (by repeat (first | exact Sub.nil | (apply Sub.cons; (repeat (first | with_reducible exact Sel.here | exact Sel.here | apply Sel.there))))) may0 (sampleK_tr) (by repeat (first | exact Ap.nil | apply Ap.cons)) ?_)
  intro x12 hJ
  obtain ⟨g12, b12⟩ := x12
  try dsimp only at hJ
  try dsimp only
  refine G.back (by repeat (first | exact Sub.nil | (apply Sub.cons; (repeat (first | with_reducible exact Sel.here | exact Sel.here | apply Sel.there))))) ?_
  refine G.takeT hT1 (i := 1) (rem' := 508) rfl rfl rfl (by kernel_rfl) (fun _ _ _ h => h) rfl (pv_subH (sz := 5) (k := 2) Try.underlying22 (by kernel_rfl) rfl rfl rfl (by omega)) (by repeat (first | exact Sub.nil | (apply Sub.cons; (repeat (first | with_reducible exact Sel.here | exact Sel.here | apply Sel.there))))) ?_
  refine G.oneT hT1 (i := 2) (rem' := 504) (by kernel_rfl) (by kernel_rfl) ?_
  refine G.turnOp rfl rfl (G.cS rfl rfl rfl rfl Try.func35 rfl rfl (by repeat (first | exact Sub.nil | (apply Sub.cons; (repeat (first | with_reducible exact Sel.here | exact Sel.here | apply Sel.there))))) may0 (sampleK_tr) (by repeat (first | exact Ap.nil | apply Ap.cons)) ?_)
  intro x14 hJ
  obtain ⟨g14, b14⟩ := x14
  try dsimp only at hJ
  try dsimp only
  refine G.back (by repeat (first | exact Sub.nil | (apply Sub.cons; (repeat (first | with_reducible exact Sel.here | exact Sel.here | apply Sel.there))))) ?_
  refine G.takeT hT1 (i := 3) (rem' := 496) rfl rfl rfl (by kernel_rfl) (fun _ _ _ h => h) rfl (pv_subH (sz := 5) (k := 1) Try.underlying22 (by kernel_rfl) rfl rfl rfl (by omega)) (by repeat (first | exact Sub.nil | (apply Sub.cons; (repeat (first | with_reducible exact Sel.here | exact Sel.here | apply Sel.there))))) ?_
  refine G.oneT hT1 (i := 4) (rem' := 480) (by kernel_rfl) (by kernel_rfl) ?_
  refine G.turnOp rfl rfl (G.cS rfl rfl rfl rfl Try.func35 rfl rfl (by repeat (first | exact Sub.nil | (apply Sub.cons; (repeat (first | with_reducible exact Sel.here | exact Sel.here | apply Sel.there))))) may0 (sampleK_tr) (by repeat (first | exact Ap.nil | apply Ap.cons)) ?_)
  intro x16 hJ
  obtain ⟨g16, b16⟩ := x16
  try dsimp only at hJ
  try dsimp only
  refine G.back (by repeat (first | exact Sub.nil | (apply Sub.cons; (repeat (first | with_reducible exact Sel.here | exact Sel.here | apply Sel.there))))) ?_
  refine G.takeT hT1 (i := 5) (rem' := 448) rfl rfl rfl (by kernel_rfl) (fun _ _ _ h => h) rfl (pv_subH (sz := 5) (k := 2) Try.underlying22 (by kernel_rfl) rfl rfl rfl (by omega)) (by repeat (first | exact Sub.nil | (apply Sub.cons; (repeat (first | with_reducible exact Sel.here | exact Sel.here | apply Sel.there))))) ?_
  refine G.takeT hT1 (i := 6) (rem' := 384) rfl rfl rfl (by kernel_rfl) (fun _ _ _ h => h) rfl (pv_assign rfl) (by repeat (first | exact Sub.nil | (apply Sub.cons; (repeat (first | with_reducible exact Sel.here | exact Sel.here | apply Sel.there))))) ?_
  refine G.takeT hT1 (i := 7) (rem' := 256) rfl rfl rfl (by kernel_rfl) (fun _ _ _ h => h) rfl (pv_assign rfl) (by repeat (first | exact Sub.nil | (apply Sub.cons; (repeat (first | with_reducible exact Sel.here | exact Sel.here | apply Sel.there))))) ?_
  refine G.takeT hT1 (i := 8) (rem' := 0) rfl rfl rfl (by kernel_rfl) (fun _ _ _ h => h) rfl (pv_assign rfl) (by repeat (first | exact Sub.nil | (apply Sub.cons; (repeat (first | with_reducible exact Sel.here | exact Sel.here | apply Sel.there))))) ?_
  refine G.overT hT1 (by kernel_rfl) ?_
  refine G.nThen ?_
  refine G.seq ?_
  refine G.drawT (nn := 12) (p := [blk g12 _ _]) (rem := 4095) [0, 0, 0, 4, 8, 4, 32, 64, 189, 445, 1023, 2047] [0, 0, 0, 4, 8, 0, 32, 64, 1, 272, 2, 1152] (by kernel_rfl) ⟨rfl, by kernel_rfl, by kernel_rfl⟩ (by repeat (first | exact Sub.nil | (apply Sub.cons; (repeat (first | with_reducible exact Sel.here | exact Sel.here | apply Sel.there))))) (by kernel_rfl) (fun hT2 => ?_)
  refine G.takeT hT2 (i := 0) (rem' := 4094) rfl rfl rfl (by kernel_rfl) (fun _ _ _ h => h) rfl (pv_move rfl) (by repeat (first | exact Sub.nil | (apply Sub.cons; (repeat (first | with_reducible exact Sel.here | exact Sel.here | apply Sel.there))))) ?_
  refine G.takeT hT2 (i := 1) (rem' := 4092) rfl rfl rfl (by kernel_rfl) (fun _ _ _ h => h) rfl (pv_move rfl) (by repeat (first | exact Sub.nil | (apply Sub.cons; (repeat (first | with_reducible exact Sel.here | exact Sel.here | apply Sel.there))))) ?_
  refine G.oneT hT2 (i := 2) (rem' := 4088) (by kernel_rfl) (by kernel_rfl) ?_
  refine G.turnOp rfl rfl (G.cS rfl rfl rfl rfl Try.func35 rfl rfl (by repeat (first | exact Sub.nil | (apply Sub.cons; (repeat (first | with_reducible exact Sel.here | exact Sel.here | apply Sel.there))))) may0 (sampleK_tr) (by repeat (first | exact Ap.nil | apply Ap.cons)) ?_)
  intro x20 hJ
  obtain ⟨g20, b20⟩ := x20
  try dsimp only at hJ
  try dsimp only
  refine G.back (by repeat (first | exact Sub.nil | (apply Sub.cons; (repeat (first | with_reducible exact Sel.here | exact Sel.here | apply Sel.there))))) ?_
  refine G.upT (p := [blk g12 _ _]) (by repeat (first | exact Sub.nil | (apply Sub.cons; (repeat (first | with_reducible exact Sel.here | exact Sel.here | apply Sel.there))))) (by repeat (first | exact Sub.nil | (apply Sub.cons; (repeat (first | with_reducible exact Sel.here | exact Sel.here | apply Sel.there))))) ?_
  refine G.takeT hT2 (i := 3) (rem' := 4080) rfl rfl rfl (by kernel_rfl) (fun _ _ _ h => h) rfl (pv_ixSl (sz := 5) (k := 2) Try.underlying22 (by kernel_rfl) rfl rfl (fun _ => rfl) (by omega) (by omega)) (by repeat (first | exact Sub.nil | (apply Sub.cons; (repeat (first | with_reducible exact Sel.here | exact Sel.here | apply Sel.there))))) ?_
  refine G.takeT hT2 (i := 4) (rem' := 4064) rfl rfl rfl (by kernel_rfl) (fun _ _ _ h => h) rfl (pv_loadN (cs := evC (eC, .slice none 0 0)) Try.underlying31 rfl (by kernel_rfl) rfl (by exact blk_range (k := 5) (by (repeat (first | with_reducible exact Sel.here | exact Sel.here | apply Sel.there)); done) (by rfl))) (by repeat (first | exact Sub.nil | (apply Sub.cons; (repeat (first | with_reducible exact Sel.here | exact Sel.here | apply Sel.there))))) ?_
  refine G.oneT hT2 (i := 5) (rem' := 4032) (by kernel_rfl) (by kernel_rfl) ?_
  refine G.turnOp rfl rfl (G.cS rfl rfl rfl rfl Try.func35 rfl rfl (by repeat (first | exact Sub.nil | (apply Sub.cons; (repeat (first | with_reducible exact Sel.here | exact Sel.here | apply Sel.there))))) may0 (sampleK_tr) (by repeat (first | exact Ap.nil | apply Ap.cons)) ?_)
  intro x23 hJ
  obtain ⟨g23, b23⟩ := x23
  try dsimp only at hJ
  try dsimp only
  refine G.back (by repeat (first | exact Sub.nil | (apply Sub.cons; (repeat (first | with_reducible exact Sel.here | exact Sel.here | apply Sel.there))))) ?_
  refine G.upT (p := [blk g12 _ _]) (by repeat (first | exact Sub.nil | (apply Sub.cons; (repeat (first | with_reducible exact Sel.here | exact Sel.here | apply Sel.there))))) (by repeat (first | exact Sub.nil | (apply Sub.cons; (repeat (first | with_reducible exact Sel.here | exact Sel.here | apply Sel.there))))) ?_
  refine G.takeT hT2 (i := 6) (rem' := 3968) rfl rfl rfl (by kernel_rfl) (fun _ _ _ h => h) rfl (pv_ixSl (sz := 5) (k := 0) Try.underlying22 (by kernel_rfl) rfl rfl (fun _ => rfl) (by omega) (by omega)) (by repeat (first | exact Sub.nil | (apply Sub.cons; (repeat (first | with_reducible exact Sel.here | exact Sel.here | apply Sel.there))))) ?_
  refine G.oneT hT2 (i := 7) (rem' := 3840) (by kernel_rfl) (by kernel_rfl) ?_
  refine G.turnOp rfl rfl (G.val rfl rfl (pv_loadN (cs := evC (eA, .slice none 0 0)) Try.underlying31 rfl (by kernel_rfl) rfl (by exact blk_range (k := 5) (by (repeat (first | with_reducible exact Sel.here | exact Sel.here | apply Sel.there)); done) (by rfl))) ?_)
  refine G.back (by repeat (first | exact Sub.nil | (apply Sub.cons; (repeat (first | with_reducible exact Sel.here | exact Sel.here | apply Sel.there))))) ?_
  refine G.takeT hT2 (i := 8) (rem' := 3584) rfl rfl rfl (by kernel_rfl) (fun _ _ _ h => h) rfl (pv_ixSl (sz := 5) (k := 0) Try.underlying22 (by kernel_rfl) rfl rfl (fun _ => rfl) (by omega) (by omega)) (by repeat (first | exact Sub.nil | (apply Sub.cons; (repeat (first | with_reducible exact Sel.here | exact Sel.here | apply Sel.there))))) ?_
  refine G.oneT hT2 (i := 9) (rem' := 3072) (by kernel_rfl) (by kernel_rfl) ?_
  refine G.turnOp rfl rfl (G.storeN (vs := evC (eC, .slice none 0 0)) (by kernel_rfl) rfl rfl (by rfl) (by repeat (first | with_reducible exact Sel.here | exact Sel.here | apply Sel.there)) (Nat.le_of_ble_eq_true rfl) ?_)
  rw [show putN (flatT (sampleT b12)) (0 + 0 * 5) (evC (eC, .slice none 0 0)) = flatT [(eC, .slice none 0 0), (eB, dX b12), (eC, .slice none 0 0)] from rfl]
  refine G.back (by repeat (first | exact Sub.nil | (apply Sub.cons; (repeat (first | with_reducible exact Sel.here | exact Sel.here | apply Sel.there))))) ?_
  refine G.takeT hT2 (i := 10) (rem' := 2048) rfl rfl rfl (by kernel_rfl) (fun _ _ _ h => h) rfl (pv_ixSl (sz := 5) (k := 1) Try.underlying22 (by kernel_rfl) rfl rfl (fun _ => rfl) (by omega) (by omega)) (by repeat (first | exact Sub.nil | (apply Sub.cons; (repeat (first | with_reducible exact Sel.here | exact Sel.here | apply Sel.there))))) ?_
  refine G.oneT hT2 (i := 11) (rem' := 0) (by kernel_rfl) (by kernel_rfl) ?_
  refine G.turnOp rfl rfl (G.storeN (vs := evC (eA, .slice none 0 0)) (by kernel_rfl) rfl rfl (by rfl) (by repeat (first | with_reducible exact Sel.here | exact Sel.here | apply Sel.there)) (Nat.le_of_ble_eq_true rfl) ?_)
  rw [show putN (flatT [(eC, .slice none 0 0), (eB, dX b12), (eC, .slice none 0 0)]) (0 + 1 * 5) (evC (eA, .slice none 0 0)) = flatT [(eC, .slice none 0 0), (eA, .slice none 0 0), (eC, .slice none 0 0)] from rfl]
  refine G.back (by repeat (first | exact Sub.nil | (apply Sub.cons; (repeat (first | with_reducible exact Sel.here | exact Sel.here | apply Sel.there))))) ?_
  refine G.overT hT2 (by kernel_rfl) ?_
  refine G.nThen ?_
  refine G.seq ?_
  refine G.region ?_
  refine G.op rfl (G.val rfl rfl (pv_move rfl) ?_)
  refine G.op rfl (G.lit1 (vs := [.int .u8 120]) rfl Try.underlying29 (by kernel_rfl) rfl (by decide) (by decide) rfl rfl ?_)
  intro b29
  refine G.op rfl (G.constB (b := b29) (xs := [120]) rfl Try.underlying29 Try.underlying5 rfl (by decide) (by repeat (first | with_reducible exact Sel.here | exact Sel.here | apply Sel.there)) ?_)
  rw [show ([120] : List UInt8).length = 1 from rfl]
  rw [show flatT [(eC, .slice none 0 0), (eA, .slice none 0 0), (eC, .slice none 0 0)] = flatT [(eC, .slice none 0 0), (eA, .slice none 0 0)] ++ flatT [(eC, .slice none 0 0)] from rfl]
  refine G.ownOf (sz := 5) (k := 2) (cap := 3) (cs := flatT [(eC, .slice none 0 0), (eA, .slice none 0 0)]) (sp := flatT [(eC, .slice none 0 0)]) (by repeat (first | with_reducible exact Sel.here | exact Sel.here | apply Sel.there)) rfl (by omega) (by omega) rfl ?_
  rw [show own 31 5 (.slice (some ⟨g12, 0, none⟩) 2 3) 2 (flatT [(eC, .slice none 0 0), (eA, .slice none 0 0)]) = ownT 31 (.slice (some ⟨g12, 0, none⟩) 2 3) [(eC, .slice none 0 0), (eA, .slice none 0 0)] from rfl]
  refine G.op rfl (G.val rfl rfl (pv_ixSl (sz := 5) (k := 0) Try.underlying22 (by kernel_rfl) rfl rfl (fun _ => rfl) (by omega) (by omega)) ?_)
  refine G.op rfl (G.val rfl rfl (pv_fieldAddrK (sz := 0) (k := 3) Try.underlying31 rfl (by kernel_rfl) rfl rfl) ?_)
  refine G.op rfl (G.store (by kernel_rfl) rfl rfl (by rfl) (by repeat (first | with_reducible exact Sel.here | exact Sel.here | apply Sel.there)) (Nat.le_of_ble_eq_true rfl) ?_)
  rw [show (flatT (sampleT b14)).set (0 + 0 * 5 + 3) (.slice (some ⟨b29, 0, none⟩) 1 1) = flatT [(eX, dX b29)] ++ flatT [(eB, dX b14), (eC, .slice none 0 0)] from rfl]
  refine G.ownOf (sz := 5) (k := 1) (cap := 3) (cs := flatT [(eX, dX b29)]) (sp := flatT [(eB, dX b14), (eC, .slice none 0 0)]) (by repeat (first | with_reducible exact Sel.here | exact Sel.here | apply Sel.there)) rfl (by omega) (by omega) rfl ?_
  rw [show own 31 5 (.slice (some ⟨g14, 0, none⟩) 1 3) 1 (flatT [(eX, dX b29)]) = ownT 31 (.slice (some ⟨g14, 0, none⟩) 1 3) [(eX, dX b29)] from rfl]
  refine G.nil ?_
  refine G.nThen ?_
  refine G.seq ?_
  refine G.region ?_
  refine G.op rfl (G.val rfl rfl (pv_move rfl) ?_)
  refine G.op rfl (G.lit1 (vs := [.int .u8 121]) rfl Try.underlying29 (by kernel_rfl) rfl (by decide) (by decide) rfl rfl ?_)
  intro b34
  refine G.op rfl (G.constB (b := b34) (xs := [121]) rfl Try.underlying29 Try.underlying5 rfl (by decide) (by repeat (first | with_reducible exact Sel.here | exact Sel.here | apply Sel.there)) ?_)
  rw [show ([121] : List UInt8).length = 1 from rfl]
  refine G.op rfl (G.val rfl rfl (pv_ixSl (sz := 5) (k := 1) Try.underlying22 (by kernel_rfl) rfl rfl (fun _ => rfl) (by omega) (by omega)) ?_)
  refine G.op rfl (G.val rfl rfl (pv_fieldAddrK (sz := 0) (k := 3) Try.underlying31 rfl (by kernel_rfl) rfl rfl) ?_)
  refine G.op rfl (G.store (by kernel_rfl) rfl rfl (by rfl) (by repeat (first | with_reducible exact Sel.here | exact Sel.here | apply Sel.there)) (Nat.le_of_ble_eq_true rfl) ?_)
  rw [show (flatT (sampleT b16)).set (0 + 1 * 5 + 3) (.slice (some ⟨b34, 0, none⟩) 1 1) = flatT [(eA, .slice none 0 0), (eY, dX b34)] ++ flatT [(eC, .slice none 0 0)] from rfl]
  refine G.ownOf (sz := 5) (k := 2) (cap := 3) (cs := flatT [(eA, .slice none 0 0), (eY, dX b34)]) (sp := flatT [(eC, .slice none 0 0)]) (by repeat (first | with_reducible exact Sel.here | exact Sel.here | apply Sel.there)) rfl (by omega) (by omega) rfl ?_
  rw [show own 31 5 (.slice (some ⟨g16, 0, none⟩) 2 3) 2 (flatT [(eA, .slice none 0 0), (eY, dX b34)]) = ownT 31 (.slice (some ⟨g16, 0, none⟩) 2 3) [(eA, .slice none 0 0), (eY, dX b34)] from rfl]
  refine G.nil ?_
  refine G.nThen ?_
  refine G.seq ?_
  refine G.region ?_
  refine G.op rfl (G.val rfl rfl (pv_move rfl) ?_)
  refine G.op rfl (G.val rfl rfl (pv_buildSt (z := [.string ⟨#[]⟩, .int .i64 0, .int .i64 0, .slice none 0 0, .string ⟨#[]⟩]) (pl := [(0, 1), (1, 1), (2, 1), (3, 1), (4, 1)]) Try.underlying31 (by kernel_rfl) (by kernel_rfl) rfl (by repeat (first | exact Fl.nil | (apply Fl.cons; exact rfl; (first | exact cells_of (by first | rfl | with_reducible assumption) | exact rfl); exact rfl; exact rfl; repeat (first | exact Sn.nil | (apply Sn.cons; repeat (first | exact St.zero | apply St.succ))))))) ?_)
  refine G.op rfl (G.buildSlice (z := .agg #[.string ⟨#[]⟩, .int .i64 0, .int .i64 0, .slice none 0 0, .string ⟨#[]⟩]) (sz := 5) (cs := evC (eD, (.slice none 0 0))) rfl Try.underlying22 (by kernel_rfl) (by decide) (by decide) rfl (by kernel_rfl) ?_)
  intro b40
  refine G.op rfl (G.append (k := 2) (j := 1) (cs := flatT [(eA, .slice none 0 0), (eY, dX b34)]) (news := evC (eD, .slice none 0 0)) (b := b40) (off := 0) rfl Try.underlying22 Try.infoEn' rfl rfl rfl (by repeat (first | with_reducible exact Sel.here | exact Sel.here | apply Sel.there)) (fun _ => rfl) (fun h => by cases h) rfl (blk_news (k := 5) (by repeat (first | with_reducible exact Sel.here | exact Sel.here | apply Sel.there)) rfl) (evC_one rfl) (by omega) (by omega) ?_)
  intro v41
  rw [show own 31 5 v41 (2 + 1) (flatT [(eA, .slice none 0 0), (eY, dX b34)] ++ evC (eD, .slice none 0 0)) = ownT 31 v41 [(eA, .slice none 0 0), (eY, dX b34), (eD, .slice none 0 0)] from rfl]
  refine G.op rfl (G.val rfl rfl (pv_assign rfl) ?_)
  refine G.nil ?_
  refine G.nThen ?_
  refine G.seq ?_
  refine G.region ?_
  refine G.op rfl (G.cS rfl rfl rfl rfl Try.func35 rfl rfl (by repeat (first | exact Sub.nil | (apply Sub.cons; (repeat (first | with_reducible exact Sel.here | exact Sel.here | apply Sel.there))))) may0 (sample_tr) (by repeat (first | exact Ap.nil | apply Ap.cons)) ?_)
  intro x43 hJ
  obtain ⟨g43, b43⟩ := x43
  try dsimp only at hJ
  try dsimp only
  refine G.op rfl (G.cS rfl rfl rfl rfl Try.func32 rfl rfl (by repeat (first | exact Sub.nil | (apply Sub.cons; (repeat (first | with_reducible exact Sel.here | exact Sel.here | apply Sel.there))))) (may1 (may_treeC (c := samB b43) (by repeat (first | with_reducible exact Sel.here | exact Sel.here | apply Sel.there)) (by repeat (first | with_reducible exact Sel.here | exact Sel.here | apply Sel.there)) sam_ok (fun w h => sam_dat h))) (drop_tr _ (sampleT b43) [98] (by decide)) (by repeat (first | exact Ap.nil | apply Ap.cons)) ?_)
  intro x44 hJ
  obtain ⟨dv, ds⟩ := x44
  try dsimp only at hJ
  try dsimp only
  rw [sampleT_ens, drop_b] at hJ ⊢
  refine G.op rfl (G.val rfl rfl (pv_move rfl) ?_)
  refine G.op rfl (G.val rfl rfl (pv_extract rfl rfl) ?_)
  refine G.op rfl (G.val rfl rfl (pv_extract rfl rfl) ?_)
  refine G.op rfl (G.val rfl rfl (pv_assign rfl) ?_)
  refine G.op rfl (G.val rfl rfl (pv_assign rfl) ?_)
  refine G.nil ?_
  refine G.nThen ?_
  refine G.seq ?_
  refine G.region ?_
  refine G.op rfl (G.cS rfl rfl rfl rfl Try.func35 rfl rfl (by repeat (first | exact Sub.nil | (apply Sub.cons; (repeat (first | with_reducible exact Sel.here | exact Sel.here | apply Sel.there))))) may0 (sample_tr) (by repeat (first | exact Ap.nil | apply Ap.cons)) ?_)
  intro x48 hJ
  obtain ⟨g48, b48⟩ := x48
  try dsimp only at hJ
  try dsimp only
  refine G.op rfl (G.val rfl rfl (pv_buildSt (z := [.string ⟨#[]⟩, .int .i64 0, .int .i64 0, .slice none 0 0, .string ⟨#[]⟩]) (pl := [(0, 1), (1, 1), (2, 1), (3, 1), (4, 1)]) Try.underlying31 (by kernel_rfl) (by kernel_rfl) rfl (by repeat (first | exact Fl.nil | (apply Fl.cons; exact rfl; (first | exact cells_of (by first | rfl | with_reducible assumption) | exact rfl); exact rfl; exact rfl; repeat (first | exact Sn.nil | (apply Sn.cons; repeat (first | exact St.zero | apply St.succ))))))) ?_)
  refine G.op rfl (G.cS rfl rfl rfl rfl Try.func30 rfl rfl (by repeat (first | exact Sub.nil | (apply Sub.cons; (repeat (first | with_reducible exact Sel.here | exact Sel.here | apply Sel.there))))) (may2 (may_treeC (c := samB b48) (by repeat (first | with_reducible exact Sel.here | exact Sel.here | apply Sel.there)) (by repeat (first | with_reducible exact Sel.here | exact Sel.here | apply Sel.there)) sam_ok (fun w h => sam_dat h)) may_nilB) (put_tr _ (sampleT b48) eF (.slice none 0 0) okF) (by repeat (first | exact Ap.nil | apply Ap.cons)) ?_)
  intro x50 hJ
  obtain ⟨pv, ps⟩ := x50
  try dsimp only at hJ
  try dsimp only
  rw [sampleT_ens, put_F]
  refine G.op rfl (G.val rfl rfl (pv_move rfl) ?_)
  refine G.op rfl (G.val rfl rfl (pv_extract rfl rfl) ?_)
  refine G.op rfl (G.val rfl rfl (pv_extract rfl rfl) ?_)
  refine G.op rfl (G.val rfl rfl (pv_assign rfl) ?_)
  refine G.op rfl (G.val rfl rfl (pv_assign rfl) ?_)
  refine G.nil ?_
  refine G.nThen ?_
  refine G.seq ?_
  refine G.region ?_
  refine G.op rfl (G.cS rfl rfl rfl rfl Try.func35 rfl rfl (by repeat (first | exact Sub.nil | (apply Sub.cons; (repeat (first | with_reducible exact Sel.here | exact Sel.here | apply Sel.there))))) may0 (sample_tr) (by repeat (first | exact Ap.nil | apply Ap.cons)) ?_)
  intro x54 hJ
  obtain ⟨g54, b54⟩ := x54
  try dsimp only at hJ
  try dsimp only
  refine G.op rfl (G.val rfl rfl (pv_move rfl) ?_)
  refine G.op rfl (G.cS rfl rfl rfl rfl Try.func25 rfl rfl (by repeat (first | exact Sub.nil | (apply Sub.cons; (repeat (first | with_reducible exact Sel.here | exact Sel.here | apply Sel.there))))) (may2 (may_treeC (c := samB b54) (by repeat (first | with_reducible exact Sel.here | exact Sel.here | apply Sel.there)) (by repeat (first | with_reducible exact Sel.here | exact Sel.here | apply Sel.there)) sam_ok (fun w h => sam_dat h)) (may_treeC (c := slc rByte (· = b34) (dX b34) [121]) (by repeat (first | with_reducible exact Sel.here | exact Sel.here | apply Sel.there)) (by repeat (first | with_reducible exact Sel.here | exact Sel.here | apply Sel.there)) (allCT okA (allCT okY (all1T okD))) (fun w h => oth_dat h))) (diff_tr _ _ (sampleT b54) [(eA, .slice none 0 0), (eY, dX b34), (eD, .slice none 0 0)]) (by repeat (first | exact Ap.nil | apply Ap.cons)) ?_)
  intro x56 hJ
  obtain ⟨d1, d2, d3⟩ := x56
  try dsimp only at hJ
  try dsimp only
  rw [show diffM (ens (sampleT b54)) (ens [(eA, .slice none 0 0), (eY, dX b34), (eD, .slice none 0 0)]) = ([[100]], [[99]], [[97, 47, 98]]) from diff_known]
  dsimp only
  refine G.op rfl (G.val rfl rfl (pv_move rfl) ?_)
  refine G.op rfl (G.val rfl rfl (pv_extract rfl rfl) ?_)
  refine G.op rfl (G.val rfl rfl (pv_extract rfl rfl) ?_)
  refine G.op rfl (G.val rfl rfl (pv_extract rfl rfl) ?_)
  refine G.op rfl (G.val rfl rfl (pv_assign rfl) ?_)
  refine G.op rfl (G.val rfl rfl (pv_assign rfl) ?_)
  refine G.op rfl (G.val rfl rfl (pv_assign rfl) ?_)
  refine G.nil ?_
  refine G.nThen ?_
  refine G.seq ?_
  refine G.region ?_
  refine G.op rfl (G.val rfl rfl (pv_move rfl) ?_)
  refine G.op rfl (G.cR rfl rfl rfl rfl Try.func36 rfl rfl (may1 (may_treeC (c := samB b12) (by repeat (first | with_reducible exact Sel.here | exact Sel.here | apply Sel.there)) (by repeat (first | with_reducible exact Sel.here | exact Sel.here | apply Sel.there)) (allCT okC (all1T okA)) (fun w h => allCT (p := fun y => IsSl rByte _ w y.2 y.1.data) (nil_sl _ _ _) (all1T (nil_sl _ _ _))))) (lfails_yes _ [(eC, .slice none 0 0), (eA, .slice none 0 0)] 7 1 chk_turned) ?_)
  refine G.op rfl (G.val rfl rfl (pv_move rfl) ?_)
  refine G.want rfl rfl rfl (G.val rfl rfl (pv_move rfl) ?_)
  refine G.want rfl rfl rfl (G.cR rfl rfl rfl rfl Try.func36 rfl rfl (may1 (may_treeC (c := slc rByte (· = b29) (dX b29) [120]) (by repeat (first | with_reducible exact Sel.here | exact Sel.here | apply Sel.there)) (by repeat (first | with_reducible exact Sel.here | exact Sel.here | apply Sel.there)) (all1T okX) (fun w h => dat_dat h))) (lfails_yes _ [(eX, dX b29)] 2 0 chk_data) ?_)
  refine G.op rfl (G.val rfl rfl (pv_pick rfl rfl) ?_)
  refine G.op rfl (G.val rfl rfl (pv_move rfl) ?_)
  refine G.want rfl rfl rfl (G.val rfl rfl (pv_move rfl) ?_)
  refine G.want rfl rfl rfl (G.val rfl rfl ((pv_eql rfl rfl).cast (v' := .bool true) (congrArg Value.bool (by simp))) ?_)
  refine G.op rfl (G.val rfl rfl (pv_pick rfl rfl) ?_)
  refine G.op rfl (G.val rfl rfl (pv_move rfl) ?_)
  refine G.want rfl rfl rfl (G.val rfl rfl (pv_move rfl) ?_)
  refine G.want rfl rfl rfl (G.val rfl rfl ((pv_eql rfl rfl).cast (v' := .bool true) (congrArg Value.bool (by simp))) ?_)
  refine G.op rfl (G.val rfl rfl (pv_pick rfl rfl) ?_)
  refine G.op rfl (G.val rfl rfl (pv_move rfl) ?_)
  refine G.want rfl rfl rfl (G.cS rfl rfl rfl rfl Try.func35 rfl rfl (by repeat (first | exact Sub.nil | (apply Sub.cons; (repeat (first | with_reducible exact Sel.here | exact Sel.here | apply Sel.there))))) may0 (sample_tr) (by repeat (first | exact Ap.nil | apply Ap.cons)) ?_)
  intro x75 hJ
  obtain ⟨g75, b75⟩ := x75
  try dsimp only at hJ
  try dsimp only
  refine G.want rfl rfl rfl (G.cR rfl rfl rfl rfl Try.func22 rfl rfl (may1 (may_treeC (c := samB b75) (by repeat (first | with_reducible exact Sel.here | exact Sel.here | apply Sel.there)) (by repeat (first | with_reducible exact Sel.here | exact Sel.here | apply Sel.there)) sam_ok (fun w h => sam_dat h))) (size_tr _ (sampleT b75) (by show 3 ≤ 1000; omega)) ?_)
  rw [sampleT_ens, size_sample]
  refine G.want rfl rfl rfl (G.val rfl rfl ((pv_eql rfl rfl).cast (v' := .bool true) (congrArg Value.bool (by simp))) ?_)
  refine G.op rfl (G.val rfl rfl (pv_pick rfl rfl) ?_)
  refine G.op rfl (G.val rfl rfl (pv_assign rfl) ?_)
  refine G.nil ?_
  refine G.nThen ?_
  refine G.seq ?_
  refine G.region ?_
  refine G.op rfl (G.cR rfl rfl rfl rfl Try.func10 rfl rfl may0 (awake_tr) ?_)
  refine G.op rfl (G.val rfl rfl (pv_move rfl) ?_)
  refine G.want rfl rfl rfl (G.val rfl rfl (pv_move rfl) ?_)
  refine G.op rfl (G.val rfl rfl (pv_pick rfl rfl) ?_)
  refine G.op rfl (G.val rfl rfl (pv_move rfl) ?_)
  refine G.want rfl rfl rfl (G.val rfl rfl (pv_move rfl) ?_)
  refine G.want rfl rfl rfl (G.lit1 (vs := [vStr [100]]) rfl Try.underlying44 (by kernel_rfl) rfl (by decide) (by decide) rfl rfl ?_)
  intro b85
  refine G.ownBlk (b := b85) (k := 1) (sz := 1) (by repeat (first | with_reducible exact Sel.here | exact Sel.here | apply Sel.there)) rfl (by omega) ?_
  refine G.want rfl rfl rfl (G.cR rfl rfl rfl rfl Try.func27 rfl rfl (may2 (by first | (apply May.old; first | with_reducible assumption | assumption) | (apply Sel.may; (repeat (first | with_reducible exact Sel.here | exact Sel.here | apply Sel.there)); done) | (apply may_own; (repeat (first | with_reducible exact Sel.here | exact Sel.here | apply Sel.there)); exact rfl; exact (fun _ _ => trivial); done) | (apply may_ownB; (repeat (first | with_reducible exact Sel.here | exact Sel.here | apply Sel.there)); done) | (apply may_tree; (repeat (first | with_reducible exact Sel.here | exact Sel.here | apply Sel.there)); (repeat (first | with_reducible exact Sel.here | exact Sel.here | apply Sel.there)); assumption; done)) (by first | (apply May.old; first | with_reducible assumption | assumption) | (apply Sel.may; (repeat (first | with_reducible exact Sel.here | exact Sel.here | apply Sel.there)); done) | (apply may_own; (repeat (first | with_reducible exact Sel.here | exact Sel.here | apply Sel.there)); exact rfl; exact (fun _ _ => trivial); done) | (apply may_ownB; (repeat (first | with_reducible exact Sel.here | exact Sel.here | apply Sel.there)); done) | (apply may_tree; (repeat (first | with_reducible exact Sel.here | exact Sel.here | apply Sel.there)); (repeat (first | with_reducible exact Sel.here | exact Sel.here | apply Sel.there)); assumption; done))) (texts_yes _ _ [[100]]) ?_)
  refine G.op rfl (G.val rfl rfl (pv_pick rfl rfl) ?_)
  refine G.op rfl (G.val rfl rfl (pv_move rfl) ?_)
  refine G.want rfl rfl rfl (G.val rfl rfl (pv_move rfl) ?_)
  refine G.want rfl rfl rfl (G.lit1 (vs := [vStr [99]]) rfl Try.underlying44 (by kernel_rfl) rfl (by decide) (by decide) rfl rfl ?_)
  intro b90
  refine G.ownBlk (b := b90) (k := 1) (sz := 1) (by repeat (first | with_reducible exact Sel.here | exact Sel.here | apply Sel.there)) rfl (by omega) ?_
  refine G.want rfl rfl rfl (G.cR rfl rfl rfl rfl Try.func27 rfl rfl (may2 (by first | (apply May.old; first | with_reducible assumption | assumption) | (apply Sel.may; (repeat (first | with_reducible exact Sel.here | exact Sel.here | apply Sel.there)); done) | (apply may_own; (repeat (first | with_reducible exact Sel.here | exact Sel.here | apply Sel.there)); exact rfl; exact (fun _ _ => trivial); done) | (apply may_ownB; (repeat (first | with_reducible exact Sel.here | exact Sel.here | apply Sel.there)); done) | (apply may_tree; (repeat (first | with_reducible exact Sel.here | exact Sel.here | apply Sel.there)); (repeat (first | with_reducible exact Sel.here | exact Sel.here | apply Sel.there)); assumption; done)) (by first | (apply May.old; first | with_reducible assumption | assumption) | (apply Sel.may; (repeat (first | with_reducible exact Sel.here | exact Sel.here | apply Sel.there)); done) | (apply may_own; (repeat (first | with_reducible exact Sel.here | exact Sel.here | apply Sel.there)); exact rfl; exact (fun _ _ => trivial); done) | (apply may_ownB; (repeat (first | with_reducible exact Sel.here | exact Sel.here | apply Sel.there)); done) | (apply may_tree; (repeat (first | with_reducible exact Sel.here | exact Sel.here | apply Sel.there)); (repeat (first | with_reducible exact Sel.here | exact Sel.here | apply Sel.there)); assumption; done))) (texts_yes _ _ [[99]]) ?_)
  refine G.op rfl (G.val rfl rfl (pv_pick rfl rfl) ?_)
  refine G.op rfl (G.val rfl rfl (pv_move rfl) ?_)
  refine G.want rfl rfl rfl (G.val rfl rfl (pv_move rfl) ?_)
  refine G.want rfl rfl rfl (G.lit1 (vs := [vStr [97, 47, 98]]) rfl Try.underlying44 (by kernel_rfl) rfl (by decide) (by decide) rfl rfl ?_)
  intro b95
  refine G.ownBlk (b := b95) (k := 1) (sz := 1) (by repeat (first | with_reducible exact Sel.here | exact Sel.here | apply Sel.there)) rfl (by omega) ?_
  refine G.want rfl rfl rfl (G.cR rfl rfl rfl rfl Try.func27 rfl rfl (may2 (by first | (apply May.old; first | with_reducible assumption | assumption) | (apply Sel.may; (repeat (first | with_reducible exact Sel.here | exact Sel.here | apply Sel.there)); done) | (apply may_own; (repeat (first | with_reducible exact Sel.here | exact Sel.here | apply Sel.there)); exact rfl; exact (fun _ _ => trivial); done) | (apply may_ownB; (repeat (first | with_reducible exact Sel.here | exact Sel.here | apply Sel.there)); done) | (apply may_tree; (repeat (first | with_reducible exact Sel.here | exact Sel.here | apply Sel.there)); (repeat (first | with_reducible exact Sel.here | exact Sel.here | apply Sel.there)); assumption; done)) (by first | (apply May.old; first | with_reducible assumption | assumption) | (apply Sel.may; (repeat (first | with_reducible exact Sel.here | exact Sel.here | apply Sel.there)); done) | (apply may_own; (repeat (first | with_reducible exact Sel.here | exact Sel.here | apply Sel.there)); exact rfl; exact (fun _ _ => trivial); done) | (apply may_ownB; (repeat (first | with_reducible exact Sel.here | exact Sel.here | apply Sel.there)); done) | (apply may_tree; (repeat (first | with_reducible exact Sel.here | exact Sel.here | apply Sel.there)); (repeat (first | with_reducible exact Sel.here | exact Sel.here | apply Sel.there)); assumption; done))) (texts_yes _ _ [[97, 47, 98]]) ?_)
  refine G.op rfl (G.val rfl rfl (pv_pick rfl rfl) ?_)
  refine G.op rfl (G.val rfl rfl (pv_assign rfl) ?_)
  refine G.nil ?_
  refine G.nThen ?_
  refine G.ret ?_
  exact G.done0G rfl (Rv.tmp rfl Rv.nil) (by first | rfl | exact int_eq (by omega) | (simp; done))
end Go.Proofs.Ytchgaedidfefoaa

