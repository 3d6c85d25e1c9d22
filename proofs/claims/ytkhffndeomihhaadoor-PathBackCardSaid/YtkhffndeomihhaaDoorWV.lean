/- A walk by chunks: copies of elements of many cells, append of as many zeros, slices.overlaps. Conditions: none. -/
import Derived.Test.YtkhffndeomihhaaDoorWU
import Derived.Lib.Overlaps
import Derived.Lib.AppendZeros
import Derived.Laws.Externs
set_option linter.unusedVariables false
set_option linter.unusedSimpArgs false
set_option maxRecDepth 100000
namespace Go.Proofs.YtkhffndeomihhaaDoor
open Go.RowKit
section
variable {P : Program} {n : Nat} {w0 : World} {S : Nat → Prop} {l : Fr} {m : List Ck} {Q : Exit → Act → World → Prop} {K : Act → World → Prop}
  {ty : TypeId} {pos : String} {after : Array Edge} {g : Option (Nat × Bool)}
theorem run_copy_any {w : World} {dT sT ty e sz b o dLen dCap sLen sCap : Nat} {a : Addr} {cur cs : List Value} {t : TypeId} (hu : P.underlying dT = some (.slice e)) (hs : (P.info? e).map (·.size) = some sz) (hg : w.heap[b]? = some (.cells cur.toArray t (0, 0)))
    (hn : cs.length = Nat.min sLen dLen * sz) (hsrc : ∀ j v, cs[j]? = some v → w.cell? (a.add j) = some v) (hfit : o + cs.length ≤ cur.length) (h1 : ∀ v ∈ cs, v.oneCell' = true) :
    (Builtin.copy_ #[dT, sT] ty #[.slice (some ⟨b, o, none⟩) dLen dCap, .slice (some a) sLen sCap]).run P w = .ok (.int .i64 (Nat.min sLen dLen : Nat)) (w.setCells b o cs) := by
  have hl := run_firstCells_some (P := P) w sz (Nat.min sLen dLen) a sLen sCap cs hn hsrc
  have hst := run_storeCells_cells (P := P) b o cs 0 w (fun j hj => by
    rw [cell_of_row _ _ _ _ _ _ hg, List.getElem?_toArray, List.getElem?_eq_getElem (by omega)]
    rfl) (fun j hj => frozen_of_row _ _ _ _ _ hg) h1
  rw [Nat.add_zero] at hst
  cases hq : P.info? e with
  | none => simp [hq] at hs
  | some i =>
    have hi : i.size = sz := by simpa [hq] using hs
    subst hi
    simp [Builtin.copy_, run_underlying hu, Builtin.lenOf, sizeOf, typeInfo, hq, hl, hst, goInt]
/-- 'copy' of whole elements into a block of the call's own -/
theorem G.copyN {dT sT e d b o dLen dCap j cap b' off sz : Nat} {xd xs : Operand} {T : TypeId} {cs news : List Value} {r : List Ck} (hn : Nat.blt d n = true) (hu : P.underlying dT = some (.slice e)) (hsz : (P.info? e).map (·.size) = some sz)
    (hd : ev l xd = some (.slice (some ⟨b, o, none⟩) dLen dCap)) (hs : ev l xs = some (.slice (some ⟨b', off, none⟩) j cap)) (hsel : Sel m (blk b T cs) r) (hnews : ∀ w, Hp w0 S w m → News w b' off news) (hl : news.length = Nat.min j dLen * sz) (h1 : ∀ u ∈ news, u.oneCell' = true) (hfit : o + news.length ≤ cs.length)
    (h : G n w0 S ((d, .int .i64 (Nat.min j dLen : Nat)) :: l) (blk b T (putN cs o news) :: r) K) : G n w0 S l m (fun a w => Oper.wp P ⟨some d, .call ⟨.builtin .copy, #[xd, xs], #[dT, sT]⟩, ty, pos, after, g⟩ a w K Q) := G.eff rfl hn fun a w ha hw => by
  have hw' := hw.sel hsel
  have hh := hw'.holds _ (List.mem_cons_self ..)
  have hr := run_copy_any (P := P) (ty := ty) (sT := sT) (dCap := dCap) (sCap := cap) (a := ⟨b', off, none⟩) hu hsz hh hl (fun i u hi => by rw [addr_mid]; exact hnews w hw i u hi) hfit h1
  refine ⟨_, _, _, ?_, setCells_blk news cs o hw', h⟩
  simp only [execOp, resolve, invoke, builtin, Sem.run_bind, Sem.run_pure, Result.andThen_ok, List.map_toArray, List.map_cons, List.map_nil, ha.eval hd, ha.eval hs, hr]
theorem run_append_make {w : World} {t tn ty e : TypeId} {i : TypeInfo} {z : Value} {k kn : IntKind} (ht : P.underlying t = some (.slice e)) (htn : P.underlying tn = some (.int kn)) (hi : P.info? e = some i) (hz : i.zero = some z)
    {a : Addr} {sLen sCap : Nat} {olds : List Value} (hlo : olds.length = sLen * i.size) (holds : ∀ j v, olds[j]? = some v → w.cell? (a.add j) = some v) {c : Nat} (h0 : 0 < c) (hs : 0 < i.size) (hg : sCap < sLen + c) (h63 : sLen + c ≤ 9223372036854775807) (h48 : (sLen + c) * i.bytes ≤ 140737488355328) :
    (Builtin.append_ #[t, tn] ty #[.slice (some a) sLen sCap, .int k c]).run P w =
      .ok (.slice (some ⟨w.heap.size, 0, none⟩) (sLen + c) (grownCap w (sLen + c) sCap e)) (w.drew.alloc (.cells (olds.toArray ++ Builtin.zeroCells z.cells c ++ Builtin.zeroCells z.cells (grownCap w (sLen + c) sCap e - (sLen + c))) e)) := by
  have hn : ¬ (sLen + c ≤ sCap) := by omega
  have h63' : ¬ (9223372036854775807 < ((sLen : Int) + (c : Int))) := by omega
  have hfit := growslice_fits (old := sCap) hg h48
  have h48' : ¬ (281474976710656 < Builtin.nextslicecap (sLen + c) sCap * i.bytes) := by omega
  have hc48 : c * i.bytes ≤ 140737488355328 := Nat.le_trans (Nat.mul_le_mul_right _ (by omega)) h48
  have h48i : ¬ (281474976710656 < (c : Int) * (i.bytes : Int)) := by
    have : ((c * i.bytes : Nat) : Int) ≤ 140737488355328 := by omega
    rw [Int.natCast_mul] at this
    omega
  have hw : IntKind.i64.wrap (c : Int) = c := by rw [IntKind.wrap_i64]; omega
  have hf := run_firstCells_some (P := P) w.drew i.size sLen a sLen sCap olds hlo (by simpa using holds)
  have hneg : ¬ ((c : Int) < 0) := by omega
  have hns : ¬ (c * i.size = 0) := Nat.mul_ne_zero (by omega) (by omega)
  simp [Builtin.append_, run_underlying ht, run_underlying htn, sizeOf, typeInfo, zeroValue, hi, hz, hw, hn, h63', h48', h48i, hneg, hns, asInt, asIntOf, Question.forced, hf, newRow, grownCap]
/-- append of as many zeros, where there is no room: a block of its own -/
theorem G.appendMake {t tn e d b i cap c sz bytes : Nat} {s x : Operand} {k kn : IntKind} {j : Int} {olds : List Value} {z : List Value} (hn : Nat.blt d n = true) (hu : P.underlying t = some (.slice e)) (hun : P.underlying tn = some (.int kn)) (hi : (P.info? e).map (fun i => (i.zero.map (·.cells), i.size, i.bytes)) = some (some z.toArray, sz, bytes)) (hzl : z.length = sz) (hsz : Nat.blt 0 sz = true)
    (hs : ev l s = some (.slice (some ⟨b, 0, none⟩) i cap)) (hx : ev l x = some (.int k j)) (hj : j = (c : Int)) (holds : ∀ w, Hp w0 S w m → News w b 0 olds) (hol : olds.length = i * sz) (hc : 0 < c) (hg : cap < i + c) (h63 : i + c ≤ 9223372036854775807) (h48 : (i + c) * bytes ≤ 140737488355328)
    (h : ∀ b' cap' sp, i + c ≤ cap' → cap' ≤ 9223372036854775807 → (olds ++ sp).length = cap' * sz → G n w0 S ((d, .slice (some ⟨b', 0, none⟩) (i + c) cap') :: l) (blk b' e (olds ++ sp) :: m) K) : G n w0 S l m (fun a w => Oper.wp P ⟨some d, .call ⟨.builtin .append, #[s, x], #[t, tn]⟩, ty, pos, after, g⟩ a w K Q) := G.eff rfl hn fun a w ha hw => by
  obtain ⟨i1, hi1, hi2⟩ := Option.map_eq_some_iff.1 hi
  have hi3 : i1.zero.map (·.cells) = some z.toArray := congrArg Prod.fst hi2
  have hi4 : i1.size = sz := congrArg (fun p => p.2.1) hi2
  have hi5 : i1.bytes = bytes := congrArg (fun p => p.2.2) hi2
  obtain ⟨zv, hz1, hz2⟩ := Option.map_eq_some_iff.1 hi3
  subst hi4 hi5 hj
  have hr := run_append_make (P := P) (w := w) (ty := ty) (k := k) (a := ⟨b, 0, none⟩) hu hun hi1 hz1 hol (fun q u hq => by rw [addr_mid]; exact holds w hw q u hq) hc (Nat.le_of_ble_eq_true hsz) hg h63 h48
  have hge := grownCap_ge w (i + c) cap e
  have hcm := grownCap_le_maxLen w (i + c) cap e (by unfold maxLen; omega)
  unfold maxLen at hcm
  have hzz : zv.cells.size = i1.size := by rw [hz2]; simpa using hzl
  have e1 : olds.toArray ++ Builtin.zeroCells zv.cells c ++ Builtin.zeroCells zv.cells (grownCap w (i + c) cap e - (i + c)) = (olds ++ ((Builtin.zeroCells zv.cells c).toList ++ (Builtin.zeroCells zv.cells (grownCap w (i + c) cap e - (i + c))).toList)).toArray := by
    apply Array.ext'
    simp [List.append_assoc]
  rw [e1] at hr
  have hex : (execOp a.eval (⟨some d, .call ⟨.builtin .append, #[s, x], #[t, tn]⟩, ty, pos, after, g⟩ : Oper)).run P w = .ok (.value (.slice (some ⟨w.heap.size, 0, none⟩) (i + c) (grownCap w (i + c) cap e))) (w.drew.alloc (.cells (olds ++ ((Builtin.zeroCells zv.cells c).toList ++ (Builtin.zeroCells zv.cells (grownCap w (i + c) cap e - (i + c))).toList)).toArray e)) := by
    simp only [execOp, resolve, invoke, builtin, Sem.run_bind, Sem.run_pure, Result.andThen_ok, List.map_toArray, List.map_cons, List.map_nil, ha.eval hs, ha.eval hx, hr]
  have hlen : (olds ++ ((Builtin.zeroCells zv.cells c).toList ++ (Builtin.zeroCells zv.cells (grownCap w (i + c) cap e - (i + c))).toList)).length = grownCap w (i + c) cap e * i1.size := by
    have q1 : ∀ k, (Builtin.zeroCells zv.cells k).toList.length = k * i1.size := fun k => by rw [Array.length_toList, size_zeroCells, hzz]
    rw [List.length_append, List.length_append, q1, q1, hol, ← Nat.add_mul, ← Nat.add_mul]
    congr 1
    omega
  exact ⟨_, _, _, hex, hw.drew.alloc _ e, h _ _ _ hge (by omega) hlen⟩
/-- slices.overlaps at two slices in two blocks -/
theorem pv_overlaps {dst : Option Tmp} {f : FuncId} {x y : Operand} {ts : Array TypeId} {fn : Func} {T1 T2 tS tR e sz b1 b2 o2 la ca lb cb : Nat} {c1 c2 : List Value} {r1' r2' : List Ck} (hf : P.funcs[f]? = some fn) (hname : (fn.name == "runtime.NumGoroutine") = false)
    (hb : fn.body.isNone = true) (hn : Extern.findNext fn = none) (he : Extern.find fn = some (Extern.SlicesOverlaps.overlaps #[tS, tS] #[tR])) (hu : P.underlying tS = some (.slice e)) (hsz : (P.info? e).map (·.size) = some sz)
    (hx : ev l x = some (.slice (some ⟨b1, 0, none⟩) la ca)) (hy : ev l y = some (.slice (some ⟨b2, o2, none⟩) lb cb)) (h1 : ∀ w, Hp w0 S w m → w.heap[b1]? = some (.cells c1.toArray T1 (0, 0))) (h2 : ∀ w, Hp w0 S w m → w.heap[b2]? = some (.cells c2.toArray T2 (0, 0))) (hne : ∀ w, Hp w0 S w m → b1 ≠ b2) (hc2 : c2.length ≠ 0) :
    PV P n w0 S l m ⟨dst, .call ⟨.value (.func f), #[x, y], ts⟩, ty, pos, after, g⟩ (.bool false) := fun a w ha hw => by
  have hh1 := h1 w hw
  have hh2 := h2 w hw
  have s1 : w.shape? b1 = some (T1, c1.length) := by unfold World.shape?; rw [hh1]; simp
  have s2 : w.shape? b2 = some (T2, c2.length) := by unfold World.shape?; rw [hh2]; simp
  have hr := Lib.run_overlaps_apart (P := P) w tS tR e hu sz (run_sizeOf hsz) ⟨b1, 0, none⟩ ⟨b2, o2, none⟩ la ca lb cb (hne w hw) T1 T2 c1.length c2.length s1 s2 hc2 (frozen_of_row _ _ _ _ _ hh1) (frozen_of_row _ _ _ _ _ hh1)
  have hc := run_callFunc_extern (P := P) hf hname hb hn he #[.slice (some ⟨b1, 0, none⟩) la ca, .slice (some ⟨b2, o2, none⟩) lb cb] w
  rw [hr] at hc
  have e2 : a.eval (.func f) = .func (.func f) #[] #[] := rfl
  simp only [execOp, resolve, Deferred.ofValue, e2, invoke, Sem.run_bind, Sem.run_pure, Result.andThen_ok, List.map_toArray, List.map_cons, List.map_nil, ha.eval hx, ha.eval hy]
  simpa using hc
end
end Go.Proofs.YtkhffndeomihhaaDoor
