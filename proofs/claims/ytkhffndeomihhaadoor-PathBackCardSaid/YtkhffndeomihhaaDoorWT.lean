/- A walk by chunks: a slice of the call's own as its block, and back. Conditions: none. -/
import Derived.Test.YtkhffndeomihhaaDoorWC
set_option linter.unusedVariables false
set_option linter.unusedSimpArgs false
set_option maxRecDepth 100000
namespace Go.Proofs.YtkhffndeomihhaaDoor
open Go.RowKit
section
variable {P : Program} {n : Nat} {w0 : World} {S : Nat → Prop} {l : Fr} {m : List Ck} {Q : Exit → Act → World → Prop} {K : Act → World → Prop}
theorem own_blk {w : World} {e sz k : Nat} {v : Value} {cs : List Value} (hk : 0 < k) (h : w.ownsRow 0 e sz v k cs) : ∃ g cap sp, v = .slice (some ⟨g, 0, none⟩) k cap ∧ k ≤ cap ∧ cap ≤ 9223372036854775807 ∧ (cs ++ sp).length = cap * sz ∧ w.heap[g]? = some (.cells (cs ++ sp).toArray e (0, 0)) := by
  obtain ⟨h1, ⟨rfl, h2⟩ | ⟨g, cap, cur, rfl, _, hg, hc, hm, hs, ht⟩⟩ := h
  · omega
  · have e1 : cs ++ cur.toList.drop (k * sz) = cur.toList := by rw [← ht]; exact List.take_append_drop _ _
    refine ⟨g, cap, cur.toList.drop (k * sz), rfl, hc, by unfold maxLen at hm; omega, ?_, ?_⟩
    · rw [e1]; simpa using hs
    · rw [e1]; simpa using hg
/-- the block of a slice that has elements -/
theorem G.ownTo {e sz k : Nat} {v : Value} {cs : List Value} {r : List Ck} (hs : Sel m (own e sz v k cs) r) (hk : 0 < k)
    (h : ∀ g cap sp, v = .slice (some ⟨g, 0, none⟩) k cap → k ≤ cap → cap ≤ 9223372036854775807 → (cs ++ sp).length = cap * sz → cs.length = k * sz → G n w0 S l (blk g e (cs ++ sp) :: r) K) : G n w0 S l m K := fun a w ha hw => by
  have hw' := hw.sel hs
  have ho : w.ownsRow 0 e sz v k cs := hw'.holds _ (List.mem_cons_self ..)
  obtain ⟨g, cap, sp, rfl, hc, hm, hl, hg⟩ := own_blk hk ho
  refine h g cap sp rfl hc hm hl ho.1 a w ha (hp_view (c := own e sz (.slice (some ⟨g, 0, none⟩) k cap) k cs) (d := blk g e (cs ++ sp)) hw' (fun _ => hg) fun b hb => ?_)
  obtain rfl : b = g := hb
  rfl
/-- .. and back -/
theorem G.ownOf {e sz k g cap : Nat} {cs sp : List Value} {r : List Ck} (hs : Sel m (blk g e (cs ++ sp)) r) (hk : cs.length = k * sz) (hc : k ≤ cap) (hm : cap ≤ 9223372036854775807) (hl : (cs ++ sp).length = cap * sz)
    (h : G n w0 S l (own e sz (.slice (some ⟨g, 0, none⟩) k cap) k cs :: r) K) : G n w0 S l m K := fun a w ha hw => by
  have hw' := hw.sel hs
  refine h a w ha (hp_view (c := blk g e (cs ++ sp)) (d := own e sz (.slice (some ⟨g, 0, none⟩) k cap) k cs) hw' (fun hg => ?_) fun b hb => ?_)
  · have hg : w.heap[g]? = some (.cells (cs ++ sp).toArray e (0, 0)) := hg
    exact ⟨hk, .inr ⟨g, cap, _, rfl, Nat.zero_le _, hg, hc, by unfold maxLen; omega, by simpa using hl, by rw [← hk]; simp⟩⟩
  · have : some g = some b := hb
    injection this with this
    exact this.symm
theorem rd1 {α : Type} {f : α → Value} {xs : List α} {sp : List Value} {i : Nat} (h : i < xs.length) : (xs.map f ++ sp)[0 + i * 1]? = some (f xs[i]) := by
  rw [Nat.zero_add, Nat.mul_one, List.getElem?_append_left (by rw [List.length_map]; exact h), List.getElem?_map, List.getElem?_eq_getElem h]
  rfl
theorem ro_rng0 {b o : Nat} {cs : List Value} (h : Ro w0 S (rng b o cs)) : ∀ w, Hp w0 S w m → w.rangeAt b o cs := fun w hw => h.at hw
/-- a call by a function value -/
theorem G.trP {o : Oper} {d : Nat} {f : FuncId} {args : Array Value} {ro pre r : List Ck} {post : Value → List Ck → Prop} (hd : o.dst = some d) (hn : Nat.blt d n = true) (he : PE P n w0 S l m o f args)
    (ht : Tr P f args ro pre post) (hm : Sub m pre r) (hro : ∀ c ∈ ro, May w0 S r c) (h : ∀ v m', post v m' → G n w0 S ((d, v) :: l) (m' ++ r) K) : G n w0 S l m (fun a w => o.wp P a w K Q) := fun a w ha hw => by
  have hw' := hw.perm hm.perm
  have hp : Hp w (U pre) w pre := ⟨Chg.refl _ _, fun c hc => hw'.holds c (List.mem_append_left _ hc), fun c hc b hb => ⟨.inl ⟨c, hc, hb⟩, (hw'.own c (List.mem_append_left _ hc) b hb).2⟩, (List.pairwise_append.1 hw'.dis).1⟩
  have hc := ht w (fun c hc => (hro c hc).ro hw') hp
  show Oper.wp P o a w K Q
  unfold Oper.wp
  rw [he a w ha hw, Oper.upon_enter]
  refine hc.mono ?_
  rintro e w2 ⟨v, m', rfl, hpost, hm'⟩
  show K (a.put o.dst v) w2
  rw [hd]
  exact h v m' hpost _ _ (ha.put hn v) (hw'.turn hm')
theorem G.cRv {o : Oper} {d : Nat} {x : Operand} {f : FuncId} {first captured args : Array Value} {xs : List Operand} {ts : Array TypeId} {vs : List Value} {ro : List Ck} {v : Value} (hd : o.dst = some d) (hn : Nat.blt d n = true)
    (ho : o.op = .call { callee := .value x, args := xs.toArray, argTypes := ts }) (hv : ev l x = some (.func (.func f) first captured)) (hx : evs l xs = some vs) {fn : Func} {c : Code} (hf : P.funcs[f]? = some fn) (hb : fn.body = some c) (hnm : (fn.name == "runtime.NumGoroutine") = false)
    (hargs : first ++ vs.toArray ++ captured = args) (hro : ∀ c ∈ ro, May w0 S m c) (ht : Tr P f args ro [] (T0 v)) (h : G n w0 S ((d, v) :: l) m K) : G n w0 S l m (fun a w => o.wp P a w K Q) :=
  G.trP hd hn (hargs ▸ pe_val ho hv hx hf hb hnm) ht .nil hro fun x m' ⟨hx, hm⟩ => by subst hx; subst hm; exact h
theorem OwnB.one {w : World} {e : TypeId} {v : Value} {xs : List UInt8} (h : OwnB w e v xs) : v.oneCell' = true ∧ ∃ ad cap, v = .slice ad xs.length cap := by
  rcases h with ⟨rfl, rfl⟩ | ⟨g, sp, rfl, _⟩
  · exact ⟨rfl, _, _, rfl⟩
  · exact ⟨rfl, _, _, rfl⟩
theorem G.ownBFact {e : TypeId} {v : Value} {xs : List UInt8} {r : List Ck} (hs : Sel m (ownB e v xs) r) (h : v.oneCell' = true → G n w0 S l m K) : G n w0 S l m K :=
  G.fact (p := v.oneCell' = true) (fun w hw => (OwnB.one (hw.holds _ hs.mem)).1) h
theorem G.ownBSl {e : TypeId} {v : Value} {xs : List UInt8} {r : List Ck} (hs : Sel m (ownB e v xs) r) (h : ∀ ad cap, v = .slice ad xs.length cap → G n w0 S l m K) : G n w0 S l m K := fun a w ha hw => by
  obtain ⟨_, ad, cap, hv⟩ := OwnB.one (hw.holds _ hs.mem)
  exact h ad cap hv a w ha hw
theorem run_eqSl {ty e : TypeId} (ht : P.underlying ty = some (.slice e)) (a : Option Addr) (len cap : Nat) (w : World) : ∀ d, (Op.equalIn (d + 1) ty (.slice a len cap) (.slice none 0 0)).run P w = .ok a.isNone w := fun d => by
  cases a <;> simp [Op.equalIn, Sem.run_bind, run_underlying ht, Result.andThen, Sem.run_pure]
section
variable {dst : Option Tmp} {ty : TypeId} {pos : String} {after : Array Edge} {g : Option (Nat × Bool)}
theorem pv_eqlSl0 {a : Option Addr} {len cap : Nat} {t u e : TypeId} {x y : Operand} (ht : P.underlying t = some (.slice e)) (hx : ev l x = some (.slice a len cap)) (hy : ev l y = some (.slice none 0 0)) : PV P n w0 S l m ⟨dst, .binOp .eql t x y u, ty, pos, after, g⟩ (.bool a.isNone) :=
  pv_bin hx hy (by unfold eqGuard; rfl) fun w => by
    show ((Op.equalIn Op.maxDepth t (.slice a len cap) (.slice none 0 0)) >>= fun x => pure (Value.bool x)).run P w = _
    have h := run_eqSl ht a len cap w 9999
    simp only [Sem.run_bind, show Op.maxDepth = 9999 + 1 from rfl, h, Result.andThen, Sem.run_pure]
end
end
end Go.Proofs.YtkhffndeomihhaaDoor
