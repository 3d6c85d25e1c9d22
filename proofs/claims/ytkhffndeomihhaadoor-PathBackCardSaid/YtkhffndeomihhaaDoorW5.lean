/- A walk by chunks: contracts with letters, slices that are cut, grown, copied, made. Conditions: none. -/
import Derived.Test.YtkhffndeomihhaaDoorW4
set_option linter.unusedVariables false
set_option linter.unusedSimpArgs false
set_option maxRecDepth 100000
namespace Go.Proofs.YtkhffndeomihhaaDoor
open Go.RowKit

/-- what is told behind a call: a letter x of which J holds, the value, the chunks -/
def TX {X : Type} (J : X → Prop) (V : X → Value) (M : X → List Ck) : Value → List Ck → Prop := fun v m => ∃ x, J x ∧ v = V x ∧ m = M x
section
variable {P : Program} {n : Nat} {w0 : World} {S : Nat → Prop} {l : Fr} {m : List Ck} {Q : Exit → Act → World → Prop} {K : Act → World → Prop}
  {dst : Option Tmp} {ty : TypeId} {pos : String} {after : Array Edge} {g : Option (Nat × Bool)}
section
variable {o : Oper} {d : Nat} {f : FuncId} {xs : List Operand} {ts : Array TypeId} {vs : List Value} {ro pre r : List Ck} {X : Type} {J : X → Prop} {V : X → Value} {A B C : X → Ck} {fn : Func} {c : Code}
theorem G.c0 (hd : o.dst = some d) (hn : Nat.blt d n = true) (ho : o.op = .call { callee := .value (.func f), args := xs.toArray, argTypes := ts }) (hx : evs l xs = some vs) (hf : P.funcs[f]? = some fn) (hb : fn.body = some c) (hnm : (fn.name == "runtime.NumGoroutine") = false)
    (ht : Tr P f vs.toArray ro pre (TX J V fun _ => [])) (hs : Sub m pre r) (hro : ∀ c ∈ ro, May w0 S r c) (h : ∀ x, J x → G n w0 S ((d, V x) :: l) r K) : G n w0 S l m (fun a w => o.wp P a w K Q) :=
  G.tr hd hn ho hx hf hb hnm ht hs hro fun v m' ⟨x, hJ, hv, hm⟩ => by subst hv; subst hm; exact h x hJ
theorem G.c1 (hd : o.dst = some d) (hn : Nat.blt d n = true) (ho : o.op = .call { callee := .value (.func f), args := xs.toArray, argTypes := ts }) (hx : evs l xs = some vs) (hf : P.funcs[f]? = some fn) (hb : fn.body = some c) (hnm : (fn.name == "runtime.NumGoroutine") = false)
    (ht : Tr P f vs.toArray ro pre (TX J V fun x => [A x])) (hs : Sub m pre r) (hro : ∀ c ∈ ro, May w0 S r c) (h : ∀ x, J x → G n w0 S ((d, V x) :: l) (A x :: r) K) : G n w0 S l m (fun a w => o.wp P a w K Q) :=
  G.tr hd hn ho hx hf hb hnm ht hs hro fun v m' ⟨x, hJ, hv, hm⟩ => by subst hv; subst hm; exact h x hJ
theorem G.c2 (hd : o.dst = some d) (hn : Nat.blt d n = true) (ho : o.op = .call { callee := .value (.func f), args := xs.toArray, argTypes := ts }) (hx : evs l xs = some vs) (hf : P.funcs[f]? = some fn) (hb : fn.body = some c) (hnm : (fn.name == "runtime.NumGoroutine") = false)
    (ht : Tr P f vs.toArray ro pre (TX J V fun x => [A x, B x])) (hs : Sub m pre r) (hro : ∀ c ∈ ro, May w0 S r c) (h : ∀ x, J x → G n w0 S ((d, V x) :: l) (A x :: B x :: r) K) : G n w0 S l m (fun a w => o.wp P a w K Q) :=
  G.tr hd hn ho hx hf hb hnm ht hs hro fun v m' ⟨x, hJ, hv, hm⟩ => by subst hv; subst hm; exact h x hJ
theorem G.c3 (hd : o.dst = some d) (hn : Nat.blt d n = true) (ho : o.op = .call { callee := .value (.func f), args := xs.toArray, argTypes := ts }) (hx : evs l xs = some vs) (hf : P.funcs[f]? = some fn) (hb : fn.body = some c) (hnm : (fn.name == "runtime.NumGoroutine") = false)
    (ht : Tr P f vs.toArray ro pre (TX J V fun x => [A x, B x, C x])) (hs : Sub m pre r) (hro : ∀ c ∈ ro, May w0 S r c) (h : ∀ x, J x → G n w0 S ((d, V x) :: l) (A x :: B x :: C x :: r) K) : G n w0 S l m (fun a w => o.wp P a w K Q) :=
  G.tr hd hn ho hx hf hb hnm ht hs hro fun v m' ⟨x, hJ, hv, hm⟩ => by subst hv; subst hm; exact h x hJ
end
/-! slices that are cut -/
theorem pv_slice {t : TypeId} {x : Operand} {lo hi : Option Operand} {v r : Value} {vl vh : Option Value} (hx : ev l x = some v) (hl : ∀ a : Act, At a n l → lo.map a.eval = vl) (hh : ∀ a : Act, At a n l → hi.map a.eval = vh) (hs : ∀ w, (Instr.sliceAt t v vl vh none).run P w = .ok r w) :
    PV P n w0 S l m ⟨dst, .slice t x lo hi none, ty, pos, after, g⟩ r := fun act w ha _ => by
  show ((Instr.sliceAt t (act.eval x) (lo.map act.eval) (hi.map act.eval) none) >>= fun x => pure (Next.value x)).run P w = _
  rw [ha.eval hx, hl act ha, hh act ha]
  exact run_v (hs w)
theorem sliceAt_sl {t e : TypeId} {v : Value} {lo hi : Option Value} {w : World} (hu : P.underlying t = some (.slice e)) : (Instr.sliceAt t v lo hi none).run P w = (Instr.slice t v lo hi none).run P w := by
  simp [Instr.sliceAt, Sem.run_bind, run_underlying hu, Result.andThen]
theorem sliceAt_str {t : TypeId} {v : Value} {lo hi : Option Value} {w : World} (hu : P.underlying t = some .string) : (Instr.sliceAt t v lo hi none).run P w = (Instr.slice t v lo hi none).run P w := by
  simp [Instr.sliceAt, Sem.run_bind, run_underlying hu, Result.andThen]
theorem pv_subL {t e : TypeId} {x i : Operand} {ad : Option Addr} {len cap sz k : Nat} {kd : IntKind} {j : Int} (hu : P.underlying t = some (.slice e)) (hsz : (P.info? e).map (·.size) = some sz) (hx : ev l x = some (.slice ad len cap)) (hi : ev l i = some (.int kd j)) (hj : j = (k : Int)) (hk : k ≤ len) :
    PV P n w0 S l m ⟨dst, .slice t x (some i) none none, ty, pos, after, g⟩ (subV sz ad k len cap) :=
  pv_slice hx (vl := some (.int kd (k : Int))) (vh := none) (fun a ha => by rw [Option.map_some, ha.eval hi, hj]) (fun a ha => rfl) fun w => by
    rw [sliceAt_sl hu]
    exact run_sub_lo hu (run_sizeOf hsz) ad len cap k kd hk w
theorem pv_subH {t e : TypeId} {x i : Operand} {ad : Option Addr} {len cap sz k : Nat} {kd : IntKind} {j : Int} (hu : P.underlying t = some (.slice e)) (hsz : (P.info? e).map (·.size) = some sz) (hx : ev l x = some (.slice ad len cap)) (hi : ev l i = some (.int kd j)) (hj : j = (k : Int)) (hk : k ≤ cap) :
    PV P n w0 S l m ⟨dst, .slice t x none (some i) none, ty, pos, after, g⟩ (.slice ad k cap) :=
  pv_slice hx (vl := none) (vh := some (.int kd (k : Int))) (fun a ha => rfl) (fun a ha => by rw [Option.map_some, ha.eval hi, hj]) fun w => by
    rw [sliceAt_sl hu, run_sub_hi hu (run_sizeOf hsz) ad len cap k kd hk w]
    unfold subV
    simp
    intro h
    cases ad <;> simp [Addr.add]
theorem pv_subLH {t e : TypeId} {x i i' : Operand} {ad : Option Addr} {len cap sz k k' : Nat} {kd kd' : IntKind} {j j' : Int} (hu : P.underlying t = some (.slice e)) (hsz : (P.info? e).map (·.size) = some sz) (hx : ev l x = some (.slice ad len cap)) (hi : ev l i = some (.int kd j)) (hi' : ev l i' = some (.int kd' j')) (hj : j = (k : Int)) (hj' : j' = (k' : Int)) (hk : k ≤ k') (hk' : k' ≤ cap) :
    PV P n w0 S l m ⟨dst, .slice t x (some i) (some i') none, ty, pos, after, g⟩ (subV sz ad k k' cap) :=
  pv_slice hx (vl := some (.int kd (k : Int))) (vh := some (.int kd' (k' : Int))) (fun a ha => by rw [Option.map_some, ha.eval hi, hj]) (fun a ha => by rw [Option.map_some, ha.eval hi', hj']) fun w => by
    rw [sliceAt_sl hu]
    exact run_sub hu (run_sizeOf hsz) ad len cap k k' kd kd' hk hk' w
/-- an array's cells as a slice -/
theorem pv_subAr {t e : TypeId} {x : Operand} {b off len : Nat} (hu : P.underlying t = some (.array len e)) (hsz : ((P.info? e).map (·.size)).isSome = true) (hx : ev l x = some (.pointer (some ⟨b, off, none⟩))) :
    PV P n w0 S l m ⟨dst, .slice t x none none none, ty, pos, after, g⟩ (.slice (some ⟨b, off, none⟩) len len) :=
  pv_slice hx (vl := none) (vh := none) (fun a ha => rfl) (fun a ha => rfl) fun w => by
    obtain ⟨k, hk⟩ := Option.isSome_iff_exists.1 hsz
    simp [Instr.sliceAt, Instr.sliceBounds, Instr.sureAddr, Sem.run_bind, run_underlying hu, Result.andThen, Sem.run_pure, run_sizeOf hk, Addr.add]
theorem pv_subArL {t e : TypeId} {x i : Operand} {b off len sz k : Nat} {kd : IntKind} {j : Int} (hu : P.underlying t = some (.array len e)) (hsz : (P.info? e).map (·.size) = some sz) (hx : ev l x = some (.pointer (some ⟨b, off, none⟩))) (hi : ev l i = some (.int kd j)) (hj : j = (k : Int)) (hk : k ≤ len) :
    PV P n w0 S l m ⟨dst, .slice t x (some i) none none, ty, pos, after, g⟩ (.slice (some ⟨b, if len = k then off else off + k * sz, none⟩) (len - k) (len - k)) :=
  pv_slice hx (vl := some (.int kd (k : Int))) (vh := none) (fun a ha => by rw [Option.map_some, ha.eval hi, hj]) (fun a ha => rfl) fun w => by
    have h1 : (0 : Int) ≤ (k : Int) := by omega
    have h2 : (k : Int) ≤ (len : Int) := by omega
    simp [Instr.sliceAt, Instr.sliceBounds, Instr.sliceBound, asIntOf, Instr.sureAddr, Sem.run_bind, run_underlying hu, Result.andThen, Sem.run_pure, run_sizeOf hsz, hk]
    split
    · rfl
    · simp [Addr.add_mid]
/-- where an array's slice from place k on begins -/
def subOff (len k off sz : Nat) : Nat := if len = k then off else off + k * sz
theorem subOff_lt {len k off sz : Nat} (h : k < len) : subOff len k off sz = off + k * sz := if_neg (by omega)
theorem pv_subArO {t e : TypeId} {x i : Operand} {b off len sz k k' : Nat} {kd : IntKind} {j : Int} (hu : P.underlying t = some (.array len e)) (hsz : (P.info? e).map (·.size) = some sz) (hx : ev l x = some (.pointer (some ⟨b, off, none⟩))) (hi : ev l i = some (.int kd j)) (hj : j = (k : Int)) (hk : k + k' = len) :
    PV P n w0 S l m ⟨dst, .slice t x (some i) none none, ty, pos, after, g⟩ (.slice (some ⟨b, subOff len k off sz, none⟩) k' k') := by
  have := pv_subArL (P := P) (n := n) (w0 := w0) (S := S) (m := m) (dst := dst) (ty := ty) (pos := pos) (after := after) (g := g) hu hsz hx hi hj (by omega)
  rwa [show len - k = k' by omega] at this
theorem sB_extract (a : List UInt8) (i j : Nat) : (sB a).extract i j = sB ((a.take j).drop i) := by
  apply ByteArray.ext
  simp [sB]
  rw [List.take_drop]
  by_cases h : i ≤ j
  · rw [Nat.add_sub_cancel' h]
  · rw [List.drop_eq_nil_of_le (by simp; omega), List.drop_eq_nil_of_le (by simp; omega)]
theorem pv_strL {t : TypeId} {x i : Operand} {a : List UInt8} {k : Nat} {kd : IntKind} {j : Int} (hu : P.underlying t = some .string) (hx : ev l x = some (.string (sB a))) (hi : ev l i = some (.int kd j)) (hj : j = (k : Int)) (hk : k ≤ a.length) :
    PV P n w0 S l m ⟨dst, .slice t x (some i) none none, ty, pos, after, g⟩ (.string (sB (a.drop k))) :=
  pv_slice hx (vl := some (.int kd (k : Int))) (vh := none) (fun a ha => by rw [Option.map_some, ha.eval hi, hj]) (fun a ha => rfl) fun w => by
    rw [sliceAt_str hu]
    simp [Instr.slice, Instr.sliceBounds, Instr.sliceBound, asIntOf, Sem.run_bind, run_underlying hu, Result.andThen, Sem.run_pure, sB_size, hk, sB_extract]
theorem pv_strH {t : TypeId} {x i : Operand} {a : List UInt8} {k : Nat} {kd : IntKind} {j : Int} (hu : P.underlying t = some .string) (hx : ev l x = some (.string (sB a))) (hi : ev l i = some (.int kd j)) (hj : j = (k : Int)) (hk : k ≤ a.length) :
    PV P n w0 S l m ⟨dst, .slice t x none (some i) none, ty, pos, after, g⟩ (.string (sB (a.take k))) :=
  pv_slice hx (vl := none) (vh := some (.int kd (k : Int))) (fun a ha => rfl) (fun a ha => by rw [Option.map_some, ha.eval hi, hj]) fun w => by
    rw [sliceAt_str hu]
    simp [Instr.slice, Instr.sliceBounds, Instr.sliceBound, asIntOf, Sem.run_bind, run_underlying hu, Result.andThen, Sem.run_pure, sB_size, hk, sB_extract]
theorem pv_strLH {t : TypeId} {x i i' : Operand} {a : List UInt8} {k k' : Nat} {kd kd' : IntKind} {j j' : Int} (hu : P.underlying t = some .string) (hx : ev l x = some (.string (sB a))) (hi : ev l i = some (.int kd j)) (hi' : ev l i' = some (.int kd' j')) (hj : j = (k : Int)) (hj' : j' = (k' : Int)) (hk : k ≤ k') (hk' : k' ≤ a.length) :
    PV P n w0 S l m ⟨dst, .slice t x (some i) (some i') none, ty, pos, after, g⟩ (.string (sB ((a.take k').drop k))) :=
  pv_slice hx (vl := some (.int kd (k : Int))) (vh := some (.int kd' (k' : Int))) (fun a ha => by rw [Option.map_some, ha.eval hi, hj]) (fun a ha => by rw [Option.map_some, ha.eval hi', hj']) fun w => by
    rw [sliceAt_str hu]
    simp [Instr.slice, Instr.sliceBounds, Instr.sliceBound, asIntOf, Sem.run_bind, run_underlying hu, Result.andThen, Sem.run_pure, sB_size, hk, hk', sB_extract]
/-! what a slice reads as -/
theorem addr_mid (b off j : Nat) : (⟨b, off, none⟩ : Addr).add j = ⟨b, off + j, none⟩ := Addr.add_mid b off j
/-- the cells from an address on -/
def News (w : World) (b off : Nat) (cs : List Value) : Prop := ∀ j u, cs[j]? = some u → w.cell? ⟨b, off + j, none⟩ = some u
theorem blk_news {b off k : Nat} {T : TypeId} {cs xs : List Value} {r : List Ck} (h : Sel m (blk b T cs) r) (hx : (cs.drop off).take k = xs) : ∀ w, Hp w0 S w m → News w b off xs := fun w hw => blk_range h hx w hw
theorem IsSl.news {α : Type} {f : α → Value} {p : α → Prop} {Ps : Nat → Prop} {w : World} {v : Value} {xs : List α} (h : IsSl (r1 f p) Ps w v xs) : ∃ ad cap b off, v = .slice ad xs.length cap ∧ (0 < xs.length → ad = some ⟨b, off, none⟩) ∧ News w b off (xs.map f) := by
  obtain ⟨ad, cap, b, off, e, hs⟩ := h
  refine ⟨ad, cap, b, off, e, hs.had, fun j u hj => ?_⟩
  rw [List.getElem?_map] at hj
  obtain ⟨x, hx, rfl⟩ := Option.map_eq_some_iff.1 hj
  obtain ⟨hi, rfl⟩ := List.getElem?_eq_some_iff.1 hx
  have := (hs.cell j hi).2.1
  rwa [show off + j * (r1 f p).sz = off + j from by show off + j * 1 = _; omega] at this
theorem blk_isSl {α : Type} {f : α → Value} {p : α → Prop} {b off cap : Nat} {T : TypeId} {cs : List Value} {xs : List α} {r : List Ck} (h : Sel m (blk b T cs) r) (hx : (cs.drop off).take xs.length = xs.map f) (hp : ∀ x ∈ xs, p x) (hc : xs.length ≤ cap) (hm : cap ≤ 9223372036854775807) :
    ∀ w, Hp w0 S w m → IsSl (r1 f p) (· = b) w (.slice (some ⟨b, off, none⟩) xs.length cap) xs := fun w hw => by
  have hn := blk_news h hx w hw
  refine ⟨_, cap, b, off, rfl, hc, hm, (fun h => by cases h), fun _ => rfl, fun i hi => ⟨rfl, ?_, hp _ (List.getElem_mem hi)⟩⟩
  have := hn i (f xs[i]) (by simp [hi])
  rwa [show off + i * (r1 f p).sz = off + i from by show off + i * 1 = _; omega]
theorem own_isSl' {α : Type} {f : α → Value} {p : α → Prop} {e k : Nat} {v : Value} {xs : List α} {w : World} (h : w.ownsRow 0 e 1 v k (xs.map f)) (hk : k = xs.length) (hp : ∀ x ∈ xs, p x) : IsSl (r1 f p) (fun b => v.ownBlock = some b) w v xs := by
  subst hk
  have h0 := h
  rcases h.2 with ⟨rfl, h2⟩ | ⟨g', cap, cur, rfl, _, hg, hc, hm, hs, ht⟩
  · obtain rfl : xs = [] := List.length_eq_zero_iff.1 h2
    exact ⟨none, 0, 0, 0, rfl, Nat.le_refl _, by omega, fun _ => rfl, fun h => absurd h (by simp), fun i hi => absurd hi (by simp)⟩
  · refine ⟨_, cap, g', 0, rfl, hc, by unfold maxLen at hm; omega, (fun h => by cases h), fun _ => rfl, fun i hi => ⟨rfl, ?_, hp _ (List.getElem_mem hi)⟩⟩
    have := h0.cellAt i (by omega)
    rw [show 0 + i * (r1 f p).sz = i from by show 0 + i * 1 = _; omega, this]
    simp [hi]
theorem own_isSl {α : Type} {f : α → Value} {p : α → Prop} {e k : Nat} {v : Value} {xs : List α} {r : List Ck} (h : Sel m (own e 1 v k (xs.map f)) r) (hk : k = xs.length) (hp : ∀ x ∈ xs, p x) : ∀ w, Hp w0 S w m → IsSl (r1 f p) (fun b => v.ownBlock = some b) w v xs := fun w hw =>
  own_isSl' (hw.holds _ h.mem) hk hp
theorem own_len {e sz k : Nat} {v : Value} {cs : List Value} {r : List Ck} (h : Sel m (own e sz v k cs) r) : ∀ w, Hp w0 S w m → ∃ ad cap, v = .slice ad k cap ∧ cs.length = k * sz ∧ k ≤ cap ∧ cap ≤ 9223372036854775807 := fun w hw => by
  have := hw.holds _ h.mem
  obtain ⟨h1, h2⟩ : w.ownsRow 0 e sz v k cs := this
  rcases h2 with ⟨rfl, rfl⟩ | ⟨g', cap, cur, rfl, _, hg, hc, hm, hs, ht⟩
  · exact ⟨none, 0, rfl, h1, Nat.le_refl _, by omega⟩
  · exact ⟨_, cap, rfl, h1, hc, by unfold maxLen at hm; omega⟩
theorem ro_sl {α : Type} {E : Rdr α} {Ps : Nat → Prop} {v : Value} {xs : List α} (h : Ro w0 S (slc E Ps v xs)) : ∀ w, Hp w0 S w m → IsSl E Ps w v xs := fun w hw => h.at hw
theorem slc_sl {α : Type} {E : Rdr α} {Ps : Nat → Prop} {v : Value} {xs : List α} {r : List Ck} (h : Sel m (slc E Ps v xs) r) : ∀ w, Hp w0 S w m → IsSl E Ps w v xs := fun w hw => hw.holds _ h.mem
/-- what a callee reads of a block, of a slice of the call's own -/
theorem may_blk {α : Type} {f : α → Value} {p : α → Prop} {b off cap : Nat} {T : TypeId} {cs : List Value} {xs : List α} {r : List Ck} (h : Sel m (blk b T cs) r) (hx : (cs.drop off).take xs.length = xs.map f) (hp : ∀ x ∈ xs, p x) (hc : xs.length ≤ cap) (hm : cap ≤ 9223372036854775807) :
    May w0 S m (slc (r1 f p) (· = b) (.slice (some ⟨b, off, none⟩) xs.length cap) xs) :=
  .view h.mem (fun w hw => by
    refine ⟨_, cap, b, off, rfl, hc, hm, (fun h => by cases h), fun _ => rfl, fun i hi => ⟨rfl, ?_, hp _ (List.getElem_mem hi)⟩⟩
    have e : w.cell? ⟨b, off + i * (r1 f p).sz, none⟩ = (cs.drop off)[i]? := by
      rw [cell_of_row _ _ _ _ _ _ hw, List.getElem?_toArray, List.getElem?_drop, show off + i * (r1 f p).sz = off + i from by show off + i * 1 = _; omega]
    have e2 : ((cs.drop off).take xs.length)[i]? = some (f xs[i]) := by rw [hx]; simp [hi]
    rw [List.getElem?_take, if_pos hi] at e2
    rw [e, e2]) fun b h => h
theorem may_own {α : Type} {f : α → Value} {p : α → Prop} {e k : Nat} {v : Value} {xs : List α} {r : List Ck} (h : Sel m (own e 1 v k (xs.map f)) r) (hk : k = xs.length) (hp : ∀ x ∈ xs, p x) : May w0 S m (slc (r1 f p) (fun b => v.ownBlock = some b) v xs) :=
  .view h.mem (fun w hw => own_isSl' hw hk hp) fun b h => h
/-! texts and bytes -/
theorem run_toStr {t e t' : TypeId} {Ps : Nat → Prop} {v : Value} {xs : List UInt8} {w : World} (hu : P.underlying t = some (.slice e)) (he : P.underlying e = some (.int .u8)) (hd : P.underlying t' = some .string) (h : IsSl rByte Ps w v xs) : (convert t t' v).run P w = .ok (.string (sB xs)) w := by
  obtain ⟨ad, cap, b, off, rfl, had, hn⟩ := h.news
  rcases Nat.eq_zero_or_pos xs.length with h0 | hp
  · have : xs = [] := List.length_eq_zero_iff.1 h0
    subst this
    cases ad with
    | none => exact run_convert_bytes_nil w _ _ hu he _ _ _ hd
    | some a => exact run_convert_bytes_back w _ _ _ a cap [] hu he hd (fun j hj => by simp at hj)
  · obtain rfl := had hp
    refine run_convert_bytes_back w _ _ _ _ cap xs hu he hd (fun j hj => ?_)
    rw [addr_mid]
    exact hn j _ (by simp [hj]; rfl)
theorem pv_toStr {t e t' : TypeId} {x : Operand} {Ps : Nat → Prop} {v : Value} {xs : List UInt8} (hu : P.underlying t = some (.slice e)) (he : P.underlying e = some (.int .u8)) (hd : P.underlying t' = some .string) (hx : ev l x = some v) (h : ∀ w, Hp w0 S w m → IsSl rByte Ps w v xs) :
    PV P n w0 S l m ⟨dst, .convert t t' x, ty, pos, after, g⟩ (.string (sB xs)) := fun act w ha hw => by
  show ((convert t t' (act.eval x)) >>= fun x => pure (Next.value x)).run P w = _
  rw [ha.eval hx]
  exact run_v (run_toStr hu he hd (h w hw))
theorem G.toBytes {t e t' d : Nat} {x : Operand} {a : List UInt8} (hn : Nat.blt d n = true) (hs : P.underlying t = some .string) (hu : P.underlying t' = some (.slice e)) (he : P.underlying e = some (.int .u8)) (hx : ev l x = some (.string (sB a))) (ha' : a.length ≤ 9223372036854775807)
    (h : ∀ b v, G n w0 S ((d, v) :: l) (slc rByte (· = b) v a :: m) K) : G n w0 S l m (fun act w => Oper.wp P ⟨some d, .convert t t' x, ty, pos, after, g⟩ act w K Q) := G.eff rfl hn fun act w ha hw => by
  have hr := run_bytes_of_string (P := P) w t t' e (sB a) hs hu he
  rw [← ha.eval hx] at hr
  have hb : Below w.heap.size w (w.drew.alloc (.cells (bytesRow (sB a) (grownCap w (sB a).size 0 e)) e ((bytesRow (sB a) (grownCap w (sB a).size 0 e)).size, (bytesRow (sB a) (grownCap w (sB a).size 0 e)).size + 1))) := (Below.refl _ _).drew.alloc (Nat.le_refl _) _
  refine ⟨_, _, _, run_v hr, hw.adds (m' := [slc rByte (· = w.heap.size) _ a]) ⟨Chg.none_of_below hb, fun c hc => ?_, fun c hc b hb' => ?_, by simp⟩, h w.heap.size _⟩
  · obtain rfl : c = _ := by simpa using hc
    have hc := grownCap_ge w (sB a).size 0 e
    have hm := grownCap_le_maxLen w (sB a).size 0 e (by rw [sB_size]; unfold maxLen; omega)
    rw [sB_size] at hc
    refine ⟨_, grownCap w (sB a).size 0 e, w.heap.size, 0, by rw [sB_size], by rw [sB_size]; rw [sB_size] at hm; exact hc, by unfold maxLen at hm; omega, (fun h => by cases h), (fun _ => rfl), fun i hi => ⟨rfl, ?_, trivial⟩⟩
    rw [show 0 + i * rByte.sz = i from by show 0 + i * 1 = _; omega]
    refine (World.cell?_alloc_mark w.drew _ e _ i).trans ?_
    rw [bytesRow_at _ _ _ (by show i < (sB a).data.size; simpa [sB] using hi)]
    simp [sB, vByte]
  · obtain rfl : c = _ := by simpa using hc
    obtain rfl : b = _ := hb'
    exact ⟨.inr (Nat.le_refl _), by simp⟩
/-! make, append, copy -/
theorem run_append_own' {w : World} (t ty e : TypeId) (i : TypeInfo) (z : Value) (size bytes : Nat) (ht : P.underlying t = some (.slice e)) (hi : P.info? e = some i) (hz : i.zero = some z)
    (hsize : i.size = size) (hby : i.bytes = bytes) (hzs : z.cells.size = size) (hsz : 0 < size)
    (v : Value) (n : Nat) (xs : List Value) (hown : w.ownsRow 0 e size v n xs)
    (a : Addr) (m c : Nat) (news : List Value) (hl : news.length = m * size) (hnews : ∀ j u, news[j]? = some u → w.cell? (a.add j) = some u) (h1 : ∀ u ∈ news, u.oneCell' = true)
    (h63 : n + m ≤ maxLen) (hbytes : (n + m) * bytes ≤ 140737488355328) :
    ∃ v' w', (Builtin.append_ #[t, t] ty #[v, .slice (some a) m c]).run P w = .ok v' w' ∧ w'.ownsRow 0 e size v' (n + m) (xs ++ news) ∧ w.grownBy w' v.ownBlock ∧ ∀ k, v'.ownBlock = some k → v.ownBlock = some k ∨ w.heap.size ≤ k := by
  obtain ⟨v', w', hr, h2, h3, h4⟩ := run_append_own (P := P) w 0 t ty e i z size bytes ht hi hz hsize hby hzs hsz v n xs hown a m c news hl hnews h1 h63 hbytes (Nat.zero_le _)
  refine ⟨v', w', hr, h2, h3, fun k hk => ?_⟩
  rcases hown.2 with ⟨rfl, rfl⟩ | ⟨g', cap, cur, rfl, hbg, hg, hnc, hcm, hcs, htake⟩
  · have hx : xs = [] := List.eq_nil_of_length_eq_zero (by simpa using hown.1)
    subst hx
    have hown' : w.ownsRow w.heap.size e size (.slice none 0 0) 0 [] := World.ownsRow_nil w _ e size
    obtain ⟨v2, w2, hr2, k2, _, _⟩ := run_append_own (P := P) w w.heap.size t ty e i z size bytes ht hi hz hsize hby hzs hsz _ 0 [] hown' a m c news hl hnews h1 h63 hbytes (Nat.le_refl _)
    rw [hr] at hr2
    injection hr2 with e1 e2
    subst e1 e2
    exact .inr (k2.lt k hk).1
  · by_cases hroom : n + m ≤ cap
    · subst hsize
      have hfit : n * i.size + news.length ≤ cur.size := by rw [hl, hcs, ← Nat.add_mul]; exact Nat.mul_le_mul_right _ hroom
      have hr2 := run_append_room (P := P) w t ty e i ht hi g' n cap cur hg a m c news hl hnews h1 hroom hfit
      rw [hr] at hr2
      injection hr2 with e1 e2
      subst e1
      exact .inl hk
    · subst hsize hby
      have holds : ∀ j u, xs[j]? = some u → w.cell? ((⟨g', 0, none⟩ : Addr).add j) = some u := hown.cells (g := g') rfl
      have h63' : n + m ≤ 9223372036854775807 := by simp only [maxLen] at h63; omega
      have hr2 := run_append_grow (P := P) w t ty e i z ht hi hz ⟨g', 0, none⟩ n cap xs hown.1 holds a m c news hl hnews (by omega) (by omega) (growslice_fits (by omega) hbytes)
      rw [hr] at hr2
      injection hr2 with e1 e2
      subst e1
      simp [Value.ownBlock] at hk
      exact .inr (by omega)
theorem Chg.of_grown {w w' : World} {v : Value} (h : w.grownBy w' v.ownBlock) : Chg (fun b => v.ownBlock = some b) w w' :=
  ⟨h.os, h.tape, h.output, h.size, fun k hk hS => h.block k hk fun e => hS e.symm⟩
theorem hp_append {w w' : World} {e sz k k' : Nat} {v v' : Value} {cs cs' : List Value} {r : List Ck} (hw : Hp w0 S w (own e sz v k cs :: r)) (ho : w'.ownsRow 0 e sz v' k' cs') (hg : w.grownBy w' v.ownBlock) (hk : ∀ k, v'.ownBlock = some k → v.ownBlock = some k ∨ w.heap.size ≤ k) :
    Hp w0 S w' (own e sz v' k' cs' :: r) := by
  refine Hp.turn (p := [own e sz v k cs]) (p' := [own e sz v' k' cs']) hw ⟨(Chg.of_grown hg).mono fun b hb => ⟨_, List.mem_cons_self .., hb⟩, fun c hc => ?_, fun c hc b hb => ?_, by simp⟩
  · obtain rfl : c = _ := by simpa using hc
    exact ho
  · obtain rfl : c = _ := by simpa using hc
    refine ⟨?_, (ho.lt b hb).2⟩
    rcases hk b hb with h | h
    · exact .inl ⟨_, List.mem_cons_self .., h⟩
    · exact .inr h
/-- a slice that is nil owns nothing -/
theorem G.ownNil (e sz : Nat) (h : G n w0 S l (own e sz (.slice none 0 0) 0 [] :: m) K) : G n w0 S l m K := G.mem (fun w hw => by
  refine hw.adds (m' := [own e sz (.slice none 0 0) 0 []]) ⟨Chg.refl _ _, fun c hc => ?_, fun c hc b hb => ?_, by simp⟩
  · obtain rfl : c = _ := by simpa using hc
    exact World.ownsRow_nil w 0 e sz
  · obtain rfl : c = _ := by simpa using hc
    cases hb) h
/-- a block that was just laid is a slice of the call's own -/
theorem G.ownBlk {b e sz k : Nat} {cs : List Value} {r : List Ck} (hs : Sel m (blk b e cs) r) (hk : cs.length = k * sz) (hm : k ≤ 9223372036854775807) (h : G n w0 S l (own e sz (.slice (some ⟨b, 0, none⟩) k k) k cs :: r) K) : G n w0 S l m K := G.mem (fun w hw => by
  have hw' := hw.sel hs
  have hh := hw'.holds _ (List.mem_cons_self ..)
  have hlt := (hw'.own _ (List.mem_cons_self ..) b rfl).2
  refine Hp.turn (p := [blk b e cs]) (p' := [own e sz (.slice (some ⟨b, 0, none⟩) k k) k cs]) hw' ⟨Chg.refl _ _, fun c hc => ?_, fun c hc j hj => ?_, by simp⟩
  · obtain rfl : c = _ := by simpa using hc
    exact ⟨hk, .inr ⟨b, k, cs.toArray, rfl, Nat.zero_le _, hh, Nat.le_refl _, by unfold maxLen; omega, by simpa using hk, by rw [← hk]; simp⟩⟩
  · obtain rfl : c = _ := by simpa using hc
    have hj' : j = b := by
      have : some b = some j := hj
      injection this with h
      exact h.symm
    subst hj'
    exact ⟨.inl ⟨_, List.mem_cons_self .., rfl⟩, hlt⟩) h
theorem G.append {t e d sz bytes k j cap b off : Nat} {s x : Operand} {v : Value} {ad : Option Addr} {cs news : List Value} {r : List Ck} (hn : Nat.blt d n = true) (hu : P.underlying t = some (.slice e)) (hi : (P.info? e).map (fun i => (i.zero.map (·.cells.size), i.size, i.bytes)) = some (some sz, sz, bytes)) (hsz : Nat.blt 0 sz = true)
    (hs : ev l s = some v) (hx : ev l x = some (.slice ad j cap)) (hsel : Sel m (own e sz v k cs) r) (had : 0 < j → ad = some ⟨b, off, none⟩) (hnil : ad = none → cap = 0) (hl : news.length = j * sz) (hnews : ∀ w, Hp w0 S w m → News w b off news) (h1 : ∀ u ∈ news, u.oneCell' = true)
    (hbig : (k + j) * bytes ≤ 140737488355328) (h63 : k + j ≤ 9223372036854775807)
    (h : ∀ v', G n w0 S ((d, v') :: l) (own e sz v' (k + j) (cs ++ news) :: r) K) : G n w0 S l m (fun a w => Oper.wp P ⟨some d, .call ⟨.builtin .append, #[s, x], #[t, t]⟩, ty, pos, after, g⟩ a w K Q) := G.eff rfl hn fun a w ha hw => by
  obtain ⟨i, hi1, hi2⟩ := Option.map_eq_some_iff.1 hi
  have hi3 : i.zero.map (·.cells.size) = some sz := congrArg Prod.fst hi2
  have hi4 : i.size = sz := congrArg (fun p => p.2.1) hi2
  have hi5 : i.bytes = bytes := congrArg (fun p => p.2.2) hi2
  obtain ⟨z, hz, hz2⟩ := Option.map_eq_some_iff.1 hi3
  have hsz' : 0 < sz := by simpa using hsz
  have hw' := hw.sel hsel
  have hown : w.ownsRow 0 e sz v k cs := hw'.holds _ (List.mem_cons_self ..)
  have run : ∀ v' w', (Builtin.append_ #[t, t] ty #[v, .slice ad j cap]).run P w = .ok v' w' → (execOp a.eval ⟨some d, .call ⟨.builtin .append, #[s, x], #[t, t]⟩, ty, pos, after, g⟩).run P w = .ok (.value v') w' := fun v' w' hr => by
    simp only [execOp, resolve, invoke, builtin, Sem.run_bind, Sem.run_pure, Result.andThen_ok, List.map_toArray, List.map_cons, List.map_nil, ha.eval hs, ha.eval hx, hr]
  cases ad with
  | none =>
    have hj : j = 0 := by
      rcases Nat.eq_zero_or_pos j with h | h
      · exact h
      · cases had h
    subst hj
    have hnw : news = [] := List.eq_nil_of_length_eq_zero (by simpa using hl)
    subst hnw
    have := hnil rfl
    subst this
    have hr := run_append_owned_none (P := P) w 0 t ty e i sz hu hi1 v k cs hown
    refine ⟨_, _, _, run _ _ hr, hw', ?_⟩
    have := h v
    simpa using this
  | some ad =>
    obtain ⟨v', w', hr, h2, h3, h4⟩ := run_append_own' (P := P) (w := w) t ty e i z sz bytes hu hi1 hz hi4 hi5 hz2 hsz' v k cs hown ad j cap news hl (fun i u hu => by
      have hj : 0 < j := by
        rcases Nat.eq_zero_or_pos j with h | h
        · subst h
          have : news = [] := List.eq_nil_of_length_eq_zero (by simpa using hl)
          subst this
          simp at hu
        · exact h
      have e1 := Option.some.inj (had hj)
      rw [e1, addr_mid]
      exact hnews w hw i u hu) h1 (by unfold maxLen; omega) hbig
    exact ⟨_, _, _, run _ _ hr, hp_append hw' h2 h3 h4, h v'⟩
theorem G.make {t e d : Nat} {xl xc : Operand} {z : Value} {kl kc : IntKind} {jl jc : Int} {len cap sz bytes : Nat} (hn : Nat.blt d n = true) (hu : P.underlying t = some (.slice e)) (hi : (P.info? e).map (fun i => (i.zero, i.size, i.bytes)) = some (some z, sz, bytes)) (hl : ev l xl = some (.int kl jl)) (hc : ev l xc = some (.int kc jc)) (hjl : jl = (len : Int)) (hjc : jc = (cap : Int)) (hlc : len ≤ cap) (hb : bytes * cap ≤ 281474976710656) (h63 : cap ≤ 9223372036854775807) (hz : z.cells = #[z]) (hsz : sz = 1)
    (h : ∀ b, G n w0 S ((d, .slice (some ⟨b, 0, none⟩) len cap) :: l) (blk b e (List.replicate cap z) :: m) K) : G n w0 S l m (fun a w => Oper.wp P ⟨some d, .makeSlice t xl xc, ty, pos, after, g⟩ a w K Q) := G.eff rfl hn fun a w ha hw => by
  obtain ⟨i, hi1, hi2⟩ := Option.map_eq_some_iff.1 hi
  have hi3 : i.zero = some z := congrArg Prod.fst hi2
  have hi4 : i.size = sz := congrArg (fun p => p.2.1) hi2
  have hi5 : i.bytes = bytes := congrArg (fun p => p.2.2) hi2
  subst hjl hjc hsz
  have hr := run_make (P := P) w t e i z hu hi1 hi3 kl kc len cap (by omega) (by omega) (by
    rw [hi5]
    have h : ((bytes * cap : Nat) : Int) ≤ 281474976710656 := by omega
    rwa [Int.natCast_mul] at h) (by omega)
  rw [← ha.eval hl, ← ha.eval hc] at hr
  simp only [Int.toNat_natCast, hi4, Nat.mul_one, hz] at hr
  have e1 : madeCells #[z] cap = (List.replicate cap z).toArray := by
    apply Array.ext_getElem?
    intro i
    by_cases h : i < cap
    · simp [madeCells, h, Nat.mod_one]
    · simp [madeCells, h]
  rw [e1] at hr
  exact ⟨_, _, _, run_v hr, hw.alloc _ _, h _⟩
end
end Go.Proofs.YtkhffndeomihhaaDoor
