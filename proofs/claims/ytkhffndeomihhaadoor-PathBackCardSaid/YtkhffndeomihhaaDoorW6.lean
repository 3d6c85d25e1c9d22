/- A walk by chunks: copy, and small helps. Conditions: none. -/
import Derived.Test.YtkhffndeomihhaaDoorW5
set_option linter.unusedVariables false
set_option linter.unusedSimpArgs false
set_option maxRecDepth 100000
namespace Go.Proofs.YtkhffndeomihhaaDoor
open Go.RowKit

section
variable {P : Program} {n : Nat} {w0 : World} {S : Nat → Prop} {l : Fr} {m : List Ck} {Q : Exit → Act → World → Prop} {K : Act → World → Prop}
  {dst : Option Tmp} {ty : TypeId} {pos : String} {after : Array Edge} {g : Option (Nat × Bool)}
theorem Hp.row {w : World} {b : Nat} {T : TypeId} {cs cs' : List Value} {r : List Ck} (hw : Hp w0 S w (blk b T cs :: r)) : Hp w0 S (w.setRow b cs'.toArray) (blk b T cs' :: r) := by
  have hh := hw.holds _ (List.mem_cons_self ..)
  refine Hp.turn (p := [blk b T cs]) (p' := [blk b T cs']) hw ⟨(Chg.refl _ _).setRow ⟨_, List.mem_cons_self .., rfl⟩ _, fun c hc => ?_, fun c hc k hk => ?_, by simp⟩
  · obtain rfl : c = _ := by simpa using hc
    exact setRow_heap w b _ _ T (0, 0) hh
  · obtain rfl : c = _ := by simpa using hc
    obtain rfl : k = b := hk
    refine ⟨.inl ⟨_, List.mem_cons_self .., rfl⟩, ?_⟩
    have := (hw.own _ (List.mem_cons_self ..) k rfl).2
    simpa using this
/-- 'copy' into a block of the call's own -/
theorem G.copy {dT sT e d b o dLen dCap j cap b' off : Nat} {xd xs : Operand} {T : TypeId} {ad : Option Addr} {cs news cs' : List Value} {r : List Ck} (hn : Nat.blt d n = true) (hu : P.underlying dT = some (.slice e)) (hsz : (P.info? e).map (·.size) = some 1)
    (hd : ev l xd = some (.slice (some ⟨b, o, none⟩) dLen dCap)) (hs : ev l xs = some (.slice ad j cap)) (hsel : Sel m (blk b T cs) r) (had : 0 < j → ad = some ⟨b', off, none⟩) (hnews : ∀ w, Hp w0 S w m → News w b' off news) (hl : news.length = min j dLen) (h1 : ∀ u ∈ news, u.oneCell' = true) (hfit : o + news.length ≤ cs.length)
    (hcs : cs.take o ++ news ++ cs.drop (o + news.length) = cs')
    (h : G n w0 S ((d, .int .i64 (news.length : Int)) :: l) (blk b T cs' :: r) K) : G n w0 S l m (fun a w => Oper.wp P ⟨some d, .call ⟨.builtin .copy, #[xd, xs], #[dT, sT]⟩, ty, pos, after, g⟩ a w K Q) := G.eff rfl hn fun a w ha hw => by
  have hw' := hw.sel hsel
  have hh := hw'.holds _ (List.mem_cons_self ..)
  have run : ∀ v' w', (Builtin.copy_ #[dT, sT] ty #[.slice (some ⟨b, o, none⟩) dLen dCap, .slice ad j cap]).run P w = .ok v' w' → (execOp a.eval ⟨some d, .call ⟨.builtin .copy, #[xd, xs], #[dT, sT]⟩, ty, pos, after, g⟩).run P w = .ok (.value v') w' := fun v' w' hr => by
    simp only [execOp, resolve, invoke, builtin, Sem.run_bind, Sem.run_pure, Result.andThen_ok, List.map_toArray, List.map_cons, List.map_nil, ha.eval hd, ha.eval hs, hr]
  by_cases h0 : news = []
  · subst h0
    have e : cs' = cs := by rw [← hcs]; simp
    subst e
    exact ⟨_, _, _, run _ _ (run_copy_none w dT sT ty e _ _ dLen dCap j cap hu hsz (by simpa [Nat.min_def] using hl.symm)), hw', h⟩
  · have hpos : 0 < news.length := List.length_pos_iff.2 h0
    obtain rfl := had (by omega)
    have hr := run_copy_row (P := P) w dT sT ty e b o dLen dCap ⟨b', off, none⟩ j cap cs.toArray T news hu hsz hh hl (fun i u hi => by rw [addr_mid]; exact hnews w hw i u hi) (by simpa using hfit) h1
    refine ⟨_, _, _, run _ _ hr, ?_, h⟩
    have := hw'.row (cs' := cs')
    rw [← hcs] at this
    simpa [hcs] using this
theorem vInt_one (xs : List Int) : ∀ u ∈ xs.map vInt, u.oneCell' = true := by
  intro u hu
  obtain ⟨x, _, rfl⟩ := List.mem_map.1 hu
  rfl
theorem vByte_one (xs : List UInt8) : ∀ u ∈ xs.map vByte, u.oneCell' = true := by
  intro u hu
  obtain ⟨x, _, rfl⟩ := List.mem_map.1 hu
  rfl
theorem vStr_one (xs : List (List UInt8)) : ∀ u ∈ xs.map vStr, u.oneCell' = true := by
  intro u hu
  obtain ⟨x, _, rfl⟩ := List.mem_map.1 hu
  rfl
/-- a slice that is read, opened, with what lies in it -/
theorem Ro.news {α : Type} {f : α → Value} {p : α → Prop} {Ps : Nat → Prop} {v : Value} {xs : List α} (h : Ro w0 S (slc (r1 f p) Ps v xs)) : ∃ ad cap b off, v = .slice ad xs.length cap ∧ xs.length ≤ cap ∧ cap ≤ 9223372036854775807 ∧ (ad = none → cap = 0) ∧ (0 < xs.length → ad = some ⟨b, off, none⟩) ∧ (∀ {m : List Ck} w, Hp w0 S w m → News w b off (xs.map f)) ∧ ∀ x ∈ xs, p x := by
  obtain ⟨⟨ad, cap, b, off, e, hs⟩, hP⟩ := id h
  refine ⟨ad, cap, b, off, e, hs.hcap, hs.hmax, hs.hnil, hs.had, fun {m} w hw j u hj => ?_, fun x hx => ?_⟩
  · rw [List.getElem?_map] at hj
    obtain ⟨x, hx, rfl⟩ := Option.map_eq_some_iff.1 hj
    obtain ⟨hi, rfl⟩ := List.getElem?_eq_some_iff.1 hx
    have hr : Ro w0 S (elc (r1 f p) Ps b (off + j * (r1 f p).sz) xs[j]) := ⟨hs.cell j hi, hP⟩
    have := ro_cell hr w hw
    rwa [show off + j * (r1 f p).sz = off + j from by show off + j * 1 = _; omega] at this
  · obtain ⟨i, hi, rfl⟩ := List.getElem_of_mem hx
    exact (hs.cell i hi).2.2
/-- the first so many of a block's cells as a slice -/
theorem may_pre {α : Type} {f : α → Value} {p : α → Prop} {b len cap : Nat} {T : TypeId} {xs ys : List α} {r : List Ck} (h : Sel m (blk b T (xs.map f)) r) (hx : xs.take len = ys) (hp : ∀ x ∈ xs, p x) (hl : len ≤ xs.length) (hc : len ≤ cap) (hm : cap ≤ 9223372036854775807) :
    May w0 S m (slc (r1 f p) (· = b) (.slice (some ⟨b, 0, none⟩) len cap) ys) := by
  have e : ys.length = len := by rw [← hx]; simp; omega
  subst hx
  have := may_blk (w0 := w0) (S := S) (f := f) (p := p) (off := 0) (cap := cap) (xs := xs.take len) h (by rw [e, List.drop_zero, ← List.map_take]) (fun x hx => hp x (List.mem_of_mem_take hx)) (by omega) hm
  rwa [e] at this
theorem may_all {α : Type} {f : α → Value} {p : α → Prop} {b len cap : Nat} {T : TypeId} {xs : List α} {r : List Ck} (h : Sel m (blk b T (xs.map f)) r) (hp : ∀ x ∈ xs, p x) (hl : xs.length = len) (hc : len ≤ cap) (hm : cap ≤ 9223372036854775807) :
    May w0 S m (slc (r1 f p) (· = b) (.slice (some ⟨b, 0, none⟩) len cap) xs) := may_pre h (by rw [← hl, List.take_length]) hp (by omega) hc hm
theorem own_cell1 {w : World} {e sz k : Nat} {v : Value} {cs : List Value} (h : w.ownsRow 0 e sz v k cs) : v.oneCell' = true := by
  rcases h.2 with ⟨rfl, _⟩ | ⟨g, cap, cur, rfl, _⟩ <;> rfl
/-- what a slice of the call's own is, where a proof wants it -/
theorem G.ownFact {e sz k : Nat} {v : Value} {cs : List Value} {r : List Ck} (hs : Sel m (own e sz v k cs) r) (h : v.oneCell' = true → cs.length = k * sz → G n w0 S l m K) : G n w0 S l m K :=
  G.fact (p := v.oneCell' = true ∧ cs.length = k * sz) (fun w hw => ⟨own_cell1 (hw.holds _ hs.mem), (hw.holds _ hs.mem : w.ownsRow 0 e sz v k cs).1⟩) fun h1 => h h1.1 h1.2
/-- the slice's parts -/
theorem G.ownOpen {e sz k : Nat} {v : Value} {cs : List Value} {r : List Ck} (hs : Sel m (own e sz v k cs) r) (h : ∀ ad cap, v = .slice ad k cap → k ≤ cap → cap ≤ 9223372036854775807 → G n w0 S l m K) : G n w0 S l m K := fun a w ha hw => by
  obtain ⟨ad, cap, e1, _, e3, e4⟩ := own_len hs w hw
  exact h ad cap e1 e3 e4 a w ha hw
theorem own_news {w : World} {e sz k : Nat} {v : Value} {cs : List Value} (h : w.ownsRow 0 e sz v k cs) : ∃ ad cap b, v = .slice ad k cap ∧ (0 < k → ad = some ⟨b, 0, none⟩) ∧ (ad = none → cap = 0) ∧ News w b 0 cs := by
  have h0 := h
  rcases h.2 with ⟨rfl, rfl⟩ | ⟨g', cap, cur, rfl, _, hg, _⟩
  · have : cs = [] := List.eq_nil_of_length_eq_zero (by simpa using h.1)
    subst this
    exact ⟨none, 0, 0, rfl, (fun h => absurd h (by omega)), fun _ => rfl, fun j u hu => by simp at hu⟩
  · exact ⟨_, cap, g', rfl, fun _ => rfl, (fun h => by cases h), fun j u hu => by
      have := h0.cells (g := g') rfl j u hu
      rw [addr_mid] at this
      exact this⟩
/-- a slice of the call's own, grown by another one of its own -/
theorem G.appendO {t e d sz bytes k j : Nat} {s x : Operand} {v u : Value} {cs news : List Value} {r r' : List Ck} (hn : Nat.blt d n = true) (hu : P.underlying t = some (.slice e)) (hi : (P.info? e).map (fun i => (i.zero.map (·.cells.size), i.size, i.bytes)) = some (some sz, sz, bytes)) (hsz : Nat.blt 0 sz = true)
    (hs : ev l s = some v) (hx : ev l x = some u) (hsel : Sel m (own e sz v k cs) r) (hsel' : Sel m (own e sz u j news) r') (h1 : ∀ u ∈ news, u.oneCell' = true)
    (hbig : (k + j) * bytes ≤ 140737488355328) (h63 : k + j ≤ 9223372036854775807)
    (h : ∀ v', G n w0 S ((d, v') :: l) (own e sz v' (k + j) (cs ++ news) :: r) K) : G n w0 S l m (fun a w => Oper.wp P ⟨some d, .call ⟨.builtin .append, #[s, x], #[t, t]⟩, ty, pos, after, g⟩ a w K Q) := fun a w ha hw => by
  have ho : w.ownsRow 0 e sz u j news := hw.holds _ hsel'.mem
  obtain ⟨ad, cap, b, rfl, had, hnil, hnw⟩ := own_news ho
  refine G.append (K := K) (Q := Q) (w0 := w0) (S := S) (m := m) (l := l) (off := 0) (b := b) hn hu hi hsz hs hx hsel had hnil ho.1 (fun w2 hw2 => ?_) h1 hbig h63 h a w ha hw
  have ho2 : w2.ownsRow 0 e sz (.slice ad j cap) j news := hw2.holds _ hsel'.mem
  obtain ⟨ad2, cap2, b2, e2, had2, _, hnw2⟩ := own_news ho2
  injection e2 with e3 e4 e5
  subst e3
  intro i x hx
  have hj : 0 < j := by
    rcases Nat.eq_zero_or_pos j with h0 | h0
    · subst h0
      have : news = [] := List.eq_nil_of_length_eq_zero (by simpa using ho.1)
      subst this
      simp at hx
    · exact h0
  have := (had hj).symm.trans (had2 hj)
  injection this with this
  injection this with e6
  subst e6
  exact hnw2 i x hx
/-- a slice of the call's own, grown by whatever slice reads so -/
theorem G.appendS {α : Type} {f : α → Value} {p : α → Prop} {Ps : Nat → Prop} {t e d bytes k : Nat} {s x : Operand} {v u : Value} {cs : List Value} {xs : List α} {r : List Ck} (hn : Nat.blt d n = true) (hu : P.underlying t = some (.slice e)) (hi : (P.info? e).map (fun i => (i.zero.map (·.cells.size), i.size, i.bytes)) = some (some 1, 1, bytes))
    (hs : ev l s = some v) (hx : ev l x = some u) (hsel : Sel m (own e 1 v k cs) r) (hsl : ∀ w, Hp w0 S w m → IsSl (r1 f p) Ps w u xs) (h1 : ∀ u ∈ xs.map f, u.oneCell' = true)
    (hbig : (k + xs.length) * bytes ≤ 140737488355328) (h63 : k + xs.length ≤ 9223372036854775807)
    (h : ∀ v', G n w0 S ((d, v') :: l) (own e 1 v' (k + xs.length) (cs ++ xs.map f) :: r) K) : G n w0 S l m (fun a w => Oper.wp P ⟨some d, .call ⟨.builtin .append, #[s, x], #[t, t]⟩, ty, pos, after, g⟩ a w K Q) := fun a w ha hw => by
  obtain ⟨ad, cap, b, off, rfl, hsv⟩ := hsl w hw
  refine G.append (K := K) (Q := Q) (w0 := w0) (S := S) (m := m) (l := l) (off := off) (b := b) hn hu hi rfl hs hx hsel hsv.had hsv.hnil (by simp) (fun w2 hw2 => ?_) h1 hbig h63 h a w ha hw
  obtain ⟨ad2, cap2, b2, off2, e2, hs2⟩ := hsl w2 hw2
  injection e2 with e3 e4 e5
  subst e3
  intro i y hy
  rw [List.getElem?_map] at hy
  obtain ⟨z, hz, rfl⟩ := Option.map_eq_some_iff.1 hy
  obtain ⟨hi, rfl⟩ := List.getElem?_eq_some_iff.1 hz
  have hj : 0 < xs.length := by omega
  have := (hsv.had hj).symm.trans (hs2.had hj)
  injection this with this
  injection this with e6 e7
  subst e6 e7
  have := (hs2.cell i hi).2.1
  rwa [show off + i * (r1 f p).sz = off + i from by show off + i * 1 = _; omega] at this
theorem own_app {α : Type} (f : α → Value) (e : Nat) (v : Value) (xs ys : List α) : own e 1 v (xs.length + ys.length) (xs.map f ++ ys.map f) = own e 1 v (xs ++ ys).length ((xs ++ ys).map f) := by rw [List.length_append, List.map_append]
/-- where a slice of the call's own lies -/
theorem G.ownNews {e sz k : Nat} {v : Value} {cs : List Value} {r : List Ck} (hs : Sel m (own e sz v k cs) r) (h : ∀ ad cap bb, v = .slice ad k cap → k ≤ cap → cap ≤ 9223372036854775807 → (0 < k → ad = some ⟨bb, 0, none⟩) → (ad = none → cap = 0) → (∀ {m' r' : List Ck}, Sel m' (own e sz v k cs) r' → ∀ w, Hp w0 S w m' → News w bb 0 cs) → G n w0 S l m K) : G n w0 S l m K := fun a w ha hw => by
  have ho : w.ownsRow 0 e sz v k cs := hw.holds _ hs.mem
  obtain ⟨ad, cap, b, hv, had, hnil, hnw⟩ := own_news ho
  obtain ⟨ad', cap', hv', _, hk1, hk2⟩ := own_len hs w hw
  rw [hv] at hv'
  injection hv' with e1 e2 e3
  subst e3
  refine h ad cap b hv hk1 hk2 had hnil (fun {m' r'} hs' w' hw' => ?_) a w ha hw
  have ho2 : w'.ownsRow 0 e sz v k cs := hw'.holds _ hs'.mem
  obtain ⟨ad2, cap2, b2, hv2, had2, _, hnw2⟩ := own_news ho2
  rw [hv] at hv2
  injection hv2 with e3 e4 e5
  intro i x hx
  have hj : 0 < k := by
    rcases Nat.eq_zero_or_pos k with h0 | h0
    · subst h0
      have : cs = [] := List.eq_nil_of_length_eq_zero (by simpa using ho.1)
      subst this
      simp at hx
    · exact h0
  have := (had hj).symm.trans (e3.trans (had2 hj))
  injection this with this
  injection this with e6
  subst e6
  exact hnw2 i x hx
theorem News.byte {w : World} {b off : Nat} {xs : List UInt8} (h : News w b off (xs.map vByte)) (i : Nat) (hi : i < xs.length) : w.cell? ⟨b, off + i * 1, none⟩ = some (.int .u8 (xs[i].toNat : Int)) := by
  rw [Nat.mul_one]
  exact h i _ (by simp [hi, vByte])
/-- the bits of numbers -/
theorem and_mask (k : Nat) (hk : k ≤ 62) (x : Int) (h0 : 0 ≤ x) (h1 : x ≤ 9223372036854775807) : bits .and .i64 x ((2 : Int) ^ k - 1) = x % 2 ^ k := by
  obtain ⟨a, rfl⟩ : ∃ a : Nat, x = a := ⟨x.toNat, by omega⟩
  have hp : 1 ≤ 2 ^ k := Nat.one_le_two_pow
  have e1 : ((2 : Int) ^ k - 1) = ((2 ^ k - 1 : Nat) : Int) := by
    rw [Int.natCast_sub hp, Int.natCast_pow]; rfl
  have hlt : 2 ^ k ≤ 2 ^ 62 := Nat.pow_le_pow_right (by omega) hk
  have h64 : (2 : Nat) ^ 62 = 4611686018427387904 := rfl
  have ha : a < 18446744073709551616 := by omega
  unfold bits
  rw [e1]
  show IntKind.i64.wrap ((BitVec.ofInt 64 (a : Int) &&& BitVec.ofInt 64 ((2 ^ k - 1 : Nat) : Int)).toNat : Int) = _
  have e2 : (BitVec.ofInt 64 (a : Int) &&& BitVec.ofInt 64 ((2 ^ k - 1 : Nat) : Int)).toNat = a % 2 ^ k := by
    rw [BitVec.toNat_and, BitVec.ofInt_natCast, BitVec.ofInt_natCast, BitVec.toNat_ofNat, BitVec.toNat_ofNat, Nat.mod_eq_of_lt (by simpa using ha), Nat.mod_eq_of_lt (show 2 ^ k - 1 < 2 ^ 64 by have : (2 : Nat) ^ 64 = 18446744073709551616 := rfl; omega), Nat.and_two_pow_sub_one_eq_mod]
  rw [e2, wrap_i64 ⟨by omega, by have := Nat.mod_lt a (show 0 < 2 ^ k by omega); omega⟩, Int.natCast_emod, Int.natCast_pow]
  rfl
theorem or_add (k a c : Nat) (hk : k ≤ 62) (hc : c < 2 ^ k) (h : a * 2 ^ k + c ≤ 9223372036854775807) : bits .or .i64 ((a : Int) * 2 ^ k) (c : Int) = (a : Int) * 2 ^ k + c := by
  have e1 : ((a : Int) * 2 ^ k) = ((a * 2 ^ k : Nat) : Int) := by rw [Int.natCast_mul, Int.natCast_pow]; rfl
  unfold bits
  rw [e1]
  show IntKind.i64.wrap ((BitVec.ofInt 64 ((a * 2 ^ k : Nat) : Int) ||| BitVec.ofInt 64 (c : Int)).toNat : Int) = _
  have e2 : (BitVec.ofInt 64 ((a * 2 ^ k : Nat) : Int) ||| BitVec.ofInt 64 (c : Int)).toNat = a * 2 ^ k + c := by
    have h64 : (2 : Nat) ^ 64 = 18446744073709551616 := rfl
    rw [BitVec.toNat_or, BitVec.ofInt_natCast, BitVec.ofInt_natCast, BitVec.toNat_ofNat, BitVec.toNat_ofNat, Nat.mod_eq_of_lt (by omega), Nat.mod_eq_of_lt (by omega), Nat.mul_comm, Nat.two_pow_add_eq_or_of_lt hc]
  rw [e2, wrap_i64 ⟨by omega, by omega⟩, Int.natCast_add]
theorem wrap_u8 {x : Int} (h : 0 ≤ x ∧ x ≤ 255) : IntKind.u8.wrap x = x := by rw [IntKind.wrap_u8]; omega
end
end Go.Proofs.YtkhffndeomihhaaDoor
