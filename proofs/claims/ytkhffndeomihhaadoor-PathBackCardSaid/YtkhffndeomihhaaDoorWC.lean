/- A walk by chunks: regions that draw their order, by masks. Conditions: none. -/
import Derived.Test.YtkhffndeomihhaaDoorWB
set_option linter.unusedVariables false
set_option linter.unusedSimpArgs false
set_option maxRecDepth 100000
namespace Go.Proofs.YtkhffndeomihhaaDoor
open Go.RowKit

/-- what has not come up yet -/
structure Lst (listed : Array Bool) (rem n : Nat) : Prop where
  size : listed.size = n
  bit : ∀ j, j < n → listed[j]? = some (!rem.testBit j)
  small : rem < 2 ^ n
theorem Lst.start (n : Nat) : Lst (Array.replicate n false) (2 ^ n - 1) n := ⟨by simp, fun j hj => by
  rw [Array.getElem?_replicate, if_pos hj, Nat.testBit_two_pow_sub_one]
  simp [hj], by have := Nat.two_pow_pos n; omega⟩
theorem Lst.take {listed : Array Bool} {rem rem' n i : Nat} (h : Lst listed rem n) (hi : i < n) (hb : rem'.testBit i = false) (hr : rem' ||| 2 ^ i = rem) : Lst (listed.setIfInBounds i true) rem' n := by
  subst hr
  refine ⟨by simp [h.size], fun j hj => ?_, Nat.lt_of_le_of_lt Nat.left_le_or h.small⟩
  by_cases hij : i = j
  · subst hij
    rw [Array.getElem?_setIfInBounds_self_of_lt (by rw [h.size]; exact hi), hb]
    rfl
  · rw [Array.getElem?_setIfInBounds_ne hij, h.bit j hj, Nat.testBit_or, Nat.testBit_two_pow]
    simp [hij]
def maskOf : List Nat → Nat
  | [] => 0
  | k :: ks => Nat.lor (Nat.shiftLeft 1 k) (maskOf ks)
theorem maskOf_and (rem : Nat) : ∀ l : List Nat, (maskOf l &&& rem = 0) ↔ ∀ k ∈ l, rem.testBit k = false
  | [] => by simp [maskOf]
  | k :: l => by
    have ih := maskOf_and rem l
    have e : maskOf (k :: l) = (1 <<< k) ||| maskOf l := rfl
    have h1 : ((1 <<< k) &&& rem = 0) ↔ rem.testBit k = false := by
      rw [Nat.one_shiftLeft]
      constructor
      · intro h
        have := congrArg (fun x => x.testBit k) h
        simpa [Nat.testBit_and, Nat.testBit_two_pow_self] using this
      · intro h
        apply Nat.eq_of_testBit_eq
        intro j
        rw [Nat.testBit_and, Nat.zero_testBit, Nat.testBit_two_pow]
        by_cases hkj : k = j
        · subst hkj; rw [h]; simp
        · simp [hkj]
    rw [e, Nat.and_or_distrib_right, Nat.or_eq_zero_iff, h1, ih]
    simp
def depOf (ops : Array Oper) (o : Oper) : List Nat := (o.after.toList.filter (Region.binds .any)).map (·.on)
def conf (ops : Array Oper) (oi : Oper) (i j : Nat) (oj : Oper) : Bool := !(Nat.beq j i) && !(oj.after.any (fun e => Region.binds .any e && e.on == i) || oi.apart ops oj)
def confs (ops : Array Oper) (oi : Oper) (i : Nat) : Nat → List Oper → List Nat
  | _, [] => []
  | j, oj :: os => bif conf ops oi i j oj then j :: confs ops oi i (j + 1) os else confs ops oi i (j + 1) os
def tabGo (ops : Array Oper) (n : Nat) : Nat → List Oper → List Nat → List Nat → Bool
  | _, [], [], [] => true
  | i, o :: os, d :: ds, f :: fs => Nat.beq (maskOf (depOf ops o)) d && Nat.blt d (2 ^ n) && (Nat.beq (maskOf (confs ops o i 0 ops.toList)) f && tabGo ops n (i + 1) os ds fs)
  | _, _, _, _ => false
/-- a region's tables: what each waits for; what keeps each from being taken first -/
structure Tab (ops : Array Oper) (deps frs : List Nat) (n : Nat) : Prop where
  size : ops.size = n
  sel : Region.noSelect ops = true
  tab : tabGo ops n 0 ops.toList deps frs = true
theorem tabGo_at {ops : Array Oper} {n : Nat} : ∀ {i : Nat} {os : List Oper} {ds fs : List Nat}, tabGo ops n i os ds fs = true → ds.length = os.length ∧ ∀ k o, os[k]? = some o → ∃ d f, ds[k]? = some d ∧ fs[k]? = some f ∧ maskOf (depOf ops o) = d ∧ d < 2 ^ n ∧ maskOf (confs ops o (i + k) 0 ops.toList) = f
  | i, [], [], [], _ => ⟨rfl, fun k o h => by simp at h⟩
  | i, o :: os, d :: ds, f :: fs, h => by
    unfold tabGo at h
    simp only [Bool.and_eq_true] at h
    have ih := tabGo_at h.2.2
    refine ⟨by simp [ih.1], fun k o' hk => ?_⟩
    cases k with
    | zero =>
      obtain rfl : o = o' := by simpa using hk
      exact ⟨d, f, rfl, rfl, Nat.eq_of_beq_eq_true h.1.1, by simpa using h.1.2, Nat.eq_of_beq_eq_true h.2.1⟩
    | succ k =>
      obtain ⟨d', f', h1, h2, h3, h4, h5⟩ := ih.2 k o' (by simpa using hk)
      exact ⟨d', f', by simpa using h1, by simpa using h2, h3, h4, by rw [show i + (k + 1) = i + 1 + k by omega]; exact h5⟩
  | _, [], [], _ :: _, h => by cases h
  | _, [], _ :: _, _, h => by cases h
  | _, _ :: _, [], _, h => by cases h
  | _, _ :: _, _ :: _, [], h => by cases h
theorem mem_confs {ops : Array Oper} {oi : Oper} {i : Nat} (os : List Oper) : ∀ (j0 k : Nat) (oj : Oper), os[k]? = some oj → conf ops oi i (j0 + k) oj = true → (j0 + k) ∈ confs ops oi i j0 os := by
  induction os with
  | nil => intro j0 k oj h; simp at h
  | cons o os ih =>
    intro j0 k oj h hc
    have e : confs ops oi i j0 (o :: os) = bif conf ops oi i j0 o then j0 :: confs ops oi i (j0 + 1) os else confs ops oi i (j0 + 1) os := rfl
    rw [e]
    cases k with
    | zero =>
      obtain rfl : o = oj := by simpa using h
      rw [Nat.add_zero] at hc
      rw [hc, cond_true, Nat.add_zero]
      exact List.mem_cons_self ..
    | succ k =>
      have := ih (j0 + 1) k oj (by simpa using h) (by rw [show j0 + 1 + k = j0 + (k + 1) by omega]; exact hc)
      rw [show j0 + 1 + k = j0 + (k + 1) by omega] at this
      cases conf ops oi i j0 o
      · exact this
      · exact List.mem_cons_of_mem _ this
def readyGo (rem : Nat) : Nat → List Nat → List Nat
  | _, [] => []
  | i, d :: ds => match Nat.beq (Nat.land d rem) 0, Nat.beq (Nat.land (Nat.shiftRight rem i) 1) 1 with
    | true, true => i :: readyGo rem (i + 1) ds
    | _, _ => readyGo rem (i + 1) ds
theorem readyGo_cons (rem i d : Nat) (ds : List Nat) : readyGo rem i (d :: ds) = match Nat.beq (Nat.land d rem) 0, Nat.beq (Nat.land (Nat.shiftRight rem i) 1) 1 with
    | true, true => i :: readyGo rem (i + 1) ds
    | _, _ => readyGo rem (i + 1) ds := rfl
theorem bit_eq (rem i : Nat) : Nat.beq (Nat.land (Nat.shiftRight rem i) 1) 1 = rem.testBit i := by
  show Nat.beq ((rem >>> i) &&& 1) 1 = _
  rw [Nat.testBit, Nat.and_comm 1]
  have : (rem >>> i) &&& 1 = 0 ∨ (rem >>> i) &&& 1 = 1 := by rw [Nat.and_one_is_mod]; omega
  rcases this with h | h <;> rw [h] <;> rfl
section
variable {ops : Array Oper} {deps frs : List Nat} {nn : Nat} {listed : Array Bool} {rem : Nat}
theorem Tab.ready_iff (hT : Tab ops deps frs nn) (hl : Lst listed rem nn) {k d : Nat} {o : Oper} (ho : ops[k]? = some o) (hd : maskOf (depOf ops o) = d) (hdn : d < 2 ^ nn) :
    (!listed.getD k true && ((ops[k]?).map (·.after.all fun e => !Region.binds .any e || listed.getD e.on false)).getD false) = (Nat.beq (Nat.land d rem) 0 && rem.testBit k) := by
  have hk : k < nn := by rw [← hT.size]; exact (Array.getElem?_eq_some_iff.1 ho).1
  have h1 : (!listed.getD k true) = rem.testBit k := by simp [hl.bit k hk]
  rw [h1, ho, Bool.and_comm]
  simp only [Option.map_some, Option.getD_some]
  congr 1
  rw [Bool.eq_iff_iff, ← Array.all_toList, List.all_eq_true]
  have h2 : (Nat.beq (Nat.land d rem) 0 = true) ↔ ∀ q ∈ depOf ops o, rem.testBit q = false := by
    rw [← maskOf_and, hd]
    exact ⟨fun h => Nat.eq_of_beq_eq_true h, fun h => by show Nat.beq (d &&& rem) 0 = true; rw [h]; rfl⟩
  rw [h2]
  have hin : ∀ q ∈ depOf ops o, q < nn := fun q hq => by
    rcases Nat.lt_or_ge q nn with h | h
    · exact h
    · have hb : (maskOf (depOf ops o)).testBit q = true := by
        have key : ∀ l : List Nat, q ∈ l → (maskOf l).testBit q = true := by
          intro l
          induction l with
          | nil => intro h; cases h
          | cons x l ih =>
            intro h
            have e : maskOf (x :: l) = (1 <<< x) ||| maskOf l := rfl
            rw [e, Nat.testBit_or, Nat.one_shiftLeft, Nat.testBit_two_pow]
            rcases List.mem_cons.1 h with rfl | h
            · simp
            · rw [ih h]; simp
        exact key _ hq
      rw [hd] at hb
      have := Nat.testBit_lt_two_pow (x := d) (i := q) (Nat.lt_of_lt_of_le hdn (Nat.pow_le_pow_right (by omega) h))
      rw [this] at hb
      cases hb
  constructor
  · intro h q hq
    have hq' := hq
    unfold depOf at hq
    obtain ⟨e, he, rfl⟩ := List.mem_map.1 hq
    obtain ⟨he1, he2⟩ := List.mem_filter.1 he
    have := h e he1
    rw [he2] at this
    simpa [hl.bit _ (hin _ hq')] using this
  · intro h e he
    cases hb : Region.binds .any e with
    | false => rfl
    | true =>
      have hq : e.on ∈ depOf ops o := List.mem_map.2 ⟨e, List.mem_filter.2 ⟨he, hb⟩, rfl⟩
      have := h _ hq
      simp [hl.bit _ (hin _ hq), this]
theorem ready_go {f : Nat → Bool} : ∀ {ds : List Nat} {i : Nat}, (∀ k d, ds[k]? = some d → f (i + k) = (Nat.beq (Nat.land d rem) 0 && rem.testBit (i + k))) → (List.range' i ds.length).filter f = readyGo rem i ds
  | [], i, _ => rfl
  | d :: ds, i, h => by
    have h0 := h 0 d rfl
    rw [Nat.add_zero] at h0
    have ih := ready_go (f := f) (ds := ds) (i := i + 1) fun k d' hk => by
      have := h (k + 1) d' (by simpa using hk)
      rwa [show i + (k + 1) = i + 1 + k by omega] at this
    rw [List.length_cons, List.range'_succ, List.filter_cons, ih, h0, readyGo_cons, bit_eq]
    cases Nat.beq (Nat.land d rem) 0 <;> cases rem.testBit i <;> rfl
theorem Tab.ready (hT : Tab ops deps frs nn) (hl : Lst listed rem nn) : Region.ready .any ops listed = readyGo rem 0 deps := by
  have hh := tabGo_at hT.tab
  have hlen : deps.length = ops.size := by rw [hh.1]; simp
  unfold Region.ready
  rw [List.range_eq_range', ← hlen]
  refine ready_go fun k d hk => ?_
  have hlt : k < ops.size := by rw [← hlen]; exact (List.getElem?_eq_some_iff.1 hk).1
  obtain ⟨d', f', h1, h2, h3, h4, h5⟩ := hh.2 k ops[k] (by simp [hlt])
  rw [hk] at h1
  injection h1 with h1
  subst h1
  rw [Nat.zero_add]
  exact hT.ready_iff hl (Array.getElem?_eq_getElem hlt) h3 h4
theorem Tab.free (hT : Tab ops deps frs nn) (hl : Lst listed rem nn) {i f : Nat} {oi : Oper} (hi : ops[i]? = some oi) (hf : frs[i]? = some f) (h : Nat.beq (Nat.land f rem) 0 = true) : Region.free .any ops listed i = true := by
  have hh := tabGo_at hT.tab
  obtain ⟨d', f', h1, h2, h3, h4, h5⟩ := hh.2 i oi (by simpa using hi)
  rw [hf] at h2
  injection h2 with h2
  subst h2
  rw [Nat.zero_add] at h5
  have h6 : maskOf (confs ops oi i 0 ops.toList) &&& rem = 0 := by rw [h5]; exact Nat.eq_of_beq_eq_true h
  rw [maskOf_and] at h6
  unfold Region.free
  rw [hi]
  simp only [List.all_eq_true, List.mem_range]
  intro j hj
  rw [Array.getElem?_eq_getElem hj]
  simp only
  cases hc : conf ops oi i j ops[j] with
  | true =>
    have hm := mem_confs (ops := ops) (oi := oi) (i := i) ops.toList 0 j ops[j] (by simp [hj]) (by rw [Nat.zero_add]; exact hc)
    rw [Nat.zero_add] at hm
    have hb := h6 j hm
    have hl' := hl.bit j (by rw [← hT.size]; exact hj)
    simp [hl', hb]
  | false =>
    unfold conf at hc
    by_cases hji : j = i
    · simp [hji]
    · have : Nat.beq j i = false := by
        cases hbb : Nat.beq j i with
        | false => rfl
        | true => exact absurd (Nat.eq_of_beq_eq_true hbb) hji
      rw [this] at hc
      simp only [Bool.not_false, Bool.true_and, Bool.not_eq_false'] at hc
      rw [hc]
      simp
end
section
variable {P : Program} {n : Nat} {w0 : World} {S : Nat → Prop} {l : Fr} {m : List Ck} {Q : Exit → Act → World → Prop} {K : Act → World → Prop}
  {ops : Array Oper} {deps frs : List Nat} {nn rem rem' fuel i d : Nat} {oi : Oper} {v : Value} {mS r : List Ck}
theorem pv_notP {dst : Option Tmp} {ty : TypeId} {pos : String} {after : Array Edge} {g : Option (Nat × Bool)} {p : Prop} [Decidable p] {t : TypeId} {x : Operand} (hx : ev l x = some (.bool (decide p))) : PV P n w0 S l m ⟨dst, .unOp .not t x, ty, pos, after, g⟩ (.bool (decide (¬ p))) := by
  have := pv_not (P := P) (n := n) (w0 := w0) (S := S) (m := m) (dst := dst) (ty := ty) (pos := pos) (after := after) (g := g) (t := t) hx
  rwa [← decide_not] at this
/-- the rest of a region -/
def GA (P : Program) (ops : Array Oper) (Q : Exit → Act → World → Prop) (Sx : World → Prop) (nn fuel rem : Nat) : Act → World → Prop := fun a w => ∀ listed, Lst listed rem nn → wpAnyH P .any ops Q Sx fuel listed a w
theorem G.drawT {id : Nat} {p : List Ck} (deps frs : List Nat) (hm : P.follows .mixedOrders = true) (hT : Tab ops deps frs nn) (hs : Sub m p mS) (hr : Nat.beq rem (2 ^ nn - 1) = true) (h : Tab ops deps frs nn → G n w0 S l m (GA P ops Q (fun w => Hp w0 S w mS) nn nn rem)) : G n w0 S l m ((Code.region id ops true).wp P Q) :=
  G.drawn hm hT.size mS fun a w ha hw => h hT a w ha hw _ (by rw [Nat.eq_of_beq_eq_true hr]; exact Lst.start nn)
def bitB (rem i : Nat) : Bool := Nat.beq (Nat.land (Nat.shiftRight rem i) 1) 1
theorem Lst.tk {listed : Array Bool} (h : Lst listed rem nn) (hb : bitB rem' i = false) (hr : Nat.beq (Nat.lor rem' (Nat.shiftLeft 1 i)) rem = true) : Lst (listed.setIfInBounds i true) rem' nn := by
  have e : rem' ||| 2 ^ i = rem := by rw [← Nat.one_shiftLeft]; exact Nat.eq_of_beq_eq_true hr
  have hb' : rem.testBit i = true := by rw [← e, Nat.testBit_or, Nat.testBit_two_pow_self, Bool.or_true]
  have hi : i < nn := by
    rcases Nat.lt_or_ge i nn with hlt | hge
    · exact hlt
    · have := Nat.testBit_lt_two_pow (x := rem) (i := i) (Nat.lt_of_lt_of_le h.small (Nat.pow_le_pow_right (by omega) hge))
      rw [this] at hb'
      cases hb'
  exact h.take hi (by rw [← bit_eq]; exact hb) e
def rmB (rem i rem' : Nat) : Bool := !bitB rem' i && Nat.beq (Nat.lor rem' (Nat.shiftLeft 1 i)) rem
theorem Lst.tk' {listed : Array Bool} (h : Lst listed rem nn) (hb : rmB rem i rem' = true) : Lst (listed.setIfInBounds i true) rem' nn := by
  unfold rmB at hb
  rw [Bool.and_eq_true] at hb
  exact h.tk (by simpa using hb.1) hb.2
def tkB (deps frs : List Nat) (rem i rem' : Nat) : Bool := match deps[i]?, frs[i]? with
  | some dd, some f => Nat.beq (Nat.land dd rem) 0 && (Nat.beq (Nat.land f rem) 0 && (bitB rem i && rmB rem i rem'))
  | _, _ => false
theorem tkB_spec (h : tkB deps frs rem i rem' = true) : ∃ dd f, deps[i]? = some dd ∧ frs[i]? = some f ∧ Nat.beq (Nat.land dd rem) 0 = true ∧ Nat.beq (Nat.land f rem) 0 = true ∧ bitB rem i = true ∧ rmB rem i rem' = true := by
  unfold tkB at h
  split at h
  · rename_i dd f h1 h2
    simp only [Bool.and_eq_true] at h
    exact ⟨dd, f, h1, h2, h.1, h.2.1, h.2.2.1, h.2.2.2⟩
  · cases h
theorem mem_readyGo {dd : Nat} : ∀ {ds : List Nat} {k i : Nat}, ds[k]? = some dd → Nat.beq (Nat.land dd rem) 0 = true → bitB rem (i + k) = true → (i + k) ∈ readyGo rem i ds
  | x :: ds, 0, i, h, h1, h2 => by
    obtain rfl : x = dd := by simpa using h
    unfold readyGo
    rw [Nat.add_zero] at h2 ⊢
    unfold bitB at h2
    rw [h1, h2]
    exact List.mem_cons_self ..
  | x :: ds, k + 1, i, h, h1, h2 => by
    have := mem_readyGo (ds := ds) (k := k) (i := i + 1) (by simpa using h) h1 (by rwa [show i + 1 + k = i + (k + 1) by omega])
    rw [show i + 1 + k = i + (k + 1) by omega] at this
    unfold readyGo
    split
    · exact List.mem_cons_of_mem _ this
    · exact this
theorem G.takeT (hT : Tab ops deps frs nn) (hi : ops[i]? = some oi) (hd : oi.dst = some d) (hn : Nat.blt d n = true) (hk : tkB deps frs rem i rem' = true)
    (hQ : ∀ c a w, Q (.panic c) (a.put oi.dst v) w → Q (.panic c) a w) (hw : wantB ops l oi = some true) (hv : PV P n w0 S l mS oi v) (hs : Sub m mS r)
    (h : G n w0 S ((d, v) :: l) m (GA P ops Q (fun w => Hp w0 S w mS) nn fuel rem')) : G n w0 S l m (GA P ops Q (fun w => Hp w0 S w mS) nn (fuel + 1) rem) := fun a w ha hw' listed hl => by
  obtain ⟨dd, f, h1, h2, h3, h4, h5, h6⟩ := tkB_spec hk
  have hr : (Region.ready .any ops listed).contains i = true := by
    rw [hT.ready hl]
    have := mem_readyGo (i := 0) h1 h3 (by rw [Nat.zero_add]; exact h5)
    rw [Nat.zero_add] at this
    simpa using this
  refine wpAnyH_take hi hT.sel (hT.free hl hi h2 h4) hr hQ (.inl ⟨ha.wanted hw, fun w hS => hv a w ha hS⟩) ((hw'.perm hs.perm).sub (List.sublist_append_left _ _)) ?_
  rw [hd]
  exact h _ _ (ha.put hn v) hw' _ (hl.tk' h6)
theorem G.takeFT (hT : Tab ops deps frs nn) (hi : ops[i]? = some oi) (hd : oi.dst = some d) (hn : Nat.blt d n = true) (hk : tkB deps frs rem i rem' = true)
    (hQ : ∀ c a w, Q (.panic c) (a.put oi.dst undef) w → Q (.panic c) a w) (hw : wantB ops l oi = some false) (hs : Sub m mS r)
    (h : G n w0 S ((d, undef) :: l) m (GA P ops Q (fun w => Hp w0 S w mS) nn fuel rem')) : G n w0 S l m (GA P ops Q (fun w => Hp w0 S w mS) nn (fuel + 1) rem) := fun a w ha hw' listed hl => by
  obtain ⟨dd, f, h1, h2, h3, h4, h5, h6⟩ := tkB_spec hk
  have hr : (Region.ready .any ops listed).contains i = true := by
    rw [hT.ready hl]
    have := mem_readyGo (i := 0) h1 h3 (by rw [Nat.zero_add]; exact h5)
    rw [Nat.zero_add] at this
    simpa using this
  refine wpAnyH_take hi hT.sel (hT.free hl hi h2 h4) hr hQ (.inr ⟨ha.wanted hw, rfl⟩) ((hw'.perm hs.perm).sub (List.sublist_append_left _ _)) ?_
  rw [hd]
  exact h _ _ (ha.put hn undef) hw' _ (hl.tk' h6)
def rdB (deps : List Nat) (rem : Nat) (rs : List Nat) : Bool := readyGo rem 0 deps == rs
theorem rdB_spec {rs : List Nat} (h : rdB deps rem rs = true) : readyGo rem 0 deps = rs := by simpa [rdB] using h
theorem G.oneT {Sx : World → Prop} (hT : Tab ops deps frs nn) (hr : rdB deps rem [i] = true) (hb : rmB rem i rem' = true) (h : G n w0 S l m (wpOp P ops Q i (fun a w => Sx w ∧ GA P ops Q Sx nn fuel rem' a w))) : G n w0 S l m (GA P ops Q Sx nn (fuel + 1) rem) := fun a w ha hw listed hl => by
  refine wpAnyH_all (rs := [i]) (by rw [hT.ready hl, rdB_spec hr]) (by simp) fun j hj => ?_
  obtain rfl : j = i := (by simpa using hj)
  exact wpOp_mono (fun a' w' h' => ⟨h'.1, h'.2 _ (hl.tk' hb)⟩) (h a w ha hw)
theorem G.twoT {Sx : World → Prop} {j rem'' : Nat} (hT : Tab ops deps frs nn) (hr : rdB deps rem [i, j] = true) (hb : rmB rem i rem' = true) (hb2 : rmB rem j rem'' = true) (h : G n w0 S l m (wpOp P ops Q i (fun a w => Sx w ∧ GA P ops Q Sx nn fuel rem' a w))) (k : G n w0 S l m (wpOp P ops Q j (fun a w => Sx w ∧ GA P ops Q Sx nn fuel rem'' a w))) : G n w0 S l m (GA P ops Q Sx nn (fuel + 1) rem) := fun a w ha hw listed hl => by
  refine wpAnyH_all (rs := [i, j]) (by rw [hT.ready hl, rdB_spec hr]) (by simp) fun x hx => ?_
  rcases List.mem_cons.1 hx with rfl | hx
  · exact wpOp_mono (fun a' w' h' => ⟨h'.1, h'.2 _ (hl.tk' hb)⟩) (h a w ha hw)
  · obtain rfl : x = j := (by simpa using hx)
    exact wpOp_mono (fun a' w' h' => ⟨h'.1, h'.2 _ (hl.tk' hb2)⟩) (k a w ha hw)
theorem G.overT {Sx : World → Prop} (hT : Tab ops deps frs nn) (hr : rdB deps rem [] = true) (h : G n w0 S l m (Q .normal)) : G n w0 S l m (GA P ops Q Sx nn fuel rem) := fun a w ha hw listed hl => wpAnyH_done (by rw [hT.ready hl, rdB_spec hr]) (h a w ha hw) fuel
end
end Go.Proofs.YtkhffndeomihhaaDoor
