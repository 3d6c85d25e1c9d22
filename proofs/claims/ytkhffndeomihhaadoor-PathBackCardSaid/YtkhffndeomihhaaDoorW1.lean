/- A walk whose frames are lists of what is known, and whose memory is a list of chunks: the judgement, the statements of the language. Conditions: none. -/
import Derived.Test.YtkhffndeomihhaaDoorChg
import Derived.OrdersHeld
set_option linter.unusedVariables false
set_option linter.unusedSimpArgs false
set_option maxRecDepth 100000
namespace Go.Proofs.YtkhffndeomihhaaDoor
open Go.RowKit

/-- what is known of a frame -/
abbrev Fr := List (Nat × Value)
def Fr.get : List (Nat × Value) → Nat → Option Value
  | [], _ => none
  | (k, v) :: l, t => match Nat.beq k t with
    | true => some v
    | false => Fr.get l t
structure At (a : Act) (n : Nat) (l : Fr) : Prop where
  size : a.tmps.size = n
  defs : a.defers = []
  get : ∀ t v, Fr.get l t = some v → a.tmps[t]? = some v
def ev (l : Fr) : Operand → Option Value
  | .tmp t => Fr.get l t
  | .const v => some v
  | .global g => some (.pointer (some ⟨g, 0, none⟩))
  | .func f => some (.func (.func f) #[] #[])
theorem At.eval {a : Act} {n : Nat} {l : Fr} (h : At a n l) {x : Operand} {v : Value} (hx : ev l x = some v) : a.eval x = v := by
  cases x with
  | tmp t =>
    have := h.get t v hx
    simp [Act.eval, this]
  | const c => exact Option.some.inj hx
  | global g => exact Option.some.inj hx
  | func f => exact Option.some.inj hx
theorem At.put {a : Act} {n d : Nat} {l : Fr} (h : At a n l) (hd : Nat.blt d n = true) (v : Value) : At (a.put (some d) v) n ((d, v) :: l) := by
  have hd' : d < n := by simpa using hd
  refine ⟨by simp [Act.put, h.size], h.defs, fun t u ht => ?_⟩
  unfold Fr.get at ht
  show (a.tmps.setIfInBounds d v)[t]? = some u
  split at ht
  · rename_i e
    have e' : d = t := Nat.eq_of_beq_eq_true e
    subst e'
    injection ht with ht
    subst ht
    rw [Array.getElem?_setIfInBounds_self_of_lt (by rw [h.size]; exact hd')]
  · rename_i e
    have e' : d ≠ t := fun he => by subst he; simp at e
    rw [Array.getElem?_setIfInBounds_ne e']
    exact h.get t u ht
/-- all that l' knows l knows -/
inductive Fw (l : Fr) : Fr → Prop
  | nil : Fw l []
  | cons {t : Nat} {v : Value} {l' : Fr} (h : Fr.get l t = some v) (r : Fw l l') : Fw l ((t, v) :: l')
theorem Fw.consE {l l' : Fr} {t : Nat} {u v : Value} (h : Fr.get l t = some u) (e : u = v) (r : Fw l l') : Fw l ((t, v) :: l') := .cons (e ▸ h) r
theorem At.weak {a : Act} {n : Nat} {l l' : Fr} (h : At a n l) (hw : Fw l l') : At a n l' := by
  refine ⟨h.size, h.defs, ?_⟩
  induction hw with
  | nil => intro t v ht; cases ht
  | cons hx _ ih =>
    intro t v ht
    unfold Fr.get at ht
    split at ht
    · rename_i e
      have e' := Nat.eq_of_beq_eq_true e
      subst e'
      injection ht with ht
      subst ht
      exact h.get _ _ hx
    · exact ih t v ht

/-- a piece of memory: the blocks that it lies in, what it holds -/
structure Ck where
  S : Nat → Prop
  φ : World → Prop
  loc : ∀ w w' : World, (∀ b, S b → w'.heap[b]? = w.heap[b]?) → φ w → φ w'
/-- memory: since w0 only blocks of S, and new ones, have changed; the chunks lie apart, in those -/
structure Hp (w0 : World) (S : Nat → Prop) (w : World) (m : List Ck) : Prop where
  chg : Chg S w0 w
  holds : ∀ c ∈ m, c.φ w
  own : ∀ c ∈ m, ∀ b, c.S b → (S b ∨ w0.heap.size ≤ b) ∧ b < w.heap.size
  dis : m.Pairwise fun c d => ∀ b, c.S b → ¬ d.S b
theorem Hp.start (w : World) : Hp w (fun _ => False) w [] := ⟨Chg.refl _ _, by simp, by simp, .nil⟩
theorem Hp.perm {w0 w : World} {S : Nat → Prop} {m m' : List Ck} (h : Hp w0 S w m) (p : m.Perm m') : Hp w0 S w m' :=
  ⟨h.chg, fun c hc => h.holds c (p.mem_iff.2 hc), fun c hc => h.own c (p.mem_iff.2 hc), p.pairwise h.dis fun hab b h1 h2 => hab b h2 h1⟩
theorem Hp.tail {w0 w : World} {S : Nat → Prop} {c : Ck} {m : List Ck} (h : Hp w0 S w (c :: m)) : Hp w0 S w m :=
  ⟨h.chg, fun d hd => h.holds d (List.mem_cons_of_mem _ hd), fun d hd => h.own d (List.mem_cons_of_mem _ hd), (List.pairwise_cons.1 h.dis).2⟩
theorem Hp.sub {w0 w : World} {S : Nat → Prop} {m m' : List Ck} (h : Hp w0 S w m) (p : m'.Sublist m) : Hp w0 S w m' :=
  ⟨h.chg, fun c hc => h.holds c (p.subset hc), fun c hc => h.own c (p.subset hc), h.dis.sublist p⟩
theorem Chg.none_of_below {w w' : World} (h : Below w.heap.size w w') : Chg (fun _ => False) w w' := Chg.of_below h fun k hk _ => hk
theorem Chg.below_of_none {w w' : World} (h : Chg (fun _ => False) w w') : Below w.heap.size w w' := h.below (fun _ _ h => h) (Nat.le_refl _)
/-- nothing has changed but that new blocks are there -/
theorem Hp.keep {w0 w w' : World} {S : Nat → Prop} {m : List Ck} (h : Hp w0 S w m) (hb : Below w.heap.size w w') : Hp w0 S w' m :=
  ⟨h.chg.after hb, fun c hc => c.loc w w' (fun b hb' => hb.block b (h.own c hc b hb').2) (h.holds c hc), fun c hc b hb' => ⟨(h.own c hc b hb').1, Nat.lt_of_lt_of_le (h.own c hc b hb').2 hb.size⟩, h.dis⟩
theorem Hp.drew {w0 w : World} {S : Nat → Prop} {m : List Ck} (h : Hp w0 S w m) : Hp w0 S w.drew m := h.keep (Below.refl _ _).drew
/-- .. and new chunks lie in new blocks -/
theorem Hp.adds {w0 w w' : World} {S : Nat → Prop} {m m' : List Ck} (h : Hp w0 S w m) (hn : Hp w (fun _ => False) w' m') : Hp w0 S w' (m' ++ m) := by
  have k := h.keep hn.chg.below_of_none
  have new : ∀ c ∈ m', ∀ b, c.S b → w.heap.size ≤ b := fun c hc b hb => (hn.own c hc b hb).1.resolve_left id
  refine ⟨k.chg, fun c hc => ?_, fun c hc b hb => ?_, List.pairwise_append.2 ⟨hn.dis, h.dis, fun c hc d hd b h1 h2 => ?_⟩⟩
  · rcases List.mem_append.1 hc with hc | hc
    · exact hn.holds c hc
    · exact k.holds c hc
  · rcases List.mem_append.1 hc with hc | hc
    · exact ⟨.inr (Nat.le_trans h.chg.size (new c hc b hb)), (hn.own c hc b hb).2⟩
    · exact k.own c hc b hb
  · have := new c hc b h1
    have := (h.own d hd b h2).2
    omega
/-- the blocks of some chunks -/
def U (m : List Ck) (b : Nat) : Prop := ∃ c ∈ m, c.S b
/-- some chunks are turned into others, the rest stays -/
theorem Hp.turn {w0 w w' : World} {S : Nat → Prop} {p r p' : List Ck} (h : Hp w0 S w (p ++ r)) (hn : Hp w (U p) w' p') : Hp w0 S w' (p' ++ r) := by
  have hpr := List.pairwise_append.1 h.dis
  have keep : ∀ c ∈ r, ∀ b, c.S b → ¬ U p b := fun c hc b hb ⟨d, hd, hdb⟩ => hpr.2.2 d hd c hc b hdb hb
  have inS : ∀ b, U p b → S b ∨ w0.heap.size ≤ b := fun b ⟨d, hd, hdb⟩ => (h.own d (List.mem_append_left _ hd) b hdb).1
  refine ⟨h.chg.trans' hn.chg fun x hx hu => (inS x hu).resolve_right (by omega), fun c hc => ?_, fun c hc b hb => ?_, List.pairwise_append.2 ⟨hn.dis, hpr.2.1, fun c hc d hd b h1 h2 => ?_⟩⟩
  · rcases List.mem_append.1 hc with hc | hc
    · exact hn.holds c hc
    · exact c.loc w w' (fun b hb => hn.chg.block b (h.own c (List.mem_append_right _ hc) b hb).2 (keep c hc b hb)) (h.holds c (List.mem_append_right _ hc))
  · rcases List.mem_append.1 hc with hc | hc
    · have := hn.own c hc b hb
      refine ⟨?_, this.2⟩
      rcases this.1 with hu | hu
      · exact inS b hu
      · exact .inr (Nat.le_trans h.chg.size hu)
    · have := h.own c (List.mem_append_right _ hc) b hb
      exact ⟨this.1, Nat.lt_of_lt_of_le this.2 hn.chg.size⟩
  · rcases (hn.own c hc b h1).1 with hu | hu
    · exact keep d hd b h2 hu
    · have := (h.own d (List.mem_append_right _ hd) b h2).2
      omega
/-- c is one of m; the others are r -/
inductive Sel : List Ck → Ck → List Ck → Prop
  | here {c : Ck} {m : List Ck} : Sel (c :: m) c m
  | there {c d : Ck} {m r : List Ck} (h : Sel m c r) : Sel (d :: m) c (d :: r)
theorem Sel.perm {m r : List Ck} {c : Ck} (h : Sel m c r) : m.Perm (c :: r) := by
  induction h with
  | here => exact List.Perm.refl _
  | there _ ih => exact (List.Perm.cons _ ih).trans (List.Perm.swap _ _ _)
/-- p are some of m; the others are r -/
inductive Sub : List Ck → List Ck → List Ck → Prop
  | nil {m : List Ck} : Sub m [] m
  | cons {c : Ck} {m r p r' : List Ck} (h : Sel m c r) (k : Sub r p r') : Sub m (c :: p) r'
theorem Sub.perm {m p r : List Ck} (h : Sub m p r) : m.Perm (p ++ r) := by
  induction h with
  | nil => exact List.Perm.refl _
  | cons h _ ih => exact h.perm.trans (List.Perm.cons _ ih)

/-- THE JUDGEMENT: from whatever frame and memory of which this is known K holds -/
def G (n : Nat) (w0 : World) (S : Nat → Prop) (l : Fr) (m : List Ck) (K : Act → World → Prop) : Prop := ∀ a w, At a n l → Hp w0 S w m → K a w
section
variable {P : Program} {n : Nat} {w0 : World} {S : Nat → Prop} {l : Fr} {m : List Ck} {Q : Exit → Act → World → Prop}
theorem G.weak {K : Act → World → Prop} {l' : Fr} {m' r : List Ck} (hl : Fw l l') (hm : Sub m m' r) (h : G n w0 S l' m' K) : G n w0 S l m K := fun a w ha hw =>
  h a w (ha.weak hl) ((hw.perm hm.perm).sub (List.sublist_append_left _ _))
theorem G.frame {K : Act → World → Prop} {l' : Fr} (hl : Fw l l') (h : G n w0 S l' m K) : G n w0 S l m K := fun a w ha hw => h a w (ha.weak hl) hw
theorem G.mem {K : Act → World → Prop} {m' : List Ck} (hm : ∀ w, Hp w0 S w m → Hp w0 S w m') (h : G n w0 S l m' K) : G n w0 S l m K := fun a w ha hw => h a w ha (hm w hw)
/-- a fact of the memory at hand, for as long as it is wanted -/
theorem G.fact {K : Act → World → Prop} {p : Prop} (hp : ∀ w, Hp w0 S w m → p) (h : p → G n w0 S l m K) : G n w0 S l m K := fun a w ha hw => h (hp w hw) a w ha hw
theorem G.seq {x y : Code} (h : G n w0 S l m (x.wp P (Exit.then (y.wp P Q) Q))) : G n w0 S l m ((Code.seq x y).wp P Q) := fun a w ha hw => wp_seq (h a w ha hw)
theorem G.skip (h : G n w0 S l m (Q .normal)) : G n w0 S l m (Code.skip.wp P Q) := fun a w ha hw => wp_skip (h a w ha hw)
theorem G.ret (h : G n w0 S l m (Q .ret)) : G n w0 S l m (Code.ret.wp P Q) := fun a w ha hw => wp_ret (h a w ha hw)
theorem G.exit {id : Nat} (h : G n w0 S l m (Q (.exit id))) : G n w0 S l m ((Code.exit id).wp P Q) := fun a w ha hw => wp_exit (h a w ha hw)
theorem G.block {id : Nat} {c : Code} (h : G n w0 S l m (c.wp P (Exit.inBlock id Q))) : G n w0 S l m ((Code.block id c).wp P Q) := fun a w ha hw => wp_block (h a w ha hw)
theorem G.cond {c : Operand} {x y : Code} {b : Bool} (hc : ev l c = some (.bool b)) (ht : b = true → G n w0 S l m (x.wp P Q)) (hf : b = false → G n w0 S l m (y.wp P Q)) : G n w0 S l m ((Code.cond c x y).wp P Q) := fun a w ha hw =>
  wp_cond_split (ha.eval hc) (fun h => ht h a w ha hw) fun h => hf h a w ha hw
theorem G.condP {c : Operand} {x y : Code} {p : Prop} [Decidable p] (hc : ev l c = some (.bool (decide p))) (ht : p → G n w0 S l m (x.wp P Q)) (hf : ¬ p → G n w0 S l m (y.wp P Q)) : G n w0 S l m ((Code.cond c x y).wp P Q) :=
  G.cond hc (fun h => ht (of_decide_eq_true h)) fun h => hf (of_decide_eq_false h)
theorem G.condT {c : Operand} {x y : Code} {b : Bool} (hc : ev l c = some (.bool b)) (hb : b = true) (h : G n w0 S l m (x.wp P Q)) : G n w0 S l m ((Code.cond c x y).wp P Q) :=
  G.cond hc (fun _ => h) fun h => by rw [hb] at h; cases h
theorem G.condF {c : Operand} {x y : Code} {b : Bool} (hc : ev l c = some (.bool b)) (hb : b = false) (h : G n w0 S l m (y.wp P Q)) : G n w0 S l m ((Code.cond c x y).wp P Q) :=
  G.cond hc (fun h => by rw [hb] at h; cases h) fun _ => h
/-- a Boolean in a slot is parted on -/
theorem G.part {K : Act → World → Prop} {t : Nat} {b : Bool} (hc : Fr.get l t = some (.bool b)) (ht : b = true → G n w0 S ((t, .bool true) :: l) m K) (hf : b = false → G n w0 S ((t, .bool false) :: l) m K) : G n w0 S l m K := fun a w ha hw => by
  have key : ∀ c, b = c → At a n ((t, .bool c) :: l) := fun c e => ⟨ha.size, ha.defs, fun u v hu => by
    unfold Fr.get at hu
    split at hu
    · rename_i e2
      have e3 := Nat.eq_of_beq_eq_true e2
      injection hu with hu
      subst hu
      subst e3
      rw [← e]
      exact ha.get _ _ hc
    · exact ha.get _ _ hu⟩
  cases hb : b with
  | true => exact ht hb a w (key true hb) hw
  | false => exact hf hb a w (key false hb) hw
theorem G.partP {K : Act → World → Prop} {t : Nat} {p : Prop} [Decidable p] (hc : Fr.get l t = some (.bool (decide p))) (ht : p → G n w0 S ((t, .bool true) :: l) m K) (hf : ¬ p → G n w0 S ((t, .bool false) :: l) m K) : G n w0 S l m K :=
  G.part hc (fun h => ht (of_decide_eq_true h)) fun h => hf (of_decide_eq_false h)
/-- how statements end -/
theorem G.nThen {K : Act → World → Prop} (h : G n w0 S l m K) : G n w0 S l m (Exit.then K Q .normal) := h
theorem G.nBlock {id : Nat} (h : G n w0 S l m (Q .normal)) : G n w0 S l m (Exit.inBlock id Q .normal) := h
theorem G.eThen {K : Act → World → Prop} {id : Nat} (h : G n w0 S l m (Q (.exit id))) : G n w0 S l m (Exit.then K Q (.exit id)) := h
theorem G.eBlock {id : Nat} (h : G n w0 S l m (Q .normal)) : G n w0 S l m (Exit.inBlock id Q (.exit id)) := fun a w ha hw => by
  show (if id = id then Q .normal a w else _)
  rw [if_pos rfl]
  exact h a w ha hw
theorem G.ePass {id id' : Nat} (hne : Nat.beq id' id = false) (h : G n w0 S l m (Q (.exit id'))) : G n w0 S l m (Exit.inBlock id Q (.exit id')) := fun a w ha hw => by
  show (if id' = id then _ else Q (.exit id') a w)
  rw [if_neg (fun e => by subst e; simp at hne)]
  exact h a w ha hw
theorem G.rThen {K : Act → World → Prop} (h : G n w0 S l m (Q .ret)) : G n w0 S l m (Exit.then K Q .ret) := h
theorem G.rBlock {id : Nat} (h : G n w0 S l m (Q .ret)) : G n w0 S l m (Exit.inBlock id Q .ret) := h
/-- A loop: X are its states' letters, L and M the frame and memory of a state, J what holds of it, μ what falls. -/
theorem G.loop {X : Type} (J : X → Prop) (L : X → Fr) (M : X → List Ck) (μ : X → Nat) {c : Code} {x0 : X} {r : List Ck} (h0 : J x0) (hl : Fw l (L x0)) (hm : Sub m (M x0) r)
    (round : ∀ x, J x → G n w0 S (L x) (M x) (c.wp P (Exit.then (fun a w => ∃ y, J y ∧ μ y < μ x ∧ At a n (L y) ∧ Hp w0 S w (M y)) Q))) : G n w0 S l m ((Code.loop c).wp P Q) := fun a w ha hw => by
  let I : Nat → Act → World → Prop := fun k a w => ∃ x, J x ∧ μ x = k ∧ At a n (L x) ∧ Hp w0 S w (M x)
  have least : ∀ k a w, I k a w → ∃ k0, I k0 a w ∧ ∀ j, I j a w → k0 ≤ j := by
    intro k
    induction k using Nat.strongRecOn with
    | _ k ih =>
      intro a w h
      by_cases hh : ∃ j, j < k ∧ I j a w
      · obtain ⟨j, hj, hI⟩ := hh
        exact ih j hj a w hI
      · exact ⟨k, h, fun j hj => Nat.le_of_not_lt fun hlt => hh ⟨j, hlt, hj⟩⟩
  let ν : Act → World → Nat := fun a w => open Classical in if h : ∃ k, I k a w then (Classical.choose (least _ a w (Classical.choose_spec h))) else 0
  have hν : ∀ a w k, I k a w → I (ν a w) a w ∧ ν a w ≤ k := by
    intro a w k h
    have hex : ∃ k, I k a w := ⟨k, h⟩
    have hs := Classical.choose_spec (least _ a w (Classical.choose_spec hex))
    have e : ν a w = Classical.choose (least _ a w (Classical.choose_spec hex)) := dif_pos hex
    rw [e]
    exact ⟨hs.1, hs.2 k h⟩
  refine wp_loop (fun a w => ∃ k, I k a w) ν ⟨μ x0, x0, h0, rfl, ha.weak hl, (hw.perm hm.perm).sub (List.sublist_append_left _ _)⟩ ?_
  rintro a w ⟨k, hk⟩
  obtain ⟨⟨x, hJ, hμ, hx, hM⟩, _⟩ := hν a w k hk
  refine wp_mono (round x hJ a w hx hM) ?_
  intro e a' w' hq
  cases e with
  | normal =>
    obtain ⟨y, hJy, hlt, hy, hMy⟩ := hq
    have hI : I (μ y) a' w' := ⟨y, hJy, rfl, hy, hMy⟩
    have := (hν a' w' _ hI).2
    exact ⟨⟨_, hI⟩, by omega⟩
  | exit id => exact hq
  | goto g => exact hq
  | ret => exact hq
  | panic ch => exact hq
  | outgrown => exact hq
/-- a round's end -/
theorem G.next {X : Type} {J : X → Prop} {L : X → Fr} {M : X → List Ck} {μ : X → Nat} {k : Nat} {r : List Ck} (y : X) (hJ : J y) (hμ : μ y < k) (hl : Fw l (L y)) (hm : Sub m (M y) r) :
    G n w0 S l m (Exit.then (fun a w => ∃ y, J y ∧ μ y < k ∧ At a n (L y) ∧ Hp w0 S w (M y)) Q .normal) := fun a w ha hw =>
  ⟨y, hJ, hμ, ha.weak hl, (hw.perm hm.perm).sub (List.sublist_append_left _ _)⟩
/-- ways that meet again behind a statement -/
theorem G.cut {X : Type} (J : X → Prop) (L : X → Fr) (M : X → List Ck) {c : Code} {K : Act → World → Prop}
    (first : G n w0 S l m (c.wp P (Exit.then (fun a w => ∃ x, J x ∧ At a n (L x) ∧ Hp w0 S w (M x)) Q))) (rest : ∀ x, J x → G n w0 S (L x) (M x) K) : G n w0 S l m (c.wp P (Exit.then K Q)) := fun a w ha hw =>
  wp_mono (first a w ha hw) fun e a' w' hq => by
    cases e with
    | normal =>
      obtain ⟨x, hJ, hx, hM⟩ := hq
      exact rest x hJ a' w' hx hM
    | exit id => exact hq
    | goto g => exact hq
    | ret => exact hq
    | panic ch => exact hq
    | outgrown => exact hq
theorem G.meet {X : Type} {J : X → Prop} {L : X → Fr} {M : X → List Ck} {r : List Ck} (y : X) (hJ : J y) (hl : Fw l (L y)) (hm : Sub m (M y) r) :
    G n w0 S l m (Exit.then (fun a w => ∃ x, J x ∧ At a n (L x) ∧ Hp w0 S w (M x)) Q .normal) := fun a w ha hw =>
  ⟨y, hJ, ha.weak hl, (hw.perm hm.perm).sub (List.sublist_append_left _ _)⟩

/-! regions that keep the text's order -/
theorem G.region {id : Nat} {ops : List Oper} (h : G n w0 S l m (wpList P ops.toArray Q ops)) : G n w0 S l m ((Code.region id ops.toArray false).wp P Q) := fun a w ha hw => wp_region_lit (h a w ha hw)
theorem G.nil {ops : Array Oper} (h : G n w0 S l m (Q .normal)) : G n w0 S l m (wpList P ops Q []) := h
theorem G.op {ops : Array Oper} {o : Oper} {rest : List Oper} (hg : o.guard = none) (h : G n w0 S l m (fun a w => o.wp P a w (wpList P ops Q rest) Q)) : G n w0 S l m (wpList P ops Q (o :: rest)) := fun a w ha hw =>
  wpList_plain hg fun K hK => Oper.wp_mono hK (h a w ha hw)
theorem At.yielded {a : Act} {ops : Array Oper} {j t : Nat} {b : Bool} (ha : At a n l) (hj : (ops[j]?).bind (·.dst) = some t) (ht : Fr.get l t = some (.bool b)) : yielded ops a.tmps j = some b := by
  unfold Go.yielded
  rw [hj]
  simp [ha.get t _ ht]
theorem G.want {ops : Array Oper} {o : Oper} {rest : List Oper} {j t : Nat} {b : Bool} (hg : o.guard = some (j, b)) (hj : (ops[j]?).bind (·.dst) = some t) (ht : Fr.get l t = some (.bool b))
    (h : G n w0 S l m (fun a w => o.wp P a w (wpList P ops Q rest) Q)) : G n w0 S l m (wpList P ops Q (o :: rest)) := fun a w ha hw =>
  wpList_step fun K hK => by
    have e : Region.wanted o (yielded ops a.tmps) = true := by simp [Region.wanted, hg, ha.yielded hj ht]
    rw [if_pos e]
    exact Oper.wp_mono hK (h a w ha hw)
theorem G.pass {ops : Array Oper} {o : Oper} {rest : List Oper} {j t d : Nat} {b c : Bool} (hg : o.guard = some (j, b)) (hj : (ops[j]?).bind (·.dst) = some t) (ht : Fr.get l t = some (.bool c)) (hbc : Bool.xor b c = true) (hd : o.dst = some d) (hn : Nat.blt d n = true)
    (h : G n w0 S ((d, undef) :: l) m (wpList P ops Q rest)) : G n w0 S l m (wpList P ops Q (o :: rest)) := fun a w ha hw =>
  wpList_step fun K hK => by
    have e : Region.wanted o (yielded ops a.tmps) = false := by
      simp only [Region.wanted, hg, ha.yielded hj ht]
      cases b <;> cases c <;> simp at hbc ⊢
    rw [if_neg (by rw [e]; simp), hd]
    exact hK _ _ (h _ _ (ha.put hn undef) hw)
theorem G.passN {ops : Array Oper} {o : Oper} {rest : List Oper} {j t : Nat} {b c : Bool} (hg : o.guard = some (j, b)) (hj : (ops[j]?).bind (·.dst) = some t) (ht : Fr.get l t = some (.bool c)) (hbc : Bool.xor b c = true) (hd : o.dst = none)
    (h : G n w0 S l m (wpList P ops Q rest)) : G n w0 S l m (wpList P ops Q (o :: rest)) := fun a w ha hw =>
  wpList_step fun K hK => by
    have e : Region.wanted o (yielded ops a.tmps) = false := by
      simp only [Region.wanted, hg, ha.yielded hj ht]
      cases b <;> cases c <;> simp at hbc ⊢
    rw [if_neg (by rw [e]; simp), hd]
    exact hK _ _ (h _ _ ha hw)

/-! the function's head and end -/
theorem calls_of_G {f : FuncId} {fn : Func} {c : Code} {args : Array Value} {w : World} {R : Ending → World → Prop} {n : Nat} {l : Fr} {m : List Ck} {S : Nat → Prop} (hf : P.funcs[f]? = some fn) (hb : fn.body = some c)
    (hn : args.size + (fn.ntmps - args.size) = n) (hl : ∀ t v, Fr.get l t = some v → args[t]? = some v) (hw : Hp w S w m) (h : G n w S l m (c.wp P (bodyPost P fn R))) : Calls P f args w R :=
  calls_of_wp hf hb (h _ _ ⟨by simp [hn], rfl, fun t v ht => by
    have := hl t v ht
    rw [Array.getElem?_append_left]
    · exact this
    · exact (Array.getElem?_eq_some_iff.1 this).1⟩ hw)
theorem G.ret1 {fn : Func} {R : Ending → World → Prop} {t : Nat} {v : Value} (hr : fn.results = #[.tmp t]) (ht : Fr.get l t = some v) (h : ∀ w, Hp w0 S w m → R (.returned v) w) : G n w0 S l m (bodyPost P fn R .ret) := fun a w ha hw =>
  ⟨ha.defs, v, by rw [results_tmp hr]; simp [ha.get t v ht], h w hw⟩
theorem G.ret2 {fn : Func} {R : Ending → World → Prop} {t u : Nat} {v x : Value} (hr : fn.results = #[.tmp t, .tmp u]) (ht : Fr.get l t = some v) (hu : Fr.get l u = some x) (h : ∀ w, Hp w0 S w m → R (.returned (.tuple #[v, x])) w) : G n w0 S l m (bodyPost P fn R .ret) := fun a w ha hw =>
  ⟨ha.defs, _, by rw [results_tmp2 hr]; simp [ha.get t v ht, ha.get u x hu], h w hw⟩
theorem G.ret3 {fn : Func} {R : Ending → World → Prop} {t u s : Nat} {v x y : Value} (hr : fn.results = #[.tmp t, .tmp u, .tmp s]) (ht : Fr.get l t = some v) (hu : Fr.get l u = some x) (hs : Fr.get l s = some y) (h : ∀ w, Hp w0 S w m → R (.returned (.tuple #[v, x, y])) w) : G n w0 S l m (bodyPost P fn R .ret) := fun a w ha hw =>
  ⟨ha.defs, .tuple #[v, x, y], by simp [results, hr, ha.get t v ht, ha.get u x hu, ha.get s y hs], h w hw⟩
theorem G.ret0 {fn : Func} {R : Ending → World → Prop} (hr : fn.results = #[]) (h : ∀ w, Hp w0 S w m → R (.returned (.tuple #[])) w) : G n w0 S l m (bodyPost P fn R .ret) := fun a w ha hw =>
  ⟨ha.defs, _, results_none hr _ _ _, h w hw⟩
theorem G.end0 {fn : Func} {R : Ending → World → Prop} (hr : fn.results = #[]) (h : ∀ w, Hp w0 S w m → R (.returned (.tuple #[])) w) : G n w0 S l m (bodyPost P fn R .normal) := fun a w ha hw =>
  ⟨ha.defs, _, results_none hr _ _ _, h w hw⟩
/-- results that lie in memory, or in slots: whatever they are, they are read so -/
theorem G.retBy {fn : Func} {R : Ending → World → Prop} {v : Value} (hr : ∀ a w, At a n l → Hp w0 S w m → (results fn a.tmps).run P w = .ok v w) (h : ∀ w, Hp w0 S w m → R (.returned v) w) : G n w0 S l m (bodyPost P fn R .ret) := fun a w ha hw =>
  ⟨ha.defs, v, hr a w ha hw, h w hw⟩

/-! operations -/
/-- an operation that yields a value and leaves the world as it is -/
def PV (P : Program) (n : Nat) (w0 : World) (S : Nat → Prop) (l : Fr) (m : List Ck) (o : Oper) (v : Value) : Prop := ∀ a w, At a n l → Hp w0 S w m → (execOp a.eval o).run P w = .ok (.value v) w
theorem G.val {K : Act → World → Prop} {o : Oper} {d : Nat} {v : Value} (hd : o.dst = some d) (hn : Nat.blt d n = true) (hv : PV P n w0 S l m o v) (h : G n w0 S ((d, v) :: l) m K) : G n w0 S l m (fun a w => o.wp P a w K Q) := fun a w ha hw => by
  show Oper.wp P o a w K Q
  unfold Oper.wp
  rw [hv a w ha hw, Oper.upon_value, hd]
  exact h _ _ (ha.put hn v) hw
/-- one that turns the world -/
theorem G.eff {K : Act → World → Prop} {o : Oper} {d : Nat} (hd : o.dst = some d) (hn : Nat.blt d n = true)
    (he : ∀ a w, At a n l → Hp w0 S w m → ∃ v w' m', (execOp a.eval o).run P w = .ok (.value v) w' ∧ Hp w0 S w' m' ∧ G n w0 S ((d, v) :: l) m' K) : G n w0 S l m (fun a w => o.wp P a w K Q) := fun a w ha hw => by
  obtain ⟨v, w', m', hr, hw', hk⟩ := he a w ha hw
  show Oper.wp P o a w K Q
  unfold Oper.wp
  rw [hr, Oper.upon_value, hd]
  exact hk _ _ (ha.put hn v) hw'
theorem G.act {K : Act → World → Prop} {o : Oper} (hd : o.dst = none)
    (he : ∀ a w, At a n l → Hp w0 S w m → ∃ w' m', (execOp a.eval o).run P w = .ok .skip w' ∧ Hp w0 S w' m' ∧ G n w0 S l m' K) : G n w0 S l m (fun a w => o.wp P a w K Q) := fun a w ha hw => by
  obtain ⟨w', m', hr, hw', hk⟩ := he a w ha hw
  show Oper.wp P o a w K Q
  unfold Oper.wp
  rw [hr, Oper.upon_skip, hd]
  exact hk _ _ ha hw'

/-! contracts -/
/-- what is only read lies in old blocks that do not change -/
def Ro (w0 : World) (S : Nat → Prop) (c : Ck) : Prop := c.φ w0 ∧ ∀ b, c.S b → b < w0.heap.size ∧ ¬ S b
theorem Ro.at {c : Ck} (h : Ro w0 S c) {w : World} (hw : Hp w0 S w m) : c.φ w := c.loc w0 w (fun b hb => hw.chg.block b (h.2 b hb).1 (h.2 b hb).2) h.1
/-- THE CONTRACT: ro is read; pre turns into what is told behind the call -/
def Tr (P : Program) (f : FuncId) (args : Array Value) (ro pre : List Ck) (post : Value → List Ck → Prop) : Prop :=
  ∀ w, (∀ c ∈ ro, Ro w (U pre) c) → Hp w (U pre) w pre → Calls P f args w fun e w' => ∃ v m', e = .returned v ∧ post v m' ∧ Hp w (U pre) w' m'
def evs (l : Fr) : List Operand → Option (List Value)
  | [] => some []
  | x :: xs => match ev l x, evs l xs with
    | some v, some vs => some (v :: vs)
    | _, _ => none
theorem At.evs {a : Act} (ha : At a n l) : ∀ {xs : List Operand} {vs : List Value}, Go.Proofs.YtkhffndeomihhaaDoor.evs l xs = some vs → xs.map a.eval = vs
  | [], vs, h => by simp [Go.Proofs.YtkhffndeomihhaaDoor.evs] at h; subst h; rfl
  | x :: xs, vs, h => by
    unfold Go.Proofs.YtkhffndeomihhaaDoor.evs at h
    split at h
    · rename_i v us h1 h2
      injection h with h
      subst h
      rw [List.map_cons, ha.eval h1, ha.evs h2]
    · cases h
/-- what a callee may only read: it lies in old blocks, or in a chunk that stays -/
inductive May (w0 : World) (S : Nat → Prop) (r : List Ck) (c : Ck) : Prop
  | old (h : Ro w0 S c)
  | own (h : c ∈ r)
  | view {d : Ck} (h : d ∈ r) (hφ : ∀ w, d.φ w → c.φ w) (hS : ∀ b, c.S b → d.S b)
  | mix (hφ : ∀ w, Hp w0 S w r → c.φ w) (hS : ∀ b, c.S b → (b < w0.heap.size ∧ ¬ S b) ∨ ∃ d ∈ r, d.S b)
theorem May.ro {p r : List Ck} {c : Ck} {w : World} (h : May w0 S r c) (hw : Hp w0 S w (p ++ r)) : Ro w (U p) c := by
  have hpr := List.pairwise_append.1 hw.dis
  have key : ∀ d ∈ r, d.φ w ∧ ∀ b, d.S b → b < w.heap.size ∧ ¬ U p b := fun d hd => ⟨hw.holds d (List.mem_append_right _ hd), fun b hb => ⟨(hw.own d (List.mem_append_right _ hd) b hb).2, fun ⟨e, he, heb⟩ => hpr.2.2 e he d hd b heb hb⟩⟩
  cases h with
  | old h =>
    refine ⟨h.at hw, fun b hb => ⟨Nat.lt_of_lt_of_le (h.2 b hb).1 hw.chg.size, fun ⟨d, hd, hdb⟩ => ?_⟩⟩
    have := (hw.own d (List.mem_append_left _ hd) b hdb).1
    have := h.2 b hb
    rcases ‹S b ∨ _› with h1 | h1
    · exact this.2 h1
    · omega
  | own h => exact key c h
  | view h hφ hS => exact ⟨hφ w (key _ h).1, fun b hb => (key _ h).2 b (hS b hb)⟩
  | mix hφ hS =>
    refine ⟨hφ w (hw.sub (List.sublist_append_right _ _)), fun b hb => ?_⟩
    rcases hS b hb with ⟨h1, h2⟩ | ⟨d, hd, hdb⟩
    · refine ⟨Nat.lt_of_lt_of_le h1 hw.chg.size, fun ⟨e, he, heb⟩ => ?_⟩
      rcases (hw.own e (List.mem_append_left _ he) b heb).1 with h3 | h3
      · exact h2 h3
      · omega
    · exact (key d hd).2 b hdb
theorem G.tr {K : Act → World → Prop} {o : Oper} {d : Nat} {f : FuncId} {xs : List Operand} {ts : Array TypeId} {vs : List Value} {ro pre r : List Ck} {post : Value → List Ck → Prop} (hd : o.dst = some d) (hn : Nat.blt d n = true)
    (ho : o.op = .call { callee := .value (.func f), args := xs.toArray, argTypes := ts }) (hx : evs l xs = some vs) {fn : Func} {c : Code} (hf : P.funcs[f]? = some fn) (hb : fn.body = some c) (hnm : (fn.name == "runtime.NumGoroutine") = false)
    (ht : Tr P f vs.toArray ro pre post) (hm : Sub m pre r) (hro : ∀ c ∈ ro, May w0 S r c) (h : ∀ v m', post v m' → G n w0 S ((d, v) :: l) (m' ++ r) K) : G n w0 S l m (fun a w => o.wp P a w K Q) := fun a w ha hw => by
  have hw' := hw.perm hm.perm
  have hp : Hp w (U pre) w pre := ⟨Chg.refl _ _, fun c hc => hw'.holds c (List.mem_append_left _ hc), fun c hc b hb => ⟨.inl ⟨c, hc, hb⟩, (hw'.own c (List.mem_append_left _ hc) b hb).2⟩, (List.pairwise_append.1 hw'.dis).1⟩
  have hc := ht w (fun c hc => (hro c hc).ro hw') hp
  have hrun : (execOp a.eval o).run P w = .ok (.enter f vs.toArray) w := by
    have e1 : xs.toArray.map a.eval = vs.toArray := by rw [← ha.evs hx]; simp
    have e2 : a.eval (.func f) = .func (.func f) #[] #[] := rfl
    have hnm' : ¬ fn.name = "runtime.NumGoroutine" := by simpa using hnm
    simp [execOp, ho, resolve, Deferred.ofValue, e1, e2, invoke, callFunc, program, Sem.run, Sem.run_bind, Sem.run_pure, Result.andThen, hf, hnm', hb]
  show Oper.wp P o a w K Q
  unfold Oper.wp
  rw [hrun, Oper.upon_enter]
  refine hc.mono ?_
  rintro e w2 ⟨v, m', rfl, hpost, hm'⟩
  show K (a.put o.dst v) w2
  rw [hd]
  exact h v m' hpost _ _ (ha.put hn v) (hw'.turn hm')
end
end Go.Proofs.YtkhffndeomihhaaDoor
