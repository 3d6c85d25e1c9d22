/- Contracts of strings.Builder at this program: what is written, by chunks. Conditions: the builder is the call's own, and all that the call owns. -/
import Derived.Test.YtkhffndeomihhaaDoorProg
import Derived.Test.YtkhffndeomihhaaDoorShelf
import Derived.Test.YtkhffndeomihhaaDoorWV
import Derived.Test.YtkhffndeomihhaaDoorLaw
import Derived.Laws.BytesArg
import Derived.Laws.IdiomStrings
import Derived.Deep.RegionWith
import Derived.Deep.RegionHeld3
import Derived.Deep.Cut
import Derived.Deep.DeepCutAuto
import Derived.Lib.Builder
import Derived.Lib.AppendStr
import Derived.Shelf.Strings.Builder1
set_option linter.unusedVariables false
set_option linter.unusedSimpArgs false
set_option maxRecDepth 100000
namespace Go.Proofs.YtkhffndeomihhaaDoor
open Go.RowKit

theorem Tryd.infoByteS : ∃ i, Tryd.prog.info? 5 = some i ∧ i.zero = some (.int .u8 0) ∧ i.size = 1 ∧ i.bytes = 1 := by
  have h : (Tryd.prog.info? 5).map (fun i => (i.zero, i.size, i.bytes)) = some (some (.int .u8 0), 1, 1) := by kernel_rfl
  cases hi : Tryd.prog.info? 5 with
  | none => rw [hi] at h; cases h
  | some i =>
    rw [hi] at h
    simp at h
    exact ⟨i, rfl, h.1, h.2.1, h.2.2⟩
theorem Tryd.sizeBuilderB : ∃ j, Tryd.prog.info? 52 = some j ∧ j.size = 2 := by
  have h : (Tryd.prog.info? 52).map (·.size) = some 2 := by kernel_rfl
  exact Option.map_eq_some_iff.1 h
set_option maxHeartbeats 1000000 in
set_option maxRecDepth 100000 in
theorem copyCheck_used (b : Nat) (w : World) (h0 : w.cell? ⟨b, 0, none⟩ = some (.pointer (some ⟨b, 0, none⟩))) :
    Calls Tryd.prog 41 #[.pointer (some ⟨b, 0, none⟩)] w fun e w' => e = .returned (.tuple #[]) ∧ w' = w := by
  obtain ⟨j, hj, _⟩ := Tryd.sizeBuilderB
  go_enter Tryd.func41, Tryd.ntmps41
  go_wp2
  rw [Lib.run_neq_ptr_same w _ Tryd.underlying49 hj]
  go_wp2
  go_end0
  exact ⟨rfl, rfl⟩
set_option maxHeartbeats 2000000 in
set_option maxRecDepth 100000 in
theorem writeString_any (B b : Nat) (bs : List Value) (s : ByteArray) (w : World) (h : Lib.BuilderAt 52 5 B b (.pointer (some ⟨b, 0, none⟩)) bs w) (hlen : bs.length + s.size ≤ 140737488355328) (hBw : B ≤ w.heap.size) :
    Calls Tryd.prog 32 #[.pointer (some ⟨b, 0, none⟩), .string s] w fun e w' => e = .returned (.tuple #[.int .i64 s.size, .nilIface]) ∧ (Lib.BuilderAt 52 5 B b (.pointer (some ⟨b, 0, none⟩)) (bs ++ Lib.strCells s) w' ∧ Below B w w') := by
  obtain ⟨i0, hi, hz0, hz1, hz2⟩ := Tryd.infoByteS
  go_enter Tryd.func32, Tryd.ntmps32
  go_wp2_with fail
  refine (copyCheck_used b _ h.cell0).mono ?_
  rintro e w1 ⟨rfl, rfl⟩
  have hb1 := Below.refl B w1
  obtain ⟨hB, v, hbk, hown, hne⟩ := h
  have c0 : w1.cell? ⟨b, 0, none⟩ = some (.pointer (some ⟨b, 0, none⟩)) := by rw [Lib.cell_of_heap hbk]; rfl
  have c1 : w1.cell? ⟨b, 1, none⟩ = some v := by rw [Lib.cell_of_heap hbk]; rfl
  go_wp2_with (at_builtin; refine Lib.wpList_append_own_string _ rfl _ _ 50 9 rfl B 5 i0 Tryd.underlying50 Tryd.underlying9 hi hz0 hz1 hz2 _ _ _ rfl hown s rfl ?c3 ?c4 ?c5 ?_)
  case c3 => unfold maxLen; omega
  case c4 => omega
  case c5 => have := hb1.size; omega
  intro v' w2 hown' hgrow _
  have hlt : b < w1.heap.size := by
    rcases Nat.lt_or_ge b w1.heap.size with h' | h'
    · exact h'
    · simp [Array.getElem?_eq_none h'] at hbk
  have hb2 : w2.heap[b]? = some (.cells #[.pointer (some ⟨b, 0, none⟩), v] 52 (0, 0)) := by
    rw [hgrow.block b hlt (fun e => hne e.symm)]
    exact hbk
  have d0 : w2.cell? ⟨b, 0, none⟩ = some (.pointer (some ⟨b, 0, none⟩)) := by rw [Lib.cell_of_heap hb2]; rfl
  have d1 : w2.cell? ⟨b, 1, none⟩ = some v := by rw [Lib.cell_of_heap hb2]; rfl
  have f1 : w2.frozen? ⟨b, 1, none⟩ = false := Lib.frozen_of_heap hb2 1
  obtain ⟨ao, n', cap, rfl⟩ : ∃ ao n' cap, v' = .slice ao n' cap := by
    rcases hown'.2 with ⟨hv, _⟩ | ⟨g, cap, cur, hv, _⟩
    · exact ⟨_, _, _, hv⟩
    · exact ⟨_, _, _, hv⟩
  go_wp2
  go_ret2
  refine ⟨rfl, ?_, ?_⟩
  · exact Lib.BuilderAt.put (T := 52) (e := 5) hB hb2 (bs' := bs ++ Lib.strCells s) (by simpa [Lib.strCells_length] using hown') (by decide)
  · exact (hb1.grown hgrow (by have := hb1.size; omega) (fun k hk => (hown.lt k hk).1)).setCell (p := ⟨b, 1, none⟩) hB _
/-- a builder that holds bytes, by chunks -/
abbrev bldM (b : Nat) (v : Value) (l : List UInt8) : List Ck := [blk b 52 [.pointer (some ⟨b, 0, none⟩), v], own 5 1 v l.length (l.map vByte)]
theorem ownsRow_zero {w : World} {B : Nat} {e : TypeId} {sz k : Nat} {v : Value} {cs : List Value} (h : w.ownsRow B e sz v k cs) : w.ownsRow 0 e sz v k cs := ⟨h.1, h.2.imp id fun ⟨g, cap, cur, h1, _, h3⟩ => ⟨g, cap, cur, h1, Nat.zero_le _, h3⟩⟩
section
variable {w0 w w' : World}
theorem hp_bld {b : Nat} {v : Value} {l : List UInt8} (h : Hp w0 (U []) w (bldM b v l)) : Lib.BuilderAt 52 5 w0.heap.size b (.pointer (some ⟨b, 0, none⟩)) (Lib.byteCells l) w := by
  have hb : w.heap[b]? = some (.cells #[.pointer (some ⟨b, 0, none⟩), v] 52 (0, 0)) := h.holds _ (List.mem_cons_self ..)
  have ho : w.ownsRow 0 5 1 v l.length (l.map vByte) := h.holds _ (List.mem_cons_of_mem _ (List.mem_cons_self ..))
  have hS : ∀ c ∈ bldM b v l, ∀ k, c.S k → w0.heap.size ≤ k := fun c hc k hk => by
    rcases (h.own c hc k hk).1 with h | h
    · rw [U_nil] at h; exact h.elim
    · exact h
  refine ⟨hS _ (List.mem_cons_self ..) b rfl, v, hb, ⟨by simp [Lib.byteCells], ?_⟩, fun e => ?_⟩
  · rcases ho.2 with ⟨h1, h2⟩ | ⟨g, cap, cur, h1, _, h3⟩
    · exact .inl ⟨h1, by simpa [Lib.byteCells] using h2⟩
    · refine .inr ⟨g, cap, cur, by rw [Lib.byteCells_length]; exact h1, hS _ (List.mem_cons_of_mem _ (List.mem_cons_self ..)) g (by show v.ownBlock = some g; rw [h1]; rfl), ?_⟩
      rw [Lib.byteCells_length]
      exact h3
  · have := (List.pairwise_cons.1 h.dis).1 _ (List.mem_cons_self ..) b rfl
    exact this e
theorem bld_hp {S : Nat → Prop} {m : List Ck} {b : Nat} {l : List UInt8} (h : Hp w0 S w m) (hb : Lib.BuilderAt 52 5 w0.heap.size b (.pointer (some ⟨b, 0, none⟩)) (Lib.byteCells l) w') (hw : Below w0.heap.size w w') : ∃ v, Hp w0 S w' (bldM b v l) := by
  obtain ⟨hB, v, hbk, hown, hne⟩ := hb
  refine ⟨v, ?_, fun c hc => ?_, fun c hc k hk => ?_, ?_⟩
  · exact ⟨hw.os.trans h.chg.os, hw.tape.trans h.chg.tape, hw.output.trans h.chg.output, Nat.le_trans h.chg.size hw.size, fun k hk hS => (hw.block k hk).trans (h.chg.block k hk hS)⟩
  · rcases List.mem_cons.1 hc with rfl | hc
    · exact hbk
    · obtain rfl := List.mem_singleton.1 hc
      have := ownsRow_zero hown
      rw [Lib.byteCells_length] at this
      exact this
  · rcases List.mem_cons.1 hc with rfl | hc
    · obtain rfl : k = b := hk
      refine ⟨.inr hB, ?_⟩
      rcases Nat.lt_or_ge k w'.heap.size with h' | h'
      · exact h'
      · simp [Array.getElem?_eq_none h'] at hbk
    · obtain rfl := List.mem_singleton.1 hc
      have := hown.lt k hk
      exact ⟨.inr this.1, this.2⟩
  · refine List.pairwise_cons.2 ⟨fun c hc k hk hk2 => ?_, List.pairwise_singleton _ _⟩
    obtain rfl := List.mem_singleton.1 hc
    obtain rfl : k = b := hk
    exact hne hk2
variable {P : Program} {n : Nat} {S : Nat → Prop} {l : Fr} {m : List Ck} {Q : Exit → Act → World → Prop} {K : Act → World → Prop}
/-- a call that may turn all that the call owns -/
theorem G.callB {o : Oper} {d : Nat} {f : FuncId} {args : Array Value} {X : Type} {V : X → Value} {M : X → List Ck} (hd : o.dst = some d) (hn : Nat.blt d n = true) (he : PE P n w0 S l m o f args)
    (hc : ∀ w, Hp w0 S w m → Calls P f args w fun e w' => ∃ x : X, e = .returned (V x) ∧ Hp w0 S w' (M x))
    (h : ∀ x, G n w0 S ((d, V x) :: l) (M x) K) : G n w0 S l m (fun a w => o.wp P a w K Q) := fun a w ha hw => by
  show Oper.wp P o a w K Q
  unfold Oper.wp
  rw [he a w ha hw, Oper.upon_enter]
  refine (hc w hw).mono ?_
  rintro e w2 ⟨x, rfl, hp⟩
  show K (a.put o.dst (V x)) w2
  rw [hd]
  exact h x _ _ (ha.put hn _) hp
theorem grow_bld {b k : Nat} (hw : Hp w0 (U []) w [blk b 52 [.pointer none, .slice none 0 0]]) (hk : k ≤ 281474976710656) :
    Calls Tryd.prog 31 #[.pointer (some ⟨b, 0, none⟩), .int .i64 (k : Int)] w fun e w' => ∃ v : Value, e = .returned (.tuple #[]) ∧ Hp w0 (U []) w' (bldM b v []) := by
  have hB : w0.heap.size ≤ b := by
    rcases (hw.own _ (List.mem_cons_self ..) b rfl).1 with h | h
    · rw [U_nil] at h; exact h.elim
    · exact h
  refine (Tryd.Builder_Grow_fresh w0.heap.size b k w hB (hw.holds _ (List.mem_cons_self ..)) hw.chg.size hk).mono ?_
  rintro e w' ⟨he, hb, hw'⟩
  obtain ⟨v, h⟩ := bld_hp (l := []) hw hb hw'
  exact ⟨v, he, h⟩
theorem write_bld {b : Nat} {v : Value} {l s : List UInt8} (hw : Hp w0 (U []) w (bldM b v l)) (hk : l.length + s.length ≤ 140737488355328) :
    Calls Tryd.prog 32 #[.pointer (some ⟨b, 0, none⟩), .string (sB s)] w fun e w' => ∃ v' : Value, e = .returned (.tuple #[.int .i64 (s.length : Int), .nilIface]) ∧ Hp w0 (U []) w' (bldM b v' (l ++ s)) := by
  refine (writeString_any w0.heap.size b _ (sB s) w (hp_bld hw) (by rw [sB_size, Lib.byteCells_length]; exact hk) hw.chg.size).mono ?_
  rintro e w' ⟨he, hb, hw'⟩
  have e2 : Lib.byteCells l ++ Lib.strCells (sB s) = Lib.byteCells (l ++ s) := by
    rw [Lib.strCells_eq]
    simp [Lib.byteCells, sB]
  rw [e2] at hb
  obtain ⟨v', h⟩ := bld_hp hw hb hw'
  rw [sB_size] at he
  exact ⟨v', he, h⟩
theorem string_bld {b : Nat} {v : Value} {l : List UInt8} (hw : Hp w0 (U []) w (bldM b v l)) :
    Calls Tryd.prog 33 #[.pointer (some ⟨b, 0, none⟩)] w fun e w' => ∃ u : Unit, e = .returned (.string (sB l)) ∧ Hp w0 (U []) w' [] := by
  refine (Tryd.Builder_String_any w0.heap.size b l w (.inr (hp_bld hw)) hw.chg.size).mono ?_
  rintro e w' ⟨he, hw'⟩
  exact ⟨(), he, ⟨hw'.os.trans hw.chg.os, hw'.tape.trans hw.chg.tape, hw'.output.trans hw.chg.output, Nat.le_trans hw.chg.size hw'.size, fun k hk hS => (hw'.block k hk).trans (hw.chg.block k hk hS)⟩, by simp, by simp, .nil⟩
end
end Go.Proofs.YtkhffndeomihhaaDoor
