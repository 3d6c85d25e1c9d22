/- Contracts for FieldWrites: what is told, with its spare room; steps. Conditions: none. -/
import Derived.Test.YtakcffhknnailaaFV
import Derived.Test.YtakcffhknnailaaWA
import Derived.Test.YtakcffhknnailaaOpg
set_option linter.unusedVariables false
set_option linter.unusedSimpArgs false
namespace Go.Proofs.Ytakcffhknnailaa
open Go.RowKit

set_option maxRecDepth 20000 in

theorem woutB_tr (D : Nat) (bad : Bool) (v : Value) (bs : List UInt8) (hb : bs.length ≤ 1000000000) : Tr Try.prog 37 #[.pointer (some ⟨D, 0, none⟩)] [blk D 90 [.bool true, .bool bad, v], own 5 1 v bs.length (bs.map vByte)] []
    (TX (fun _ : Value => True) (fun x => .tuple #[x, .int .i64 (outE bad)]) (fun x => [ownB 5 x (outW bad bs)])) := by
  refine Tr.of (l := [(0, .pointer (some ⟨D, 0, none⟩))]) Try.func37 rfl (n := 24) rfl (.cons rfl .nil) (fun w0 hro => ?_)
  obtain ⟨hr, ho⟩ := ro2 hro
  refine G.seq ?_
  refine G.region ?_
  refine G.op rfl (G.val rfl rfl (pv_assign rfl) ?_)
  refine G.op rfl (G.val rfl rfl (pv_assign rfl) ?_)
  refine G.nil ?_
  refine G.nThen ?_
  refine G.seq ?_
  refine G.block ?_
  refine G.seq ?_
  refine G.region ?_
  refine G.op rfl (G.val rfl rfl (pv_move rfl) ?_)
  refine G.op rfl (G.val rfl rfl (pv_eqlP0 Try.underlying58 rfl rfl) ?_)
  refine G.op rfl (G.val rfl rfl (pv_move rfl) ?_)
  refine G.want rfl rfl rfl (G.val rfl rfl (pv_move rfl) ?_)
  refine G.want rfl rfl rfl (G.val rfl rfl (pv_nilCheck rfl) ?_)
  refine G.want rfl rfl rfl (G.val rfl rfl (pv_fieldAddr (sz := 0) Try.underlying90 rfl (by kernel_rfl) rfl) ?_)
  refine G.want rfl rfl rfl (G.val rfl rfl (pv_load Try.underlying4 rfl rfl (ro_blk (v := .bool true) hr rfl)) ?_)
  refine G.want rfl rfl rfl (G.val rfl rfl (pv_not rfl) ?_)
  refine G.op rfl (G.val rfl rfl (pv_pick rfl rfl) ?_)
  refine G.op rfl (G.val rfl rfl (pv_assign rfl) ?_)
  refine G.nil ?_
  refine G.nThen ?_
  refine G.condF rfl (rfl) ?_
  refine G.seq ?_
  refine G.region ?_
  refine G.op rfl (G.val rfl rfl (pv_move rfl) ?_)
  refine G.op rfl (G.val rfl rfl (pv_nilCheck rfl) ?_)
  refine G.op rfl (G.val rfl rfl (pv_fieldAddr (sz := 0) Try.underlying90 rfl (by kernel_rfl) rfl) ?_)
  refine G.op rfl (G.val rfl rfl (pv_load Try.underlying4 rfl rfl (ro_blk (v := .bool bad) hr rfl)) ?_)
  refine G.op rfl (G.val rfl rfl (pv_assign rfl) ?_)
  refine G.nil ?_
  refine G.nThen ?_
  refine G.cond rfl (fun h14 => ?_) (fun h14 => ?_)
  · obtain rfl : bad = true := h14
    refine G.seq ?_
    refine G.region ?_
    refine G.ownBNil 5 ?_
    refine G.op rfl (G.val rfl rfl (pv_assign rfl) ?_)
    refine G.op rfl (G.val rfl rfl (pv_assign rfl) ?_)
    refine G.nil ?_
    refine G.nThen ?_
    refine G.ret ?_
    refine G.rBlock ?_
    refine G.rThen ?_
    first | exact G.done2 (m' := [ownB 5 (.slice none 0 0) []]) rfl rfl rfl (.cons (by repeat (first | with_reducible exact Sel.here | exact Sel.here | apply Sel.there)) .nil) ⟨_, trivial, rfl, rfl⟩ | exact G.done2 (m' := [ownB 5 v' bs]) rfl rfl rfl (.cons (by repeat (first | with_reducible exact Sel.here | exact Sel.here | apply Sel.there)) .nil) ⟨v', trivial, rfl, rfl⟩
  · obtain rfl : bad = false := h14
    refine G.skip ?_
    refine G.nBlock ?_
    refine G.nThen ?_
    refine G.seq ?_
    refine G.region ?_
    refine G.op rfl (G.val rfl rfl (pv_move rfl) ?_)
    refine G.op rfl (G.val rfl rfl (pv_nilCheck rfl) ?_)
    refine G.op rfl (G.val rfl rfl (pv_fieldAddr (sz := 0) Try.underlying90 rfl (by kernel_rfl) rfl) ?_)
    refine G.op rfl (G.val rfl rfl (pv_load Try.underlying24 rfl rfl (ro_blk (v := v) hr rfl)) ?_)
    refine G.ownBNil 5 ?_
    refine G.op rfl (G.appendB (xs := []) (ys := bs) (Ps := fun k => v.ownBlock = some k) rfl Try.underlying24 Try.infoByte rfl rfl .here (ro_own ho) (by simp only [List.length_nil]; omega) (by simp only [List.length_nil]; omega) ?_)
    intro v'
    rw [List.nil_append bs]
    refine G.op rfl (G.val rfl rfl (pv_assign rfl) ?_)
    refine G.op rfl (G.val rfl rfl (pv_assign rfl) ?_)
    refine G.nil ?_
    refine G.nThen ?_
    refine G.ret ?_
    first | exact G.done2 (m' := [ownB 5 (.slice none 0 0) []]) rfl rfl rfl (.cons (by repeat (first | with_reducible exact Sel.here | exact Sel.here | apply Sel.there)) .nil) ⟨_, trivial, rfl, rfl⟩ | exact G.done2 (m' := [ownB 5 v' bs]) rfl rfl rfl (.cons (by repeat (first | with_reducible exact Sel.here | exact Sel.here | apply Sel.there)) .nil) ⟨v', trivial, rfl, rfl⟩
theorem G.blkOwnB {n : Nat} {w0 : World} {S : Nat → Prop} {l : Fr} {m r : List Ck} {K : Act → World → Prop} {b : Nat} {e : TypeId} {xs : List UInt8} (hs : Sel m (blk b e (xs.map vByte)) r) (hm : xs.length ≤ 9223372036854775807) (h : G n w0 S l (ownB e (.slice (some ⟨b, 0, none⟩) xs.length xs.length) xs :: r) K) : G n w0 S l m K :=
  G.mem (fun w hw => hp_view (c := blk b e (xs.map vByte)) (d := ownB e (.slice (some ⟨b, 0, none⟩) xs.length xs.length) xs) (hw.sel hs) (fun hb => .inr ⟨b, [], rfl, by simpa using hm, by rw [List.append_nil]; exact hb⟩) fun k hk => by
    simp [ownB, Value.ownBlock] at hk
    exact hk.symm) h
set_option maxRecDepth 20000 in

theorem woutRB_tr (D : Nat) (bad : Bool) (v : Value) (bs : List UInt8) (hb : bs.length ≤ 1000000000) : Tr Try.prog 41 #[.pointer (some ⟨D, 0, none⟩)] [blk D 65 [v, .bool bad], own 5 1 v bs.length (bs.map vByte)] []
    (TX (fun _ : Value => True) (fun x => .tuple #[x, .int .i64 (outE bad)]) (fun x => [ownB 5 x (outW bad bs)])) := by
  refine Tr.of (l := [(0, .pointer (some ⟨D, 0, none⟩))]) Try.func41 rfl (n := 14) rfl (.cons rfl .nil) (fun w0 hro => ?_)
  obtain ⟨hr, ho⟩ := ro2 hro
  refine G.seq ?_
  refine G.region ?_
  refine G.op rfl (G.val rfl rfl (pv_assign rfl) ?_)
  refine G.op rfl (G.val rfl rfl (pv_assign rfl) ?_)
  refine G.nil ?_
  refine G.nThen ?_
  refine G.seq ?_
  refine G.seq ?_
  refine G.region ?_
  refine G.op rfl (G.val rfl rfl (pv_move rfl) ?_)
  refine G.op rfl (G.val rfl rfl (pv_nilCheck rfl) ?_)
  refine G.op rfl (G.val rfl rfl (pv_fieldAddr (sz := 0) Try.underlying65 rfl (by kernel_rfl) rfl) ?_)
  refine G.op rfl (G.val rfl rfl (pv_load Try.underlying4 rfl rfl (ro_blk (v := .bool bad) hr rfl)) ?_)
  refine G.nil ?_
  refine G.nThen ?_
  refine G.cond rfl (fun h7 => ?_) (fun h7 => ?_)
  · obtain rfl : bad = true := h7
    refine G.seq ?_
    refine G.region ?_
    refine G.ownBNil 5 ?_
    refine G.op rfl (G.val rfl rfl (pv_assign rfl) ?_)
    refine G.op rfl (G.val rfl rfl (pv_assign rfl) ?_)
    refine G.nil ?_
    refine G.nThen ?_
    refine G.ret ?_
    refine G.rThen ?_
    first | exact G.done2 (m' := [ownB 5 (.slice none 0 0) []]) rfl rfl rfl (.cons (by repeat (first | with_reducible exact Sel.here | exact Sel.here | apply Sel.there)) .nil) ⟨_, trivial, rfl, rfl⟩ | exact G.done2 (m' := [ownB 5 v' bs]) rfl rfl rfl (.cons (by repeat (first | with_reducible exact Sel.here | exact Sel.here | apply Sel.there)) .nil) ⟨v', trivial, rfl, rfl⟩
  · obtain rfl : bad = false := h7
    refine G.skip ?_
    refine G.nThen ?_
    refine G.seq ?_
    refine G.region ?_
    refine G.op rfl (G.lit0 rfl Try.underlying24 (by kernel_rfl) rfl ?_)
    intro b8
    refine G.blkOwnB (xs := []) .here (by decide) ?_
    refine G.op rfl (G.val rfl rfl (pv_move rfl) ?_)
    refine G.op rfl (G.val rfl rfl (pv_nilCheck rfl) ?_)
    refine G.op rfl (G.val rfl rfl (pv_fieldAddr (sz := 0) Try.underlying65 rfl (by kernel_rfl) rfl) ?_)
    refine G.op rfl (G.val rfl rfl (pv_load Try.underlying24 rfl rfl (ro_blk (v := v) hr rfl)) ?_)
    refine G.op rfl (G.appendB (xs := []) (ys := bs) (Ps := fun k => v.ownBlock = some k) rfl Try.underlying24 Try.infoByte rfl rfl .here (ro_own ho) (by simp only [List.length_nil]; omega) (by simp only [List.length_nil]; omega) ?_)
    intro v'
    rw [List.nil_append bs]
    refine G.op rfl (G.val rfl rfl (pv_assign rfl) ?_)
    refine G.op rfl (G.val rfl rfl (pv_assign rfl) ?_)
    refine G.nil ?_
    refine G.nThen ?_
    refine G.ret ?_
    first | exact G.done2 (m' := [ownB 5 (.slice none 0 0) []]) rfl rfl rfl (.cons (by repeat (first | with_reducible exact Sel.here | exact Sel.here | apply Sel.there)) .nil) ⟨_, trivial, rfl, rfl⟩ | exact G.done2 (m' := [ownB 5 v' bs]) rfl rfl rfl (.cons (by repeat (first | with_reducible exact Sel.here | exact Sel.here | apply Sel.there)) .nil) ⟨v', trivial, rfl, rfl⟩
set_option maxRecDepth 20000 in

theorem over_nil : Tr Try.prog 18 #[.slice none 0 0] [] [] (TX (fun _ : Unit => True) (fun _ => .tuple #[]) (fun _ => [])) := by
  refine Tr.of (l := [(0, .slice none 0 0)]) Try.func18 rfl (n := 22) rfl (.cons rfl .nil) (fun w0 hro => ?_)
  refine G.seq ?_
  refine G.region ?_
  refine G.op rfl (G.val rfl rfl (pv_move rfl) ?_)
  refine G.op rfl (G.val rfl rfl (pv_move rfl) ?_)
  refine G.op rfl (G.val rfl rfl (pv_capSl Try.underlying24 rfl) ?_)
  refine G.op rfl (G.val rfl rfl (pv_subH (sz := 1) (k := 0) Try.underlying24 Try.sizeByte rfl rfl rfl (Nat.le_refl _)) ?_)
  refine G.op rfl (G.val rfl rfl (pv_assign rfl) ?_)
  refine G.nil ?_
  refine G.nThen ?_
  refine G.seq ?_
  refine G.region ?_
  refine G.op rfl (G.val rfl rfl (pv_assign rfl) ?_)
  refine G.nil ?_
  refine G.nThen ?_
  refine G.block ?_
  refine G.loop (X := Unit) (fun _ => True) (fun _ => [(2, .slice none 0 0), (3, .int .i64 0)]) (fun _ => []) (fun _ => 0) (x0 := ()) (trivial) (.consE rfl (by first | rfl | exact int_eq (by omega) | exact congrArg _ (by omega)) (.consE rfl (by first | rfl | exact int_eq (by omega) | exact congrArg _ (by omega)) .nil)) Sub.nil (fun _ hJ => ?_)
  show G _ _ _ [(2, .slice none 0 0), (3, .int .i64 0)] [] _
  refine G.seq ?_
  refine G.seq ?_
  refine G.region ?_
  refine G.op rfl (G.val rfl rfl (pv_move rfl) ?_)
  refine G.op rfl (G.val rfl rfl (pv_move rfl) ?_)
  refine G.op rfl (G.val rfl rfl (pv_lenSl Try.underlying24 rfl) ?_)
  refine G.op rfl (G.val rfl rfl (pv_lss rfl rfl) ?_)
  refine G.nil ?_
  refine G.nThen ?_
  refine G.condF rfl (decide_eq_false (by omega)) ?_
  refine G.exit ?_
  refine G.eThen ?_
  refine G.eThen ?_
  refine G.eBlock ?_
  exact G.doneE (m' := []) rfl .nil ⟨(), trivial, rfl, rfl⟩
theorem U_eq {c d : Ck} (h : ∀ b, c.S b ↔ d.S b) : U [c] = U [d] := by
  funext b
  simp [U, h]
theorem overB_tr (v : Value) (xs : List UInt8) : Tr Try.prog 18 #[v] [] [ownB 5 v xs] (TX (fun _ : Unit => True) (fun _ => .tuple #[]) (fun _ => [])) := fun w hro hw => by
  rcases hw.holds _ (List.mem_cons_self ..) with ⟨rfl, rfl⟩ | ⟨b, sp, rfl, hm, hg⟩
  · refine (over_nil w (by simp) ⟨Chg.refl _ _, by simp, by simp, .nil⟩).mono ?_
    rintro e w' ⟨u, m', he, ⟨x, hJ, hu, hm⟩, hw'⟩
    subst hm
    exact ⟨u, [], he, ⟨(), trivial, hu, rfl⟩, ⟨hw'.chg.mono fun b hb => by rw [U_nil] at hb; exact hb.elim, by simp, by simp, .nil⟩⟩
  · have hU : U [ownB 5 (.slice (some ⟨b, 0, none⟩) xs.length (xs.length + sp.length)) xs] = U [blk b 5 ((xs ++ sp).map vByte)] := U_eq fun k => by
      show some b = some k ↔ k = b
      constructor <;> intro h
      · exact (Option.some.inj h).symm
      · rw [h]
    have hw2 : Hp w (U [blk b 5 ((xs ++ sp).map vByte)]) w [blk b 5 ((xs ++ sp).map vByte)] := by
      rw [hU] at hw
      exact hp_view hw (fun _ => hg) fun k hk => by obtain rfl : k = b := hk; rfl
    refine (over_tr b xs.length (xs.length + sp.length) (xs ++ sp) (by simp) hm (by omega) w (by simp) hw2).mono ?_
    rintro e w' ⟨u, m', he, ⟨x, hJ, hu, hm'⟩, hw'⟩
    refine ⟨u, [], he, ⟨(), trivial, hu, rfl⟩, ?_⟩
    rw [hU]
    exact hw'.sub (List.nil_sublist _)
/-- a step -/
abbrev Step := Int × Int × Int × List UInt8 × List UInt8 × Unit
def rStep : Rdr Step := rProd rInt (rProd rInt (rProd rInt (rProd (rSlB rByte) (rProd (rArr 16 rByte) rUnit))))
def Step.n (x : Step) : Int := x.2.1
def Step.b (x : Step) : List UInt8 := x.2.2.2.1
def Step.id (x : Step) : List UInt8 := x.2.2.2.2.1
def sumM (l : List Step) : Nat := (l.map fun x => x.b.length).sum
theorem sumM_take {l : List Step} {k : Nat} (h : k < l.length) : sumM (l.take (k + 1)) = sumM (l.take k) + l[k].b.length := by
  unfold sumM
  rw [List.take_succ_eq_append_getElem h, List.map_append, List.sum_append]
  simp
theorem mem_le_sum : ∀ {l : List Nat} {x : Nat}, x ∈ l → x ≤ l.sum
  | a :: l, x, h => by
    rw [List.sum_cons]
    rcases List.mem_cons.1 h with rfl | h
    · omega
    · have := mem_le_sum h
      omega
theorem sumM_mem {l : List Step} {k : Nat} (h : k < l.length) : l[k].b.length ≤ sumM l := by
  unfold sumM
  exact mem_le_sum (List.mem_map.2 ⟨_, List.getElem_mem h, rfl⟩)
def largeM (l : List Step) : Bool := decide (40 < (l.length : Int)) || decide (3000 < (sumM l : Int))
end Go.Proofs.Ytakcffhknnailaa
