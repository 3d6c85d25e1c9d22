/- Contract of layer 3's reference: an ID's text. Conditions: none. -/
import Derived.Test.YtcgknadodpdblaaDigT
import Derived.Test.YtcgknadodpdblaaStep
set_option linter.unusedVariables false
set_option linter.unusedSimpArgs false
namespace Go.Proofs.Ytcgknadodpdblaa
open Go.RowKit

/-- what lies in memory while the reference makes an ID's text -/
structure TextRAt (w wr : World) (v : Value) (id t : List UInt8) : Prop where
  below : Below w.heap.size w wr
  idr : wr.rowIs w.heap.size 28 16 (byteF id)
  own : wr.ownsRow (w.heap.size + 1) 5 1 v t.length (t.flatMap encByte)
  hsz : w.heap.size + 1 ≤ wr.heap.size
theorem TextRAt.drew {w wr : World} {v : Value} {id t : List UInt8} (h : TextRAt w wr v id t) : TextRAt w wr.drew v id t := ⟨h.below.drew, h.idr.drew, h.own, h.hsz⟩
theorem grown_cell {w0 w1 w' : World} {b o e sz n : Nat} {v u : Value} {xs : List Value} (hg : w1.grownBy w' v.ownBlock) (h : w1.cell? ⟨b, o, none⟩ = some u) (hown : w0.ownsRow (b + 1) e sz v n xs) : w'.cell? ⟨b, o, none⟩ = some u :=
  hg.cell h fun e => by have := (hown.lt b e.symm).1; omega
theorem TextRAt.put {w wr w' : World} {o : Obj} {v v' : Value} {id t t' : List UInt8} {x y : UInt8} (h : TextRAt w wr v id t) (hown : w'.ownsRow (w.heap.size + 1) 5 1 v' (t.length + 2) (t.flatMap encByte ++ [.int .u8 (x.toNat : Int), .int .u8 (y.toNat : Int)])) (hg : (wr.alloc o).drew.grownBy w' v.ownBlock) (ht : t' = t ++ [x] ++ [y]) : TextRAt w w' v' id t' where
  below := (h.below.alloc (by have := h.hsz; omega) o).drew.grown hg (by have := h.hsz; show _ ≤ (World.alloc wr o).heap.size; simp; omega) (fun k hk => by have := (h.own.lt k hk).1; omega)
  idr := (h.idr.alloc o).of_block (hg.block _ (by have := h.hsz; show _ < (World.alloc wr o).heap.size; simp; omega) (fun e => by have := (h.own.lt _ e.symm).1; omega))
  hsz := Nat.le_trans (by have := h.hsz; show _ ≤ (World.alloc wr o).heap.size; simp; omega) hg.size
  own := by
    subst ht
    have hl : (t ++ [x] ++ [y]).length = t.length + 2 := by simp
    rw [hl, flat_snoc, flat_snoc, List.append_assoc (t.flatMap encByte)]
    exact hown
theorem pair_new (w : World) (x y : Value) (T : TypeId) : ∀ j u, [x, y][j]? = some u → (w.alloc (.cells #[x, y] T)).cell? ((⟨w.heap.size, 0, none⟩ : Addr).add j) = some u := news_new w [x, y] T
set_option maxHeartbeats 1000000 in
set_option maxRecDepth 20000 in
theorem textR_any (id : List UInt8) (hid : id.length = 16) (w : World) : Calls Try.prog 25 #[aggB id] w fun e w' => e = .returned (.string (strB (textM id))) ∧ Below w.heap.size w w' := by
  have HID := Lib.hid hid
  have hcells : aggB id = .agg (rowArr 16 (byteF id)) := by unfold aggB; rw [rowArr_bytes id 16 hid]
  rw [hcells]
  clear hid hcells
  obtain ⟨oc, hoc⟩ : ∃ oc, oc = rowArr 16 (byteF id) := ⟨_, rfl⟩
  rw [← hoc]
  have HOC := Lib.hid hoc; clear hoc
  obtain ⟨ib, hib, hiz, his, hiby⟩ := Try.infoByteK
  have HIB := Lib.hid hib; have HIZ := Lib.hid hiz; have HIS := Lib.hid his; have HIBY := Lib.hid hiby; clear hib hiz his hiby
  go_enter Try.func25, Try.ntmps25
  go_upto_region 2 with fail
  generalize hW1 : World.alloc w _ = W1
  have hE0 : TextRAt w W1 (.slice none 0 0) id (textTo id 0) := by
    subst hW1
    refine ⟨(Below.refl _ _).alloc (Nat.le_refl _) _, ?_, ⟨rfl, .inl ⟨rfl, rfl⟩⟩, by simp⟩
    rw [HOC.out]
    exact ⟨_, heap_alloc_new _ _, by simp [rowArr], fun i hi => by simp [rowArr, hi]⟩
  have HE0 := Lib.hid hE0
  clear hE0 hW1
  go_wp2_with fail
  go_loopw [3, 4] (fun v i wr => ∃ k : Nat, k ≤ 16 ∧ i = .int .i64 k ∧ TextRAt w wr v id (textTo id k)) (fun _ i _ => (16 - intOf i).toNat)
  case atStart => exact ⟨0, by omega, rfl, HE0.out⟩
  case round =>
    obtain ⟨k, hk, rfl, hE⟩ := hrel
    by_cases hlt : k < 16
    · obtain ⟨c, hc⟩ : ∃ c : UInt8, c = id[k]'(by rw [HID.out]; exact hlt) := ⟨_, rfl⟩
      have q := hE.idr.cell hlt
      have hbm : byteM id k = (c.toNat : Int) := by rw [hc]; unfold byteM; simp [List.getD, HID.out, hlt]
      unfold byteF at q
      rw [hbm] at q
      have hsucc := textTo_succ id k (by rw [HID.out]; exact hlt)
      rw [← hc] at hsucc
      have hcl := c.toNat_lt
      have hlen := textTo_length id k
      obtain ⟨n, hn⟩ : ∃ n, n = c.toNat := ⟨_, rfl⟩
      rw [← hn] at q hsucc hcl
      have hd1 := fun wx => digit_at (n / 16) (by omega) wx
      have hd2 := fun wx => digit_at (n % 16) (by omega) wx
      rw [show ((n / 16 : Nat) : Int) = (n : Int) / 16 by omega] at hd1
      rw [show ((n % 16 : Nat) : Int) = (n : Int) % 16 by omega] at hd2
      unfold digits at hd1 hd2
      have bk : 0 ≤ (k : Int) ∧ (k : Int) < 16 := by omega
      have nb : 0 ≤ (n : Int) ∧ (n : Int) < 256 := by omega
      have HE := Lib.hid hE; have HSUCC := Lib.hid hsucc; have HLEN := Lib.hid hlen
      clear hE hsucc hlen hc hn hbm
      have ht1 : (n : Int).tdiv 16 = (n : Int) / 16 := Int.tdiv_eq_ediv_of_nonneg (by omega)
      have ht2 : (n : Int).tmod 16 = (n : Int) % 16 := Int.tmod_eq_emod_of_nonneg (by omega)
      have hw1 : IntKind.u8.wrap ((n : Int) / 16) = (n : Int) / 16 := by rw [IntKind.wrap_u8]; omega
      have hw2 : IntKind.u8.wrap ((n : Int) % 16) = (n : Int) % 16 := by rw [IntKind.wrap_u8]; omega
      go_wp2_with fail
      have q2 : ∀ o, (wr.alloc o).drew.cell? ⟨w.heap.size, k, none⟩ = some (.int .u8 (n : Int)) := fun o => (World.cell?_alloc_lt _ _ _ (cell_lt q)).trans q
      have hown2 : ∀ o, (wr.alloc o).drew.ownsRow (w.heap.size + 1) 5 1 u3 (textTo id k).length ((textTo id k).flatMap encByte) := fun o => HE.out.own.alloc o
      have hnews2 := fun (x y : Value) => pair_new wr x y 5
      have hb2 : w.heap.size + 1 ≤ wr.heap.size + 1 := by have := HE.out.hsz; omega
      have HOWN2 := Lib.hid hown2; have HNEWS2 := Lib.hid hnews2; have HQ2 := Lib.hid q2
      clear hown2 hnews2 q2
      go_region_held3 (fun w' => w'.cell? ⟨w.heap.size, k, none⟩ = some (.int .u8 (n : Int))) (first | exact q | exact HQ2.out _ | assumption) (first | (refine step_append_own rfl _ _ 22 rfl (w.heap.size + 1) 5 ib (.int .u8 0) 1 1 Try.underlying22 HIB.out HIZ.out HIS.out HIBY.out rfl (by decide) _ _ _ rfl (HOWN2.out _) ⟨wr.heap.size, 0, none⟩ 2 2 [.int .u8 ((hexN (n / 16)).toNat : Int), .int .u8 ((hexN (n % 16)).toNat : Int)] rfl rfl (HNEWS2.out _ _) (oneCell_ints .u8 [((hexN (n / 16)).toNat : Int), ((hexN (n % 16)).toNat : Int)]) (by have := HLEN.out; unfold maxLen; omega) (by have := HLEN.out; omega) (by have := HE.out.hsz; show _ ≤ (World.alloc wr _).heap.size; simp; omega) ?_; intro v' w' hown' hg'; have hk3 : w'.cell? ⟨w.heap.size, k, none⟩ = some (.int .u8 (n : Int)) := grown_cell hg' (HQ2.out _) (HE.out.own)))
      all_goals
        have hE' := HE.out.put hown' hg' HSUCC.out
        have HE' := Lib.hid hE'
        clear hown' hg' hk3 hE'
        go_wp2_with fail
        go_roundw
        case rel => exact ⟨k + 1, by omega, by go_num, HE'.out⟩
        case measure => simp [intOf]; omega
    · obtain rfl : k = 16 := by omega
      have hstr := run_string_of (SlByte.of_owns hE.own rfl)
      have HE := Lib.hid hE; clear hE
      rw [textTo_all id 16 (by rw [HID.out]; exact Nat.le_refl _)] at hstr
      go_wp2_with fail
      go_ret
      exact ⟨rfl, HE.out.below⟩
end Go.Proofs.Ytcgknadodpdblaa
