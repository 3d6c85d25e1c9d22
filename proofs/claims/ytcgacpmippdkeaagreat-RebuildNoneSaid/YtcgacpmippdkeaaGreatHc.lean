/- Merged of VC, PA, Shelf, PB, PC, PE, PF, PG, PI, PL, TreeA, TB, VD, VE, TC, TD, TE, TF, TG, TreeB, TH, WM, VG, VH, TV, VI, VJ, VA. Conditions: none. -/
import Derived.Test.YtcgacpmippdkeaaGreatHb
import Derived.Laws.BitsLemmas
import Derived.Shelf.Strings.Search1
import Derived.Shelf.Strings.Search2
import Derived.Shelf.Strings.Cut
import Derived.Shelf.LaysM
import Derived.Shelf.Strings.Shaped
import Derived.Shelf.Strings.LastIndex
import Derived.Test.YtcgacpmippdkeaaGreatProg
import Derived.Maps.Keyed
import Derived.DeepKeys4
set_option maxRecDepth 20000
set_option linter.unusedVariables false
set_option linter.unusedSimpArgs false
namespace Go.Proofs.YtcgacpmippdkeaaGreat
open Go.RowKit
def wtM (c : UInt8) : Int := ((c.toNat : Int) * 2 + 1) * 2654435761 % 4294967296
def rsum (b : List UInt8) : Int := b.foldl (fun n c => (n * 3 + wtM c) % 4294967296) 0
def lastW (m : List UInt8) : List UInt8 := m.drop (m.length - 16)
def rollM (s : Int) (o c : UInt8) : Int := ((s - wtM o * 14348907) * 3 + wtM c) % 4294967296
theorem wtM_rng (c : UInt8) : 0 ≤ wtM c ∧ wtM c < 4294967296 := by unfold wtM; omega
theorem rsum_snoc (b : List UInt8) (c : UInt8) : rsum (b ++ [c]) = (rsum b * 3 + wtM c) % 4294967296 := by simp [rsum, List.foldl_append]
theorem mod_ex (x M : Int) : ∃ k, x % M = x + M * k := ⟨-(x / M), by have := Int.emod_add_mul_ediv x M; grind⟩
theorem fold_lin : ∀ (b : List UInt8) (n : Int), ∃ k, b.foldl (fun n c => (n * 3 + wtM c) % 4294967296) n = n * 3 ^ b.length + b.foldl (fun n c => (n * 3 + wtM c) % 4294967296) 0 + 4294967296 * k
 | [], n => ⟨0, by simp⟩
 | c :: b, n => by
  obtain ⟨k1, h1⟩ := fold_lin b ((n * 3 + wtM c) % 4294967296)
  obtain ⟨k2, h2⟩ := fold_lin b ((0 * 3 + wtM c) % 4294967296)
  obtain ⟨k3, h3⟩ := mod_ex (n * 3 + wtM c) 4294967296
  obtain ⟨k4, h4⟩ := mod_ex (0 * 3 + wtM c) 4294967296
  refine ⟨k1 - k2 + (k3 - k4) * 3 ^ b.length, ?_⟩
  rw [List.foldl_cons, List.foldl_cons, h1, h2, h3, h4, List.length_cons, Int.pow_succ]
  grind
theorem rsum_cons (a : UInt8) (l : List UInt8) (h : l.length = 15) : ∃ k, rsum (a :: l) = wtM a * 14348907 + rsum l + 4294967296 * k := by
 unfold rsum
 obtain ⟨k1, h1⟩ := fold_lin l ((0 * 3 + wtM a) % 4294967296)
 have h2 : (0 * 3 + wtM a) % 4294967296 = wtM a := by have := wtM_rng a; omega
 rw [h2, h] at h1
 exact ⟨k1, by rw [List.foldl_cons, h2, h1]; rfl⟩
theorem roll_win (a c : UInt8) (l : List UInt8) (h : l.length = 15) : rollM (rsum (a :: l)) a c = rsum (l ++ [c]) := by
 obtain ⟨k, hk⟩ := rsum_cons a l h
 rw [rsum_snoc, hk]
 unfold rollM
 have : (wtM a * 14348907 + rsum l + 4294967296 * k - wtM a * 14348907) * 3 + wtM c = rsum l * 3 + wtM c + 4294967296 * (k * 3) := by omega
 rw [this, Int.add_mul_emod_self_left]
theorem lastW_small {m : List UInt8} (h : m.length ≤ 16) : lastW m = m := by
 unfold lastW
 rw [show m.length - 16 = 0 by omega, List.drop_zero]
theorem lastW_snoc {m : List UInt8} (h : m.length < 16) (c : UInt8) : rsum (lastW (m ++ [c])) = (rsum (lastW m) * 3 + wtM c) % 4294967296 := by
 rw [lastW_small (show (m ++ [c]).length ≤ 16 by simp; omega), lastW_small (by omega), rsum_snoc]
theorem lastW_roll {m : List UInt8} (h : 16 ≤ m.length) (c : UInt8) : rsum (lastW (m ++ [c])) = rollM (rsum (lastW m)) (m[m.length - 16]'(by omega)) c := by
 have e1 : lastW m = m[m.length - 16]'(by omega) :: m.drop (m.length - 15) := by
  unfold lastW
  rw [List.drop_eq_getElem_cons (by omega), show m.length - 16 + 1 = m.length - 15 by omega]
 have e2 : lastW (m ++ [c]) = m.drop (m.length - 15) ++ [c] := by
  unfold lastW
  rw [List.length_append, List.length_singleton, List.drop_append_of_le_length (by omega), show m.length + 1 - 16 = m.length - 15 by omega]
 rw [e1, e2, roll_win _ _ _ (by rw [List.length_drop]; omega)]
def rollC (ring : List UInt8) (n : Nat) (s : Int) (rest : List Value) : List Value := ring.map vByte ++ (.int .i64 (n : Int) :: .int .u32 s :: .bool true :: rest)
def rollN (k : Nat) : Nat := if k < 16 then k else 16 + k % 16
structure RollAt (ring : List UInt8) (n : Nat) (s : Int) (m : List UInt8) : Prop where
 len : ring.length = 16
 num : n = rollN m.length
 sum : s = rsum (lastW m)
 at' : ∀ j (h : j < m.length), m.length ≤ j + 16 → ring[j % 16]? = some m[j]
theorem roll_zero : RollAt (List.replicate 16 0) 0 0 [] := ⟨rfl, rfl, rfl, fun j h => absurd h (by simp)⟩
variable {ring : List UInt8} {n : Nat} {s : Int} {rest : List Value}
theorem roll_n (h : ring.length = 16) : (rollC ring n s rest)[0 + 16]? = some (.int .i64 (n : Int)) := by
 unfold rollC
 rw [List.getElem?_append_right (by rw [List.length_map]; omega), List.length_map, h]
 rfl
theorem roll_s (h : ring.length = 16) : (rollC ring n s rest)[0 + 17]? = some (.int .u32 s) := by
 unfold rollC
 rw [List.getElem?_append_right (by rw [List.length_map]; omega), List.length_map, h]
 rfl
theorem roll_m (h : ring.length = 16) : (rollC ring n s rest)[0 + 18]? = some (.bool true) := by
 unfold rollC
 rw [List.getElem?_append_right (by rw [List.length_map]; omega), List.length_map, h]
 rfl
theorem roll_x {v : Value} (h : ring.length = 16) : (rollC ring n s [v])[0 + 19]? = some v := by
 unfold rollC
 rw [List.getElem?_append_right (by rw [List.length_map]; omega), List.length_map, h]
 rfl
theorem roll_r (h : ring.length = 16) {i : Nat} {c : UInt8} (hc : ring[i]? = some c) : (rollC ring n s rest)[0 + 0 + i * 1]? = some (.int .u8 (c.toNat : Int)) := by
 have hi := (List.getElem?_eq_some_iff.1 hc).1
 unfold rollC
 rw [List.getElem?_append_left (by rw [List.length_map]; omega), List.getElem?_map, show 0 + 0 + i * 1 = i by omega, hc]
 rfl
theorem roll_len (h : ring.length = 16) : (rollC ring n s rest).length = 19 + rest.length := by
 unfold rollC
 simp [h]
 omega
theorem roll_setN (h : ring.length = 16) (n' : Nat) : (rollC ring n s rest).set (0 + 16) (.int .i64 (n' : Int)) = rollC ring n' s rest := by
 unfold rollC
 rw [List.set_append_right _ _ (by rw [List.length_map]; omega), List.length_map, h]
 rfl
theorem roll_setS (h : ring.length = 16) (s' : Int) : (rollC ring n s rest).set (0 + 17) (.int .u32 s') = rollC ring n s' rest := by
 unfold rollC
 rw [List.set_append_right _ _ (by rw [List.length_map]; omega), List.length_map, h]
 rfl
theorem roll_setX {v : Value} (h : ring.length = 16) (v' : Value) : (rollC ring n s [v]).set (0 + 19) v' = rollC ring n s [v'] := by
 unfold rollC
 rw [List.set_append_right _ _ (by rw [List.length_map]; omega), List.length_map, h]
 rfl
theorem roll_setR (h : ring.length = 16) {i : Nat} (hi : i < 16) (c : UInt8) : (rollC ring n s rest).set (0 + 0 + i * 1) (.int .u8 (c.toNat : Int)) = rollC (ring.set i c) n s rest := by
 unfold rollC
 rw [show 0 + 0 + i * 1 = i by omega, List.set_append_left _ _ (by rw [List.length_map]; omega), List.map_set]
 rfl
theorem RollAt.out {m : List UInt8} (h : RollAt ring n s m) (hm : ¬ n < 16) : ∃ hl : 16 ≤ m.length, ring[n % 16]? = some (m[m.length - 16]'(by omega)) ∧ n % 16 = m.length % 16 := by
 have hn := h.num
 unfold rollN at hn
 split at hn
 ·omega
 refine ⟨by omega, ?_, by omega⟩
 have := h.at' (m.length - 16) (by omega) (by omega)
 rw [← this]
 congr 1
 omega
theorem RollAt.mod {m : List UInt8} (h : RollAt ring n s m) : n % 16 = m.length % 16 ∧ n < 32 := by
 have hn := h.num
 unfold rollN at hn
 split at hn <;> omega
theorem RollAt.push {m : List UInt8} (h : RollAt ring n s m) (c : UInt8) : RollAt (ring.set (n % 16) c) (if n + 1 = 32 then 16 else n + 1) (rsum (lastW (m ++ [c]))) (m ++ [c]) := by
 obtain ⟨hm, hlt⟩ := h.mod
 refine ⟨by rw [List.length_set]; exact h.len, ?_, rfl, fun j hj hj2 => ?_⟩
 ·have hn := h.num
  unfold rollN at hn ⊢
  rw [List.length_append, List.length_singleton]
  split at hn <;> split <;> split <;> omega
 rw [List.length_append, List.length_singleton] at hj hj2
 rcases Nat.lt_or_ge j m.length with h1 | h1
 ·rw [List.getElem_append_left h1, List.getElem?_set_ne (by omega)]
  exact h.at' j h1 (by omega)
 obtain rfl : j = m.length := by omega
 rw [hm, List.getElem?_set_self (by rw [h.len]; omega)]
 simp
theorem or_one (c : UInt8) : bits .or .u32 ((c.toNat : Int) * 2) 1 = (c.toNat : Int) * 2 + 1 := by
 have : ∀ k : Fin 256, bits .or .u32 ((k.val : Int) * 2) 1 = (k.val : Int) * 2 + 1 := by decide +kernel
 exact this ⟨c.toNat, c.toNat_lt⟩
theorem u32_wt (c : UInt8) : IntKind.u32.wrap (((c.toNat : Int) * 2 + 1) * 2654435761) = wtM c := by rw [IntKind.wrap_u32]; rfl
theorem u32_small {x : Int} (h : 0 ≤ x ∧ x < 4294967296) : IntKind.u32.wrap x = x := by rw [IntKind.wrap_u32]; omega
theorem u32_roll (s : Int) (o c : UInt8) : IntKind.u32.wrap (IntKind.u32.wrap (IntKind.u32.wrap (s - IntKind.u32.wrap (wtM o * 14348907)) * 3) + wtM c) = rollM s o c := by
 simp only [IntKind.wrap_u32]
 unfold rollM
 omega
theorem u32_next (s : Int) (c : UInt8) : IntKind.u32.wrap (IntKind.u32.wrap (s * 3) + wtM c) = (s * 3 + wtM c) % 4294967296 := by
 simp only [IntKind.wrap_u32]
 omega
set_option maxHeartbeats 4000000 in
theorem weight_tr (c : UInt8) : Tr Tryz.prog 128 #[.int .u8 (c.toNat : Int)] [] [] (T0 (.int .u32 (wtM c))) := by
 refine Tr.of (l := [(0, .int .u8 (c.toNat : Int))]) Tryz.func128 rfl (n := 8) rfl (.cons rfl .nil) (fun w0 hro => ?_)
 have hc := c.toNat_lt
 refine go [9,10,1,7,8,9,10,0] ?_
 refine G.op rfl (G.val rfl rfl ((pv_conv (by rw [Tryz.underlying5]; rfl) Tryz.underlying122 rfl).int (b := (c.toNat : Int)) (u32_small ⟨by omega, by omega⟩)) ?_)
 refine G.op rfl (G.val rfl rfl ((pv_shl (s := 1) rfl rfl (by decide)).int (b := (c.toNat : Int) * 2) (u32_small (x := (c.toNat : Int) * 2 ^ 1) ⟨by omega, by omega⟩)) ?_)
 refine G.op rfl (G.val rfl rfl ((pv_or rfl rfl).int (or_one c)) ?_)
 refine G.op rfl (G.val rfl rfl ((pv_mulk rfl rfl).int (u32_wt c)) ?_)
 refine go [1,7,8,11] ?_
 exact G.done0G rfl (Rv.tmp rfl Rv.nil) Y8
set_option maxHeartbeats 4000000 in
theorem rollF_tr (s : Int) (o c : UInt8) : Tr Tryz.prog 129 #[.int .u32 s, .int .u8 (o.toNat : Int), .int .u8 (c.toNat : Int)] [] [] (T0 (.int .u32 (rollM s o c))) := by
 refine Tr.of (l := [(0, .int .u32 s), (1, .int .u8 (o.toNat : Int)), (2, .int .u8 (c.toNat : Int))]) Tryz.func129 rfl (n := 16) rfl (.cons rfl (.cons rfl (.cons rfl .nil))) (fun w0 hro => ?_)
 refine go [9,10,1,7,8,9,10,0,0] ?_
 refine G.op rfl (G.cR rfl rfl rfl rfl Tryz.func128 rfl rfl may0 (weight_tr _) ?_)
 refine G.op rfl (G.val rfl rfl (pv_mulk rfl rfl) ?_)
 refine G.op rfl (G.val rfl rfl (pv_subk rfl rfl) ?_)
 refine G.op rfl (G.val rfl rfl (pv_mulk rfl rfl) ?_)
 refine go [0] ?_
 refine G.op rfl (G.cR rfl rfl rfl rfl Tryz.func128 rfl rfl may0 (weight_tr _) ?_)
 refine G.op rfl (G.val rfl rfl ((pv_addk rfl rfl).int (u32_roll s o c)) ?_)
 refine go [1,7,8,11] ?_
 exact G.done0G rfl (Rv.tmp rfl Rv.nil) Y8
set_option maxHeartbeats 4000000 in
theorem rnone_tr (D : Nat) (T : TypeId) (ring : List UInt8) (n : Nat) (s : Int) (rest : List Value) (hr : ring.length = 16) : Tr Tryz.prog 127 #[.pointer (some ⟨D, 0, none⟩)] [blk D T (rollC ring n s rest)] [] (T0 (.bool false)) := by
 refine Tr.of (l := [(0, .pointer (some ⟨D, 0, none⟩))]) Tryz.func127 rfl (n := 12) rfl (.cons rfl .nil) (fun w0 hro => ?_)
 have hb := ro1 hro
 refine go [9,10,1,7,8,9,10,0] ?_
 refine G.op rfl (G.val rfl rfl ((pv_eqlP0 Tryz.underlying197 rfl rfl).cast (v' := .bool false) rfl) ?_)
 refine go [0,3,0,3,8,3,3,18] ?_
 refine G.want rfl rfl rfl (G.val rfl rfl (pv_load Tryz.underlying4 rfl rfl (ro_blk hb (roll_m hr))) ?_)
 refine G.want rfl rfl rfl (G.val rfl rfl ((pv_not rfl).cast (v' := .bool false) rfl) ?_)
 refine go [2,2,1,7,8,11] ?_
 exact G.done0G rfl (Rv.tmp rfl Rv.nil) Y8
set_option maxHeartbeats 4000000 in
theorem push_tr (D : Nat) (T : TypeId) (ring : List UInt8) (n : Nat) (s : Int) (rest : List Value) (m : List UInt8) (c : UInt8) (h : RollAt ring n s m) : Tr Tryz.prog 125 #[.pointer (some ⟨D, 0, none⟩), .int .u8 (c.toNat : Int)] [] [blk D T (rollC ring n s rest)]
 (TX (fun z : List UInt8 × Nat × Int => RollAt z.1 z.2.1 z.2.2 (m ++ [c])) (fun _ => .int .u32 (rsum (lastW (m ++ [c])))) (fun z => [blk D T (rollC z.1 z.2.1 z.2.2 rest)])) := by
 refine Tr.of (l := [(0, .pointer (some ⟨D, 0, none⟩)), (1, .int .u8 (c.toNat : Int))]) Tryz.func125 rfl (n := 73) rfl (.cons rfl (.cons rfl .nil)) (fun w0 hro => ?_)
 have hr := h.len
 obtain ⟨hmod, hn32⟩ := h.mod
 have hpush := h.push c
 refine go [9,10,1,7,8,9] ?_
 refine G.cutK (X := Int) (ts := [0, 1]) (p := [blk D _ _]) (fun s' => s' = rsum (lastW (m ++ [c]))) (fun s' => []) (fun s' => [blk D T (rollC ring n s' rest)]) (.cons rfl (.cons rfl .nil)) subT Ap.nil apT ?_ ?_
 ·refine go [15,9,10,0] ?_
  refine G.op rfl (G.cR rfl rfl rfl rfl Tryz.func127 rfl rfl (may1 (by first | (apply May.old; first | with_reducible assumption | assumption) | (apply Sel.may; (repeat (first | with_reducible exact Sel.here | exact Sel.here | apply Sel.there)); done) | (apply may_own; (repeat (first | with_reducible exact Sel.here | exact Sel.here | apply Sel.there)); exact rfl; exact (fun _ _ => trivial); done) | (apply may_ownB; (repeat (first | with_reducible exact Sel.here | exact Sel.here | apply Sel.there)); done))) (rnone_tr _ _ _ _ _ _ (by assumption)) ?_)
  refine go [1,7,8,60,1,9,10,0,2,8,2,3,16,2,50,5,2,9,1,7,8] ?_
  refine G.condP rfl (fun h27 => ?_) (fun h27 => ?_)
  ·have hm16 : m.length < 16 := by have := h.num; unfold rollN at this; split at this <;> omega
   have hsn := lastW_snoc hm16 c
   rw [← h.sum] at hsn
   refine G.drawT (nn := 12) (p := [blk D _ _]) (rem := 4095) [0, 0, 2, 4, 8, 16, 0, 64, 160, 511, 1023, 1535] [0, 0, 2, 4, 8, 16, 0, 64, 160, 1, 512, 1280] kr ⟨rfl, by kernel_rfl, by kernel_rfl⟩ subT kr (fun hT5 => ?_)
   refine go [22,0,4094,0,22,1,4092,0,22,2,4088,8,22,3,4080,3,17,22,6,4016,0] ?_
   refine G.twoT hT5 (i := 4) (j := 7) (rem' := 4000) (rem'' := 3888) kr kr kr ?_ ?_
   ·refine go [25,50,5,26] ?_
    refine G.takeT hT5 (i := 5) (rem' := 3968) rfl rfl rfl kr (fun _ _ _ h => h) rfl (pv_mulk rfl rfl) subT ?_
    refine go [24,7,3840] ?_
    refine G.turnOp rfl rfl (G.cR rfl rfl rfl rfl Tryz.func128 rfl rfl may0 (weight_tr _) ?_)
    refine go [26] ?_
    refine G.takeT hT5 (i := 8) (rem' := 3584) rfl rfl rfl kr (fun _ _ _ h => h) rfl ((pv_addk rfl rfl).int ((u32_next _ _).trans hsn.symm)) subT ?_
    refine go [22,9,3072,8,22,10,2048,3,17,24,11,0,60,15] ?_
    rw [roll_setS hr]
    refine go [26,27,16] ?_
    exact G.meet (rsum (lastW (m ++ [c]))) Y16 (.cons rfl (.cons rfl .nil)) subT
   refine G.turnOp rfl rfl (G.cR rfl rfl rfl rfl Tryz.func128 rfl rfl may0 (weight_tr _) ?_)
   refine go [26,24,4,3872,25,50,5,26] ?_
   refine G.takeT hT5 (i := 5) (rem' := 3840) rfl rfl rfl kr (fun _ _ _ h => h) rfl (pv_mulk rfl rfl) subT ?_
   refine G.takeT hT5 (i := 8) (rem' := 3584) rfl rfl rfl kr (fun _ _ _ h => h) rfl ((pv_addk rfl rfl).int ((u32_next _ _).trans hsn.symm)) subT ?_
   refine go [22,9,3072,8,22,10,2048,3,17,24,11,0,60,15] ?_
   rw [roll_setS hr]
   refine go [26,27,16] ?_
   exact G.meet (rsum (lastW (m ++ [c]))) Y16 (.cons rfl (.cons rfl .nil)) subT
  obtain ⟨h16, hout, _⟩ := h.out (by omega)
  have hro2 := lastW_roll h16 c
  rw [← h.sum] at hro2
  refine G.drawT (nn := 20) (p := [blk D _ _]) (rem := 1048575) [0, 0, 2, 4, 8, 0, 0, 64, 128, 256, 512, 32, 2048, 5120, 8192, 0, 49168, 131071, 262143, 393215] [0, 0, 2, 4, 8, 0, 0, 64, 128, 256, 512, 32, 2048, 5120, 8192, 0, 49168, 1, 131072, 327680] kr ⟨rfl, by kernel_rfl, by kernel_rfl⟩ subT kr (fun hT1 => ?_)
  refine go [22,0,1048574,0,22,1,1048572,0,22,2,1048568,8,22,3,1048560,3,17,22,5,1048528,0,22,6,1048464,0,22,7,1048336,8,22,8,1048080,3,16,22,11,1046032,8,22,12,1041936,3,0,22,15,1009168,0] ?_
  refine G.twoT hT1 (i := 4) (j := 9) (rem' := 1009152) (rem'' := 1008656) kr kr kr ?_ ?_
  ·refine go [25,50,5,26,24,9,1008640,25,50,5,26] ?_
   refine G.takeT hT1 (i := 10) (rem' := 1007616) rfl rfl rfl kr (fun _ _ _ h => h) rfl (pv_rem64 rfl rfl (by omega) (by omega)) subT ?_
   refine G.takeT hT1 (i := 13) (rem' := 999424) rfl rfl rfl kr (fun _ _ _ h => h) rfl (pv_ixA (sz := 1) (k := n % 16) Tryz.underlying58 kr rfl rfl (by omega) (by omega)) subT ?_
   refine go [24,14,983040] ?_
   refine G.turnOp rfl rfl (G.val rfl rfl (pv_load Tryz.underlying5 rfl rfl (blk_cell selD (roll_r hr hout))) ?_)
   refine go [26,24,16,917504] ?_
   refine G.turnOp rfl rfl (G.cR rfl rfl rfl rfl Tryz.func129 rfl rfl may0 (rollF_tr _ _ _) ?_)
   rw [← hro2]
   refine go [26,22,17,786432,8,22,18,524288,3,17,24,19,0,60,15] ?_
   rw [roll_setS hr]
   refine go [26,27,16] ?_
   exact G.meet (rsum (lastW (m ++ [c]))) Y16 (.cons rfl (.cons rfl .nil)) subT
  refine go [25,50,5,26] ?_
  refine G.takeT hT1 (i := 10) (rem' := 1007632) rfl rfl rfl kr (fun _ _ _ h => h) rfl (pv_rem64 rfl rfl (by omega) (by omega)) subT ?_
  refine G.takeT hT1 (i := 13) (rem' := 999440) rfl rfl rfl kr (fun _ _ _ h => h) rfl (pv_ixA (sz := 1) (k := n % 16) Tryz.underlying58 kr rfl rfl (by omega) (by omega)) subT ?_
  refine G.twoT hT1 (i := 4) (j := 14) (rem' := 999424) (rem'' := 983056) kr kr kr ?_ ?_
  ·refine go [25,50,5,26,24,14,983040] ?_
   refine G.turnOp rfl rfl (G.val rfl rfl (pv_load Tryz.underlying5 rfl rfl (blk_cell selD (roll_r hr hout))) ?_)
   refine go [26,24,16,917504] ?_
   refine G.turnOp rfl rfl (G.cR rfl rfl rfl rfl Tryz.func129 rfl rfl may0 (rollF_tr _ _ _) ?_)
   rw [← hro2]
   refine go [26,22,17,786432,8,22,18,524288,3,17,24,19,0,60,15] ?_
   rw [roll_setS hr]
   refine go [26,27,16] ?_
   exact G.meet (rsum (lastW (m ++ [c]))) Y16 (.cons rfl (.cons rfl .nil)) subT
  refine G.turnOp rfl rfl (G.val rfl rfl (pv_load Tryz.underlying5 rfl rfl (blk_cell selD (roll_r hr hout))) ?_)
  refine go [26,24,4,983040,25,50,5,26,24,16,917504] ?_
  refine G.turnOp rfl rfl (G.cR rfl rfl rfl rfl Tryz.func129 rfl rfl may0 (rollF_tr _ _ _) ?_)
  rw [← hro2]
  refine go [26,22,17,786432,8,22,18,524288,3,17,24,19,0,60,15] ?_
  rw [roll_setS hr]
  refine go [26,27,16] ?_
  exact G.meet (rsum (lastW (m ++ [c]))) Y16 (.cons rfl (.cons rfl .nil)) subT
 intro s' hJ
 try dsimp only at hJ
 try dsimp only
 subst hJ
 refine G.seq ?_
 refine G.drawT (nn := 11) (p := [blk D _ _]) (rem := 2047) [0, 0, 2, 4, 8, 16, 0, 1, 128, 383, 639] [0, 0, 2, 4, 8, 16, 0, 1, 128, 288, 576] kr ⟨rfl, by kernel_rfl, by kernel_rfl⟩ subT kr (fun hT6 => ?_)
 refine go [22,0,2046,0,22,1,2044,0,22,2,2040,8,22,3,2032,3,16,22,6,1968,0,22,7,1840,8,22,8,1584,3,0,24,4,1568,25,50,5,26] ?_
 refine G.takeT hT6 (i := 5) (rem' := 1536) rfl rfl rfl kr (fun _ _ _ h => h) rfl (pv_rem64 rfl rfl (by omega) (by omega)) subT ?_
 refine G.takeT hT6 (i := 9) (rem' := 1024) rfl rfl rfl kr (fun _ _ _ h => h) rfl (pv_ixA (sz := 1) (k := n % 16) Tryz.underlying58 kr rfl rfl (by omega) (by omega)) subT ?_
 refine go [24,10,0,60,15] ?_
 rw [roll_setR hr (by omega)]
 have hr0 := hr
 have hr : (ring.set (n % 16) c).length = 16 := by rw [List.length_set]; exact hr0
 refine go [26,27,8,9,10,0,2,8,2,3,16,2,50,5] ?_
 refine G.op rfl (G.val rfl rfl ((pv_add64 rfl rfl (by omega)).int (b := ((n + 1 : Nat) : Int)) (by omega)) ?_)
 refine go [2,8,2,3,16] ?_
 refine G.op rfl (G.store kr rfl rfl (by rfl) selT Y35 ?_)
 rw [roll_setN hr]
 refine go [7,8,9,9,10,0,2,8,2,3,16,2,50,5,2,13,7,8] ?_
 refine G.condP rfl (fun h65 => ?_) (fun h65 => ?_)
 ·have h32 : n + 1 = 32 := by omega
  rw [if_pos h32] at hpush
  refine go [10,0,2,8,2,3,16] ?_
  refine G.op rfl (G.store kr rfl rfl (by rfl) selT Y35 ?_)
  rw [show (.int .i64 16 : Value) = .int .i64 ((16 : Nat) : Int) from rfl, roll_setN hr]
  refine go [7,8,9,10,0,2,8,2,3,17,2,50,5,1,7,8,11] ?_
  exact G.doneX1 ((ring.set (n % 16) c, 16, rsum (lastW (m ++ [c])))) (by first | exact trivial | ((try dsimp only) <;> exact hpush)) rfl rfl rfl subT
 have h32 : ¬ n + 1 = 32 := by omega
 rw [if_neg h32] at hpush
 refine go [13,8,9,10,0,2,8,2,3,17,2,50,5,1,7,8,11] ?_
 exact G.doneX1 ((ring.set (n % 16) c, n + 1, rsum (lastW (m ++ [c])))) (by first | exact trivial | ((try dsimp only) <;> exact hpush)) rfl rfl rfl subT
end Go.Proofs.YtcgacpmippdkeaaGreat
namespace Go.Proofs.YtcgacpmippdkeaaGreat
open Go.RowKit
def badP (c : UInt8) : Bool := decide (c.toNat < 33) || decide (126 < c.toNat) || decide (c.toNat = 47)
def stepB (bad : UInt8 → Bool) (s : List UInt8) : Int × Int :=
 if s = [] ∨ s = [46] ∨ s = [46, 46] then (2, 0)
 else if s.findIdx bad < s.length then (4, s.findIdx bad)
 else if 60 < s.length then (3, 60) else (0, 0)
def badR (c : UInt8) : Bool := decide (c.toNat < 33) || decide (126 < c.toNat)
theorem stepJ {s : List UInt8} {k : Nat} (h : ∀ j, j < k → ∀ h : j < s.length, badP s[j] = false) (hk : k < s.length) (h1 : ¬ ((s[k].toNat : Int) < 33)) (h2 : ¬ ((126 : Int) < s[k].toNat)) (h3 : ¬ ((s[k].toNat : Int) = 47)) : ∀ j, j < k + 1 → ∀ h : j < s.length, badP s[j] = false := fun j hj hl => by
 rcases Nat.lt_or_ge j k with h4 | h4
 ·exact h j h4 hl
 obtain rfl : j = k := by omega
 unfold badP
 simp
 omega
theorem stepArg {bad : UInt8 → Bool} {s : List UInt8} (h : s = [] ∨ s = [46] ∨ s = [46, 46]) : stepB bad s = (2, 0) := if_pos h
theorem stepBad {bad : UInt8 → Bool} {s : List UInt8} {k : Nat} (h1 : ¬ s = []) (h2 : ¬ s = [46]) (h3 : ¬ s = [46, 46]) (h : ∀ j, j < k → ∀ h : j < s.length, bad s[j] = false) (hk : k < s.length) (hb : bad s[k] = true) : stepB bad s = (4, (k : Int)) := by
 have e : s.findIdx bad = k := (List.findIdx_eq hk).2 ⟨hb, fun j hj => h j hj (by omega)⟩
 unfold stepB
 rw [if_neg (by simp [h1, h2, h3]), e, if_pos hk]
theorem stepAll {bad : UInt8 → Bool} {s : List UInt8} {k : Nat} (h : ∀ j, j < k → ∀ h : j < s.length, bad s[j] = false) (hk : s.length ≤ k) : s.findIdx bad = s.length := List.findIdx_eq_length_of_false fun x hx => by
 obtain ⟨j, hj, rfl⟩ := List.getElem_of_mem hx
 exact h j (by omega) hj
theorem stepLong {bad : UInt8 → Bool} {s : List UInt8} {k : Nat} (h1 : ¬ s = []) (h2 : ¬ s = [46]) (h3 : ¬ s = [46, 46]) (h : ∀ j, j < k → ∀ h : j < s.length, bad s[j] = false) (hk : s.length ≤ k) (hl : 60 < s.length) : stepB bad s = (3, 60) := by
 unfold stepB
 rw [if_neg (by simp [h1, h2, h3]), stepAll h hk, if_neg (by omega), if_pos hl]
theorem stepOk {bad : UInt8 → Bool} {s : List UInt8} {k : Nat} (h1 : ¬ s = []) (h2 : ¬ s = [46]) (h3 : ¬ s = [46, 46]) (h : ∀ j, j < k → ∀ h : j < s.length, bad s[j] = false) (hk : s.length ≤ k) (hl : ¬ 60 < s.length) : stepB bad s = (0, 0) := by
 unfold stepB
 rw [if_neg (by simp [h1, h2, h3]), stepAll h hk, if_neg (by omega), if_neg hl]
theorem bad1 {c : UInt8} (h : (c.toNat : Int) < 33) : badP c = true := by unfold badP; simp; omega
theorem bad2 {c : UInt8} (h : (126 : Int) < c.toNat) : badP c = true := by unfold badP; simp; omega
theorem bad3 {c : UInt8} (h : (c.toNat : Int) = 47) : badP c = true := by unfold badP; simp; omega
set_option maxHeartbeats 4000000 in
theorem step_tr (s : List UInt8) (hs : s.length ≤ 1000000000) : Tr Tryz.prog 115 #[.string (sB s)] [] [] (T0 (.tuple #[.int .i64 (stepB badP s).1, .int .i64 (stepB badP s).2])) := by
 refine Tr.of (l := [(0, .string (sB s))]) Tryz.func115 rfl (n := 41) rfl (.cons rfl .nil) (fun w0 hro => ?_)
 refine go [9,10,1,1,7,8,9,9,10,0,2,24,0] ?_
 refine G.partP (t := 7) rfl (fun h7 => ?_) (fun h7 => ?_)
 ·refine go [4,4,2,2,0,4,4,2,2,7,8,60,0,9,10,1,1,7,8,11,12] ?_
  exact G.done0G rfl (Rv.tmp rfl (Rv.tmp rfl Rv.nil)) (by rw [stepArg (.inl (by assumption))]; rfl)
 refine go [3,0,3,24,2,2,0] ?_
 refine G.partP (t := 11) rfl (fun h11 => ?_) (fun h11 => ?_)
 ·refine go [4,4,2,2,7,8,60,0,9,10,1,1,7,8,11,12] ?_
  exact G.done0G rfl (Rv.tmp rfl (Rv.tmp rfl Rv.nil)) (by rw [stepArg (.inr (.inl (by assumption)))]; rfl)
 refine go [3,0,3,24,2,2,7,8] ?_
 refine G.condP rfl (fun h14 => ?_) (fun h14 => ?_)
 ·refine go [9,10,1,1,7,8,11,12] ?_
  exact G.done0G rfl (Rv.tmp rfl (Rv.tmp rfl Rv.nil)) (by rw [stepArg (.inr (.inr (by assumption)))]; rfl)
 refine go [13,8,9,9,10,0,2,21,0,7,8,15] ?_
 refine G.loopK (X := Nat) (ts := [0, 16]) (fun k => k ≤ s.length ∧ (∀ j, j < k → ∀ h : j < s.length, badP s[j] = false)) (fun k => [(17, .int .i64 (k : Int))]) (fun k => []) (fun k => s.length - k) (x0 := 0) (.cons rfl (.cons rfl .nil)) subT (.cons .nil) apT (by first | exact trivial | ((try dsimp only) <;> exact ⟨Nat.zero_le _, fun j h => absurd h (by omega)⟩)) (.consE rfl veqT .nil) (fun k hJ => ?_)
 try dsimp only at hJ
 try dsimp only
 obtain ⟨hkk, hJ⟩ := hJ
 refine go [9,10,2,9,7,8,9] ?_
 refine G.condP rfl (fun h18 => ?_) (fun h18 => ?_)
 ·refine go [13,8,9,15,9,10,0,1,7,8,9,10,0,0,2,22,2,9,0] ?_
  refine G.partP (t := 24) rfl (fun h24 => ?_) (fun h24 => ?_)
  ·refine go [4,4,4,4,2,2,0,4,4,4,4,2,2,7,8,60,0,9,10,0,1,1,7,8,11,17,12,12,17,12] ?_
   exact G.done0G rfl (Rv.tmp rfl (Rv.tmp rfl Rv.nil)) (by rw [stepBad (by assumption) (by assumption) (by assumption) hJ (by omega) (bad1 (by assumption))]; rfl)
  refine go [3,0,3,0,3,22,3,10,2,2,0] ?_
  refine G.partP (t := 30) rfl (fun h30 => ?_) (fun h30 => ?_)
  ·refine go [4,4,4,4,2,2,7,8,60,0,9,10,0,1,1,7,8,11,17,12,12,17,12] ?_
   exact G.done0G rfl (Rv.tmp rfl (Rv.tmp rfl Rv.nil)) (by rw [stepBad (by assumption) (by assumption) (by assumption) hJ (by omega) (bad2 (by assumption))]; rfl)
  refine go [3,0,3,0,3,22,3,13,2,2,7,8] ?_
  refine G.condP rfl (fun h35 => ?_) (fun h35 => ?_)
  ·refine go [9,10,0,1,1,7,8,11,17,12,12,17,12] ?_
   exact G.done0G rfl (Rv.tmp rfl (Rv.tmp rfl Rv.nil)) (by rw [stepBad (by assumption) (by assumption) (by assumption) hJ (by omega) (bad3 (by assumption))]; rfl)
  refine go [13,16,8,10,2,6,0,7] ?_
  exact G.next (k + 1) (by first | exact trivial | ((try dsimp only) <;> exact ⟨by omega, stepJ hJ (by omega) (by assumption) (by assumption) (by assumption)⟩)) (by (try dsimp only); omega) (.consE rfl veqT (.cons rfl (.cons rfl .nil))) subT
 refine go [18,14,14,19,8,9,9,10,0,2,21,2,10,7,8] ?_
 refine G.condP rfl (fun h40 => ?_) (fun h40 => ?_)
 ·refine go [9,10,1,1,7,8,11,12] ?_
  exact G.done0G rfl (Rv.tmp rfl (Rv.tmp rfl Rv.nil)) (by rw [stepLong (by assumption) (by assumption) (by assumption) hJ (by omega) (by omega)]; rfl)
 refine go [13,8,9,10,1,1,7,8,11] ?_
 exact G.done0G rfl (Rv.tmp rfl (Rv.tmp rfl Rv.nil)) (by rw [stepOk (by assumption) (by assumption) (by assumption) hJ (by omega) (by omega)]; rfl)
end Go.Proofs.YtcgacpmippdkeaaGreat
namespace Go.Proofs
open Go.Shelf
def Tryz.lays219_ren : Go.Shelf.Ren := ⟨fun | 219 => 126 | 217 => 130 | 225 => 131 | 224 => 132 | 267 => 133 | 266 => 134 | 314 => 135 | n => n, fun | 9 => 9 | 3 => 3 | 4 => 4 | 5 => 5 | 46 => 130 | 146 => 203 | 51 => 122 | n => n, fun | 1 => 0 | n => n⟩
theorem Tryz.lays219 : Go.Proofs.Lays.n219 Tryz.prog Tryz.lays219_ren := {
  mixed := by kernel_rfl
  f217 := Tryz.func130.trans (congrArg some (by kernel_rfl))
  f219 := Tryz.func126.trans (congrArg some (by kernel_rfl))
  f224 := Tryz.func132.trans (congrArg some (by kernel_rfl))
  f225 := Tryz.func131.trans (congrArg some (by kernel_rfl))
  f266 := Tryz.func134.trans (congrArg some (by kernel_rfl))
  f267 := Tryz.func133.trans (congrArg some (by kernel_rfl))
  f314 := Tryz.func135.trans (congrArg some (by kernel_rfl))
  t3 := Tryz.underlying3
  a3 := Tryz.isAgg3
  z3 := Tryz.sizeOf3
  v3 := Tryz.zeroValue3
  t4 := Tryz.underlying4
  a4 := Tryz.isAgg4
  z4 := Tryz.sizeOf4
  v4 := Tryz.zeroValue4
  t5 := Tryz.underlying5
  a5 := Tryz.isAgg5
  z5 := Tryz.sizeOf5
  v5 := Tryz.zeroValue5
  t9 := Tryz.underlying9
  a9 := Tryz.isAgg9
  z9 := Tryz.sizeOf9
  v9 := Tryz.zeroValue9
  t46 := Tryz.underlying130
  a46 := Tryz.isAgg130
  z46 := Tryz.sizeOf130
  v46 := Tryz.zeroValue130
  t51 := Tryz.underlying122
  a51 := Tryz.isAgg122
  z51 := Tryz.sizeOf122
  v51 := Tryz.zeroValue122
  t146 := Tryz.underlying203
  a146 := Tryz.isAgg203
  z146 := Tryz.sizeOf203
  v146 := Tryz.zeroValue203
  g1 := by kernel_rfl }
open Go.RowKit Go.Lib in
/-- internal/stringslite.Index (what strings.Index calls) AT A substr OF ONE BYTE c: IT RETURNS 'Lib.indexByte s c'; the world is as it was. (LAID: no walk: one application.) -/
theorem Tryz.stringslite_Index_one (s : ByteArray) (c : UInt8) (w : World) :
    Calls Tryz.prog 126 #[.string s, .string ⟨#[c]⟩] w fun e w' => e = .returned (.int .i64 (Lib.indexByte s.data.toList c)) ∧ w' = w := Any.stringslite_Index_one Tryz.lays219 s c w
end Go.Proofs
namespace Go.Proofs.YtcgacpmippdkeaaGreat
open Go.RowKit
def at1 (s : List UInt8) : Nat := s.findIdx (· == 47)
def cutM (s : List UInt8) : List UInt8 × List UInt8 × Bool := if at1 s < s.length then (s.take (at1 s), s.drop (at1 s + 1), true) else (s, [], false)
theorem at1_le (s : List UInt8) : at1 s ≤ s.length := List.findIdx_le_length
theorem index1 : ∀ s : List UInt8, Lib.indexByte s 47 = if at1 s < s.length then (at1 s : Int) else -1
 | [] => rfl
 | b :: l => by
  have ih := index1 l
  have hle := at1_le l
  unfold Lib.indexByte
  by_cases h : b = 47
  ·subst h
   have e : at1 (47 :: l) = 0 := by simp [at1, List.findIdx_cons]
   rw [e]
   simp
  have hb : (b == 47) = false := by simpa using h
  have e : at1 (b :: l) = at1 l + 1 := by simp [at1, List.findIdx_cons, hb]
  rw [e, hb, ih]
  by_cases hlt : at1 l < l.length
  ·rw [if_pos hlt, if_pos (show at1 l + 1 < (b :: l).length by simp; omega), if_neg (by simp), if_neg (by rw [beq_iff_eq]; omega)]
   rfl
  rw [if_neg hlt, if_neg (show ¬ at1 l + 1 < (b :: l).length by simp; omega)]
  simp
theorem Tr.ofQ {P : Program} {f : FuncId} {args : Array Value} {v : Value} (h : ∀ w, Calls P f args w fun e w' => e = .returned v ∧ w' = w) : Tr P f args [] [] (T0 v) := fun w _ _ =>
 (h w).mono fun e w' ⟨he, hb⟩ => ⟨v, [], he, ⟨rfl, rfl⟩, ⟨(Chg.none_of_below (hb ▸ Below.refl _ _)).mono fun b hb => hb.elim, by simp, by simp, .nil⟩⟩
theorem index_tr (s : List UInt8) : Tr Tryz.prog 126 #[.string (sB s), .string (sB [47])] [] [] (T0 (.int .i64 (if at1 s < s.length then (at1 s : Int) else -1))) := Tr.ofQ fun w => by
 have h := Tryz.stringslite_Index_one (sB s) 47 w
 rw [show (sB s).data.toList = s by simp [sB], index1 s] at h
 exact h
theorem index_tr1 (s : List UInt8) (ha : at1 s < s.length) : Tr Tryz.prog 126 #[.string (sB s), .string (sB [47])] [] [] (T0 (.int .i64 (at1 s : Int))) := by
 have h := index_tr s
 rwa [if_pos ha] at h
theorem index_tr0 (s : List UInt8) (ha : ¬ at1 s < s.length) : Tr Tryz.prog 126 #[.string (sB s), .string (sB [47])] [] [] (T0 (.int .i64 (-1))) := by
 have h := index_tr s
 rwa [if_neg ha] at h
set_option maxHeartbeats 4000000 in
theorem scut1 (s : List UInt8) (hs : s.length ≤ 1000000000) (ha : at1 s < s.length) : Tr Tryz.prog 124 #[.string (sB s), .string (sB [47])] [] [] (T0 (.tuple #[.string (sB (s.take (at1 s))), .string (sB (s.drop (at1 s + 1))), .bool true])) := by
 refine Tr.of (l := [(0, .string (sB s)), (1, .string (sB [47]))]) Tryz.func124 rfl (n := 23) rfl (.cons rfl (.cons rfl .nil)) (fun w0 hro => ?_)
 have h47 : ([47] : List UInt8).length = 1 := rfl
 refine go [9,10,1,1,1,7,8,9,9,10,0,0] ?_
 refine G.op rfl (G.cR rfl rfl rfl rfl Tryz.func126 rfl rfl may0 (index_tr1 s ha) ?_)
 refine go [1,7,8,9,10,0,2,12,7,8] ?_
 refine G.condP rfl (fun h12 => ?_) (fun h12 => ?_)
 ·refine G.seq ?_
  refine G.drawT (nn := 12) (p := []) (rem := 4095) [0, 0, 3, 0, 0, 0, 32, 80, 136, 7, 1023, 2047] [0, 0, 3, 0, 0, 0, 32, 80, 136, 4, 256, 0] kr ⟨rfl, by kernel_rfl, by kernel_rfl⟩ subT kr (fun hT3 => ?_)
  refine go [22,0,4094,0,22,1,4092,0] ?_
  refine G.takeT hT3 (i := 2) (rem' := 4088) rfl rfl rfl kr (fun _ _ _ h => h) rfl (pv_strH Tryz.underlying9 rfl rfl rfl (by omega)) subT ?_
  refine go [22,3,4080,0,22,4,4064,0,22,5,4032,0,22,6,3968,21,22,7,3840,6] ?_
  refine G.takeT hT3 (i := 8) (rem' := 3584) rfl rfl rfl kr (fun _ _ _ h => h) rfl (pv_strL Tryz.underlying9 rfl rfl rfl (by omega)) subT ?_
  refine go [22,9,3072,1,22,10,2048,1,22,11,0,1,27,8,11,12] ?_
  exact G.done0G rfl (Rv.tmp rfl (Rv.tmp rfl (Rv.tmp rfl Rv.nil))) Y8
 exfalso; omega
set_option maxHeartbeats 4000000 in
theorem scut0 (s : List UInt8) (hs : s.length ≤ 1000000000) (ha : ¬ at1 s < s.length) : Tr Tryz.prog 124 #[.string (sB s), .string (sB [47])] [] [] (T0 (.tuple #[.string (sB s), .string (sB []), .bool false])) := by
 refine Tr.of (l := [(0, .string (sB s)), (1, .string (sB [47]))]) Tryz.func124 rfl (n := 23) rfl (.cons rfl (.cons rfl .nil)) (fun w0 hro => ?_)
 refine go [9,10,1,1,1,7,8,9,9,10,0,0] ?_
 refine G.op rfl (G.cR rfl rfl rfl rfl Tryz.func126 rfl rfl may0 (index_tr0 s ha) ?_)
 refine go [1,7,8,9,10,0,2,12,7,8] ?_
 refine G.condP rfl (fun h12 => ?_) (fun h12 => ?_)
 ·exfalso; omega
 refine go [13,8,9,10,0,1,1,1,7,8,11] ?_
 exact G.done0G rfl (Rv.tmp rfl (Rv.tmp rfl (Rv.tmp rfl Rv.nil))) Y8
theorem scut_tr (s : List UInt8) (hs : s.length ≤ 1000000000) : Tr Tryz.prog 124 #[.string (sB s), .string (sB [47])] [] [] (T0 (.tuple #[.string (sB (cutM s).1), .string (sB (cutM s).2.1), .bool (cutM s).2.2])) := by
 unfold cutM
 split
 ·exact scut1 s hs (by assumption)
 exact scut0 s hs (by assumption)
set_option maxHeartbeats 4000000 in
theorem cut_tr (s : List UInt8) (hs : s.length ≤ 1000000000) : Tr Tryz.prog 116 #[.string (sB s), .string (sB [47])] [] [] (T0 (.tuple #[.string (sB (cutM s).1), .string (sB (cutM s).2.1), .bool (cutM s).2.2])) := by
 refine Tr.of (l := [(0, .string (sB s)), (1, .string (sB [47]))]) Tryz.func116 rfl (n := 13) rfl (.cons rfl (.cons rfl .nil)) (fun w0 hro => ?_)
 refine go [9,10,1,1,1,7,8,9,10,0,0] ?_
 refine G.op rfl (G.cR rfl rfl rfl rfl Tryz.func124 rfl rfl may0 (scut_tr s (by omega)) ?_)
 refine go [2,7,2,7,2,7,1,1,1,7,8,11] ?_
 exact G.done0G rfl (Rv.tmp rfl (Rv.tmp rfl (Rv.tmp rfl Rv.nil))) Y8
set_option maxHeartbeats 4000000 in
theorem isNaN_tr (s : List UInt8) : Tr Tryz.prog 117 #[.string (sB s)] [] [] (T0 (.bool false)) := by
 refine Tr.of (l := [(0, .string (sB s))]) Tryz.func117 rfl (n := 6) rfl (.cons rfl .nil) (fun w0 hro => ?_)
 refine go [9,10,1,7,8,9,10,0,0,2,23,1,7,8,11] ?_
 exact G.done0G rfl (Rv.tmp rfl Rv.nil) (by simp; rfl)
def bytesC (a b : List UInt8) : Int := if Op.bytesLess a b then -1 else if !(Op.bytesLess a b || decide (a = b)) then 1 else 0
theorem bytes_lt {a b : List UInt8} (h : Op.bytesLess a b = true) : bytesC a b = -1 := if_pos h
theorem bytes_gt {a b : List UInt8} (h : Op.bytesLess a b = false) (h2 : (!(Op.bytesLess a b || decide (a = b))) = true) : bytesC a b = 1 := by
 unfold bytesC
 rw [if_neg (by rw [h]; decide), if_pos h2]
theorem bytes_eq {a b : List UInt8} (h : Op.bytesLess a b = false) (h2 : (!(Op.bytesLess a b || decide (a = b))) = false) : bytesC a b = 0 := by
 unfold bytesC
 rw [if_neg (by rw [h]; decide), if_neg (by rw [h2]; decide)]
set_option maxHeartbeats 4000000 in
theorem cmp_tr (a b : List UInt8) : Tr Tryz.prog 98 #[.string (sB a), .string (sB b)] [] [] (T0 (.int .i64 (bytesC a b))) := by
 refine Tr.of (l := [(0, .string (sB a)), (1, .string (sB b))]) Tryz.func98 rfl (n := 20) rfl (.cons rfl (.cons rfl .nil)) (fun w0 hro => ?_)
 refine go [9,10,1,7,8,9,10,0] ?_
 refine G.op rfl (G.cR rfl rfl rfl rfl Tryz.func117 rfl rfl may0 (isNaN_tr a) ?_)
 refine go [1,7,8,9,10,0] ?_
 refine G.op rfl (G.cR rfl rfl rfl rfl Tryz.func117 rfl rfl may0 (isNaN_tr b) ?_)
 refine go [1,7,8,9,9,10,0,7,8,60,1,13,8,9,9,10,0,7,8,60,1,13,8,9,9,10,0,0] ?_
 refine G.op rfl (G.val rfl rfl (pv_lssS rfl rfl) ?_)
 refine go [7,8] ?_
 refine G.cond rfl (fun h16 => ?_) (fun h16 => ?_)
 ·refine go [9,10,1,7,8,11,12] ?_
  exact G.done0G rfl (Rv.tmp rfl Rv.nil) (by rw [bytes_lt (by assumption)]; rfl)
 refine go [13,8,9,9,10,0,0] ?_
 refine G.op rfl (G.val rfl rfl (pv_gtrS rfl rfl) ?_)
 refine go [7,8] ?_
 refine G.cond rfl (fun h19 => ?_) (fun h19 => ?_)
 ·refine go [9,10,1,7,8,11,12] ?_
  exact G.done0G rfl (Rv.tmp rfl Rv.nil) (by rw [bytes_gt (by assumption) (by assumption)]; rfl)
 refine go [13,8,9,10,1,7,8,11] ?_
 exact G.done0G rfl (Rv.tmp rfl Rv.nil) (by rw [bytes_eq (by assumption) (by assumption)]; rfl)
def lastM (s : List UInt8) : Nat → Nat
 | 0 => 0
 | k + 1 => if s[k]? = some 47 then k + 1 else lastM s k
theorem last_yes {s : List UInt8} {k : Nat} (h0 : 0 < k) (hk : k - 1 < s.length) (h : (s[k - 1].toNat : Int) = 47) : lastM s k = k := by
 obtain ⟨j, rfl⟩ : ∃ j, k = j + 1 := ⟨k - 1, by omega⟩
 have hj : j < s.length := hk
 have h' : (s[j].toNat : Int) = 47 := h
 have e : s[j] = 47 := UInt8.toNat_inj.1 (show s[j].toNat = 47 by omega)
 unfold lastM
 rw [if_pos (by rw [List.getElem?_eq_getElem hj, e])]
theorem last_no {s : List UInt8} {k : Nat} (h0 : 0 < k) (hk : k - 1 < s.length) (h : ¬ (s[k - 1].toNat : Int) = 47) : lastM s k = lastM s (k - 1) := by
 obtain ⟨j, rfl⟩ : ∃ j, k = j + 1 := ⟨k - 1, by omega⟩
 have hj : j < s.length := by omega
 rw [lastM.eq_2, if_neg]
 ·rfl
 rw [List.getElem?_eq_getElem hj]
 intro e
 injection e with e
 exact h (by show ((s[j].toNat : Nat) : Int) = 47; rw [e]; rfl)
set_option maxHeartbeats 4000000 in
theorem last0 (s : List UInt8) (hs : s.length ≤ 9223372036854775807) : Tr Tryz.prog 118 #[.string (sB s), .int .u8 47] [] [] (T0 (.int .i64 ((lastM s s.length : Int) - 1))) := by
 refine Tr.of (l := [(0, .string (sB s)), (1, .int .u8 47)]) Tryz.func118 rfl (n := 19) rfl (.cons rfl (.cons rfl .nil)) (fun w0 hro => ?_)
 refine go [9,10,1,7,8,9,9,10,0,2,21,2,19,1,7,8,15] ?_
 refine G.loopK (X := Nat) (ts := [0, 1]) (fun k => k ≤ s.length ∧ lastM s s.length = lastM s k) (fun k => [(5, .int .i64 ((k : Int) - 1))]) (fun k => []) (fun k => k) (x0 := s.length) (.cons rfl (.cons rfl .nil)) subT (.cons .nil) apT (by first | exact trivial | ((try dsimp only) <;> exact ⟨Nat.le_refl _, rfl⟩)) (.consE rfl veqT .nil) (fun k hJ => ?_)
 try dsimp only at hJ
 try dsimp only
 obtain ⟨hk1, hk2⟩ := hJ
 refine go [9,9,10,0,2,12,7,8] ?_
 refine G.condP rfl (fun h10 => ?_) (fun h10 => ?_)
 ·refine go [13,8,9,15,9,10,0,0] ?_
  refine G.op rfl (G.val rfl rfl (pv_ixS Tryz.underlying9 (k := k - 1) rfl rfl (by omega) (by omega)) ?_)
  refine go [0,2,13,7,8] ?_
  refine G.condP rfl (fun h17 => ?_) (fun h17 => ?_)
  ·refine go [9,10,0,1,7,8,11,17,12,12,17,12] ?_
   exact G.done0G rfl (Rv.tmp rfl Rv.nil) (by rw [hk2, last_yes (by omega) (by omega) (by assumption)]; rfl)
  refine go [13,16,8,10,0,2,19,1,7] ?_
  exact G.next (k - 1) (by first | exact trivial | ((try dsimp only) <;> exact ⟨by omega, by rw [hk2]; exact last_no (by omega) (by omega) (by assumption)⟩)) (by (try dsimp only); omega) (.consE rfl veqT (.cons rfl (.cons rfl .nil))) subT
 refine go [18,14,14,19,8,9,10,1,7,8,11] ?_
 exact G.done0G rfl (Rv.tmp rfl Rv.nil) (by rw [hk2, show k = 0 by omega]; rfl)
set_option maxHeartbeats 4000000 in
theorem last_tr (s : List UInt8) (hs : s.length ≤ 9223372036854775807) : Tr Tryz.prog 99 #[.string (sB s), .int .u8 47] [] [] (T0 (.int .i64 ((lastM s s.length : Int) - 1))) := by
 refine Tr.of (l := [(0, .string (sB s)), (1, .int .u8 47)]) Tryz.func99 rfl (n := 8) rfl (.cons rfl (.cons rfl .nil)) (fun w0 hro => ?_)
 refine go [9,10,1,7,8,9,10,0,0] ?_
 refine G.op rfl (G.cR rfl rfl rfl rfl Tryz.func118 rfl rfl may0 (last0 s hs) ?_)
 refine go [1,7,8,11] ?_
 exact G.done0G rfl (Rv.tmp rfl Rv.nil) Y8
def headP (c : UInt8) : List (List UInt8) → List (List UInt8)
 | [] => [[c]]
 | p :: r => (c :: p) :: r
def splitM : List UInt8 → List (List UInt8)
 | [] => [[]]
 | c :: s => if c = 47 then [] :: splitM s else headP c (splitM s)
theorem splitM_stroke (s : List UInt8) : splitM (47 :: s) = [] :: splitM s := if_pos rfl
theorem splitM_char {c : UInt8} (h : ¬ c = 47) (s : List UInt8) : splitM (c :: s) = headP c (splitM s) := if_neg h
theorem splitM_ne : ∀ s, splitM s ≠ []
 | [] => by unfold splitM; simp
 | c :: s => by
  unfold splitM
  split
  ·simp
  cases h : splitM s <;> simp [headP]
theorem splitM_cut : ∀ s, splitM s = if (cutM s).2.2 then (cutM s).1 :: splitM (cutM s).2.1 else [(cutM s).1]
 | [] => rfl
 | c :: s => by
  have ih := splitM_cut s
  by_cases hc : c = 47
  ·subst hc
   have e : at1 (47 :: s) = 0 := by simp [at1, List.findIdx_cons]
   have e2 : cutM (47 :: s) = ([], s, true) := by
    unfold cutM
    rw [e, if_pos (by simp)]
    rfl
   rw [e2, splitM_stroke]
   rfl
  have hb : (c == 47) = false := by simpa using hc
  have e : at1 (c :: s) = at1 s + 1 := by simp [at1, List.findIdx_cons, hb]
  have e2 : cutM (c :: s) = (c :: (cutM s).1, (cutM s).2.1, (cutM s).2.2) := by
   unfold cutM
   rw [e]
   by_cases h : at1 s < s.length
   ·rw [if_pos h, if_pos (show at1 s + 1 < (c :: s).length by simp; omega)]
    rfl
   rw [if_neg h, if_neg (show ¬ at1 s + 1 < (c :: s).length by simp; omega)]
  rw [e2, splitM_char hc, ih]
  cases h : (cutM s).2.2 <;> simp [headP]
def atL (ps : List (List UInt8)) (i : Nat) : Nat := ((ps.take i).map fun p => p.length + 1).sum
theorem atL_zero (ps : List (List UInt8)) : atL ps 0 = 0 := by simp [atL]
theorem atL_succ {ps : List (List UInt8)} {i : Nat} (h : i < ps.length) : atL ps (i + 1) = atL ps i + (ps[i].length + 1) := by
 unfold atL
 rw [List.take_succ_eq_append_getElem h, List.map_append, List.sum_append]
 simp
theorem splitM_sum : ∀ s, ((splitM s).map fun p => p.length + 1).sum = s.length + 1
 | [] => rfl
 | c :: s => by
  have ih := splitM_sum s
  unfold splitM
  split
  ·simp [ih]; omega
  cases h : splitM s with
  | nil => exact absurd h (splitM_ne s)
  | cons p r =>
   rw [h] at ih
   simp [headP] at ih ⊢
   omega
theorem sum_take_le (l : List Nat) (i : Nat) : (l.take i).sum ≤ l.sum := by
 have := congrArg List.sum (List.take_append_drop i l)
 rw [List.sum_append] at this
 omega
theorem atL_le (s : List UInt8) (i : Nat) : atL (splitM s) i ≤ s.length + 1 := by
 unfold atL
 rw [List.map_take, ← splitM_sum s]
 exact sum_take_le _ i
theorem part_le {s : List UInt8} {i : Nat} (h : i < (splitM s).length) : atL (splitM s) i + ((splitM s)[i].length + 1) ≤ s.length + 1 := by
 rw [← atL_succ h]
 exact atL_le s _
def getL (ps : List (List UInt8)) (i : Nat) : List UInt8 := ps.getD i []
theorem getL_eq {ps : List (List UInt8)} {i : Nat} (h : i < ps.length) : getL ps i = ps[i] := by
 unfold getL
 rw [List.getD_eq_getElem?_getD, List.getElem?_eq_getElem h]
 rfl
theorem cutM_len (t : List UInt8) : (cutM t).2.1.length ≤ t.length := by
 unfold cutM
 split
 ·simp
 simp
theorem cut_drop {ps : List (List UInt8)} {t : List UInt8} {i : Nat} (hi : i < ps.length) (h : splitM t = ps.drop i) : ∃ t', cutM t = (getL ps i, t', decide (i + 1 < ps.length)) ∧ t'.length ≤ t.length ∧ (i + 1 < ps.length → splitM t' = ps.drop (i + 1)) := by
 refine ⟨(cutM t).2.1, ?_, cutM_len t, ?_⟩
 ·rw [splitM_cut, List.drop_eq_getElem_cons hi] at h
  rw [getL_eq hi]
  cases hm : (cutM t).2.2 with
  | true =>
   rw [hm, if_pos rfl] at h
   injection h with h1 h2
   have : i + 1 < ps.length := by
    rcases Nat.lt_or_ge (i + 1) ps.length with h3 | h3
    ·exact h3
    rw [List.drop_eq_nil_of_le h3] at h2
    exact absurd h2 (splitM_ne _)
   rw [decide_eq_true this, ← h1, ← hm]
  | false =>
   rw [hm, if_neg (by simp)] at h
   injection h with h1 h2
   have : ¬ i + 1 < ps.length := fun h3 => by
    rw [List.drop_eq_getElem_cons h3] at h2
    cases h2
   rw [decide_eq_false this, ← h1, ← hm]
 intro h3
 rw [splitM_cut, List.drop_eq_getElem_cons hi] at h
 cases hm : (cutM t).2.2 with
 | true =>
  rw [hm, if_pos rfl] at h
  injection h
 | false =>
  rw [hm, if_neg (by simp)] at h
  injection h with h1 h2
  rw [List.drop_eq_getElem_cons h3] at h2
  cases h2
theorem cut_at (t p t' : List UInt8) (m : Bool) (ht : t.length ≤ 1000000000) (h : cutM t = (p, t', m)) : Tr Tryz.prog 116 #[.string (sB t), .string (sB [47])] [] [] (T0 (.tuple #[.string (sB p), .string (sB t'), .bool m])) := by
 have := cut_tr t ht
 rwa [h] at this
set_option maxHeartbeats 4000000 in
theorem steps_seq (s : List UInt8) (hs : s.length ≤ 1000000000) (b : Nat) : SeqT Tryz.prog 123 #[.pointer (some ⟨b, 0, none⟩)] [] [blk b 9 [.string (sB s)]] (splitM s).length (fun i => [.int .i64 (atL (splitM s) i : Int), .string (sB (getL (splitM s) i))]) := by
 intro lp X J C x0 h0 hY
 show Tr _ _ #[.func (.yield lp) #[] #[], .pointer (some ⟨b, 0, none⟩)] _ _ _
 refine Tr.ofI (l := [(0, .func (.yield lp) #[] #[]), (1, .pointer (some ⟨b, 0, none⟩))]) Tryz.func123 rfl (n := 23) rfl (.cons rfl (.cons rfl .nil)) (fun w0 hro => ?_)
 refine go [32,33,1,1,34,31,38] ?_
 have hpos : 0 < (splitM s).length := List.length_pos_iff.2 (splitM_ne s)
 refine I.loopK (X := Nat × (List UInt8) × X) (ts := [0, 1]) (fun st => st.1 ≤ (splitM s).length ∧ st.2.1.length ≤ s.length ∧ (st.1 < (splitM s).length → splitM st.2.1 = (splitM s).drop st.1) ∧ J true st.1 st.2.2) (fun st => [(3, .int .i64 (atL (splitM s) st.1 : Int)), (4, .bool (decide (st.1 < (splitM s).length)))]) (fun st => [blk b 9 [.string (sB st.2.1)], C true st.1 st.2.2]) (fun st => (splitM s).length - st.1) (x0 := (0, s, x0)) (.cons rfl (.cons rfl .nil)) subT (.cons (.cons .nil)) apT (by first | exact trivial | ((try dsimp only) <;> exact ⟨Nat.zero_le _, Nat.le_refl _, fun _ => rfl, h0⟩)) (.consE rfl (by first | rfl | exact int_eq (by rw [atL_zero]; rfl)) (.consE rfl (by rw [decide_eq_true hpos]) .nil)) (fun st hJ => ?_)
 obtain ⟨i, t, x⟩ := st
 try dsimp only at hJ
 try dsimp only
 obtain ⟨hi, ht, hsp, hJ0⟩ := hJ
 refine go [32,32,33,0,34,31] ?_
 refine I.condP rfl (fun h6 => ?_) (fun h6 => ?_)
 ·have hil : i < (splitM s).length := by assumption
  obtain ⟨t', hcut, ht', hsp'⟩ := cut_drop hil (hsp hil)
  refine go [39,31,38,32,33,1,34,31,32,33,2,4] ?_
  refine G.op rfl (G.cR rfl rfl rfl rfl Tryz.func116 rfl rfl may0 (cut_at t _ t' _ (by omega) hcut) ?_)
  refine go [0,2,7,2,7,2,7,1,21,1,34,31,32,32] ?_
  refine IL.region ?_
  refine go [60,11,60,11,60,11] ?_
  refine IL.op rfl (IL.yield rfl rfl rfl rfl rfl subT (hY i x hil hJ0) apT ?_)
  intro x16 hJ
  obtain ⟨v, y⟩ := x16
  try dsimp only at hJ
  try dsimp only
  have hJ2 := hJ
  refine go [60,18] ?_
  refine IL.nil ?_
  refine I.nThen ?_
  have hlen := part_le hil
  rw [← getL_eq hil] at hlen
  have hat := atL_succ hil
  rw [← getL_eq hil] at hat
  refine I.cond rfl (fun h17 => ?_) (fun h17 => ?_)
  ·obtain rfl : v = false := by cases v <;> simp_all
   refine go [37,35,36,35,36] ?_
   exact I.doneIr ((false, i + 1, y)) (by first | exact trivial | ((try dsimp only) <;> exact ⟨hJ2, hil, fun h => by cases h⟩)) rfl rfl subT
  obtain rfl : v = true := by cases v <;> simp_all
  refine go [39,31,33,0,0,2,21,2,6,2,6,1,34,40] ?_
  exact I.next ((i + 1, t', y)) (by first | exact trivial | ((try dsimp only) <;> exact ⟨by omega, by omega, hsp', hJ2⟩)) (by (try dsimp only); omega) (.consE rfl veqT (.consE rfl veqT (.cons rfl (.cons rfl .nil)))) subT
 refine go [42,41,41,43] ?_
 exact I.doneI ((true, i, x)) (by first | exact trivial | ((try dsimp only) <;> exact ⟨hJ0, hi, fun _ => by omega⟩)) rfl rfl subT
set_option maxHeartbeats 4000000 in
theorem steps_tr (s : List UInt8) : Tr Tryz.prog 114 #[.string (sB s)] [] [] (TX (fun _ : Nat => True) (fun b => .func (.func 123) #[] #[.pointer (some ⟨b, 0, none⟩)]) (fun b => [blk b 9 [.string (sB s)]])) := by
 refine Tr.of (l := [(0, .string (sB s))]) Tryz.func114 rfl (n := 4) rfl (.cons rfl .nil) (fun w0 hro => ?_)
 refine go [9,10,60,2] ?_
 intro b1
 refine go [1,7,8,9,10,2,26,1,7,8,11] ?_
 exact G.doneX1 (b1) trT rfl rfl rfl subT
theorem badR_of {c : UInt8} (h : ¬ c = 47) : badP c = badR c := by
 unfold badP badR
 have : c.toNat ≠ 47 := fun e => h (UInt8.toNat_inj.1 e)
 simp [this]
theorem findIdx_congr {p q : UInt8 → Bool} : ∀ {l : List UInt8}, (∀ x ∈ l, p x = q x) → l.findIdx p = l.findIdx q
 | [], _ => rfl
 | x :: l, h => by
  rw [List.findIdx_cons, List.findIdx_cons, h x (List.mem_cons_self ..), findIdx_congr fun y hy => h y (List.mem_cons_of_mem _ hy)]
theorem stepB_eq {s : List UInt8} (h : ∀ x ∈ s, ¬ x = 47) : stepB badP s = stepB badR s := by
 unfold stepB
 rw [findIdx_congr (p := badP) (q := badR) fun x hx => badR_of (h x hx)]
theorem step_at (s : List UInt8) (h : ∀ x ∈ s, ¬ x = 47) (hs : s.length ≤ 1000000000) : Tr Tryz.prog 115 #[.string (sB s)] [] [] (T0 (.tuple #[.int .i64 (stepB badR s).1, .int .i64 (stepB badR s).2])) := by
 have := step_tr s hs
 rwa [stepB_eq h] at this
theorem splitM_no : ∀ s, ∀ p ∈ splitM s, ∀ x ∈ p, ¬ x = 47
 | [], p, hp, x, hx => by
  have : p = [] := by simpa [splitM] using hp
  subst this
  cases hx
 | c :: s, p, hp, x, hx => by
  have ih := splitM_no s
  by_cases hc : c = 47
  ·subst hc
   rw [splitM_stroke] at hp
   rcases List.mem_cons.1 hp with rfl | hp
   ·cases hx
   exact ih p hp x hx
  rw [splitM_char hc] at hp
  cases h : splitM s with
  | nil => exact absurd h (splitM_ne s)
  | cons q r =>
   rw [h] at hp ih
   rcases List.mem_cons.1 hp with rfl | hp
   ·rcases List.mem_cons.1 hx with rfl | hx
    ·exact hc
    exact ih q (List.mem_cons_self ..) x hx
   exact ih p (List.mem_cons_of_mem _ hp) x hx
theorem stepB_pos (bad : UInt8 → Bool) (s : List UInt8) : 0 ≤ (stepB bad s).2 ∧ (stepB bad s).2 ≤ s.length + 60 ∧ 0 ≤ (stepB bad s).1 ∧ (stepB bad s).1 ≤ 4 := by
 unfold stepB
 have := @List.findIdx_le_length _ bad s
 split
 ·simp; omega
 split
 ·simp; omega
 split <;> simp <;> omega
def checkL : List (List UInt8) → Nat → Nat → Int × Int
 | [], _, _ => (0, 0)
 | p :: r, i, o => if i = 20 then (3, (o : Int)) else if (stepB badR p).1 = 0 then checkL r (i + 1) (o + (p.length + 1)) else ((stepB badR p).1, (o : Int) + (stepB badR p).2)
def checkM (s : List UInt8) : Int × Int := if s = [] then (2, 0) else if 200 < s.length then (3, 200) else checkL (splitM s) 0 0
theorem checkM_nil {s : List UInt8} (h : s = []) : checkM s = (2, 0) := if_pos h
theorem checkM_long {s : List UInt8} (h0 : ¬ s = []) (h : (200 : Int) < s.length) : checkM s = (3, 200) := by
 unfold checkM
 rw [if_neg h0, if_pos (by omega)]
theorem checkM_parts {s : List UInt8} (h0 : ¬ s = []) (h : ¬ (200 : Int) < s.length) : checkM s = checkL (splitM s) 0 0 := by
 unfold checkM
 rw [if_neg h0, if_neg (by omega)]
theorem checkL_many {ps : List (List UInt8)} {i : Nat} (hi : i < ps.length) (h : i = 20) : checkL (ps.drop i) i (atL ps i) = (3, (atL ps i : Int)) := by
 rw [List.drop_eq_getElem_cons hi]
 exact if_pos h
theorem checkL_next {ps : List (List UInt8)} {i : Nat} (hi : i < ps.length) (h : ¬ i = 20) (hs : (stepB badR (getL ps i)).1 = 0) : checkL (ps.drop i) i (atL ps i) = checkL (ps.drop (i + 1)) (i + 1) (atL ps (i + 1)) := by
 rw [getL_eq hi] at hs
 rw [List.drop_eq_getElem_cons hi, atL_succ hi]
 unfold checkL
 rw [if_neg h, if_pos hs]
 cases ps.drop (i + 1) <;> rfl
theorem checkL_bad {ps : List (List UInt8)} {i : Nat} (hi : i < ps.length) (h : ¬ i = 20) (hs : ¬ (stepB badR (getL ps i)).1 = 0) : checkL (ps.drop i) i (atL ps i) = ((stepB badR (getL ps i)).1, (atL ps i : Int) + (stepB badR (getL ps i)).2) := by
 rw [getL_eq hi] at hs ⊢
 rw [List.drop_eq_getElem_cons hi]
 unfold checkL
 rw [if_neg h, if_neg hs]
theorem okP_len {s : List UInt8} (h : (checkM s).1 = 0) : s.length ≤ 200 := by
 unfold checkM at h
 split at h
 ·cases h
 split at h
 ·cases h
 omega
set_option maxHeartbeats 4000000 in
theorem check_tr (s : List UInt8) (hs : s.length ≤ 9223372036854775807) : Tr Tryz.prog 95 #[.string (sB s)] [] [] (T0 (.agg #[.int .i64 (checkM s).1, .int .i64 (checkM s).2])) := by
 refine Tr.ofM (l := [(0, .string (sB s))]) Tryz.func95 rfl (n := 40) rfl (.cons rfl .nil) (fun w0 hro => ?_)
 refine go [32,33,60,4] ?_
 intro b2
 refine go [34,31,32,38,32,33,0,2,24,1,34,31] ?_
 refine I.condP rfl (fun h8 => ?_) (fun h8 => ?_)
 ·refine go [32,33,2,50,4,20,34,31,37,36,35] ?_
  exact I.doneT0 rfl (Rv.cellN (cs := [_, _]) rfl Tryz.underlying97 rfl kr Y20 Rv.nil) (by rw [checkM_nil (by assumption)]; rfl)
 refine go [32,33,0,2,21,2,10,1,34,31] ?_
 refine I.condP rfl (fun h12 => ?_) (fun h12 => ?_)
 ·refine go [32,33,2,50,4,20,34,31,37,36,35] ?_
  exact I.doneT0 rfl (Rv.cellN (cs := [_, _]) rfl Tryz.underlying97 rfl kr Y20 Rv.nil) (by rw [checkM_long (by assumption) (by assumption)]; rfl)
 refine go [39,40,31,32,33,60,13] ?_
 intro b3
 refine go [21,34,31,32,32,33,0] ?_
 refine G.op rfl (G.cS rfl rfl rfl rfl Tryz.func114 rfl rfl subT may0 (steps_tr _) apT ?_)
 intro x18 hJ
 try dsimp only at hJ
 try dsimp only
 refine go [34,31,38] ?_
 refine I.rangeK (X := Int × Int) (encs := fun i => (.int .i64 (atL (splitM s) i : Int), .string (sB (getL (splitM s) i)))) (ts := [2, 3]) (fun b i st => (b = true → st.1 = 0 ∧ st.2 = 0 ∧ i ≤ 20 ∧ checkL (splitM s) 0 0 = checkL ((splitM s).drop i) i (atL (splitM s) i)) ∧ (b = false → checkL (splitM s) 0 0 = (st.1, st.2))) (fun b i st => [blk b2 97 [.int .i64 st.1, .int .i64 st.2], blk b3 3 [.int .i64 (i : Int)]]) (fun st => .ret) (fun i => [(4, .int .i64 (atL (splitM s) i : Int)), (5, .string (sB (getL (splitM s) i)))]) (x0 := (0, 0)) rfl Tryz.func123 rfl rfl (steps_seq s (by omega) x18) (by show Sub _ [blk b2 97 [.int .i64 0, .int .i64 0], blk b3 3 [.int .i64 0], blk x18 9 [.string (sB s)]] _; repeat (first | exact Sub.nil | (apply Sub.cons; (repeat (first | with_reducible exact Sel.here | exact Sel.here | apply Sel.there))))) may0 (by first | exact trivial | (exact ⟨fun _ => ⟨rfl, rfl, by omega, rfl⟩, fun h => (by cases h)⟩)) rfl rfl (.cons rfl (.cons rfl .nil)) (.cons (.cons .nil)) ?_ ?_ ?_ ?_
 ·intro w1 S1 lp m1 i hi
  try dsimp only at hJ
  try dsimp only
  refine go [32,33,1,34,31,33,1,34] ?_
  exact I.asg (.consE rfl veqT (.consE rfl veqT (.cons rfl (.cons rfl .nil))))
 ·intro w1 S1 lp c i st hi hJ
  obtain ⟨x, y⟩ := st
  try dsimp only at hJ
  try dsimp only
  obtain ⟨hT, -⟩ := hJ
  obtain ⟨rfl, rfl, hi20, hck⟩ := hT rfl
  have hlen := part_le hi
  rw [← getL_eq hi] at hlen
  have hno : ∀ c ∈ getL (splitM s) i, ¬ c = 47 := by rw [getL_eq hi]; exact splitM_no s _ (List.getElem_mem hi)
  have hb := stepB_pos badR (getL (splitM s) i)
  refine go [38,32,33,2,4] ?_
  refine G.op rfl (G.val rfl rfl ((pv_add64 rfl rfl (by omega)).int (b := ((i + 1 : Nat) : Int)) (by omega)) ?_)
  refine go [21,34,31,32,32,33,2,4,2,10,34,31] ?_
  refine I.condP rfl (fun h24 => ?_) (fun h24 => ?_)
  ·refine go [32,33,0,2,50,4,20,34,31,37,35,36] ?_
   exact I.rR ((3, (atL (splitM s) i : Int))) (by first | exact trivial | ((try dsimp only) <;> exact ⟨fun h => (by cases h), fun _ => hck.trans (checkL_many hi (by omega))⟩)) rfl subT
  refine go [39,31,32,33,0] ?_
  refine G.op rfl (G.cR rfl rfl rfl rfl Tryz.func115 rfl rfl may0 (step_at (getL (splitM s) i) hno (by omega)) ?_)
  refine go [0,2,7,2,7,1,1,34,31,32,33,0,2,14,34,31] ?_
  refine I.condP rfl (fun h33 => ?_) (fun h33 => ?_)
  ·refine go [32,33,0,0,0,2,6,2,50,4,20,34,31,37,36] ?_
   exact I.rR (((stepB badR (getL (splitM s) i)).1, (atL (splitM s) i : Int) + (stepB badR (getL (splitM s) i)).2)) (by first | exact trivial | ((try dsimp only) <;> exact ⟨fun h => (by cases h), fun _ => hck.trans (checkL_bad hi (by omega) (by omega))⟩)) rfl subT
  refine go [39,40] ?_
  exact I.rN ((0, 0)) (by first | exact trivial | ((try dsimp only) <;> exact ⟨fun _ => ⟨rfl, rfl, by omega, hck.trans (checkL_next hi (by omega) (by omega))⟩, fun h => (by cases h)⟩)) subT
 ·intro D st hJ
  obtain ⟨x, y⟩ := st
  try dsimp only at hJ
  try dsimp only
  obtain ⟨hT, -⟩ := hJ
  obtain ⟨rfl, rfl, hi20, hck⟩ := hT rfl
  refine go [40,31,32,33,2,50,4,20,34,31,37] ?_
  exact I.doneT rfl Y17 (Rv.cellN (cs := [_, _]) rfl Tryz.underlying97 rfl kr Y20 Rv.nil) (by rw [checkM_parts (by assumption) (by assumption), hck, List.drop_length]; rfl)
 intro D i st hle hJ
 obtain ⟨x, y⟩ := st
 try dsimp only at hJ
 try dsimp only
 obtain ⟨-, hF⟩ := hJ
 have hxy := hF rfl
 refine go [37,36,35] ?_
 exact I.doneT rfl Y17 (Rv.cellN (cs := [_, _]) rfl Tryz.underlying97 rfl kr Y20 Rv.nil) (by rw [checkM_parts (by assumption) (by assumption), hxy]; rfl)
set_option maxHeartbeats 4000000 in
theorem valid_tr (s : List UInt8) (hs : s.length ≤ 9223372036854775807) : Tr Tryz.prog 96 #[.string (sB s)] [] [] (T0 (.bool (decide ((checkM s).1 = 0)))) := by
 refine Tr.of (l := [(0, .string (sB s))]) Tryz.func96 rfl (n := 7) rfl (.cons rfl .nil) (fun w0 hro => ?_)
 refine go [9,10,1,7,8,9,10,0] ?_
 refine G.op rfl (G.cR rfl rfl rfl rfl Tryz.func95 rfl rfl may0 (check_tr _ (by omega)) ?_)
 refine go [2,50,11,2,13,1,7,8,11] ?_
 exact G.done0G rfl (Rv.tmp rfl Rv.nil) Y8
theorem retV1 (v : Value) : retV [v] = v := rfl
theorem retV2 (a b : Value) : retV [a, b] = .tuple #[a, b] := rfl
def okP (s : List UInt8) : Prop := (checkM s).1 = 0
instance (s : List UInt8) : Decidable (okP s) := inferInstanceAs (Decidable (_ = _))
def cmpL : List (List UInt8) → List (List UInt8) → Int
 | [], [] => 0
 | [], _ :: _ => -1
 | _ :: _, [] => 1
 | x :: xs, y :: ys => if x = y then cmpL xs ys else bytesC x y
theorem cut_split {t p t' : List UInt8} {m : Bool} (h : cutM t = (p, t', m)) : splitM t = if m then p :: splitM t' else [p] := by
 rw [splitM_cut, h]
theorem cutM_lt {t p t' : List UInt8} (h : cutM t = (p, t', true)) : t'.length < t.length ∧ p.length ≤ t.length := by
 unfold cutM at h
 split at h
 ·injection h with h1 h2
  injection h2 with h2 h3
  rw [← h1, ← h2]
  simp
  omega
 injection h with h1 h2
 injection h2 with h2 h3
 cases h3
theorem ord_ne {x y a b : List UInt8} {m k : Bool} {s t : List UInt8} (hs : cutM s = (x, a, m)) (ht : cutM t = (y, b, k)) (h : x ≠ y) : cmpL (splitM s) (splitM t) = bytesC x y := by
 rw [cut_split hs, cut_split ht]
 cases m <;> cases k <;> exact if_neg h
theorem ord_eq {x y a b : List UInt8} {m k : Bool} {s t : List UInt8} (hs : cutM s = (x, a, m)) (ht : cutM t = (y, b, k)) (h : ¬ x ≠ y) : cmpL (splitM s) (splitM t) = if m then (if k then cmpL (splitM a) (splitM b) else 1) else if k then -1 else 0 := by
 have h : x = y := Decidable.of_not_not h
 rw [cut_split hs, cut_split ht]
 have e : ∀ xs ys, cmpL (x :: xs) (y :: ys) = cmpL xs ys := fun xs ys => if_pos h
 cases m <;> cases k <;> simp [e]
 ·rfl
 ·cases h2 : splitM b with
  | nil => exact absurd h2 (splitM_ne b)
  | cons p r => rfl
 cases h2 : splitM a with
 | nil => exact absurd h2 (splitM_ne a)
 | cons p r => rfl
set_option maxHeartbeats 4000000 in
theorem order_all (k : Nat) : ∀ a b : List UInt8, a.length = k → a.length ≤ 1000000 → b.length ≤ 1000000 → Tr Tryz.prog 97 #[.string (sB a), .string (sB b)] [] [] (T0 (.int .i64 (cmpL (splitM a) (splitM b)))) := by
 induction k using Nat.strongRecOn
 rename_i k ih
 intro a b hk ha hb
 obtain ⟨x, a', m, hx⟩ : ∃ x a' m, cutM a = (x, a', m) := ⟨_, _, _, rfl⟩
 obtain ⟨y, b', j, hy⟩ : ∃ y b' j, cutM b = (y, b', j) := ⟨_, _, _, rfl⟩
 have hbl := cutM_len b
 rw [hy] at hbl
 have hbl : b'.length ≤ b.length := hbl
 refine Tr.of (l := [(0, .string (sB a)), (1, .string (sB b))]) Tryz.func97 rfl (n := 40) rfl (.cons rfl (.cons rfl .nil)) (fun w0 hro => ?_)
 refine go [9,10,1,7,8,9,10,0] ?_
 refine G.op rfl (G.cR rfl rfl rfl rfl Tryz.func116 rfl rfl may0 (cut_at a _ _ _ (by omega) hx) ?_)
 refine go [0,2,7,2,7,2,7,1,1,1,7,8,9,10,0] ?_
 refine G.op rfl (G.cR rfl rfl rfl rfl Tryz.func116 rfl rfl may0 (cut_at b _ _ _ (by omega) hy) ?_)
 refine go [0,2,7,2,7,2,7,1,1,1,7,8,9,15,9,10,0,0,2,23,1,7,8] ?_
 refine G.condP rfl (fun h21 => ?_) (fun h21 => ?_)
 ·refine go [9,10,0,0] ?_
  refine G.op rfl (G.cR rfl rfl rfl rfl Tryz.func98 rfl rfl may0 (cmp_tr _ _) ?_)
  refine go [1,7,8,11,17,12] ?_
  exact G.done0G rfl (Rv.tmp rfl Rv.nil) (by rw [ord_ne hx hy (by assumption)]; rfl)
 refine go [9,10,0,0] ?_
 refine G.part (t := 30) rfl (fun h30 => ?_) (fun h30 => ?_)
 ·refine go [3,0,2,2,1,7,8] ?_
  refine G.cond rfl (fun h28 => ?_) (fun h28 => ?_)
  ·refine go [9,10,0,0] ?_
   have hm : m = true := by simp_all
   subst hm
   have hal := (cutM_lt hx).1
   refine G.op rfl (G.cR rfl rfl rfl rfl Tryz.func97 rfl rfl may0 (ih a'.length (by have := (cutM_lt (by assumption)).1; omega) a' b' rfl (by have := (cutM_lt (by assumption)).1; omega) (by omega)) ?_)
   refine go [1,7,8,11,17,12] ?_
   exact G.done0G rfl (Rv.tmp rfl Rv.nil) Y32
  refine go [9,10,0,1,7,8] ?_
  refine G.cond rfl (fun h36 => ?_) (fun h36 => ?_)
  ·refine go [9,10,1,7,8,11,17,12] ?_
   exact G.done0G rfl (Rv.tmp rfl Rv.nil) Y32
  refine go [9,10,0,1,7,8] ?_
  refine G.cond rfl (fun h38 => ?_) (fun h38 => ?_)
  ·refine go [9,10,1,7,8,11,17,12] ?_
   exact G.done0G rfl (Rv.tmp rfl Rv.nil) Y32
  refine go [13,16,8,9,10,1,7,8,11] ?_
  exact G.done0G rfl (Rv.tmp rfl Rv.nil) Y32
 refine go [4,2,2,1,7,8,60,1,9,10,0,1,7,8] ?_
 refine G.cond rfl (fun h36 => ?_) (fun h36 => ?_)
 ·refine go [9,10,1,7,8,11,17,12] ?_
  exact G.done0G rfl (Rv.tmp rfl Rv.nil) Y32
 refine go [9,10,0,1,7,8] ?_
 refine G.cond rfl (fun h38 => ?_) (fun h38 => ?_)
 ·refine go [9,10,1,7,8,11,17,12] ?_
  exact G.done0G rfl (Rv.tmp rfl Rv.nil) Y32
 refine go [13,16,8,9,10,1,7,8,11] ?_
 exact G.done0G rfl (Rv.tmp rfl Rv.nil) Y32
theorem order_tr (a b : List UInt8) (ha : a.length ≤ 1000000) (hb : b.length ≤ 1000000) : Tr Tryz.prog 97 #[.string (sB a), .string (sB b)] [] [] (T0 (.int .i64 (cmpL (splitM a) (splitM b)))) := order_all _ a b rfl ha hb
def compareM (a b : List UInt8) : Int := if okP a then (if okP b then cmpL (splitM a) (splitM b) else 1) else if okP b then -1 else bytesC a b
def parentM (s : List UInt8) : List UInt8 × Bool := if 0 < lastM s s.length ∧ okP s then (s.take (lastM s s.length - 1), true) else ([], false)
theorem lastM_le (s : List UInt8) : ∀ k, lastM s k ≤ k
 | 0 => Nat.le_refl _
 | k + 1 => by
  unfold lastM
  split
  ·exact Nat.le_refl _
  have := lastM_le s k
  omega
set_option maxHeartbeats 4000000 in
theorem compare_tr (a b : List UInt8) (ha : a.length ≤ 9223372036854775807) (hb : b.length ≤ 9223372036854775807) : Tr Tryz.prog 75 #[.string (sB a), .string (sB b)] [] [] (T0 (.int .i64 (compareM a b))) := by
 refine Tr.of (l := [(0, .string (sB a)), (1, .string (sB b))]) Tryz.func75 rfl (n := 26) rfl (.cons rfl (.cons rfl .nil)) (fun w0 hro => ?_)
 refine go [9,10,1,7,8,9,10,0] ?_
 refine G.op rfl (G.cR rfl rfl rfl rfl Tryz.func96 rfl rfl may0 (valid_tr _ (by omega)) ?_)
 refine go [0] ?_
 refine G.op rfl (G.cR rfl rfl rfl rfl Tryz.func96 rfl rfl may0 (valid_tr _ (by omega)) ?_)
 refine go [1,1,7,8,9,15,9,10,0,0] ?_
 refine G.partP (t := 13) rfl (fun h13 => ?_) (fun h13 => ?_)
 ·refine go [3,0,2,2,1,7,8] ?_
  refine G.condP rfl (fun h11 => ?_) (fun h11 => ?_)
  ·refine go [9,10,0,0] ?_
   refine G.op rfl (G.cR rfl rfl rfl rfl Tryz.func97 rfl rfl may0 (order_tr _ _ (by have := okP_len (s := a) (by assumption); omega) (by have := okP_len (s := b) (by assumption); omega)) ?_)
   refine go [1,7,8,11,17,12] ?_
   exact G.done0G rfl (Rv.tmp rfl Rv.nil) Y40
  refine go [9,10,0,1,7,8] ?_
  refine G.condP rfl (fun h19 => ?_) (fun h19 => ?_)
  ·refine go [9,10,1,7,8,11,17,12] ?_
   exact G.done0G rfl (Rv.tmp rfl Rv.nil) Y40
  refine go [9,10,0,1,7,8] ?_
  refine G.condP rfl (fun h21 => ?_) (fun h21 => ?_)
  ·refine go [9,10,1,7,8,11,17,12] ?_
   exact G.done0G rfl (Rv.tmp rfl Rv.nil) Y40
  refine go [13,16,8,9,10,0,0] ?_
  refine G.op rfl (G.cR rfl rfl rfl rfl Tryz.func98 rfl rfl may0 (cmp_tr _ _) ?_)
  refine go [1,7,8,11] ?_
  exact G.done0G rfl (Rv.tmp rfl Rv.nil) Y40
 refine go [4,2,2,1,7,8,60,1,9,10,0,1,7,8] ?_
 refine G.condP rfl (fun h19 => ?_) (fun h19 => ?_)
 ·refine go [9,10,1,7,8,11,17,12] ?_
  exact G.done0G rfl (Rv.tmp rfl Rv.nil) Y40
 refine go [9,10,0,1,7,8] ?_
 refine G.condP rfl (fun h21 => ?_) (fun h21 => ?_)
 ·refine go [9,10,1,7,8,11,17,12] ?_
  exact G.done0G rfl (Rv.tmp rfl Rv.nil) Y40
 refine go [13,16,8,9,10,0,0] ?_
 refine G.op rfl (G.cR rfl rfl rfl rfl Tryz.func98 rfl rfl may0 (cmp_tr _ _) ?_)
 refine go [1,7,8,11] ?_
 exact G.done0G rfl (Rv.tmp rfl Rv.nil) Y40
set_option maxHeartbeats 4000000 in
theorem parent_tr (s : List UInt8) (hs : s.length ≤ 9223372036854775807) : Tr Tryz.prog 76 #[.string (sB s)] [] [] (T0 (.tuple #[.string (sB (parentM s).1), .bool (parentM s).2])) := by
 refine Tr.of (l := [(0, .string (sB s))]) Tryz.func76 rfl (n := 17) rfl (.cons rfl .nil) (fun w0 hro => ?_)
 have hlast := lastM_le s s.length
 refine go [9,10,1,1,7,8,9,10,0] ?_
 refine G.op rfl (G.cR rfl rfl rfl rfl Tryz.func99 rfl rfl may0 (last_tr _ (by omega)) ?_)
 refine go [1,7,8,9,9,10,0,2,9,0] ?_
 refine G.partP (t := 9) rfl (fun h9 => ?_) (fun h9 => ?_)
 ·refine go [4,4,4,2,2,7,8,60,0,9,10,1,1,7,8,11,12] ?_
  exact G.done0G rfl (Rv.tmp rfl (Rv.tmp rfl Rv.nil)) (by unfold parentM; rw [if_neg (show ¬ (0 < lastM s s.length ∧ okP s) from fun h => by first | omega | exact absurd h.2 (by assumption))]; rfl)
 refine go [3,0] ?_
 refine G.want rfl rfl rfl (G.cR rfl rfl rfl rfl Tryz.func96 rfl rfl may0 (valid_tr _ (by omega)) ?_)
 refine go [3,15,2,2,7,8] ?_
 refine G.condP rfl (fun h13 => ?_) (fun h13 => ?_)
 ·refine go [9,10,1,1,7,8,11,12] ?_
  exact G.done0G rfl (Rv.tmp rfl (Rv.tmp rfl Rv.nil)) (by unfold parentM; rw [if_neg (show ¬ (0 < lastM s s.length ∧ okP s) from fun h => by first | omega | exact absurd h.2 (by assumption))]; rfl)
 refine go [13,8,9,10,0,0] ?_
 refine G.op rfl (G.val rfl rfl (pv_strH (k := lastM s s.length - 1) Tryz.underlying9 rfl rfl (by omega) (by omega)) ?_)
 refine go [1,1,7,8,11] ?_
 exact G.done0G rfl (Rv.tmp rfl (Rv.tmp rfl Rv.nil)) (by unfold parentM; rw [if_pos (show 0 < lastM s s.length ∧ okP s from ⟨by omega, Decidable.of_not_not (by assumption)⟩)]; rfl)
theorem bl_irrefl : ∀ a, Op.bytesLess a a = false
 | [] => rfl
 | a :: x => by
  have h := bl_irrefl x
  simp [Op.bytesLess, h]
theorem bl_cons {a b : UInt8} {x y : List UInt8} : Op.bytesLess (a :: x) (b :: y) = true ↔ a.toNat < b.toNat ∨ (a = b ∧ Op.bytesLess x y = true) := by
 simp only [Op.bytesLess, Bool.or_eq_true, decide_eq_true_eq, Bool.and_eq_true, beq_iff_eq, UInt8.lt_iff_toNat_lt]
theorem bl_asymm : ∀ a b, Op.bytesLess a b = true → Op.bytesLess b a = true → False
 | a, [], h, _ => by cases a <;> cases h
 | [], b :: y, _, h => by cases h
 | a :: x, b :: y, h, k => by
  rcases bl_cons.1 h with h | ⟨rfl, h2⟩
  ·rcases bl_cons.1 k with k | ⟨rfl, k⟩
   ·omega
   omega
  rcases bl_cons.1 k with k | ⟨_, k2⟩
  ·omega
  exact bl_asymm x y h2 k2
theorem bl_trans : ∀ a b c, Op.bytesLess a b = true → Op.bytesLess b c = true → Op.bytesLess a c = true
 | a, [], c, h, _ => by cases a <;> cases h
 | a, b :: y, [], _, k => by cases k
 | [], b :: y, c :: z, _, _ => rfl
 | a :: x, b :: y, c :: z, h, k => by
  refine bl_cons.2 ?_
  rcases bl_cons.1 h with h1 | ⟨rfl, h2⟩
  ·rcases bl_cons.1 k with k1 | ⟨rfl, k2⟩
   ·exact .inl (by omega)
   exact .inl h1
  rcases bl_cons.1 k with k1 | ⟨rfl, k2⟩
  ·exact .inl k1
  exact .inr ⟨rfl, bl_trans x y z h2 k2⟩
theorem bl_total : ∀ a b, Op.bytesLess a b = false → Op.bytesLess b a = false → a = b
 | [], [], _, _ => rfl
 | [], b :: y, h, _ => by cases h
 | a :: x, [], _, h => by cases h
 | a :: x, b :: y, h, k => by
  have h' : ¬ (a.toNat < b.toNat ∨ (a = b ∧ Op.bytesLess x y = true)) := fun e => by rw [bl_cons.2 e] at h; cases h
  have k' : ¬ (b.toNat < a.toNat ∨ (b = a ∧ Op.bytesLess y x = true)) := fun e => by rw [bl_cons.2 e] at k; cases k
  have e : a = b := UInt8.toNat_inj.1 (by omega)
  subst e
  have h2 : Op.bytesLess x y = false := by
   cases hh : Op.bytesLess x y with
   | false => rfl
   | true => exact absurd (.inr ⟨rfl, hh⟩) h'
  have k2 : Op.bytesLess y x = false := by
   cases hh : Op.bytesLess y x with
   | false => rfl
   | true => exact absurd (.inr ⟨rfl, hh⟩) k'
  rw [bl_total x y h2 k2]
structure OrdF {α : Type} (f : α → α → Int) : Prop where
 rng : ∀ a b, f a b = -1 ∨ f a b = 0 ∨ f a b = 1
 zero : ∀ a b, f a b = 0 ↔ a = b
 anti : ∀ a b, f b a = - f a b
 trans : ∀ a b c, f a b = -1 → f b c = -1 → f a c = -1
theorem bytesM_neg {a b : List UInt8} : bytesC a b = -1 ↔ Op.bytesLess a b = true := by
 unfold bytesC
 cases h : Op.bytesLess a b <;> simp
 by_cases e : a = b <;> simp [e]
theorem bytesM_eq {a b : List UInt8} (h : Op.bytesLess a b = false) : bytesC a b = if a = b then 0 else 1 := by
 unfold bytesC
 rw [h]
 by_cases e : a = b <;> simp [e]
theorem bytesM_ord : OrdF bytesC where
 rng a b := by
  cases h : Op.bytesLess a b with
  | true => exact .inl (bytesM_neg.2 h)
  | false =>
   rw [bytesM_eq h]
   by_cases e : a = b <;> simp [e]
 zero a b := by
  cases h : Op.bytesLess a b with
  | true =>
   rw [bytesM_neg.2 h]
   constructor
   ·intro h; cases h
   rintro rfl
   rw [bl_irrefl] at h
   cases h
  | false =>
   rw [bytesM_eq h]
   by_cases e : a = b <;> simp [e]
 anti a b := by
  cases h : Op.bytesLess a b with
  | true =>
   have h2 : Op.bytesLess b a = false := by
    cases k : Op.bytesLess b a with
    | false => rfl
    | true => exact (bl_asymm _ _ h k).elim
   have h3 : ¬ b = a := fun e => by
    subst e
    rw [bl_irrefl] at h
    cases h
   rw [bytesM_neg.2 h, bytesM_eq h2, if_neg h3]
   rfl
  | false =>
   cases k : Op.bytesLess b a with
   | true =>
    have h3 : ¬ a = b := fun e => by
     subst e
     rw [bl_irrefl] at k
     cases k
    rw [bytesM_neg.2 k, bytesM_eq h, if_neg h3]
   | false =>
    have := bl_total _ _ h k
    subst this
    rw [bytesM_eq h, if_pos rfl]
    rfl
 trans a b c h k := bytesM_neg.2 (bl_trans _ _ _ (bytesM_neg.1 h) (bytesM_neg.1 k))
theorem OrdF.self {α : Type} {f : α → α → Int} (h : OrdF f) (a : α) : f a a = 0 := (h.zero a a).2 rfl
theorem cmpL_cons_eq {x : List UInt8} {xs ys : List (List UInt8)} : cmpL (x :: xs) (x :: ys) = cmpL xs ys := if_pos rfl
theorem cmpL_cons_ne {x y : List UInt8} {xs ys : List (List UInt8)} (h : ¬ x = y) : cmpL (x :: xs) (y :: ys) = bytesC x y := if_neg h
theorem cmpL_rng : ∀ a b, cmpL a b = -1 ∨ cmpL a b = 0 ∨ cmpL a b = 1
 | [], [] => .inr (.inl rfl)
 | [], _ :: _ => .inl rfl
 | _ :: _, [] => .inr (.inr rfl)
 | x :: xs, y :: ys => by
  by_cases h : x = y
  ·subst h
   rw [cmpL_cons_eq]
   exact cmpL_rng xs ys
  rw [cmpL_cons_ne h]
  exact bytesM_ord.rng x y
theorem cmpL_zero : ∀ a b, cmpL a b = 0 ↔ a = b
 | [], [] => ⟨fun _ => rfl, fun _ => rfl⟩
 | [], _ :: _ => ⟨fun h => (by cases h), fun h => (by cases h)⟩
 | _ :: _, [] => ⟨fun h => (by cases h), fun h => (by cases h)⟩
 | x :: xs, y :: ys => by
  by_cases h : x = y
  ·subst h
   rw [cmpL_cons_eq, cmpL_zero xs ys]
   simp
  rw [cmpL_cons_ne h, bytesM_ord.zero]
  simp [h]
theorem cmpL_anti : ∀ a b, cmpL b a = - cmpL a b
 | [], [] => rfl
 | [], _ :: _ => rfl
 | _ :: _, [] => rfl
 | x :: xs, y :: ys => by
  by_cases h : x = y
  ·subst h
   rw [cmpL_cons_eq, cmpL_cons_eq]
   exact cmpL_anti xs ys
  rw [cmpL_cons_ne h, cmpL_cons_ne (fun e => h e.symm)]
  exact bytesM_ord.anti x y
theorem cmpL_trans : ∀ a b c, cmpL a b = -1 → cmpL b c = -1 → cmpL a c = -1
 | [], [], _, h, _ => by cases h
 | _ :: _, [], _, h, _ => by cases h
 | _, _ :: _, [], _, k => by cases k
 | [], _ :: _, _ :: _, _, _ => rfl
 | x :: xs, y :: ys, z :: zs, h, k => by
  by_cases e : x = y
  ·subst e
   rw [cmpL_cons_eq] at h
   by_cases e2 : x = z
   ·subst e2
    rw [cmpL_cons_eq] at k ⊢
    exact cmpL_trans xs ys zs h k
   rw [cmpL_cons_ne e2] at k ⊢
   exact k
  rw [cmpL_cons_ne e] at h
  by_cases e2 : y = z
  ·subst e2
   rw [cmpL_cons_ne e]
   exact h
  rw [cmpL_cons_ne e2] at k
  have h3 := bytesM_ord.trans x y z h k
  have e3 : ¬ x = z := fun e => by
   subst e
   rw [bytesM_ord.self] at h3
   cases h3
  rw [cmpL_cons_ne e3]
  exact h3
def joinL : List (List UInt8) → List UInt8
 | [] => []
 | [p] => p
 | p :: q :: r => p ++ 47 :: joinL (q :: r)
theorem joinL_cons {p : List UInt8} {r : List (List UInt8)} (h : r ≠ []) : joinL (p :: r) = p ++ 47 :: joinL r := by
 cases r with
 | nil => exact absurd rfl h
 | cons q r => rfl
theorem joinL_head {c : UInt8} {ps : List (List UInt8)} (h : ps ≠ []) : joinL (headP c ps) = c :: joinL ps := by
 cases ps with
 | nil => exact absurd rfl h
 | cons p r => cases r <;> rfl
theorem joinL_split : ∀ s, joinL (splitM s) = s
 | [] => rfl
 | c :: s => by
  have ih := joinL_split s
  by_cases h : c = 47
  ·subst h
   rw [splitM_stroke, joinL_cons (splitM_ne s), ih]
   rfl
  rw [splitM_char h, joinL_head (splitM_ne s), ih]
theorem split_inj {a b : List UInt8} (h : splitM a = splitM b) : a = b := by
 rw [← joinL_split a, h, joinL_split]
theorem parentM_len (s : List UInt8) : (parentM s).1.length ≤ s.length := by
 unfold parentM
 split
 ·simp
  omega
 simp
theorem compareM_ok {a b : List UInt8} (ha : okP a) (hb : okP b) : compareM a b = cmpL (splitM a) (splitM b) := (if_pos ha).trans (if_pos hb)
theorem compareM_l {a b : List UInt8} (ha : okP a) (hb : ¬ okP b) : compareM a b = 1 := (if_pos ha).trans (if_neg hb)
theorem compareM_r {a b : List UInt8} (ha : ¬ okP a) (hb : okP b) : compareM a b = -1 := (if_neg ha).trans (if_pos hb)
theorem compareM_no {a b : List UInt8} (ha : ¬ okP a) (hb : ¬ okP b) : compareM a b = bytesC a b := (if_neg ha).trans (if_neg hb)
theorem compareM_ord : OrdF compareM where
 rng a b := by
  by_cases ha : okP a <;> by_cases hb : okP b
  ·rw [compareM_ok ha hb]; exact cmpL_rng _ _
  ·rw [compareM_l ha hb]; simp
  ·rw [compareM_r ha hb]; simp
  rw [compareM_no ha hb]; exact bytesM_ord.rng _ _
 zero a b := by
  by_cases ha : okP a <;> by_cases hb : okP b
  ·rw [compareM_ok ha hb, cmpL_zero]
   exact ⟨split_inj, fun h => by rw [h]⟩
  ·rw [compareM_l ha hb]
   exact ⟨fun h => (by cases h), fun h => absurd (h ▸ ha) hb⟩
  ·rw [compareM_r ha hb]
   exact ⟨fun h => (by cases h), fun h => absurd (h ▸ hb) ha⟩
  rw [compareM_no ha hb]; exact bytesM_ord.zero _ _
 anti a b := by
  by_cases ha : okP a <;> by_cases hb : okP b
  ·rw [compareM_ok ha hb, compareM_ok hb ha]; exact cmpL_anti _ _
  ·rw [compareM_l ha hb, compareM_r hb ha]
  ·rw [compareM_r ha hb, compareM_l hb ha]; rfl
  rw [compareM_no ha hb, compareM_no hb ha]; exact bytesM_ord.anti _ _
 trans a b c h k := by
  by_cases ha : okP a
  ·by_cases hb : okP b
   ·rw [compareM_ok ha hb] at h
    by_cases hc : okP c
    ·rw [compareM_ok hb hc] at k
     rw [compareM_ok ha hc]
     exact cmpL_trans _ _ _ h k
    rw [compareM_l hb hc] at k
    cases k
   rw [compareM_l ha hb] at h
   cases h
  by_cases hc : okP c
  ·exact compareM_r ha hc
  by_cases hb : okP b
  ·rw [compareM_l hb hc] at k
   cases k
  rw [compareM_no ha hb] at h
  rw [compareM_no hb hc] at k
  rw [compareM_no ha hc]
  exact bytesM_ord.trans _ _ _ h k
set_option maxRecDepth 100000
structure En where
 path : List UInt8
 kind : Int
 mode : Int
 data : List UInt8
 «to» : List UInt8
abbrev ET := En × Value
def evC (x : ET) : List Value := [vStr x.1.path, vInt x.1.kind, vInt x.1.mode, x.2, vStr x.1.to]
def EnOk (e : En) : Prop := I64 e.kind ∧ I64 e.mode ∧ e.path.length ≤ 140737488355328 ∧ e.data.length ≤ 140737488355328 ∧ e.to.length ≤ 140737488355328
theorem rangeAt_loc {w w' : World} {b o : Nat} {cs : List Value} (h : w'.heap[b]? = w.heap[b]?) (hw : w.rangeAt b o cs) : w'.rangeAt b o cs := fun j v hj => (World.cell?_of_block h).trans (hw j v hj)
def rEV : Rdr ET where
 sz := 5
 R := fun Ps w b o x => Ps b ∧ w.rangeAt b o (evC x) ∧ IsSl rByte Ps w x.2 x.1.data ∧ EnOk x.1
 loc := fun h ⟨h1, h2, h3, h4⟩ => ⟨h1, rangeAt_loc (h _ h1) h2, h3.loc h, h4⟩
 mono := fun h ⟨h1, h2, h3, h4⟩ => ⟨h _ h1, h2, h3.mono h, h4⟩
def flatT (xs : List ET) : List Value := xs.flatMap evC
theorem evC_length (x : ET) : (evC x).length = 5 := rfl
theorem flatT_length (xs : List ET) : (flatT xs).length = xs.length * 5 := flatMap_length evC 5 evC_length xs
theorem flatT_get {xs : List ET} {i j : Nat} (hi : i < xs.length) (hj : j < 5) : (flatT xs)[i * 5 + j]? = (evC xs[i])[j]? := flatMap_get evC 5 evC_length xs i j hi hj
theorem flatT_app (xs ys : List ET) : flatT (xs ++ ys) = flatT xs ++ flatT ys := List.flatMap_append ..
theorem flatT_one (x : ET) : flatT [x] = evC x := by simp [flatT]
def ens (xs : List ET) : List En := xs.map (·.1)
theorem ens_length (xs : List ET) : (ens xs).length = xs.length := List.length_map ..
theorem ens_get {xs : List ET} {i : Nat} (h : i < xs.length) : (ens xs)[i]'(by rw [ens_length]; exact h) = xs[i].1 := List.getElem_map ..
theorem flat_at {xs : List ET} {sp : List Value} {i : Nat} (h : i < xs.length) (j : Nat) (hj : j < 5) : (flatT xs ++ sp)[0 + i * 5 + j]? = (evC xs[i])[j]? := by
 rw [List.getElem?_append_left (by rw [flatT_length]; omega), show 0 + i * 5 + j = i * 5 + j by omega]
 exact flatT_get h hj
theorem flat_set {xs : List ET} {sp : List Value} {i : Nat} (h : i < xs.length) (d : Value) : (flatT xs ++ sp).set (0 + i * 5 + 3) d = flatT (xs.set i (xs[i].1, d)) ++ sp := by
 have hl : (flatT (xs.set i (xs[i].1, d))).length = xs.length * 5 := by rw [flatT_length, List.length_set]
 apply List.ext_getElem?
 intro j
 rcases Nat.lt_or_ge j (xs.length * 5) with hj | hj
 ·obtain ⟨q, r, rfl, hr, hq⟩ : ∃ q r, j = q * 5 + r ∧ r < 5 ∧ q < xs.length := ⟨j / 5, j % 5, by omega, by omega, by omega⟩
  rw [List.getElem?_append_left (by rw [hl]; omega), flatT_get (by rw [List.length_set]; exact hq) hr]
  by_cases hiq : i = q
  ·subst hiq
   rw [List.getElem_set_self]
   by_cases hr3 : r = 3
   ·subst hr3
    rw [show 0 + i * 5 + 3 = i * 5 + 3 by omega, List.getElem?_set_self (by rw [List.length_append, flatT_length]; omega)]
    rfl
   rw [List.getElem?_set_ne (by omega), List.getElem?_append_left (by rw [flatT_length]; omega), flatT_get hq hr]
   have : r = 0 ∨ r = 1 ∨ r = 2 ∨ r = 4 := by omega
   rcases this with rfl | rfl | rfl | rfl <;> rfl
  rw [List.getElem_set_ne hiq, List.getElem?_set_ne (by omega), List.getElem?_append_left (by rw [flatT_length]; omega), flatT_get hq hr]
 rw [List.getElem?_set_ne (by omega), List.getElem?_append_right (by rw [flatT_length]; omega), List.getElem?_append_right (by rw [hl]; omega), flatT_length, hl]
def ownT (e : TypeId) (v : Value) (xs : List ET) : Ck := own e 5 v xs.length (flatT xs)
def datC (e : TypeId) (xs : List ET) : Ck := star (xs.map fun x => ownB e x.2 x.1.data)
section
variable {P : Program} {n : Nat} {w0 : World} {S : Nat → Prop} {l : Fr} {m : List Ck} {Q : Exit → Act → World → Prop} {K : Act → World → Prop}
theorem Ro.openT {Ps : Nat → Prop} {v : Value} {xs : List ET} (h : Ro w0 S (slc rEV Ps v xs)) : ∃ ad cap b off, v = .slice ad xs.length cap ∧ xs.length ≤ cap ∧ cap ≤ 9223372036854775807 ∧ (ad = none → cap = 0) ∧ (0 < xs.length → ad = some ⟨b, off, none⟩) ∧ ∀ i (hi : i < xs.length), Ro w0 S (elc rEV Ps b (off + i * 5) xs[i]) := h.open
theorem Ro.evRng {Ps : Nat → Prop} {b o : Nat} {x : ET} (h : Ro w0 S (elc rEV Ps b o x)) : Ro w0 S (rng b o [.string (sB x.1.path), .int .i64 x.1.kind, .int .i64 x.1.mode, x.2, .string (sB x.1.to)]) :=
 ⟨h.1.2.1, fun k hk => h.2 k (by obtain rfl : k = b := hk; exact h.1.1)⟩
theorem Ro.evDat {Ps : Nat → Prop} {b o : Nat} {x : ET} (h : Ro w0 S (elc rEV Ps b o x)) : Ro w0 S (slc rByte Ps x.2 x.1.data) := ⟨h.1.2.2.1, h.2⟩
theorem Ro.evOk {Ps : Nat → Prop} {b o : Nat} {x : ET} (h : Ro w0 S (elc rEV Ps b o x)) : EnOk x.1 := h.1.2.2.2
theorem Ro.slv {α : Type} {E : Rdr α} {Ps : Nat → Prop} {v : Value} {xs : List α} (h : Ro w0 S (slc E Ps v xs)) : ∃ ad cap, v = .slice ad xs.length cap := by
 obtain ⟨⟨ad, cap, b, off, e, _⟩, _⟩ := h
 exact ⟨ad, cap, e⟩
theorem ownT_sl {e : TypeId} {v : Value} {xs : List ET} {w : World} {Ps : Nat → Prop} (h : w.ownsRow 0 e 5 v xs.length (flatT xs)) (hP : ∀ b, v.ownBlock = some b → Ps b) (hok : ∀ x ∈ xs, EnOk x.1) (hd : ∀ x ∈ xs, IsSl rByte Ps w x.2 x.1.data) : IsSl rEV Ps w v xs := by
 obtain ⟨ad, cap, b, hv, had, hnil, hnw⟩ := own_news h
 obtain ⟨h1, h2⟩ := h
 have hb : xs.length ≤ cap ∧ cap ≤ 9223372036854775807 := by
  rcases h2 with ⟨rfl, h0⟩ | ⟨g, cap', cur, rfl, _, _, hc, hm, _⟩
  ·injection hv with e1 e2 e3
   subst e3
   omega
  injection hv with e1 e2 e3
  subst e3
  exact ⟨hc, by unfold maxLen at hm; omega⟩
 refine ⟨ad, cap, b, 0, hv, hb.1, hb.2, hnil, had, fun i hi => ⟨hP b ?_, fun j u hj => ?_, hd _ (List.getElem_mem hi), hok _ (List.getElem_mem hi)⟩⟩
 ·rw [hv, had (by omega)]
  rfl
 have hj5 : j < 5 := (List.getElem?_eq_some_iff.1 hj).1
 have := hnw (i * 5 + j) u (by rw [flatT_get hi hj5]; exact hj)
 rw [show 0 + i * rEV.sz + j = 0 + (i * 5 + j) from by show 0 + i * 5 + j = _; omega]
 exact this
theorem datC_dat {w : World} {e : TypeId} {xs : List ET} (h : (datC e xs).φ w) : ∀ x ∈ xs, IsSl rByte (datC e xs).S w x.2 x.1.data := fun x hx => by
 have h1 : (ownB e x.2 x.1.data).φ w := h.1 _ (List.mem_map.2 ⟨x, hx, rfl⟩)
 exact (own_isSl' (p := fun _ => True) (OwnB.own h1) rfl (fun _ _ => trivial)).mono fun k hk => ⟨_, List.mem_map.2 ⟨x, hx, rfl⟩, hk⟩
theorem may_tree {e e2 : TypeId} {v : Value} {xs : List ET} {r r' : List Ck} (h : Sel m (ownT e v xs) r) (h' : Sel m (datC e2 xs) r') (hok : ∀ x ∈ xs, EnOk x.1) : May w0 S m (slc rEV (fun b => v.ownBlock = some b ∨ (datC e2 xs).S b) v xs) :=
 .mix (fun w hw => ownT_sl (hw.holds _ h.mem) (fun b hb => .inl hb) hok fun x hx => (datC_dat (hw.holds _ h'.mem) x hx).mono fun k hk => .inr hk) fun b hb => .inr (by
  rcases hb with hb | hb
  ·exact ⟨_, h.mem, hb⟩
  exact ⟨_, h'.mem, hb⟩)
end
def argP (e : En) : Prop := e.kind < 1 ∨ 3 < e.kind ∨ e.mode < 0 ∨ 511 < e.mode ∨ (0 < e.data.length ∧ e.kind ≠ 2) ∨ (e.kind = 3 ∧ e.to.length = 0) ∨ (e.kind ≠ 3 ∧ 0 < e.to.length) ∨ 200 < e.to.length
instance (e : En) : Decidable (argP e) := inferInstanceAs (Decidable (_ ∨ _))
def oneM (e : En) : Int := if ¬ okP e.path then 4 else if argP e then 2 else if 1048576 < e.data.length then 3 else 0
theorem one_bytes {e : En} (h : ¬ okP e.path) : oneM e = 4 := if_pos h
theorem one_arg {e : En} (h : okP e.path) (h2 : argP e) : oneM e = 2 := (if_neg (fun k => k h)).trans (if_pos h2)
theorem one_long {e : En} (h : okP e.path) (h2 : ¬ argP e) (h3 : 1048576 < e.data.length) : oneM e = 3 := (if_neg (fun k => k h)).trans ((if_neg h2).trans (if_pos h3))
theorem one_ok {e : En} (h : okP e.path) (h2 : ¬ argP e) (h3 : ¬ 1048576 < e.data.length) : oneM e = 0 := (if_neg (fun k => k h)).trans ((if_neg h2).trans (if_neg h3))
theorem nil_len {s : List UInt8} : s = [] ↔ s.length = 0 := List.length_eq_zero_iff.symm
theorem dec_t {p : Prop} [Decidable p] (h : p) : Value.bool true = .bool (decide p) := by rw [decide_eq_true h]
theorem dec_f {p : Prop} [Decidable p] (h : ¬ p) : Value.bool false = .bool (decide p) := by rw [decide_eq_false h]
theorem dec_e {p q : Prop} [Decidable p] [Decidable q] (h : p ↔ q) : Value.bool (decide p) = .bool (decide q) := by rw [decide_eq_decide.2 h]
theorem dec_n {p : Prop} [Decidable p] {a b : Bool} (h : (!(a == b)) = true ↔ p) : Value.bool (!(a == b)) = .bool (decide p) := by
 congr 1
 cases hh : (!(a == b)) with
 | true => exact (decide_eq_true (h.1 hh)).symm
 | false => exact (decide_eq_false fun k => by rw [h.2 k] at hh; cases hh).symm
theorem bne_dec {p q : Prop} [Decidable p] [Decidable q] : (!(decide p == decide q)) = true ↔ ¬ (p ↔ q) := by
 by_cases hp : p <;> by_cases hq : q <;> simp [hp, hq]
set_option maxHeartbeats 4000000 in
theorem one_tr {Pd : Nat → Prop} (e : En) (d : Value) (hl : e.path.length ≤ 9223372036854775807) : Tr Tryz.prog 74 #[.agg #[.string (sB e.path), .int .i64 e.kind, .int .i64 e.mode, d, .string (sB e.to)]] [slc rByte Pd d e.data] [] (T0 (.int .i64 (oneM e))) := by
 refine Tr.of (l := [(0, .agg #[.string (sB e.path), .int .i64 e.kind, .int .i64 e.mode, d, .string (sB e.to)])]) Tryz.func74 rfl (n := 58) rfl (.cons rfl .nil) (fun w0 hro => ?_)
 have hd := ro1 hro
 obtain ⟨ad, cap, rfl⟩ := Ro.slv hd
 have hto := nil_len (s := e.to)
 refine go [9,10,60,5] ?_
 intro b1
 refine go [1,7,8,9] ?_
 refine G.drawT (nn := 8) (p := []) (rem := 255) [0, 1, 2, 0, 8, 16, 7, 127] [0, 1, 2, 0, 8, 16, 4, 32] kr ⟨rfl, by kernel_rfl, by kernel_rfl⟩ subT kr (fun hT1 => ?_)
 refine go [22,0,254,3,1,22,3,246,3,1,22,1,244,4,22,2,240,13,22,6,176,1,24,4,160,25,4,26,22,5,128,13,22,7,0,1,27,8,9,15,9,10,2,3,0,2,4] ?_
 refine G.op rfl (G.cR rfl rfl rfl rfl Tryz.func95 rfl rfl may0 (check_tr _ (by omega)) ?_)
 refine go [2,50,11,2,14,1,7,8] ?_
 refine G.condP rfl (fun h11 => ?_) (fun h11 => ?_)
 ·refine go [9,10,1,7,8,11,17,12] ?_
  exact G.done0G rfl (Rv.tmp rfl Rv.nil) (by rw [one_bytes (by assumption)]; rfl)
 have hok : okP e.path := Decidable.of_not_not (by assumption)
 refine G.seq ?_
 refine G.cutK (X := Unit) (ts := [1, 2]) (p := []) (fun _ => True) (fun _ => [(17, .bool (decide (argP e)))]) (fun _ => []) (.cons rfl (.cons rfl .nil)) subT (.cons .nil) apT ?_ ?_
 ·refine go [9,10,2,3,1,2,4,2,9,0] ?_
  refine G.partP (t := 21) rfl (fun h21 => ?_) (fun h21 => ?_)
  ·refine go [4,4,4,2,2,1,7,8,60,0,13] ?_
   exact G.meet (()) trT (.consE rfl Y7 (.cons rfl (.cons rfl .nil))) subT
  refine go [3,3,1,3,4,3,10,2,2,1,7,8] ?_
  refine G.condP rfl (fun h17 => ?_) (fun h17 => ?_)
  ·refine G.skip ?_
   exact G.meet (()) trT (.consE rfl Y7 (.cons rfl (.cons rfl .nil))) subT
  refine go [9,10,2,3,2,2,4,2,9,0] ?_
  refine G.partP (t := 29) rfl (fun h29 => ?_) (fun h29 => ?_)
  ·refine go [4,4,4,2,2,1,7,8,60,0,13] ?_
   exact G.meet (()) trT (.consE rfl Y7 (.cons rfl (.cons rfl .nil))) subT
  refine go [3,3,2,3,4,3,10,2,2,1,7,8] ?_
  refine G.condP rfl (fun h17 => ?_) (fun h17 => ?_)
  ·refine G.skip ?_
   exact G.meet (()) trT (.consE rfl Y7 (.cons rfl (.cons rfl .nil))) subT
  refine go [9,10,2,3,3,2,4,2,5,2,10,0] ?_
  refine G.partP (t := 38) rfl (fun h38 => ?_) (fun h38 => ?_)
  ·refine go [3,0,3,15,2,2,1,7,8] ?_
   refine G.condP rfl (fun h17 => ?_) (fun h17 => ?_)
   ·refine G.skip ?_
    exact G.meet (()) trT (.consE rfl Y7 (.cons rfl (.cons rfl .nil))) subT
   refine go [10,0,2,3,4,2,4,2,23] ?_
   refine G.op rfl (G.val rfl rfl (pv_neqB Tryz.underlying4 rfl rfl) ?_)
   refine go [0] ?_
   refine G.part (t := 47) rfl (fun h47 => ?_) (fun h47 => ?_)
   ·have hb := bne_dec.1 h47
    rw [ne_eq, hto] at hb
    refine go [4,4,4,4,2,2,1,7] ?_
    exact G.meet (()) trT (.consE rfl Y7 (.cons rfl (.cons rfl .nil))) subT
   have hb : ¬ ¬ (e.kind = 3 ↔ ¬ e.to.length = 0) := fun h => by have := bne_dec.2 (show ¬ (e.kind = 3 ↔ e.to ≠ []) by rw [ne_eq, hto]; exact h); rw [h47] at this; cases this
   refine go [3,3,4,3,4,3,21,3,10,2,2,1,7] ?_
   exact G.meet (()) trT (.consE rfl Y7 (.cons rfl (.cons rfl .nil))) subT
  refine go [4,4,2,2,1,7,8,60,1,10,0,2,3,4,2,4,2,23] ?_
  refine G.op rfl (G.val rfl rfl (pv_neqB Tryz.underlying4 rfl rfl) ?_)
  refine go [0] ?_
  refine G.part (t := 47) rfl (fun h47 => ?_) (fun h47 => ?_)
  ·have hb := bne_dec.1 h47
   rw [ne_eq, hto] at hb
   refine go [4,4,4,4,2,2,1,7] ?_
   exact G.meet (()) trT (.consE rfl Y7 (.cons rfl (.cons rfl .nil))) subT
  have hb : ¬ ¬ (e.kind = 3 ↔ ¬ e.to.length = 0) := fun h => by have := bne_dec.2 (show ¬ (e.kind = 3 ↔ e.to ≠ []) by rw [ne_eq, hto]; exact h); rw [h47] at this; cases this
  refine go [3,3,4,3,4,3,21,3,10,2,2,1,7] ?_
  exact G.meet (()) trT (.consE rfl Y7 (.cons rfl (.cons rfl .nil))) subT
 intro _ hJ
 try dsimp only at hJ
 try dsimp only
 refine G.condP rfl (fun h17 => ?_) (fun h17 => ?_)
 ·refine go [9,10,1,7,8,11,17,12] ?_
  exact G.done0G rfl (Rv.tmp rfl Rv.nil) (by rw [one_arg hok (by assumption)]; rfl)
 refine go [9,10,2,3,3,2,4,2,5,2,10,1,7,8] ?_
 refine G.condP rfl (fun h53 => ?_) (fun h53 => ?_)
 ·refine go [9,10,1,7,8,11,17,12] ?_
  exact G.done0G rfl (Rv.tmp rfl Rv.nil) (by rw [one_long hok (by assumption) (by omega)]; rfl)
 refine go [13,16,8,9,10,1,7,8,11] ?_
 exact G.done0G rfl (Rv.tmp rfl Rv.nil) (by rw [one_ok hok (by assumption) (by omega)]; rfl)
def endsP (b : List UInt8) : Prop := b.length = 1024 ∨ (64 ≤ b.length ∧ rsum (lastW b) / 2 ^ 24 = 0)
instance (b : List UInt8) : Decidable (endsP b) := inferInstanceAs (Decidable (_ ∨ _))
def cutTo (b : List UInt8) : Nat → List Nat
 | 0 => []
 | i + 1 => if endsP ((b.take (i + 1)).drop ((cutTo b i).getLastD 0)) then cutTo b i ++ [i + 1] else cutTo b i
def curB (b : List UInt8) (i : Nat) : List UInt8 := (b.take i).drop ((cutTo b i).getLastD 0)
def cutL (b : List UInt8) : List Nat := cutTo b b.length
theorem cut_le (b : List UInt8) : ∀ i, ∀ x ∈ cutTo b i, x ≤ i
 | 0, x, h => by cases h
 | i + 1, x, h => by
  unfold cutTo at h
  split at h
  ·rcases List.mem_append.1 h with h | h
   ·exact Nat.le_succ_of_le (cut_le b i x h)
   obtain rfl : x = i + 1 := by simpa using h
   exact Nat.le_refl _
  exact Nat.le_succ_of_le (cut_le b i x h)
theorem last_le (b : List UInt8) : ∀ i, (cutTo b i).getLastD 0 ≤ i
 | 0 => Nat.le_refl _
 | i + 1 => by
  have ih := last_le b i
  unfold cutTo
  split
  ·rw [List.getLastD_concat]
   exact Nat.le_refl _
  omega
theorem cur_step {b : List UInt8} {i : Nat} (hi : i < b.length) : (b.take (i + 1)).drop ((cutTo b i).getLastD 0) = curB b i ++ [b[i]] := by
 unfold curB
 rw [List.take_succ_eq_append_getElem hi, List.drop_append_of_le_length]
 rw [List.length_take]
 have := last_le b i
 omega
theorem cut_yes {b : List UInt8} {i : Nat} (hi : i < b.length) (h : endsP (curB b i ++ [b[i]])) : cutTo b (i + 1) = cutTo b i ++ [i + 1] ∧ curB b (i + 1) = [] := by
 have e : cutTo b (i + 1) = cutTo b i ++ [i + 1] := by
  show (if _ then _ else _) = _
  rw [if_pos (by rw [cur_step hi]; exact h)]
 refine ⟨e, ?_⟩
 unfold curB
 rw [e, List.getLastD_concat]
 exact List.drop_of_length_le (by rw [List.length_take]; omega)
theorem cut_no {b : List UInt8} {i : Nat} (hi : i < b.length) (h : ¬ endsP (curB b i ++ [b[i]])) : cutTo b (i + 1) = cutTo b i ∧ curB b (i + 1) = curB b i ++ [b[i]] := by
 have e : cutTo b (i + 1) = cutTo b i := by
  show (if _ then _ else _) = _
  rw [if_neg (by rw [cur_step hi]; exact h)]
 refine ⟨e, ?_⟩
 rw [← cur_step hi]
 show (b.take (i + 1)).drop ((cutTo b (i + 1)).getLastD 0) = _
 rw [e]
theorem cut_pre (b : List UInt8) (i : Nat) : ∀ k, cutTo b i <+: cutTo b (i + k)
 | 0 => List.prefix_refl _
 | k + 1 => by
  refine (cut_pre b i k).trans ?_
  show cutTo b (i + k) <+: (if _ then _ else _)
  split
  ·exact List.prefix_append _ _
  exact List.prefix_refl _
theorem cut_at' {b : List UInt8} {i : Nat} (hi : i < b.length) (h : cutTo b (i + 1) = cutTo b i ++ [i + 1]) : (cutTo b i).length < (cutL b).length ∧ (cutL b).getD (cutTo b i).length 0 = i + 1 := by
 obtain ⟨t, ht⟩ := cut_pre b (i + 1) (b.length - (i + 1))
 rw [show i + 1 + (b.length - (i + 1)) = b.length by omega, h] at ht
 have ht : cutTo b i ++ [i + 1] ++ t = cutL b := ht
 rw [← ht]
 refine ⟨by simp, ?_⟩
 rw [List.getD_eq_getElem?_getD, List.getElem?_append_left (by simp), List.getElem?_append_right (by simp)]
 simp
theorem cur_len (b : List UInt8) (i : Nat) : (curB b i).length ≤ b.length := by
 unfold curB
 rw [List.length_drop, List.length_take]
 omega
def edge0 : List Value := (rollC (List.replicate 16 0) 0 0 [.int .i64 0])
set_option maxHeartbeats 4000000 in
theorem rnew_tr : Tr Tryz.prog 119 #[] [] [] (TX (fun _ : Nat => True) (fun D => .pointer (some ⟨D, 0, none⟩)) (fun D => [blk D 179 (rollC (List.replicate 16 0) 0 0 [])])) := by
 refine Tr.of (l := []) Tryz.func119 rfl (n := 3) rfl Fa.nil (fun w0 hro => ?_)
 refine go [9,10,1,7,8,9,10] ?_
 refine G.op rfl (G.val rfl rfl (pv_buildSt (z := [.int .u8 0, .int .u8 0, .int .u8 0, .int .u8 0, .int .u8 0, .int .u8 0, .int .u8 0, .int .u8 0, .int .u8 0, .int .u8 0, .int .u8 0, .int .u8 0, .int .u8 0, .int .u8 0, .int .u8 0, .int .u8 0, .int .i64 0, .int .u32 0, .bool false]) (pl := [(0, 16), (16, 1), (17, 1), (18, 1)]) Tryz.underlying179 kr kr rfl flT) ?_)
 refine go [60,19] ?_
 intro b2
 refine go [1,7,8,11] ?_
 exact G.doneX1 (b2) trT rfl rfl rfl subT
set_option maxHeartbeats 4000000 in
theorem fresh_tr : Tr Tryz.prog 102 #[] [] [] (T0 (.agg edge0.toArray)) := by
 refine Tr.of (l := []) Tryz.func102 rfl (n := 5) rfl Fa.nil (fun w0 hro => ?_)
 refine go [9,10] ?_
 refine G.op rfl (G.alloc (z := .agg #[.int .u8 0, .int .u8 0, .int .u8 0, .int .u8 0, .int .u8 0, .int .u8 0, .int .u8 0, .int .u8 0, .int .u8 0, .int .u8 0, .int .u8 0, .int .u8 0, .int .u8 0, .int .u8 0, .int .u8 0, .int .u8 0, .int .i64 0, .int .u32 0, .bool false, .int .i64 0]) (cs := [.int .u8 0, .int .u8 0, .int .u8 0, .int .u8 0, .int .u8 0, .int .u8 0, .int .u8 0, .int .u8 0, .int .u8 0, .int .u8 0, .int .u8 0, .int .u8 0, .int .u8 0, .int .u8 0, .int .u8 0, .int .u8 0, .int .i64 0, .int .u32 0, .bool false, .int .i64 0]) rfl kr rfl ?_)
 intro b0
 refine go [7,8,9,10] ?_
 refine G.op rfl (G.cS rfl rfl rfl rfl Tryz.func119 rfl rfl subT may0 (rnew_tr) apT ?_)
 intro x1 hJ
 try dsimp only at hJ
 try dsimp only
 refine go [2,8] ?_
 refine G.op rfl (G.val rfl rfl (pv_loadN (cs := [_, _, _, _, _, _, _, _, _, _, _, _, _, _, _, _, _, _, _]) Tryz.underlying179 rfl kr rfl (by first | exact blk_range (k := 19) selD (by rfl) | exact rng_range (k := 19) selD (by rfl) | exact ro_range (k := 19) (by assumption) (by rfl) | exact ro_rngR (k := 19) (by assumption) (by rfl))) ?_)
 refine G.op rfl (G.val rfl rfl (pv_buildSt (z := [.int .u8 0, .int .u8 0, .int .u8 0, .int .u8 0, .int .u8 0, .int .u8 0, .int .u8 0, .int .u8 0, .int .u8 0, .int .u8 0, .int .u8 0, .int .u8 0, .int .u8 0, .int .u8 0, .int .u8 0, .int .u8 0, .int .i64 0, .int .u32 0, .bool false, .int .i64 0]) (pl := [(0, 19), (19, 1)]) Tryz.underlying181 kr kr rfl flT) ?_)
 refine G.op rfl (G.storeN kr rfl rfl (by first | exact List.all_eq_true.2 (vByte_one _) | rfl) selT leT ?_)
 refine go [7,8,11] ?_
 exact G.done0G rfl (Rv.cellN (cs := [_, _, _, _, _, _, _, _, _, _, _, _, _, _, _, _, _, _, _, _]) rfl Tryz.underlying181 rfl kr (by first | exact blk_range (k := 20) selD (by rfl)) Rv.nil) Y8
set_option maxHeartbeats 4000000 in
theorem ends_tr (E : Nat) (ring : List UInt8) (n : Nat) (s : Int) (m : List UInt8) (c : UInt8) (h : RollAt ring n s m) (hm : m.length ≤ 1000000000) : Tr Tryz.prog 121 #[.pointer (some ⟨E, 0, none⟩), .int .u8 (c.toNat : Int)] [] [blk E 181 (rollC ring n s [.int .i64 (m.length : Int)])]
 (TX (fun z : List UInt8 × Nat × Int => RollAt z.1 z.2.1 z.2.2 (m ++ [c])) (fun _ => .bool (decide (endsP (m ++ [c])))) (fun z => [blk E 181 (rollC z.1 z.2.1 z.2.2 [.int .i64 ((m ++ [c]).length : Int)])])) := by
 refine Tr.of (l := [(0, .pointer (some ⟨E, 0, none⟩)), (1, .int .u8 (c.toNat : Int))]) Tryz.func121 rfl (n := 35) rfl (.cons rfl (.cons rfl .nil)) (fun w0 hro => ?_)
 have hr := h.len
 have hlen : (m ++ [c]).length = m.length + 1 := by simp
 refine go [9,10,1,7,8,9,10,0,2,8,2,3,19] ?_
 refine G.op rfl (G.val rfl rfl (pv_load Tryz.underlying3 rfl rfl Y21) ?_)
 refine G.op rfl (G.val rfl rfl ((pv_add64 rfl rfl (by omega)).int (b := ((m ++ [c]).length : Int)) (by omega)) ?_)
 refine go [2,8,2,3,19] ?_
 refine G.op rfl (G.store kr rfl rfl (by rfl) selT (by rw [roll_len hr]; first | done | simp) ?_)
 rw [roll_setX hr]
 refine go [7,8,9,10,0,2,8,2,3,0,0] ?_
 refine G.op rfl (G.cS rfl rfl rfl rfl Tryz.func125 rfl rfl subT may0 (push_tr _ _ _ _ _ _ m c h) apT ?_)
 intro x17 hJ
 obtain ⟨ring', n', s'⟩ := x17
 try dsimp only at hJ
 try dsimp only
 have hr : ring'.length = 16 := hJ.len
 refine go [1,7,8,9,10,0,2,8,2,3,19] ?_
 refine G.op rfl (G.val rfl rfl (pv_load Tryz.underlying3 rfl rfl Y21) ?_)
 refine go [2,13,0] ?_
 refine G.partP (t := 23) rfl (fun h23 => ?_) (fun h23 => ?_)
 ·refine go [4,4,4,4,4,4,6,6,6,4,2,2,1,7,8,11] ?_
  exact G.doneX1 ((ring', n', s')) (by first | exact trivial | ((try dsimp only) <;> exact hJ)) rfl rfl Y25 subT
 refine go [3,0,3,8,3,3,19] ?_
 refine G.want rfl rfl rfl (G.val rfl rfl (pv_load Tryz.underlying3 rfl rfl Y21) ?_)
 refine go [3,12,3,0] ?_
 refine G.partP (t := 29) rfl (fun h29 => ?_) (fun h29 => ?_)
 ·refine go [3,0] ?_
  refine G.want rfl rfl rfl (G.val rfl rfl (pv_shr (s := 24) rfl rfl (by decide)) ?_)
  refine go [3,13,3,2,2,2,1,7,8,11] ?_
  exact G.doneX1 ((ring', n', s')) (by first | exact trivial | ((try dsimp only) <;> exact hJ)) rfl rfl Y25 subT
 refine go [4,4,4,3,2,2,2,1,7,8,11] ?_
 exact G.doneX1 ((ring', n', s')) (by first | exact trivial | ((try dsimp only) <;> exact hJ)) rfl rfl Y25 subT
set_option maxHeartbeats 4000000 in
theorem cuts_tr (p : Value) (v : Value) (hp : p.oneCell' = true) (hv : v.oneCell' = true) : Tr Tryz.prog 103 #[p, v] [] [] (TX (fun _ : Nat × Nat => True) (fun z => .func (.func 120) #[] #[.pointer (some ⟨z.1, 0, none⟩), .pointer (some ⟨z.2, 0, none⟩)]) (fun z => [blk z.1 31 [v], blk z.2 186 [p]])) := by
 refine Tr.of (l := [(0, p), (1, v)]) Tryz.func103 rfl (n := 6) rfl (.cons rfl (.cons rfl .nil)) (fun w0 hro => ?_)
 refine go [9,10] ?_
 refine G.op rfl (G.box rfl rfl (cs := [p]) (cells_of hp) ?_)
 intro b2
 refine G.op rfl (G.box rfl rfl (cs := [v]) (cells_of hv) ?_)
 intro b3
 refine go [1,7,8,9,10,2,26,1,7,8,11] ?_
 exact G.doneX1 ((b3, b2)) trT rfl rfl rfl subT
set_option maxHeartbeats 4000000 in
theorem cut_seq {Pv : Nat → Prop} (v : Value) (b : List UInt8) (hb : b.length ≤ 4000000) (bb be E : Nat) : SeqR Tryz.prog 120 #[.pointer (some ⟨bb, 0, none⟩), .pointer (some ⟨be, 0, none⟩)] [slc rByte Pv v b] [blk bb 31 [v], blk be 186 [.pointer (some ⟨E, 0, none⟩)], blk E 181 edge0] (cutL b).length (fun k => [.int .i64 ((cutL b).getD k 0 : Int)]) := by
 intro rr lp X J C x0 h0 hY
 show Tr _ _ #[.func (.yield lp) #[] #[], .pointer (some ⟨bb, 0, none⟩), .pointer (some ⟨be, 0, none⟩)] _ _ _
 refine Tr.ofI (l := [(0, .func (.yield lp) #[] #[]), (1, .pointer (some ⟨bb, 0, none⟩)), (2, .pointer (some ⟨be, 0, none⟩))]) Tryz.func120 rfl (n := 26) rfl (.cons rfl (.cons rfl (.cons rfl .nil))) (fun w0 hro => ?_)
 have hv := hro _ (List.mem_append_right _ (List.mem_cons_self ..))
 have hrr : ∀ c ∈ rr, Ro w0 _ c := fun c hc => hro c (List.mem_append_left _ hc)
 obtain ⟨ad, cap, bs, off, rfl, hcap, hmax, hnil, had, hel⟩ := Ro.open hv
 refine go [32,33,2,4,2,5,0,34,31,38] ?_
 refine I.loopK (X := Nat × (List UInt8) × Nat × Int × X) (ts := [0, 2, 6, 7]) (fun st => st.1 ≤ b.length ∧ (RollAt st.2.1 st.2.2.1 st.2.2.2.1 (curB b st.1) ∧ J true (cutTo b st.1).length st.2.2.2.2)) (fun st => [(8, .int .i64 (st.1 : Int))]) (fun st => [blk E 181 (rollC st.2.1 st.2.2.1 st.2.2.2.1 [.int .i64 ((curB b st.1).length : Int)]), C true (cutTo b st.1).length st.2.2.2.2]) (fun st => b.length - st.1) (x0 := (0, List.replicate 16 0, 0, 0, x0)) (.cons rfl (.cons rfl (.cons rfl (.cons rfl .nil)))) subT (.cons .nil) apT (by first | exact trivial | ((try dsimp only) <;> exact ⟨Nat.zero_le _, ⟨roll_zero, h0⟩⟩)) (.consE rfl veqT .nil) (fun st hJ => ?_)
 obtain ⟨i, ring, rn, s, x⟩ := st
 try dsimp only at hJ
 try dsimp only
 obtain ⟨hki, hJ⟩ := hJ
 obtain ⟨hR, hJx⟩ := hJ
 have hcl := cur_len b i
 refine go [32,33,2,9,34,31,32] ?_
 refine I.condP rfl (fun h9 => ?_) (fun h9 => ?_)
 ·have hlt : i < b.length := by omega
  have hE := hel i hlt
  refine go [39,31,32,38,32,33,0,2,20,1,2,4,1,1,34,31,32,32,33,2,4,0] ?_
  refine G.op rfl (G.cS rfl rfl rfl rfl Tryz.func121 rfl rfl subT may0 (ends_tr E ring rn s (curB b i) b[i] hR (by omega)) apT ?_)
  intro x15 hJ
  obtain ⟨ring', rn', s'⟩ := x15
  try dsimp only at hJ
  try dsimp only
  have hR' := hJ
  refine go [2,15,34,31] ?_
  refine I.condP rfl (fun h16 => ?_) (fun h16 => ?_)
  ·obtain ⟨hc1, hc2⟩ := cut_no hlt h16
   refine go [42,41,43,31,33,2,6,0,34] ?_
   rw [show (curB b i ++ [b[i]]) = curB b (i + 1) from hc2.symm, show C true (cutTo b i).length x = C true (cutTo b (i + 1)).length x from by rw [hc1]]
   exact I.next ((i + 1, ring', rn', s', x)) (by first | exact trivial | ((try dsimp only) <;> exact ⟨by omega, (by rw [hc1, hc2]; exact ⟨hR', hJx⟩)⟩)) (by (try dsimp only); omega) (.consE rfl veqT (.cons rfl (.cons rfl (.cons rfl (.cons rfl .nil))))) subT
  obtain ⟨hc1, hc2⟩ := cut_yes hlt (Decidable.of_not_not h16)
  obtain ⟨hk, hgd⟩ := cut_at' hlt hc1
  refine go [39,31,32] ?_
  refine I.drawT (nn := 4) (p := [blk E _ _]) (rem := 15) [0, 0, 3, 7] [0, 0, 1, 6] kr noT kr ⟨rfl, by kernel_rfl, by kernel_rfl⟩ subT kr (fun hT4 => ?_)
  refine go [22,0,14,4,24,1,12] ?_
  refine G.turnOp rfl rfl (G.cR rfl rfl rfl rfl Tryz.func102 rfl rfl may0 (fresh_tr) ?_)
  refine go [26,22,2,8,8,24,3,0] ?_
  refine G.turnOp rfl rfl (G.storeN (vs := edge0) kr rfl rfl (by rfl) selT (by rw [roll_len hR'.len]; exact Nat.le_of_ble_eq_true rfl) ?_)
  rw [putN_whole _ _ (by rw [roll_len hR'.len]; rfl)]
  refine go [26] ?_
  refine I.over hT4 kr ?_
  refine go [31,32] ?_
  refine IL.region ?_
  refine go [60,11,60,11] ?_
  refine IL.op rfl (IL.lift kr (G.val rfl rfl ((pv_add64 rfl rfl (by omega)).int (b := (((cutL b).getD (cutTo b i).length 0 : Nat) : Int)) (by rw [hgd]; omega)) ?_))
  refine IL.op rfl (IL.yieldR rfl rfl rfl rfl rfl subT (fun c hc => .old (hrr c hc)) (hY (cutTo b i).length x hk hJx) apT ?_)
  intro x23 hJ
  obtain ⟨v, y⟩ := x23
  try dsimp only at hJ
  try dsimp only
  have hJ2 := hJ
  refine go [60,18] ?_
  refine IL.nil ?_
  refine I.nThen ?_
  refine I.cond rfl (fun h24 => ?_) (fun h24 => ?_)
  ·obtain rfl : v = false := by cases v <;> simp_all
   refine go [37,36,35,35,36] ?_
   exact I.doneIr ((false, (cutTo b i).length + 1, y)) (by first | exact trivial | ((try dsimp only) <;> exact ⟨hJ2, by omega, fun h => by cases h⟩)) rfl rfl subT
  obtain rfl : v = true := by cases v <;> simp_all
  refine go [39,40,31,33,2,6,0,34] ?_
  rw [show edge0 = rollC (List.replicate 16 0) 0 0 [.int .i64 ((curB b (i + 1)).length : Int)] from by rw [hc2]; rfl, show C true ((cutTo b i).length + 1) y = C true (cutTo b (i + 1)).length y from by rw [hc1, List.length_append]; rfl]
  exact I.next ((i + 1, List.replicate 16 0, 0, 0, y)) (by first | exact trivial | ((try dsimp only) <;> exact ⟨by omega, (by rw [hc1, hc2, List.length_append, List.length_singleton]; exact ⟨roll_zero, hJ2⟩)⟩)) (by (try dsimp only); omega) (.consE rfl veqT (.cons rfl (.cons rfl (.cons rfl (.cons rfl .nil))))) subT
 obtain rfl : i = b.length := by omega
 refine go [42,41,41,43] ?_
 exact I.doneI ((true, (cutTo b b.length).length, x)) (by first | exact trivial | ((try dsimp only) <;> exact ⟨hJx, Nat.le_refl _, fun _ => rfl⟩)) rfl rfl subT
abbrev LT := List (List UInt8 × Value)
def datB (e : TypeId) (l : LT) : Ck := star (l.map fun x => ownB e x.2 x.1)
section
variable {P : Program} {n : Nat} {w0 : World} {S : Nat → Prop} {l : Fr} {m : List Ck} {K : Act → World → Prop}
theorem G.datBNil (e : TypeId) (h : G n w0 S l (datB e [] :: m) K) : G n w0 S l m K := G.mem (fun w hw => Hp.star (m := []) hw) h
theorem G.datBSnoc {e : TypeId} {ys : LT} {x : List UInt8} {u : Value} {r r' : List Ck} (h1 : Sel m (datB e ys) r) (h2 : Sel r (ownB e u x) r') (h : G n w0 S l (datB e (ys ++ [(x, u)]) :: r') K) : G n w0 S l m K := G.mem (fun w hw => by
 have h3 := Hp.unstar (hw.sel h1)
 have p : (ys.map (fun x : List UInt8 × Value => ownB e x.2 x.1) ++ r).Perm (((ys ++ [(x, u)]).map fun x : List UInt8 × Value => ownB e x.2 x.1) ++ r') := by
  rw [List.map_append, List.append_assoc]
  exact List.Perm.append_left _ h2.perm
 exact Hp.star (h3.perm p)) h
theorem G.datBCons {e : TypeId} {x : List UInt8} {u : Value} {xs : LT} {r : List Ck} (h1 : Sel m (datB e ((x, u) :: xs)) r) (h : G n w0 S l (ownB e u x :: datB e xs :: r) K) : G n w0 S l m K := G.mem (fun w hw => by
 have h2 : Hp w0 S w ((ownB e u x :: xs.map fun x => ownB e x.2 x.1) ++ r) := Hp.unstar (hw.sel h1)
 have h3 : Hp w0 S w ((xs.map fun x => ownB e x.2 x.1) ++ (ownB e u x :: r)) := h2.perm (by
  rw [List.cons_append]
  exact List.perm_middle.symm)
 exact (Hp.star h3).perm (List.Perm.swap ..)) h
theorem datB_sl {w : World} {e : TypeId} {xs : LT} (h : (datB e xs).φ w) : ∀ x ∈ xs, IsSl rByte (datB e xs).S w x.2 x.1 := fun x hx => by
 have h1 : (ownB e x.2 x.1).φ w := h.1 _ (List.mem_map.2 ⟨x, hx, rfl⟩)
 exact (own_isSl' (p := fun _ => True) (OwnB.own h1) rfl (fun _ _ => trivial)).mono fun k hk => ⟨_, List.mem_map.2 ⟨x, hx, rfl⟩, hk⟩
theorem may_datB {e : TypeId} {xs : LT} {r : List Ck} (h : Sel m (datB e xs) r) {x : List UInt8} {u : Value} (hx : (x, u) ∈ xs) : May w0 S m (slc rByte (datB e xs).S u x) :=
 .view h.mem (fun w hw => datB_sl hw _ hx) fun b hb => hb
end
def atC (b : List UInt8) (k : Nat) : Nat := (0 :: cutL b).getD k 0
def pieceC (b : List UInt8) (k : Nat) : List UInt8 := (b.take (atC b (k + 1))).drop (atC b k)
def piecesC (b : List UInt8) (k : Nat) : List (List UInt8) := (List.range k).map (pieceC b)
def chunksC (b : List UInt8) : List (List UInt8) := piecesC b (cutL b).length ++ (if atC b (cutL b).length < b.length then [b.drop (atC b (cutL b).length)] else [])
theorem piecesC_succ (b : List UInt8) (k : Nat) : piecesC b (k + 1) = piecesC b k ++ [pieceC b k] := by
 unfold piecesC
 rw [List.range_succ, List.map_append]
 rfl
theorem atC_succ (b : List UInt8) (k : Nat) : atC b (k + 1) = (cutL b).getD k 0 := by
 unfold atC
 rw [List.getD_cons_succ]
theorem cutTo_mono (b : List UInt8) : ∀ i, (cutTo b i).Pairwise (· < ·)
 | 0 => .nil
 | i + 1 => by
  unfold cutTo
  split
  ·refine List.pairwise_append.2 ⟨cutTo_mono b i, by simp, fun x hx y hy => ?_⟩
   obtain rfl : y = i + 1 := by simpa using hy
   exact Nat.lt_succ_of_le (cut_le b i x hx)
  exact cutTo_mono b i
theorem atC_le (b : List UInt8) (k : Nat) : atC b k ≤ b.length := by
 cases k with
 | zero => exact Nat.zero_le _
 | succ k =>
  rw [atC_succ]
  rcases Nat.lt_or_ge k (cutL b).length with h | h
  ·rw [List.getD_eq_getElem?_getD, List.getElem?_eq_getElem h]
   exact cut_le b _ _ (List.getElem_mem h)
  rw [List.getD_eq_getElem?_getD, List.getElem?_eq_none h]
  exact Nat.zero_le _
theorem atC_mono {b : List UInt8} {k : Nat} (h : k < (cutL b).length) : atC b k ≤ atC b (k + 1) := by
 cases k with
 | zero => exact Nat.zero_le _
 | succ k =>
  rw [atC_succ, atC_succ, List.getD_eq_getElem?_getD, List.getD_eq_getElem?_getD, List.getElem?_eq_getElem h, List.getElem?_eq_getElem (show k < (cutL b).length by omega)]
  exact Nat.le_of_lt ((List.pairwise_iff_getElem.1 (cutTo_mono b _)) k (k + 1) (by show k < (cutL b).length; omega) h (by omega))
theorem cutL_len (b : List UInt8) : ∀ i, (cutTo b i).length ≤ i
 | 0 => Nat.le_refl _
 | i + 1 => by
  unfold cutTo
  have := cutL_len b i
  split
  ·rw [List.length_append, List.length_singleton]; omega
  omega
theorem Tryz.infoSlB : (Tryz.prog.info? 31).map (fun i => (i.zero.map (·.cells.size), i.size, i.bytes)) = some (some 1, 1, 24) := by kernel_rfl
set_option maxHeartbeats 4000000 in
theorem csplit_tr {Pv : Nat → Prop} (v : Value) (bs : List UInt8) (hb : bs.length ≤ 4000000) : Tr Tryz.prog 78 #[v] [slc rByte Pv v bs] []
 (TX (fun z : Value × LT => z.2.map (·.1) = chunksC bs) (fun z => z.1) (fun z => [own 31 1 z.1 z.2.length (z.2.map (·.2)), datB 5 z.2])) := by
 refine Tr.ofM (l := [(0, v)]) Tryz.func78 rfl (n := 32) rfl (.cons rfl .nil) (fun w0 hro => ?_)
 have hv0 := ro1 hro
 obtain ⟨ad, cap, b0, off, rfl, hcap, hmax, hnil, had, hel⟩ := Ro.open hv0
 have hv1 : (Value.slice ad bs.length cap).oneCell' = true := rfl
 have hcl : (cutL bs).length ≤ bs.length := cutL_len bs bs.length
 refine go [32,33,60,2] ?_
 intro b1
 refine go [1,34,31,32,33,60,17] ?_
 intro b3
 refine go [34,31,32,33] ?_
 refine G.op rfl (G.cR rfl rfl rfl rfl Tryz.func102 rfl rfl may0 (fresh_tr) ?_)
 refine G.op rfl (G.alloc (z := .agg #[.int .u8 0, .int .u8 0, .int .u8 0, .int .u8 0, .int .u8 0, .int .u8 0, .int .u8 0, .int .u8 0, .int .u8 0, .int .u8 0, .int .u8 0, .int .u8 0, .int .u8 0, .int .u8 0, .int .u8 0, .int .u8 0, .int .i64 0, .int .u32 0, .bool false, .int .i64 0]) (cs := [.int .u8 0, .int .u8 0, .int .u8 0, .int .u8 0, .int .u8 0, .int .u8 0, .int .u8 0, .int .u8 0, .int .u8 0, .int .u8 0, .int .u8 0, .int .u8 0, .int .u8 0, .int .u8 0, .int .u8 0, .int .u8 0, .int .i64 0, .int .u32 0, .bool false, .int .i64 0]) rfl kr rfl ?_)
 intro b4
 refine go [60,13] ?_
 intro b5
 refine G.op rfl (G.storeN (vs := edge0) kr rfl rfl (by rfl) selT (by simp [edge0, rollC]) ?_)
 rw [putN_whole _ _ (by rfl)]
 refine go [21,34,31,32,32,33,2,4] ?_
 refine G.op rfl (G.cS rfl rfl rfl rfl Tryz.func103 rfl rfl subT may0 (cuts_tr _ _ rfl hv1) apT ?_)
 intro x9 hJ
 obtain ⟨bb, be⟩ := x9
 try dsimp only at hJ
 try dsimp only
 refine go [34,31,38] ?_
 refine G.datBNil 5 ?_
 refine G.ownNil 31 1 ?_
 refine I.rangeK1 (X := Value × LT) (rr := [slc rByte Pv (.slice ad bs.length cap) bs]) (encs := fun i => .int .i64 ((cutL bs).getD i 0 : Int)) (ts := [1, 3, 5]) (fun b i st => b = true ∧ st.2.map (·.1) = piecesC bs i) (fun b i st => [blk b3 152 [st.1], own 31 1 st.1 st.2.length (st.2.map (·.2)), datB 5 st.2, blk b5 3 [.int .i64 (atC bs i : Int)], blk b1 31 [.slice ad bs.length cap]]) (fun st => .ret) (fun i => [(6, .int .i64 ((cutL bs).getD i 0 : Int))]) (x0 := (.slice none 0 0, [])) rfl Tryz.func120 rfl rfl (cut_seq (Pv := Pv) (.slice ad bs.length cap) bs hb bb be b4) (by show Sub _ [blk b3 152 [.slice none 0 0], own 31 1 (.slice none 0 0) 0 [], datB 5 [], blk b5 3 [.int .i64 0], blk b1 31 [.slice ad bs.length cap], blk bb 31 [.slice ad bs.length cap], blk be 186 [.pointer (some ⟨b4, 0, none⟩)], blk b4 181 edge0] _; repeat (first | exact Sub.nil | (apply Sub.cons; (repeat (first | with_reducible exact Sel.here | exact Sel.here | apply Sel.there))))) (may2 (.old hv0) (.old hv0)) (by first | exact trivial | (exact ⟨rfl, rfl⟩)) rfl (.cons rfl (.cons rfl (.cons rfl .nil))) (.cons .nil) ?_ ?_ ?_ ?_
 ·intro w1 S1 lp m1 i hi
  try dsimp only at hJ
  try dsimp only
  refine go [33,1,34] ?_
  exact I.asg (.consE rfl veqT (.cons rfl (.cons rfl (.cons rfl .nil))))
 ·intro w1 S1 lp c i st hi hJ hrr
  obtain ⟨ov, l⟩ := st
  try dsimp only at hJ
  try dsimp only
  obtain ⟨hct, hl⟩ := hJ
  have hlen : l.length = i := by have := congrArg List.length hl; simpa [piecesC] using this
  have hlm : (l.map (fun z : List UInt8 × Value => z.2)).length = l.length := List.length_map _
  have hvb := hrr _ (List.mem_cons_self ..)
  have hle1 := atC_mono hi
  have hle2 := atC_le bs (i + 1)
  rw [atC_succ] at hle1 hle2
  refine G.ownFact (v := ov) selT (fun hov _ => ?_)
  have hsub := Ro.sub hvb hle1 hle2
  rw [← atC_succ] at hsub
  have hpl : (pieceC bs i).length ≤ bs.length := by unfold pieceC; rw [List.length_drop, List.length_take]; omega
  refine I.block ?_
  refine I.drawT (nn := 11) (p := [blk b3 _ _, blk b5 _ _, own 31 1 ov _ _]) (rem := 2047) [0, 0, 0, 0, 14, 16, 32, 97, 0, 255, 1023] [0, 0, 0, 0, 14, 16, 32, 65, 0, 128, 256] kr noT kr ⟨rfl, by kernel_rfl, by kernel_rfl⟩ subT kr (fun hT5 => ?_)
  refine go [22,3,2039,0,22,8,1783,0,22,1,1781,4] ?_
  refine G.twoT hT5 (i := 0) (j := 2) (rem' := 1780) (rem'' := 1777) kr kr kr ?_ ?_
  ·refine go [25,4,26,24,2,1776,25,4,26] ?_
   refine G.takeT hT5 (i := 4) (rem' := 1760) rfl rfl rfl kr (fun _ _ _ h => h) rfl (pv_subLH (sz := 1) (k := atC bs i) (k' := (cutL bs).getD i 0) Tryz.underlying31 kr rfl rfl rfl rfl rfl hle1 (Nat.le_trans hle2 hcap)) subT ?_
   refine go [24,5,1728] ?_
   refine G.ownBNil 5 ?_
   refine G.turnOp rfl rfl (G.appendB (xs := []) (ys := pieceC bs i) (Ps := Pv) rfl Tryz.underlying31 Tryz.infoByte rfl rfl selT (ro_sl hsub) (by simp; omega) (by simp; omega) ?_)
   intro v16
   rw [List.nil_append (pieceC bs i)]
   refine go [26,24,6,1664] ?_
   refine G.ownBFact (v := v16) selT (fun hv16 => ?_)
   refine G.turnOp rfl rfl (G.lit1 (vs := [v16]) rfl Tryz.underlying152 kr rfl (by decide) (by decide) rfl (all1_cons hv16 all1_nil) ?_)
   intro b17
   refine go [26,24,7,1536] ?_
   refine G.turnOp rfl rfl (G.append (k := l.length) (j := 1) (cs := l.map (·.2)) (news := [v16]) (b := b17) (off := 0) rfl Tryz.underlying152 Tryz.infoSlB rfl rfl rfl selT (fun _ => rfl) (fun h => by cases h) rfl (blk_news (k := 1) selT rfl) Y38 (by omega) (by omega) ?_)
   intro v18
   refine G.ownFact (v := v18) selT (fun hv18 _ => ?_)
   refine go [26,24,9,1024,30,26,24,10,0,30] ?_
   rw [← atC_succ]
   refine go [26] ?_
   refine I.over hT5 kr ?_
   refine go [40] ?_
   refine G.datBSnoc (ys := l) (x := pieceC bs i) (u := v16) selT selT ?_
   rw [show l.map (fun z : List UInt8 × Value => z.2) ++ [v16] = (l ++ [(pieceC bs i, v16)]).map (·.2) from by rw [List.map_append]; rfl, show l.length + 1 = (l ++ [(pieceC bs i, v16)]).length from by rw [List.length_append]; rfl]
   exact I.rN ((v18, l ++ [(pieceC bs i, v16)])) Y31 subT
  refine go [25,4,26] ?_
  refine G.takeT hT5 (i := 4) (rem' := 1761) rfl rfl rfl kr (fun _ _ _ h => h) rfl (pv_subLH (sz := 1) (k := atC bs i) (k' := (cutL bs).getD i 0) Tryz.underlying31 kr rfl rfl rfl rfl rfl hle1 (Nat.le_trans hle2 hcap)) subT ?_
  refine G.twoT hT5 (i := 0) (j := 5) (rem' := 1760) (rem'' := 1729) kr kr kr ?_ ?_
  ·refine go [25,4,26,24,5,1728] ?_
   refine G.ownBNil 5 ?_
   refine G.turnOp rfl rfl (G.appendB (xs := []) (ys := pieceC bs i) (Ps := Pv) rfl Tryz.underlying31 Tryz.infoByte rfl rfl selT (ro_sl hsub) (by simp; omega) (by simp; omega) ?_)
   intro v16
   rw [List.nil_append (pieceC bs i)]
   refine go [26,24,6,1664] ?_
   refine G.ownBFact (v := v16) selT (fun hv16 => ?_)
   refine G.turnOp rfl rfl (G.lit1 (vs := [v16]) rfl Tryz.underlying152 kr rfl (by decide) (by decide) rfl (all1_cons hv16 all1_nil) ?_)
   intro b17
   refine go [26,24,7,1536] ?_
   refine G.turnOp rfl rfl (G.append (k := l.length) (j := 1) (cs := l.map (·.2)) (news := [v16]) (b := b17) (off := 0) rfl Tryz.underlying152 Tryz.infoSlB rfl rfl rfl selT (fun _ => rfl) (fun h => by cases h) rfl (blk_news (k := 1) selT rfl) Y38 (by omega) (by omega) ?_)
   intro v18
   refine G.ownFact (v := v18) selT (fun hv18 _ => ?_)
   refine go [26,24,9,1024,30,26,24,10,0,30] ?_
   rw [← atC_succ]
   refine go [26] ?_
   refine I.over hT5 kr ?_
   refine go [40] ?_
   refine G.datBSnoc (ys := l) (x := pieceC bs i) (u := v16) selT selT ?_
   rw [show l.map (fun z : List UInt8 × Value => z.2) ++ [v16] = (l ++ [(pieceC bs i, v16)]).map (·.2) from by rw [List.map_append]; rfl, show l.length + 1 = (l ++ [(pieceC bs i, v16)]).length from by rw [List.length_append]; rfl]
   exact I.rN ((v18, l ++ [(pieceC bs i, v16)])) Y31 subT
  refine G.ownBNil 5 ?_
  refine G.turnOp rfl rfl (G.appendB (xs := []) (ys := pieceC bs i) (Ps := Pv) rfl Tryz.underlying31 Tryz.infoByte rfl rfl selT (ro_sl hsub) (by simp; omega) (by simp; omega) ?_)
  intro v16
  rw [List.nil_append (pieceC bs i)]
  refine go [26] ?_
  refine G.twoT hT5 (i := 0) (j := 6) (rem' := 1728) (rem'' := 1665) kr kr kr ?_ ?_
  ·refine go [25,4,26,24,6,1664] ?_
   refine G.ownBFact (v := v16) selT (fun hv16 => ?_)
   refine G.turnOp rfl rfl (G.lit1 (vs := [v16]) rfl Tryz.underlying152 kr rfl (by decide) (by decide) rfl (all1_cons hv16 all1_nil) ?_)
   intro b17
   refine go [26,24,7,1536] ?_
   refine G.turnOp rfl rfl (G.append (k := l.length) (j := 1) (cs := l.map (·.2)) (news := [v16]) (b := b17) (off := 0) rfl Tryz.underlying152 Tryz.infoSlB rfl rfl rfl selT (fun _ => rfl) (fun h => by cases h) rfl (blk_news (k := 1) selT rfl) Y38 (by omega) (by omega) ?_)
   intro v18
   refine G.ownFact (v := v18) selT (fun hv18 _ => ?_)
   refine go [26,24,9,1024,30,26,24,10,0,30] ?_
   rw [← atC_succ]
   refine go [26] ?_
   refine I.over hT5 kr ?_
   refine go [40] ?_
   refine G.datBSnoc (ys := l) (x := pieceC bs i) (u := v16) selT selT ?_
   rw [show l.map (fun z : List UInt8 × Value => z.2) ++ [v16] = (l ++ [(pieceC bs i, v16)]).map (·.2) from by rw [List.map_append]; rfl, show l.length + 1 = (l ++ [(pieceC bs i, v16)]).length from by rw [List.length_append]; rfl]
   exact I.rN ((v18, l ++ [(pieceC bs i, v16)])) Y31 subT
  refine G.ownBFact (v := v16) selT (fun hv16 => ?_)
  refine G.turnOp rfl rfl (G.lit1 (vs := [v16]) rfl Tryz.underlying152 kr rfl (by decide) (by decide) rfl (all1_cons hv16 all1_nil) ?_)
  intro b17
  refine go [26,24,0,1664,25,4,26,24,7,1536] ?_
  refine G.turnOp rfl rfl (G.append (k := l.length) (j := 1) (cs := l.map (·.2)) (news := [v16]) (b := b17) (off := 0) rfl Tryz.underlying152 Tryz.infoSlB rfl rfl rfl selT (fun _ => rfl) (fun h => by cases h) rfl (blk_news (k := 1) selT rfl) Y38 (by omega) (by omega) ?_)
  intro v18
  refine G.ownFact (v := v18) selT (fun hv18 _ => ?_)
  refine go [26,24,9,1024,30,26,24,10,0,30] ?_
  rw [← atC_succ]
  refine go [26] ?_
  refine I.over hT5 kr ?_
  refine go [40] ?_
  refine G.datBSnoc (ys := l) (x := pieceC bs i) (u := v16) selT selT ?_
  rw [show l.map (fun z : List UInt8 × Value => z.2) ++ [v16] = (l ++ [(pieceC bs i, v16)]).map (·.2) from by rw [List.map_append]; rfl, show l.length + 1 = (l ++ [(pieceC bs i, v16)]).length from by rw [List.length_append]; rfl]
  exact I.rN ((v18, l ++ [(pieceC bs i, v16)])) Y31 subT
 ·intro D st hJ
  obtain ⟨ov, l⟩ := st
  try dsimp only at hJ
  try dsimp only
  obtain ⟨hct, hl⟩ := hJ
  have hlen : l.length = (cutL bs).length := by have := congrArg List.length hl; simpa [piecesC] using this
  have hlm : (l.map (fun z : List UInt8 × Value => z.2)).length = l.length := List.length_map _
  refine go [40,31,32,32,33,2,4,2,4,2,5,2,9,34,31] ?_
  refine I.condP rfl (fun h23 => ?_) (fun h23 => ?_)
  ·have hsub2 := Ro.sub hv0 (show atC bs (cutL bs).length ≤ bs.length by omega) (Nat.le_refl _)
   rw [List.take_length] at hsub2
   refine G.ownFact (v := ov) selT (fun hov _ => ?_)
   refine I.drawN (nn := 8) (p := [blk b3 _ _, own 31 1 ov _ _]) (rem := 255) [0, 0, 0, 6, 8, 16, 49, 127] [0, 0, 0, 6, 8, 16, 33, 64] kr kr ⟨rfl, by kernel_rfl, by kernel_rfl⟩ subT kr (fun hT7 => ?_)
   refine go [22,1,253,4,22,2,249,4] ?_
   refine G.takeT hT7 (i := 3) (rem' := 241) rfl rfl rfl kr (fun _ _ _ h => h) rfl (pv_subL (sz := 1) (k := atC bs (cutL bs).length) Tryz.underlying31 kr rfl rfl rfl (by omega)) subT ?_
   refine G.twoT hT7 (i := 0) (j := 4) (rem' := 240) (rem'' := 225) kr kr kr ?_ ?_
   ·refine go [25,4,26,24,4,224] ?_
    refine G.ownBNil 5 ?_
    refine G.turnOp rfl rfl (G.appendB (xs := []) (ys := bs.drop (atC bs (cutL bs).length)) (Ps := Pv) rfl Tryz.underlying31 Tryz.infoByte rfl rfl selT (ro_sl hsub2) (by simp; omega) (by simp; omega) ?_)
    intro v28
    rw [List.nil_append (bs.drop (atC bs (cutL bs).length))]
    refine go [26,24,5,192] ?_
    refine G.ownBFact (v := v28) selT (fun hv28 => ?_)
    refine G.turnOp rfl rfl (G.lit1 (vs := [v28]) rfl Tryz.underlying152 kr rfl (by decide) (by decide) rfl (all1_cons hv28 all1_nil) ?_)
    intro b29
    refine go [26,24,6,128] ?_
    refine G.turnOp rfl rfl (G.append (k := l.length) (j := 1) (cs := l.map (·.2)) (news := [v28]) (b := b29) (off := 0) rfl Tryz.underlying152 Tryz.infoSlB rfl rfl rfl selT (fun _ => rfl) (fun h => by cases h) rfl (blk_news (k := 1) selT rfl) (by intro u hu; obtain rfl : u = v28 := (by simpa using hu); exact hv28) (by omega) (by omega) ?_)
    intro v30
    refine G.ownFact (v := v30) selT (fun hv30 _ => ?_)
    refine go [26,24,7,0,30,26] ?_
    refine I.overN hT7 kr ?_
    refine go [31,32,33,2,4,1,34,31,37] ?_
    refine G.datBSnoc (ys := l) (x := bs.drop (atC bs (cutL bs).length)) (u := v28) selT selT ?_
    rw [show l.map (fun z : List UInt8 × Value => z.2) ++ [v28] = (l ++ [(bs.drop (atC bs (cutL bs).length), v28)]).map (·.2) from by rw [List.map_append]; rfl, show l.length + 1 = (l ++ [(bs.drop (atC bs (cutL bs).length), v28)]).length from by rw [List.length_append]; rfl]
    exact I.doneM ((v30, l ++ [(bs.drop (atC bs (cutL bs).length), v28)])) Y36 rfl Y17 (Rv.tmp rfl Rv.nil) rfl subT
   refine G.ownBNil 5 ?_
   refine G.turnOp rfl rfl (G.appendB (xs := []) (ys := bs.drop (atC bs (cutL bs).length)) (Ps := Pv) rfl Tryz.underlying31 Tryz.infoByte rfl rfl selT (ro_sl hsub2) (by simp; omega) (by simp; omega) ?_)
   intro v28
   rw [List.nil_append (bs.drop (atC bs (cutL bs).length))]
   refine go [26] ?_
   refine G.twoT hT7 (i := 0) (j := 5) (rem' := 224) (rem'' := 193) kr kr kr ?_ ?_
   ·refine go [25,4,26,24,5,192] ?_
    refine G.ownBFact (v := v28) selT (fun hv28 => ?_)
    refine G.turnOp rfl rfl (G.lit1 (vs := [v28]) rfl Tryz.underlying152 kr rfl (by decide) (by decide) rfl (all1_cons hv28 all1_nil) ?_)
    intro b29
    refine go [26,24,6,128] ?_
    refine G.turnOp rfl rfl (G.append (k := l.length) (j := 1) (cs := l.map (·.2)) (news := [v28]) (b := b29) (off := 0) rfl Tryz.underlying152 Tryz.infoSlB rfl rfl rfl selT (fun _ => rfl) (fun h => by cases h) rfl (blk_news (k := 1) selT rfl) (by intro u hu; obtain rfl : u = v28 := (by simpa using hu); exact hv28) (by omega) (by omega) ?_)
    intro v30
    refine G.ownFact (v := v30) selT (fun hv30 _ => ?_)
    refine go [26,24,7,0,30,26] ?_
    refine I.overN hT7 kr ?_
    refine go [31,32,33,2,4,1,34,31,37] ?_
    refine G.datBSnoc (ys := l) (x := bs.drop (atC bs (cutL bs).length)) (u := v28) selT selT ?_
    rw [show l.map (fun z : List UInt8 × Value => z.2) ++ [v28] = (l ++ [(bs.drop (atC bs (cutL bs).length), v28)]).map (·.2) from by rw [List.map_append]; rfl, show l.length + 1 = (l ++ [(bs.drop (atC bs (cutL bs).length), v28)]).length from by rw [List.length_append]; rfl]
    exact I.doneM ((v30, l ++ [(bs.drop (atC bs (cutL bs).length), v28)])) Y36 rfl Y17 (Rv.tmp rfl Rv.nil) rfl subT
   refine G.ownBFact (v := v28) selT (fun hv28 => ?_)
   refine G.turnOp rfl rfl (G.lit1 (vs := [v28]) rfl Tryz.underlying152 kr rfl (by decide) (by decide) rfl (all1_cons hv28 all1_nil) ?_)
   intro b29
   refine go [26,24,0,192,25,4,26,24,6,128] ?_
   refine G.turnOp rfl rfl (G.append (k := l.length) (j := 1) (cs := l.map (·.2)) (news := [v28]) (b := b29) (off := 0) rfl Tryz.underlying152 Tryz.infoSlB rfl rfl rfl selT (fun _ => rfl) (fun h => by cases h) rfl (blk_news (k := 1) selT rfl) (by intro u hu; obtain rfl : u = v28 := (by simpa using hu); exact hv28) (by omega) (by omega) ?_)
   intro v30
   refine G.ownFact (v := v30) selT (fun hv30 _ => ?_)
   refine go [26,24,7,0,30,26] ?_
   refine I.overN hT7 kr ?_
   refine go [31,32,33,2,4,1,34,31,37] ?_
   refine G.datBSnoc (ys := l) (x := bs.drop (atC bs (cutL bs).length)) (u := v28) selT selT ?_
   rw [show l.map (fun z : List UInt8 × Value => z.2) ++ [v28] = (l ++ [(bs.drop (atC bs (cutL bs).length), v28)]).map (·.2) from by rw [List.map_append]; rfl, show l.length + 1 = (l ++ [(bs.drop (atC bs (cutL bs).length), v28)]).length from by rw [List.length_append]; rfl]
   exact I.doneM ((v30, l ++ [(bs.drop (atC bs (cutL bs).length), v28)])) Y36 rfl Y17 (Rv.tmp rfl Rv.nil) rfl subT
  refine G.ownFact (v := ov) selT (fun hov _ => ?_)
  refine go [39,31,32,33,2,4,1,34,31,37] ?_
  exact I.doneM ((ov, l)) (by first | exact trivial | ((try dsimp only) <;> exact (by unfold chunksC; rw [if_neg (by omega), List.append_nil, hl]))) rfl Y17 (Rv.tmp rfl Rv.nil) rfl subT
 intro D i st hle hJ
 obtain ⟨ov, l⟩ := st
 try dsimp only at hJ
 try dsimp only
 obtain ⟨h, _⟩ := hJ
 cases h
instance : DecidableEq En := fun a b => decidable_of_iff (a.path = b.path ∧ a.kind = b.kind ∧ a.mode = b.mode ∧ a.data = b.data ∧ a.to = b.to) (by
 cases a
 cases b
 simp)
theorem en_eq {a b : En} : a = b ↔ a.path = b.path ∧ a.kind = b.kind ∧ a.mode = b.mode ∧ a.data = b.data ∧ a.to = b.to := by
 cases a
 cases b
 simp
theorem Ro.one1 {w0 : World} {S Ps : Nat → Prop} {v : Value} {a : List UInt8} (h : Ro w0 S (slc rByte Ps v a)) : v.oneCell' = true := by
 obtain ⟨ad, cap, rfl⟩ := Ro.slv h
 rfl
def SortT (es : List En) : Prop := es.Pairwise fun a b => compareM a.path b.path = -1
def placeK (es : List En) (s : List UInt8) : Nat := es.findIdx fun e => ! decide (compareM e.path s < 0)
def isAt (es : List En) (s : List UInt8) : Prop := ∃ e ∈ es, e.path = s
instance (es : List En) (s : List UInt8) : Decidable (isAt es s) := inferInstanceAs (Decidable (∃ e ∈ es, e.path = s))
theorem cmp_lt_iff (a b : List UInt8) : compareM a b < 0 ↔ compareM a b = -1 := by
 have := compareM_ord.rng a b
 omega
theorem sort_mono {es : List En} (h : SortT es) {s : List UInt8} {q r : Nat} (hr : r < es.length) (hq : q ≤ r) (hc : compareM es[r].path s < 0) : compareM (es[q]'(by omega)).path s < 0 := by
 rcases Nat.lt_or_ge q r with h1 | h1
 ·have h2 := (List.pairwise_iff_getElem.1 h) q r (by omega) hr h1
  rw [cmp_lt_iff] at hc ⊢
  exact compareM_ord.trans _ _ _ h2 hc
 obtain rfl : q = r := by omega
 exact hc
theorem placeK_at {es : List En} {s : List UInt8} {k : Nat} (hk : k ≤ es.length) (h1 : ∀ q (hq : q < es.length), q < k → compareM es[q].path s < 0) (h2 : ∀ q (hq : q < es.length), k ≤ q → ¬ compareM es[q].path s < 0) : placeK es s = k := by
 unfold placeK
 rcases Nat.lt_or_ge k es.length with h | h
 ·refine (List.findIdx_eq h).2 ⟨by simpa using h2 k h (Nat.le_refl _), fun j hj => ?_⟩
  simpa using h1 j (by omega) hj
 obtain rfl : k = es.length := by omega
 exact List.findIdx_eq_length_of_false fun x hx => by
  obtain ⟨j, hj, rfl⟩ := List.getElem_of_mem hx
  simpa using h1 j hj hj
theorem isAt_iff {es : List En} (hs : SortT es) {s : List UInt8} {k : Nat} (h1 : ∀ q (hq : q < es.length), q < k → compareM es[q].path s < 0) (hk : k < es.length) (h2 : ¬ compareM es[k].path s < 0) : isAt es s ↔ compareM es[k].path s = 0 := by
 constructor
 ·rintro ⟨e, he, rfl⟩
  obtain ⟨j, hj, rfl⟩ := List.getElem_of_mem he
  have hjj : compareM es[j].path es[j].path = 0 := (compareM_ord.zero _ _).2 rfl
  rcases Nat.lt_or_ge j k with h | h
  ·have := h1 j hj h
   omega
  rcases Nat.lt_or_ge k j with h3 | h3
  ·have := (List.pairwise_iff_getElem.1 hs) k j hk hj h3
   omega
  obtain rfl : j = k := by omega
  exact hjj
 intro h
 exact ⟨es[k], List.getElem_mem hk, (compareM_ord.zero _ _).1 h⟩
theorem isAt_none {es : List En} {s : List UInt8} (h1 : ∀ q (hq : q < es.length), compareM es[q].path s < 0) : ¬ isAt es s := by
 rintro ⟨e, he, rfl⟩
 obtain ⟨j, hj, rfl⟩ := List.getElem_of_mem he
 have := h1 j hj
 have : compareM es[j].path es[j].path = 0 := (compareM_ord.zero _ _).2 rfl
 omega
theorem search_end {xs : List ET} {s : List UInt8} {i : Nat} (hso : SortT (ens xs)) (hlt : i < xs.length) (hlo : ∀ q (hq : q < xs.length), q < i → compareM xs[q].1.path s < 0) (hhi : ∀ q (hq : q < xs.length), i ≤ q → ¬ compareM xs[q].1.path s < 0) : placeK (ens xs) s = i ∧ (isAt (ens xs) s ↔ compareM xs[i].1.path s = 0) := by
 have hl := ens_length xs
 have g1 : ∀ q (hq : q < (ens xs).length), q < i → compareM (ens xs)[q].path s < 0 := fun q hq hqi => by
  rw [ens_get (by omega)]
  exact hlo q (by omega) hqi
 have g2 : ∀ q (hq : q < (ens xs).length), i ≤ q → ¬ compareM (ens xs)[q].path s < 0 := fun q hq hqi => by
  rw [ens_get (by omega)]
  exact hhi q (by omega) hqi
 have h := isAt_iff hso g1 (show i < (ens xs).length by omega) (g2 i (by omega) (Nat.le_refl _))
 rw [ens_get hlt] at h
 exact ⟨placeK_at (by omega) g1 g2, h⟩
theorem search_none {xs : List ET} {s : List UInt8} (hlo : ∀ q (hq : q < xs.length), q < xs.length → compareM xs[q].1.path s < 0) : placeK (ens xs) s = xs.length ∧ ¬ isAt (ens xs) s := by
 have hl := ens_length xs
 have g1 : ∀ q (hq : q < (ens xs).length), compareM (ens xs)[q].path s < 0 := fun q hq => by
  rw [ens_get (by omega)]
  exact hlo q (by omega) (by omega)
 exact ⟨placeK_at (by omega) (fun q hq _ => g1 q hq) (fun q hq h => by omega), isAt_none g1⟩
set_option maxHeartbeats 4000000 in
theorem place1_tr (e : En) (d : Value) (s : List UInt8) (hl : e.path.length ≤ 9223372036854775807) (hs : s.length ≤ 9223372036854775807) : Tr Tryz.prog 101 #[.agg #[.string (sB e.path), .int .i64 e.kind, .int .i64 e.mode, d, .string (sB e.to)], .string (sB s)] [] [] (T0 (.int .i64 (compareM e.path s))) := by
 refine Tr.of (l := [(0, .agg #[.string (sB e.path), .int .i64 e.kind, .int .i64 e.mode, d, .string (sB e.to)]), (1, .string (sB s))]) Tryz.func101 rfl (n := 9) rfl (.cons rfl (.cons rfl .nil)) (fun w0 hro => ?_)
 refine go [9,10,60,5] ?_
 intro b2
 refine go [1,7,8,9,10,2,3,0,2,4,0] ?_
 refine G.op rfl (G.cR rfl rfl rfl rfl Tryz.func75 rfl rfl may0 (compare_tr _ _ (by omega) (by omega)) ?_)
 refine go [1,7,8,11] ?_
 exact G.done0G rfl (Rv.tmp rfl Rv.nil) Y8
set_option maxHeartbeats 4000000 in
theorem search_tr {Ps : Nat → Prop} (v : Value) (xs : List ET) (s : List UInt8) (hs : s.length ≤ 9223372036854775807) (hn : xs.length ≤ 1000000) (hso : SortT (ens xs)) : Tr Tryz.prog 100 #[v, .string (sB s), .func (.func 101) #[] #[]] [slc rEV Ps v xs] [] (T0 (.tuple #[.int .i64 (placeK (ens xs) s : Int), .bool (decide (isAt (ens xs) s))])) := by
 refine Tr.of (l := [(0, v), (1, .string (sB s)), (2, .func (.func 101) #[] #[])]) Tryz.func100 rfl (n := 49) rfl (.cons rfl (.cons rfl (.cons rfl .nil))) (fun w0 hro => ?_)
 have hv := ro1 hro
 have hv' := hv
 obtain ⟨av, cv, bv, fv, rfl, hcapv, hmaxv, hnilv, hadv, helv⟩ := Ro.openT hv
 have hel' := ens_length xs
 refine go [9,10,1,1,7,8,9,10,0,2,5,1,7,8,9,10,0,1,1,7,8,9,15] ?_
 refine G.loopK (X := Nat × Nat) (ts := [0, 1, 2, 6, 7, 8]) (fun st => st.1 ≤ st.2 ∧ st.2 ≤ xs.length ∧ (∀ q (hq : q < xs.length), q < st.1 → compareM xs[q].1.path s < 0) ∧ (∀ q (hq : q < xs.length), st.2 ≤ q → ¬ compareM xs[q].1.path s < 0)) (fun st => [(9, .int .i64 (st.1 : Int)), (10, .int .i64 (st.2 : Int))]) (fun st => []) (fun st => st.2 - st.1) (x0 := (0, xs.length)) (.cons rfl (.cons rfl (.cons rfl (.cons rfl (.cons rfl (.cons rfl .nil)))))) subT (.cons (.cons .nil)) apT (by first | exact trivial | ((try dsimp only) <;> exact ⟨Nat.zero_le _, Nat.le_refl _, fun q _ h => absurd h (by omega), fun q h1 h2 => absurd h1 (by omega)⟩)) (.consE rfl veqT (.consE rfl veqT .nil)) (fun st hJ => ?_)
 obtain ⟨i, j⟩ := st
 try dsimp only at hJ
 try dsimp only
 obtain ⟨hij, hj, hlo, hhi⟩ := hJ
 refine go [9,9,10,0,0,2,9,7,8] ?_
 refine G.condP rfl (fun h17 => ?_) (fun h17 => ?_)
 ·have hlt : (i + j) / 2 < xs.length := by omega
  have hEv := helv ((i + j) / 2) hlt
  have hRv := Ro.evRng hEv
  have hDv := Ro.evDat hEv
  obtain ⟨hk1v, hk2v, hlpv, hldv, hltv⟩ := Ro.evOk hEv
  have hCv := Ro.one1 hDv
  refine go [13,8,15,9,10,0,0,2,6] ?_
  refine G.op rfl (G.val rfl rfl ((pv_conv (by rw [Tryz.underlying3]; rfl) Tryz.underlying130 rfl).int (b := ((i + j : Nat) : Int)) (by rw [IntWalk.u64_in _ (by omega)]; omega)) ?_)
  refine G.op rfl (G.val rfl rfl ((pv_shr (s := 1) rfl rfl (by decide)).int (b := (((i + j) / 2 : Nat) : Int)) (by omega)) ?_)
  refine G.op rfl (G.val rfl rfl ((pv_conv (by rw [Tryz.underlying130]; rfl) Tryz.underlying3 rfl).int (b := (((i + j) / 2 : Nat) : Int)) (by rw [IntWalk.i64_in _ (by omega)])) ?_)
  refine go [1,7,8,9,10,0,0,0,2,20,5,2,50,3,0] ?_
  refine G.op rfl (G.cRv rfl rfl rfl rfl rfl Tryz.func101 rfl rfl (by rfl) may0 (place1_tr xs[(i + j) / 2].1 _ s (by omega) hs) ?_)
  refine go [2,9,7,8] ?_
  refine G.condP rfl (fun h31 => ?_) (fun h31 => ?_)
  ·have hneg := h31
   refine go [10,0,2,6,1,7,16] ?_
   exact G.next (((i + j) / 2 + 1, j)) (by first | exact trivial | ((try dsimp only) <;> exact ⟨by omega, hj, fun q hq hqi => by have := sort_mono hso (r := (i + j) / 2) (q := q) (s := s) (by omega) (by omega) (by rw [ens_get hlt]; exact hneg); rwa [ens_get hq] at this, hhi⟩)) (by (try dsimp only); omega) (.consE rfl veqT (.consE rfl veqT (.cons rfl (.cons rfl (.cons rfl (.cons rfl (.cons rfl (.cons rfl .nil)))))))) subT
  have hneg := h31
  refine go [10,0,1,7,16] ?_
  exact G.next ((i, (i + j) / 2)) (by first | exact trivial | ((try dsimp only) <;> exact ⟨by omega, by omega, hlo, fun q hq hqi h => hneg (by have := sort_mono hso (r := q) (q := (i + j) / 2) (s := s) (by omega) hqi (by rw [ens_get hq]; exact h); rwa [ens_get hlt] at this)⟩)) (by (try dsimp only); omega) (.consE rfl veqT (.consE rfl veqT (.cons rfl (.cons rfl (.cons rfl (.cons rfl (.cons rfl (.cons rfl .nil)))))))) subT
 refine go [18,14,14,19,8,9,10,0,0,0,2,9,0] ?_
 refine G.partP (t := 39) rfl (fun h39 => ?_) (fun h39 => ?_)
 ·obtain rfl : i = j := by omega
  have hlt : i < xs.length := by omega
  have hEv := helv i hlt
  have hRv := Ro.evRng hEv
  have hDv := Ro.evDat hEv
  obtain ⟨hk1v, hk2v, hlpv, hldv, hltv⟩ := Ro.evOk hEv
  have hCv := Ro.one1 hDv
  refine go [3,0,3,0,3,0,3,20,5,3,50,3,3,0] ?_
  refine G.want rfl rfl rfl (G.cRv rfl rfl rfl rfl rfl Tryz.func101 rfl rfl (by rfl) may0 (place1_tr xs[i].1 _ s (by omega) hs) ?_)
  refine go [3,13,2,2,1,1,7,8,11] ?_
  obtain ⟨hp, hi⟩ := search_end hso hlt hlo hhi
  exact G.done0G rfl (Rv.tmp rfl (Rv.tmp rfl Rv.nil)) (by rw [hp]; simp [retV2, hi])
 refine go [4,4,4,4,4,4,4,4,2,2,1,1,7,8,11] ?_
 obtain rfl : i = xs.length := by omega
 obtain ⟨hp, hi⟩ := search_none (s := s) hlo
 exact G.done0G rfl (Rv.tmp rfl (Rv.tmp rfl Rv.nil)) (by rw [hp, decide_eq_false hi]; rfl)
set_option maxHeartbeats 4000000 in
theorem place_tr {Ps : Nat → Prop} (v : Value) (xs : List ET) (s : List UInt8) (hn : xs.length ≤ 1000000) (hso : SortT (ens xs)) (hs : s.length ≤ 9223372036854775807) : Tr Tryz.prog 77 #[v, .string (sB s)] [slc rEV Ps v xs] [] (T0 (.tuple #[.int .i64 (placeK (ens xs) s : Int), .bool (decide (isAt (ens xs) s))])) := by
 refine Tr.of (l := [(0, v), (1, .string (sB s))]) Tryz.func77 rfl (n := 11) rfl (.cons rfl (.cons rfl .nil)) (fun w0 hro => ?_)
 have hv := ro1 hro
 refine go [9,10,1,1,7,8,9,10,0,0] ?_
 refine G.op rfl (G.cR rfl rfl rfl rfl Tryz.func100 rfl rfl (may1 Y5) (search_tr _ xs s hs hn hso) ?_)
 refine go [2,7,2,7,1,1,7,8,11] ?_
 exact G.done0G rfl (Rv.tmp rfl (Rv.tmp rfl Rv.nil)) Y8
def heldM (l : List En) (e : En) : Prop := (parentM e.path).2 = false ∨ ∃ x ∈ l, x.path = (parentM e.path).1 ∧ x.kind = 1
instance (l : List En) (e : En) : Decidable (heldM l e) := inferInstanceAs (Decidable (_ ∨ _))
def prevBad (es : List En) (i : Nat) : Prop := 0 < i ∧ match es[i - 1]?, es[i]? with
 | some p, some e => 0 ≤ compareM p.path e.path
 | _, _ => False
instance (es : List En) (i : Nat) : Decidable (prevBad es i) := by
 unfold prevBad
 cases es[i - 1]? <;> cases es[i]? <;> exact inferInstance
theorem prev_pos {es : List En} {i : Nat} (h0 : 0 < i) (h : i < es.length) : prevBad es i ↔ 0 ≤ compareM (es[i - 1]'(by omega)).path es[i].path := by
 unfold prevBad
 rw [List.getElem?_eq_getElem h, List.getElem?_eq_getElem (show i - 1 < es.length by omega)]
 simp [h0]
theorem prev_zero {es : List En} {i : Nat} (h0 : ¬ 0 < i) : ¬ prevBad es i := fun h => h0 h.1
def errT (es : List En) (i : Nat) : Int := match es[i]? with
 | none => 0
 | some e => if (if oneM e = 0 ∧ prevBad es i then 7 else oneM e) = 0 ∧ ¬ heldM (es.take i) e then 6 else (if oneM e = 0 ∧ prevBad es i then 7 else oneM e)
theorem errT_get {es : List En} {i : Nat} (h : i < es.length) : errT es i = if (if oneM es[i] = 0 ∧ prevBad es i then 7 else oneM es[i]) = 0 ∧ ¬ heldM (es.take i) es[i] then 6 else (if oneM es[i] = 0 ∧ prevBad es i then 7 else oneM es[i]) := by
 unfold errT
 rw [List.getElem?_eq_getElem h]
theorem err_one {es : List En} {i : Nat} (h : i < es.length) (h1 : ¬ oneM es[i] = 0) : errT es i = oneM es[i] := by
 rw [errT_get h, if_neg (fun k => by rw [if_neg (fun k => h1 k.1)] at k; exact h1 k.1), if_neg (fun k => h1 k.1)]
theorem err_prev {es : List En} {i : Nat} (h : i < es.length) (h1 : oneM es[i] = 0) (h2 : prevBad es i) : errT es i = 7 := by
 rw [errT_get h, if_neg (fun k => by rw [if_pos ⟨h1, h2⟩] at k; cases k.1), if_pos ⟨h1, h2⟩]
theorem err_held {es : List En} {i : Nat} (h : i < es.length) (h1 : oneM es[i] = 0) (h2 : ¬ prevBad es i) (h3 : ¬ heldM (es.take i) es[i]) : errT es i = 6 := by
 rw [errT_get h, if_pos ⟨by rw [if_neg (fun k => h2 k.2), h1], h3⟩]
theorem err_ok {es : List En} {i : Nat} (h : i < es.length) (h1 : oneM es[i] = 0) (h2 : ¬ prevBad es i) (h3 : heldM (es.take i) es[i]) : errT es i = 0 := by
 rw [errT_get h, if_neg (fun k => k.2 h3), if_neg (fun k => h2 k.2), h1]
theorem err_zero {es : List En} {i : Nat} (h : i < es.length) (h0 : errT es i = 0) : oneM es[i] = 0 ∧ ¬ prevBad es i ∧ heldM (es.take i) es[i] := by
 have a : oneM es[i] = 0 := Decidable.byContradiction fun k => by rw [err_one h k] at h0; exact k h0
 have b : ¬ prevBad es i := fun k => by rw [err_prev h a k] at h0; cases h0
 exact ⟨a, b, Decidable.byContradiction fun k => by rw [err_held h a b k] at h0; cases h0⟩
def checkT (es : List En) : Int × Int := if 200 < es.length then (3, 0) else
 let k := (List.range es.length).findIdx fun i => ! decide (errT es i = 0)
 (errT es k, if errT es k = 0 then 0 else (k : Int))
theorem checkT_many {es : List En} (h : 200 < es.length) : checkT es = (3, 0) := if_pos h
theorem range_idx {p : Nat → Bool} {n i : Nat} (hi : i < n) (hp : p i = true) (h : ∀ q, q < i → p q = false) : (List.range n).findIdx p = i := by
 refine (List.findIdx_eq (by simpa using hi)).2 ⟨by simpa using hp, fun j hj => ?_⟩
 simpa using h j hj
theorem checkT_bad {es : List En} {i : Nat} {e : Int} (h200 : ¬ 200 < es.length) (hi : i < es.length) (h : ∀ q, q < i → errT es q = 0) (he : errT es i = e) (h0 : ¬ e = 0) : checkT es = (e, (i : Int)) := by
 unfold checkT
 rw [if_neg h200]
 have e1 : (List.range es.length).findIdx (fun i => ! decide (errT es i = 0)) = i := range_idx hi (by simp [he, h0]) (fun q hq => by simp [h q hq])
 simp only [e1, he, if_neg h0]
theorem checkT_ok {es : List En} (h200 : ¬ 200 < es.length) (h : ∀ q, q < es.length → errT es q = 0) : checkT es = (0, 0) := by
 unfold checkT
 rw [if_neg h200]
 have e1 : (List.range es.length).findIdx (fun i => ! decide (errT es i = 0)) = es.length := by
  have := List.findIdx_eq_length_of_false (p := fun i => ! decide (errT es i = 0)) (xs := List.range es.length) (fun x hx => by
   have := h x (by simpa using hx)
   simp [this])
  simpa using this
 have e2 : errT es es.length = 0 := by
  unfold errT
  rw [List.getElem?_eq_none (Nat.le_refl _)]
 simp only [e1, e2, if_true]
theorem checkT_zero {es : List En} (h : (checkT es).1 = 0) : es.length ≤ 200 ∧ (∀ q, q < es.length → errT es q = 0) ∧ checkT es = (0, 0) := by
 by_cases h200 : 200 < es.length
 ·rw [checkT_many h200] at h
  cases h
 have all : ∀ q, q < es.length → errT es q = 0 := by
  intro q
  induction q using Nat.strongRecOn with
  | _ q ih =>
   intro hq
   exact Decidable.byContradiction fun k => by
    rw [checkT_bad h200 hq (fun r hr => ih r hr (by omega)) rfl k] at h
    exact k h
 exact ⟨by omega, all, checkT_ok h200 all⟩
theorem sort_take {es : List En} {i : Nat} (hi : i ≤ es.length) (h : ∀ q, q < i → errT es q = 0) : SortT (es.take i) := by
 have step : ∀ q (hq : q + 1 < i), compareM (es[q]'(by omega)).path (es[q + 1]'(by omega)).path = -1 := fun q hq => by
  have h1 := (err_zero (show q + 1 < es.length by omega) (h (q + 1) hq)).2.1
  rw [prev_pos (by omega) (by omega)] at h1
  have := compareM_ord.rng (es[q]'(by omega)).path (es[q + 1]'(by omega)).path
  simp only [Nat.add_sub_cancel] at h1
  omega
 have all : ∀ r q (hr : r < i) (hqr : q < r), compareM (es[q]'(by omega)).path (es[r]'(by omega)).path = -1 := by
  intro r
  induction r with
  | zero => intro q hr hq; omega
  | succ r ih =>
   intro q hr hq
   rcases Nat.lt_or_ge q r with h1 | h1
   ·exact compareM_ord.trans _ _ _ (ih q (by omega) h1) (step r hr)
   obtain rfl : q = r := by omega
   exact step q hr
 refine List.pairwise_iff_getElem.2 fun q r hq hr hqr => ?_
 simp only [List.length_take] at hq hr
 rw [List.getElem_take, List.getElem_take]
 exact all r q (by omega) hqr
theorem placeK_spec {es : List En} (hs : SortT es) {s : List UInt8} (h : isAt es s) : ∃ hk : placeK es s < es.length, es[placeK es s].path = s := by
 obtain ⟨e, he, rfl⟩ := h
 obtain ⟨j, hj, rfl⟩ := List.getElem_of_mem he
 have hp : placeK es es[j].path = j := placeK_at (by omega) (fun q hq hqj => by rw [cmp_lt_iff]; exact (List.pairwise_iff_getElem.1 hs) q j hq hj hqj) (fun q hq hjq => by
  rcases Nat.lt_or_ge j q with h1 | h1
  ·have h2 := (List.pairwise_iff_getElem.1 hs) j q hj hq h1
   have := compareM_ord.anti es[j].path es[q].path
   omega
  obtain rfl : j = q := by omega
  rw [(compareM_ord.zero _ _).2 rfl]
  omega)
 refine ⟨by omega, ?_⟩
 simp only [hp]
theorem sort_inj {es : List En} (hs : SortT es) {a b : En} (ha : a ∈ es) (hb : b ∈ es) (h : a.path = b.path) : a = b := by
 obtain ⟨i, hi, rfl⟩ := List.getElem_of_mem ha
 obtain ⟨j, hj, rfl⟩ := List.getElem_of_mem hb
 have hz : compareM es[i].path es[j].path = 0 := (compareM_ord.zero _ _).2 h
 rcases Nat.lt_trichotomy i j with h1 | h1 | h1
 ·have := (List.pairwise_iff_getElem.1 hs) i j hi hj h1
  omega
 ·subst h1
  rfl
 have h2 := (List.pairwise_iff_getElem.1 hs) j i hj hi h1
 have := compareM_ord.anti es[i].path es[j].path
 omega
theorem held_none {l : List En} {e : En} (h : (parentM e.path).2 = true) (h2 : ¬ isAt l (parentM e.path).1) : ¬ heldM l e := fun k => by
 rcases k with k | ⟨x, hx, k1, k2⟩
 ·rw [h] at k
  cases k
 exact h2 ⟨x, hx, k1⟩
theorem held_kind {l : List En} {e : En} (hs : SortT l) (h : (parentM e.path).2 = true) (h2 : isAt l (parentM e.path).1) {x : En} (hx : l[placeK l (parentM e.path).1]? = some x) : heldM l e ↔ x.kind = 1 := by
 obtain ⟨hk, hp⟩ := placeK_spec hs h2
 rw [List.getElem?_eq_getElem hk] at hx
 injection hx with hx
 constructor
 ·rintro (k | ⟨y, hy, k1, k2⟩)
  ·rw [h] at k
   cases k
  have : x = y := sort_inj hs (hx ▸ List.getElem_mem hk) hy (by rw [← hx, hp, k1])
  rw [this]
  exact k2
 intro k
 exact .inr ⟨x, hx ▸ List.getElem_mem hk, by rw [← hx, hp], k⟩
theorem Ro.takeT {α : Type} {E : Rdr α} {w0 : World} {S Ps : Nat → Prop} {ad : Option Addr} {len cap i : Nat} {xs : List α} (h : Ro w0 S (slc E Ps (.slice ad len cap) xs)) (hi : i ≤ xs.length) : Ro w0 S (slc E Ps (.slice ad i cap) (xs.take i)) := by
 have := Ro.sub h (Nat.zero_le i) hi
 rwa [subV_zero, List.drop_zero] at this
theorem ens_take (xs : List ET) (i : Nat) : ens (xs.take i) = (ens xs).take i := by simp [ens, List.map_take]
theorem ens_at {xs : List ET} {i : Nat} (h : i < xs.length) : (ens xs)[i]? = some xs[i].1 := by simp [ens, h]
set_option maxHeartbeats 4000000 in
theorem tcheck_tr {Ps : Nat → Prop} (v : Value) (xs : List ET) : Tr Tryz.prog 55 #[v] [slc rEV Ps v xs] [] (T0 (.tuple #[.int .i64 (checkT (ens xs)).1, .int .i64 (checkT (ens xs)).2])) := by
 refine Tr.of (l := [(0, v)]) Tryz.func55 rfl (n := 69) rfl (.cons rfl .nil) (fun w0 hro => ?_)
 have hv := ro1 hro
 have hv' := hv
 obtain ⟨av, cv, bv, fv, rfl, hcapv, hmaxv, hnilv, hadv, helv⟩ := Ro.openT hv
 have hel' := ens_length xs
 refine go [9,10,1,1,7,8,9,9,10,0,2,5,2,10,7,8] ?_
 refine G.condP rfl (fun h13 => ?_) (fun h13 => ?_)
 ·refine go [9,10,1,1,7,8,11,12] ?_
  exact G.done0G rfl (Rv.tmp rfl (Rv.tmp rfl Rv.nil)) (by rw [checkT_many (by omega)]; rfl)
 refine go [13,8,9,9,10,0,2,5,0,7,8,15] ?_
 refine G.loopK (X := Nat) (ts := [0, 14, 15]) (fun i => i ≤ xs.length ∧ (∀ q, q < i → errT (ens xs) q = 0)) (fun i => [(16, .int .i64 (i : Int))]) (fun i => []) (fun i => xs.length - i) (x0 := 0) (.cons rfl (.cons rfl (.cons rfl .nil))) subT (.cons .nil) apT (by first | exact trivial | ((try dsimp only) <;> exact ⟨Nat.zero_le _, fun q h => absurd h (by omega)⟩)) (.consE rfl veqT .nil) (fun i hJ => ?_)
 try dsimp only at hJ
 try dsimp only
 obtain ⟨hki, hJ⟩ := hJ
 refine go [9,10,2,9,7,8,9] ?_
 refine G.condP rfl (fun h17 => ?_) (fun h17 => ?_)
 ·have hJ0 := hJ
  have hlt : i < xs.length := by omega
  have hlt' : i < (ens xs).length := by omega
  have hg := ens_get hlt
  have hso := sort_take (es := ens xs) (i := i) (by omega) hJ
  have hTk := Ro.takeT hv' (i := i) (by omega)
  have hEv := helv i hlt
  have hRv := Ro.evRng hEv
  have hDv := Ro.evDat hEv
  obtain ⟨hk1v, hk2v, hlpv, hldv, hltv⟩ := Ro.evOk hEv
  have hCv := Ro.one1 hDv
  refine go [13,8,9,15,9,10,0,2,20,5,2,50,3,60,20] ?_
  intro b5
  refine go [1,20,7,8,9,9,10,2,50,3] ?_
  refine G.op rfl (G.cR rfl rfl rfl rfl Tryz.func74 rfl rfl (may1 Y5) (one_tr _ _ (by omega)) ?_)
  refine go [1,7,8,9,10,0,2,14,7,8] ?_
  refine G.condP rfl (fun h24 => ?_) (fun h24 => ?_)
  ·refine go [9,10,0,0,1,1,7,8,11,12,17,12,12,17,12] ?_
   exact G.done0G rfl (Rv.tmp rfl (Rv.tmp rfl Rv.nil)) (by rw [checkT_bad (by omega) hlt' hJ0 (err_one hlt' (by rw [hg]; assumption)) (by rw [hg]; assumption), hg]; rfl)
  have h1 : oneM (ens xs)[i] = 0 := by rw [hg]; omega
  refine go [13,8,9,9] ?_
  refine G.cutK (X := Unit) (ts := [0, 4, 5, 14, 15, 16]) (p := []) (fun _ => True) (fun _ => [(40, .bool (decide (prevBad (ens xs) i)))]) (fun _ => []) (.cons rfl (.cons rfl (.cons rfl (.cons rfl (.cons rfl (.cons rfl .nil)))))) subT (.cons .nil) apT ?_ ?_
  ·refine G.drawT (nn := 14) (p := []) (rem := 16383) [0, 1, 2, 4, 4, 20, 44, 68, 132, 4, 516, 1284, 2052, 4100] [0, 1, 2, 4, 4, 20, 44, 68, 132, 4, 516, 1284, 2052, 4100] kr ⟨rfl, by kernel_rfl, by kernel_rfl⟩ subT kr (fun hT9 => ?_)
   refine go [22,0,16382,0,22,1,16380,10,22,2,16376,0] ?_
   refine G.partP (t := 29) rfl (fun h29 => ?_) (fun h29 => ?_)
   ·have hi0 : 0 < i := by omega
    have hEp := helv (i - 1) (by omega)
    have hRp := Ro.evRng hEp
    have hDp := Ro.evDat hEp
    obtain ⟨hk1p, hk2p, hlpp, hldp, hltp⟩ := Ro.evOk hEp
    have hCp := Ro.one1 hDp
    have hpv := prev_pos hi0 hlt'
    rw [hg, ens_get (show i - 1 < xs.length by omega)] at hpv
    refine go [22,3,16368,0,22,4,16352,0,22,5,16320,19] ?_
    refine G.takeT hT9 (i := 6) (rem' := 16256) rfl rfl rfl kr (fun _ _ _ h => h) rfl (pv_ixSl (sz := 5) (k := i - 1) Tryz.underlying44 kr rfl rfl (by first | with_reducible assumption | assumption) (by omega) (by omega)) subT ?_
    refine go [22,7,16128,3,0,22,8,15872,4,22,9,15360,3,0,24,10,14336,25,4,26,24,11,12288] ?_
    refine G.turnOp rfl rfl (G.cR rfl rfl rfl rfl Tryz.func75 rfl rfl may0 (compare_tr _ _ (by omega) (by omega)) ?_)
    refine go [26,22,12,8192,12,22,13,0,2,27] ?_
    exact G.meet (()) trT (.consE rfl (dec_e hpv.symm) (.cons rfl (.cons rfl (.cons rfl (.cons rfl (.cons rfl (.cons rfl .nil))))))) subT
   refine go [23,3,16368,23,4,16352,23,5,16320,23,6,16256,23,7,16128,23,8,15872,23,9,15360,23,10,14336,23,11,12288,23,12,8192,22,13,0,2,27] ?_
   exact G.meet (()) trT (.consE rfl (dec_f (prev_zero (by omega))) (.cons rfl (.cons rfl (.cons rfl (.cons rfl (.cons rfl (.cons rfl .nil))))))) subT
  intro _ hJ
  try dsimp only at hJ
  try dsimp only
  refine G.condP rfl (fun h40 => ?_) (fun h40 => ?_)
  ·refine go [9,10,0,1,1,7,8,11,12,17,12,12,17,12] ?_
   exact G.done0G rfl (Rv.tmp rfl (Rv.tmp rfl Rv.nil)) (by rw [checkT_bad (by omega) hlt' hJ0 (err_prev hlt' h1 (by assumption)) (by omega)]; rfl)
  refine go [13,8,9,10,2,3,0,2,4] ?_
  refine G.op rfl (G.cR rfl rfl rfl rfl Tryz.func76 rfl rfl may0 (parent_tr _ (by omega)) ?_)
  have hpl := parentM_len xs[i].1.path
  refine go [0,2,7,2,7,1,1,7,8,9,10,0,7,8] ?_
  refine G.cond rfl (fun h48 => ?_) (fun h48 => ?_)
  ·have hpt : (parentM (ens xs)[i].path).2 = true := by rw [hg]; exact h48
   refine go [9,10,0,0] ?_
   refine G.op rfl (G.val rfl rfl (pv_subH (sz := 5) (k := i) Tryz.underlying44 kr rfl rfl rfl (by omega)) ?_)
   refine go [0] ?_
   refine G.op rfl (G.cR rfl rfl rfl rfl Tryz.func77 rfl rfl (may1 Y5) (place_tr _ (xs.take i) _ (by rw [List.length_take]; omega) (by rw [ens_take]; exact hso) (by omega)) ?_)
   rw [ens_take]
   refine go [0,2,7,2,7,1,1,7,8,9] ?_
   refine G.cutK (X := Unit) (ts := [0, 4, 14, 15, 16]) (p := []) (fun _ => True) (fun _ => [(66, .bool (decide (¬ heldM ((ens xs).take i) (ens xs)[i])))]) (fun _ => []) (.cons rfl (.cons rfl (.cons rfl (.cons rfl (.cons rfl .nil))))) subT (.cons .nil) apT ?_ ?_
   ·refine go [10,0,2,15,0] ?_
    refine G.partP (t := 59) rfl (fun h59 => ?_) (fun h59 => ?_)
    ·have hnh : ¬ heldM ((ens xs).take i) (ens xs)[i] := held_none hpt (by rw [hg]; assumption)
     refine go [4,4,4,4,4,4,2,2,7] ?_
     exact G.meet (()) trT (.consE rfl (dec_t hnh) (.cons rfl (.cons rfl (.cons rfl (.cons rfl (.cons rfl .nil)))))) subT
    have hat : isAt ((ens xs).take i) (parentM xs[i].1.path).1 := Decidable.of_not_not (by assumption)
    obtain ⟨hkl, -⟩ := placeK_spec hso hat
    rw [List.length_take] at hkl
    obtain ⟨k, hk⟩ : ∃ k, placeK ((ens xs).take i) (parentM xs[i].1.path).1 = k := ⟨_, rfl⟩
    have hkk := held_kind hso hpt (x := (xs[k]'(by omega)).1) (by rw [hg]; exact hat) (by rw [hg, hk, List.getElem?_take_of_lt (by omega)]; exact ens_at (by omega))
    rw [hk] at hkl ⊢
    have hEk := helv k (by omega)
    have hRk := Ro.evRng hEk
    have hDk := Ro.evDat hEk
    obtain ⟨hk1k, hk2k, hlpk, hldk, hltk⟩ := Ro.evOk hEk
    have hCk := Ro.one1 hDk
    refine go [3,0,3,0] ?_
    refine G.want rfl rfl rfl (G.val rfl rfl (pv_ixSl (sz := 5) (k := k) Tryz.underlying44 kr rfl rfl (by first | with_reducible assumption | assumption) (by omega) (by omega)) ?_)
    refine go [3,3,1,3,4,3,14,2,2,7] ?_
    exact G.meet (()) trT (.consE rfl (dec_e (not_congr hkk.symm)) (.cons rfl (.cons rfl (.cons rfl (.cons rfl (.cons rfl .nil)))))) subT
   intro _ hJ
   try dsimp only at hJ
   try dsimp only
   refine G.condP rfl (fun h66 => ?_) (fun h66 => ?_)
   ·refine go [9,10,0,1,1,7,8,11,17,12,12,17,12] ?_
    exact G.done0G rfl (Rv.tmp rfl (Rv.tmp rfl Rv.nil)) (by rw [checkT_bad (by omega) hlt' hJ0 (err_held hlt' h1 (by assumption) (by assumption)) (by omega)]; rfl)
   have hok0 : errT (ens xs) i = 0 := err_ok hlt' h1 (by assumption) (Decidable.of_not_not (by assumption))
   refine go [13,16,8,10,2,6,0,7] ?_
   exact G.next (i + 1) (by first | exact trivial | ((try dsimp only) <;> exact ⟨by omega, fun q hq => by rcases Nat.lt_or_ge q i with h1 | h1; exact hJ0 q h1; obtain rfl : q = i := (by omega); exact hok0⟩)) (by (try dsimp only); omega) (.consE rfl veqT (.cons rfl (.cons rfl (.cons rfl .nil)))) subT
  have hok0 : errT (ens xs) i = 0 := err_ok hlt' h1 (by assumption) (.inl (by rw [hg]; exact h48))
  refine go [13,16,8,10,2,6,0,7] ?_
  exact G.next (i + 1) (by first | exact trivial | ((try dsimp only) <;> exact ⟨by omega, fun q hq => by rcases Nat.lt_or_ge q i with h1 | h1; exact hJ0 q h1; obtain rfl : q = i := (by omega); exact hok0⟩)) (by (try dsimp only); omega) (.consE rfl veqT (.cons rfl (.cons rfl (.cons rfl .nil)))) subT
 refine go [18,14,14,19,8,9,10,1,1,7,8,11] ?_
 exact G.done0G rfl (Rv.tmp rfl (Rv.tmp rfl Rv.nil)) (by rw [checkT_ok (by omega) (fun q hq => hJ q (by omega))]; rfl)
theorem ens_eq {xs ys : List ET} (hl : xs.length = ys.length) (h : ∀ q (hq : q < xs.length), xs[q].1 = (ys[q]'(by omega)).1) : ens xs = ens ys := by
 apply List.ext_getElem
 ·rw [ens_length, ens_length, hl]
 intro i h1 h2
 rw [ens_length] at h1
 rw [ens_get h1, ens_get (by omega)]
 exact h i h1
theorem ens_ne {xs ys : List ET} {i : Nat} (hx : i < xs.length) (hy : i < ys.length) (h : xs[i].1 ≠ ys[i].1) : ¬ ens xs = ens ys := fun e => by
 have h1 := ens_get hx
 have h2 := ens_get hy
 simp only [e] at h1
 exact h (h1.symm.trans h2)
theorem ens_len_ne {xs ys : List ET} (h : ¬ (xs.length : Int) = ys.length) : ¬ ens xs = ens ys := fun e => h (by
 have := congrArg List.length e
 rw [ens_length, ens_length] at this
 omega)
set_option maxHeartbeats 4000000 in
theorem sameTree_tr {Ps Pu : Nat → Prop} (v u : Value) (xs ys : List ET) : Tr Tryz.prog 29 #[v, u] [slc rEV Ps v xs, slc rEV Pu u ys] [] (T0 (.bool (decide (ens xs = ens ys)))) := by
 refine Tr.of (l := [(0, v), (1, u)]) Tryz.func29 rfl (n := 81) rfl (.cons rfl (.cons rfl .nil)) (fun w0 hro => ?_)
 obtain ⟨hv0, hu0⟩ := ro2 hro
 have hv := hv0
 have hv' := hv
 obtain ⟨av, cv, bv, fv, rfl, hcapv, hmaxv, hnilv, hadv, helv⟩ := Ro.openT hv
 have hu := hu0
 have hu' := hu
 obtain ⟨au, cu, bu, fu, rfl, hcapu, hmaxu, hnilu, hadu, helu⟩ := Ro.openT hu
 refine go [9,10,1,7,8,9,9,10,0,2,5,0,2,5,2,14,7,8] ?_
 refine G.condP rfl (fun h10 => ?_) (fun h10 => ?_)
 ·refine go [9,10,1,7,8,11,12] ?_
  exact G.done0G rfl (Rv.tmp rfl Rv.nil) (by rw [decide_eq_false (ens_len_ne (by omega))]; rfl)
 have hxy : xs.length = ys.length := by omega
 refine go [13,8,9,9,10,1,7,8,15] ?_
 refine G.loopK (X := Nat) (ts := [0, 1]) (fun i => i ≤ xs.length ∧ (∀ q (hq : q < xs.length), q < i → xs[q].1 = (ys[q]'(by omega)).1)) (fun i => [(5, .int .i64 (i : Int))]) (fun i => []) (fun i => xs.length - i) (x0 := 0) (.cons rfl (.cons rfl .nil)) subT (.cons .nil) apT (by first | exact trivial | ((try dsimp only) <;> exact ⟨Nat.zero_le _, fun q _ h => absurd h (by omega)⟩)) (.consE rfl veqT .nil) (fun i hJ => ?_)
 try dsimp only at hJ
 try dsimp only
 obtain ⟨hki, hJ⟩ := hJ
 refine go [9,9,10,0,0,2,5,2,9,7,8] ?_
 refine G.condP rfl (fun h14 => ?_) (fun h14 => ?_)
 ·have hJ0 := hJ
  have hlt : i < xs.length := by omega
  have hlu : i < ys.length := by omega
  have hEv := helv i hlt
  have hRv := Ro.evRng hEv
  have hDv := Ro.evDat hEv
  obtain ⟨hk1v, hk2v, hlpv, hldv, hltv⟩ := Ro.evOk hEv
  have hCv := Ro.one1 hDv
  have hEu := helu i hlu
  have hRu := Ro.evRng hEu
  have hDu := Ro.evDat hEu
  obtain ⟨hk1u, hk2u, hlpu, hldu, hltu⟩ := Ro.evOk hEu
  have hCu := Ro.one1 hDu
  have he := en_eq (a := xs[i].1) (b := ys[i].1)
  refine go [13,8,9,15,9] ?_
  refine G.cutK (X := Unit) (ts := [0, 1, 5]) (p := []) (fun _ => True) (fun _ => [(80, .bool (decide (xs[i].1 ≠ ys[i].1)))]) (fun _ => []) (.cons rfl (.cons rfl (.cons rfl .nil))) subT (.cons .nil) apT ?_ ?_
  ·refine G.drawT (nn := 64) (p := []) (rem := 18446744073709551615) [0, 0, 3, 4, 8, 0, 0, 96, 128, 256, 528, 1024, 2048, 2048, 14336, 18432, 34816, 2048, 2048, 395264, 526336, 1050624, 2164736, 4196352, 8390656, 16777216, 16777216, 117440512, 150994944, 285212672, 16777216, 16777216, 3238002688, 4311744512, 8606711808, 17733517312, 34376515584, 68736253952, 137438953472, 137438953472, 962072674304, 1236950581248, 2336462209024, 137438953472, 137438953472, 26525718020096, 35321811042304, 70506183131136, 145272973819904, 281612415664128, 563087392374784, 1407374883553280, 2251799813685248, 2251799813685248, 15762598695796736, 20266198323167232, 38280596832649216, 2251799813685248, 2251799813685248, 434597364041252864, 578712552117108736, 1155173304420532224, 2380152403065307136, 4613937818241073152] [0, 0, 3, 4, 8, 0, 0, 96, 128, 256, 528, 1024, 2048, 2048, 14336, 18432, 34816, 2048, 2048, 395264, 526336, 1050624, 2164736, 4196352, 8388608, 16777216, 16777216, 117440512, 150994944, 285212672, 16777216, 16777216, 3238002688, 4311744512, 8606711808, 17733517312, 34376515584, 68719476736, 137438953472, 137438953472, 962072674304, 1236950581248, 2336462209024, 137438953472, 137438953472, 26525718020096, 35321811042304, 70506183131136, 145272973819904, 281612415664128, 563087392374784, 1125899906842624, 2251799813685248, 2251799813685248, 15762598695796736, 20266198323167232, 38280596832649216, 2251799813685248, 2251799813685248, 434597364041252864, 578712552117108736, 1155173304420532224, 2380152403065307136, 4613937818241073152] kr ⟨rfl, by kernel_rfl, by kernel_rfl⟩ subT kr (fun hT6 => ?_)
   refine go [22,0,18446744073709551614,0,22,1,18446744073709551612,0,22,2,18446744073709551608,20,5,22,3,18446744073709551600,3,0,22,5,18446744073709551568,0,22,6,18446744073709551504,0,22,7,18446744073709551376,20,5,22,8,18446744073709551120,3,0,22,4,18446744073709551104,4,24,9,18446744073709550592,25,4,26,22,10,18446744073709549568,23,22,11,18446744073709547520,0] ?_
   refine G.partP (t := 28) rfl (fun h28 => ?_) (fun h28 => ?_)
   ·refine go [23,12,18446744073709543424,23,13,18446744073709535232,23,14,18446744073709518848,23,15,18446744073709486080,23,16,18446744073709420544,23,17,18446744073709289472,23,18,18446744073709027328,23,19,18446744073708503040,23,20,18446744073707454464,23,21,18446744073705357312,23,22,18446744073701163008,22,23,18446744073692774400,2,22,24,18446744073675997184,0,23,25,18446744073642442752,23,26,18446744073575333888,23,27,18446744073441116160,23,28,18446744073172680704,23,29,18446744072635809792,23,30,18446744071562067968,23,31,18446744069414584320,23,32,18446744065119617024,23,33,18446744056529682432,23,34,18446744039349813248,23,35,18446744004990074880,22,36,18446743936270598144,2,22,37,18446743798831644672,0,23,38,18446743523953737728,23,39,18446742974197923840,23,40,18446741874686296064,23,41,18446739675663040512,23,42,18446735277616529408,23,43,18446726481523507200,23,44,18446708889337462784,23,45,18446673704965373952,23,46,18446603336221196288,23,47,18446462598732840960,23,48,18446181123756130304,23,49,18445618173802708992,22,50,18444492273895866368,2,22,51,18442240474082181120,0,23,52,18437736874454810624,23,53,18428729675200069632,23,54,18410715276690587648,23,55,18374686479671623680,23,56,18302628885633695744,23,57,18158513697557839872,23,58,17870283321406128128,23,59,17293822569102704640,23,60,16140901064495857664,23,61,13835058055282163712,23,62,9223372036854775808,22,63,0,2,27] ?_
    exact G.meet (()) trT (.consE rfl Y11 (.cons rfl (.cons rfl (.cons rfl .nil)))) subT
   refine go [22,12,18446744073709543424,0,22,13,18446744073709535232,0,22,14,18446744073709518848,20,5,22,15,18446744073709486080,3,1,22,16,18446744073709420544,4,22,17,18446744073709289472,0,22,18,18446744073709027328,0,22,19,18446744073708503040,20,5,22,20,18446744073707454464,3,1,24,21,18446744073705357312,25,4,26,22,22,18446744073701163008,14,22,23,18446744073692774400,2,22,24,18446744073675997184,0] ?_
   refine G.partP (t := 41) rfl (fun h41 => ?_) (fun h41 => ?_)
   ·refine go [23,25,18446744073642442752,23,26,18446744073575333888,23,27,18446744073441116160,23,28,18446744073172680704,23,29,18446744072635809792,23,30,18446744071562067968,23,31,18446744069414584320,23,32,18446744065119617024,23,33,18446744056529682432,23,34,18446744039349813248,23,35,18446744004990074880,22,36,18446743936270598144,2,22,37,18446743798831644672,0,23,38,18446743523953737728,23,39,18446742974197923840,23,40,18446741874686296064,23,41,18446739675663040512,23,42,18446735277616529408,23,43,18446726481523507200,23,44,18446708889337462784,23,45,18446673704965373952,23,46,18446603336221196288,23,47,18446462598732840960,23,48,18446181123756130304,23,49,18445618173802708992,22,50,18444492273895866368,2,22,51,18442240474082181120,0,23,52,18437736874454810624,23,53,18428729675200069632,23,54,18410715276690587648,23,55,18374686479671623680,23,56,18302628885633695744,23,57,18158513697557839872,23,58,17870283321406128128,23,59,17293822569102704640,23,60,16140901064495857664,23,61,13835058055282163712,23,62,9223372036854775808,22,63,0,2,27] ?_
    exact G.meet (()) trT (.consE rfl Y11 (.cons rfl (.cons rfl (.cons rfl .nil)))) subT
   refine go [22,25,18446744073642442752,0,22,26,18446744073575333888,0,22,27,18446744073441116160,20,5,22,28,18446744073172680704,3,2,22,29,18446744072635809792,4,22,30,18446744071562067968,0,22,31,18446744069414584320,0,22,32,18446744065119617024,20,5,22,33,18446744056529682432,3,2,24,34,18446744039349813248,25,4,26,22,35,18446744004990074880,14,22,36,18446743936270598144,2,22,37,18446743798831644672,0] ?_
   refine G.partP (t := 54) rfl (fun h54 => ?_) (fun h54 => ?_)
   ·refine go [23,38,18446743523953737728,23,39,18446742974197923840,23,40,18446741874686296064,23,41,18446739675663040512,23,42,18446735277616529408,23,43,18446726481523507200,23,44,18446708889337462784,23,45,18446673704965373952,23,46,18446603336221196288,23,47,18446462598732840960,23,48,18446181123756130304,23,49,18445618173802708992,22,50,18444492273895866368,2,22,51,18442240474082181120,0,23,52,18437736874454810624,23,53,18428729675200069632,23,54,18410715276690587648,23,55,18374686479671623680,23,56,18302628885633695744,23,57,18158513697557839872,23,58,17870283321406128128,23,59,17293822569102704640,23,60,16140901064495857664,23,61,13835058055282163712,23,62,9223372036854775808,22,63,0,2,27] ?_
    exact G.meet (()) trT (.consE rfl Y11 (.cons rfl (.cons rfl (.cons rfl .nil)))) subT
   refine go [22,38,18446743523953737728,0,22,39,18446742974197923840,0,22,40,18446741874686296064,20,5,22,41,18446739675663040512,3,3,22,42,18446735277616529408,4,22,43,18446726481523507200,0,22,44,18446708889337462784,0,22,45,18446673704965373952,20,5,22,46,18446603336221196288,3,3,24,47,18446462598732840960,25,4,26,24,48,18446181123756130304] ?_
   refine G.turnOp rfl rfl (G.cR rfl rfl rfl rfl Tryz.func33 rfl rfl (may2 Y5 Y5) (same_tr _ _ _ _) ?_)
   refine go [26,22,49,18445618173802708992,15,22,50,18444492273895866368,2,22,51,18442240474082181120,0] ?_
   refine G.partP (t := 68) rfl (fun h68 => ?_) (fun h68 => ?_)
   ·refine go [23,52,18437736874454810624,23,53,18428729675200069632,23,54,18410715276690587648,23,55,18374686479671623680,23,56,18302628885633695744,23,57,18158513697557839872,23,58,17870283321406128128,23,59,17293822569102704640,23,60,16140901064495857664,23,61,13835058055282163712,23,62,9223372036854775808,22,63,0,2,27] ?_
    exact G.meet (()) trT (.consE rfl Y11 (.cons rfl (.cons rfl (.cons rfl .nil)))) subT
   refine go [22,52,18437736874454810624,0,22,53,18428729675200069632,0,22,54,18410715276690587648,20,5,22,55,18374686479671623680,3,4,22,56,18302628885633695744,4,22,57,18158513697557839872,0,22,58,17870283321406128128,0,22,59,17293822569102704640,20,5,22,60,16140901064495857664,3,4,24,61,13835058055282163712,25,4,26,22,62,9223372036854775808,23,22,63,0,2,27] ?_
   exact G.meet (()) trT (.consE rfl Y11 (.cons rfl (.cons rfl (.cons rfl .nil)))) subT
  intro _ hJ
  try dsimp only at hJ
  try dsimp only
  refine G.condP rfl (fun h80 => ?_) (fun h80 => ?_)
  ·have hne : xs[i].1 ≠ ys[i].1 := by assumption
   refine go [9,10,1,7,8,11,17,12,12,17,12] ?_
   exact G.done0G rfl (Rv.tmp rfl Rv.nil) (by rw [decide_eq_false (ens_ne hlt hlu hne)]; rfl)
  have heq : xs[i].1 = ys[i].1 := Decidable.of_not_not (by assumption)
  refine go [13,16,8,10,0,2,6,1,7] ?_
  exact G.next (i + 1) (by first | exact trivial | ((try dsimp only) <;> exact ⟨by omega, fun q hq hqi => by rcases Nat.lt_or_ge q i with h1 | h1; exact hJ0 q hq h1; obtain rfl : q = i := (by omega); exact heq⟩)) (by (try dsimp only); omega) (.consE rfl veqT (.cons rfl (.cons rfl .nil))) subT
 refine go [18,14,14,19,8,9,10,1,7,8,11] ?_
 exact G.done0G rfl (Rv.tmp rfl Rv.nil) (by rw [decide_eq_true (ens_eq (by omega) (fun q hq => hJ q hq (by omega)))]; rfl)
theorem flat_dat {xs : List ET} {sp : List Value} {i : Nat} (h : i < xs.length) : (flatT xs ++ sp)[0 + i * 5 + 3]? = some xs[i].2 := flat_at h 3 (by omega)
theorem flat_len {xs : List ET} {sp : List Value} {i j : Nat} (h : i < xs.length) (hj : j < 5) : 0 + i * 5 + j < (flatT xs ++ sp).length := by
 rw [List.length_append, flatT_length]
 omega
theorem take_set_succ {α : Type} {zs : List α} {i : Nat} (h : i < zs.length) (x : α) : (zs.set i x).take (i + 1) = zs.take i ++ [x] := by
 rw [List.take_succ_eq_append_getElem (by rw [List.length_set]; exact h), List.getElem_set_self, List.take_set_of_le (Nat.le_refl _)]
theorem ens_set {xs : List ET} {i : Nat} (h : i < xs.length) (d : Value) : ens (xs.set i (xs[i].1, d)) = ens xs := by
 unfold ens
 rw [List.map_set]
 apply List.ext_getElem?
 intro j
 by_cases hj : i = j
 ·subst hj
  rw [List.getElem?_set_self (by rw [List.length_map]; exact h)]
  simp [h]
 rw [List.getElem?_set_ne hj]
theorem len_ens {xs ys : List ET} (h : ens xs = ens ys) : xs.length = ys.length := by
 have := congrArg List.length h
 rwa [ens_length, ens_length] at this
section
variable {P : Program} {n : Nat} {w0 : World} {S : Nat → Prop} {l : Fr} {m : List Ck} {Q : Exit → Act → World → Prop} {K : Act → World → Prop}
theorem flatT_one' {xs : List ET} (h : ∀ x ∈ xs, x.2.oneCell' = true) : ∀ u ∈ flatT xs, u.oneCell' = true := fun u hu => by
 obtain ⟨x, hx, hu⟩ := List.mem_flatMap.1 hu
 simp only [evC, List.mem_cons, List.not_mem_nil, or_false] at hu
 rcases hu with rfl | rfl | rfl | rfl | rfl
 ·rfl
 ·rfl
 ·rfl
 ·exact h x hx
 rfl
theorem G.datNil (e : TypeId) (h : G n w0 S l (datC e [] :: m) K) : G n w0 S l m K := G.mem (fun w hw => Hp.star (m := []) hw) h
theorem G.datSnoc {e : TypeId} {ys : List ET} {x : ET} {r r' : List Ck} (h1 : Sel m (datC e ys) r) (h2 : Sel r (ownB e x.2 x.1.data) r') (h : G n w0 S l (datC e (ys ++ [x]) :: r') K) : G n w0 S l m K := G.mem (fun w hw => by
 have h3 := Hp.unstar (hw.sel h1)
 have p : (ys.map (fun x : ET => ownB e x.2 x.1.data) ++ r).Perm (((ys ++ [x]).map fun x : ET => ownB e x.2 x.1.data) ++ r') := by
  rw [List.map_append, List.append_assoc]
  exact List.Perm.append_left _ h2.perm
 exact Hp.star (h3.perm p)) h
end
theorem Tryz.infoEn' : (Tryz.prog.info? 73).map (fun i => (i.zero.map (·.cells.size), i.size, i.bytes)) = some (some 5, 5, 72) := by kernel_rfl
structure KeyF (P : Program) (k : TypeId) {κ : Type} (f : κ → Value) (ok : κ → Prop) : Prop where
 keyed : Go.Maps.Keyed P k
 is : ∀ x, ok x → ∃ l, keyOf P k (f x) = some l
 inj : ∀ x y, f x = f y → x = y
section
variable {κ : Type} [DecidableEq κ]
def mget : List (κ × Value) → κ → Option Value
 | [], _ => none
 | (a, v) :: l, k => if a = k then some v else mget l k
def mset : List (κ × Value) → κ → Value → List (κ × Value)
 | [], k, v => [(k, v)]
 | (a, u) :: l, k, v => if a = k then (k, v) :: l else (a, u) :: mset l k v
theorem mget_mset (l : List (κ × Value)) (k : κ) (v : Value) (j : κ) : mget (mset l k v) j = if k = j then some v else mget l j := by
 induction l with
 | nil => simp [mset, mget]
 | cons p l ih =>
  obtain ⟨a, u⟩ := p
  unfold mset
  by_cases h : a = k
  ·rw [if_pos h]
   subst h
   by_cases h2 : a = j <;> simp [mget, h2]
  rw [if_neg h]
  by_cases h2 : a = j
  ·subst h2
   simp [mget, Ne.symm h, (show ¬ k = a from fun e => h e.symm)]
  simp [mget, h2, ih]
theorem mget_none {l : List (κ × Value)} {k : κ} (h : ∀ p ∈ l, p.1 ≠ k) : mget l k = none := by
 induction l with
 | nil => rfl
 | cons p l ih =>
  obtain ⟨a, u⟩ := p
  have := h (a, u) (List.mem_cons_self ..)
  simp [mget, this, ih fun q hq => h q (List.mem_cons_of_mem _ hq)]
theorem mget_at {l : List (κ × Value)} (hn : (l.map (·.1)).Nodup) {j : Nat} {k : κ} {v : Value} (h : l[j]? = some (k, v)) : mget l k = some v := by
 induction l generalizing j with
 | nil => simp at h
 | cons p l ih =>
  obtain ⟨a, u⟩ := p
  rw [List.map_cons, List.nodup_cons] at hn
  cases j with
  | zero =>
   rw [List.getElem?_cons_zero] at h
   injection h with h
   injection h with h1 h2
   subst h1 h2
   simp [mget]
  | succ j =>
   rw [List.getElem?_cons_succ] at h
   have hm : k ∈ l.map (·.1) := List.mem_map.2 ⟨_, List.mem_of_getElem? h, rfl⟩
   have : ¬ a = k := fun e => hn.1 (e ▸ hm)
   simp [mget, this, ih hn.2 h]
theorem mset_new {l : List (κ × Value)} {k : κ} {v : Value} (h : ∀ p ∈ l, p.1 ≠ k) : mset l k v = l ++ [(k, v)] := by
 induction l with
 | nil => rfl
 | cons p l ih =>
  obtain ⟨a, u⟩ := p
  have := h (a, u) (List.mem_cons_self ..)
  simp [mset, this, ih fun q hq => h q (List.mem_cons_of_mem _ hq)]
theorem mset_at {l : List (κ × Value)} (hn : (l.map (·.1)).Nodup) {j : Nat} {k : κ} {u v : Value} (h : l[j]? = some (k, u)) : mset l k v = l.set j (k, v) := by
 induction l generalizing j with
 | nil => simp at h
 | cons p l ih =>
  obtain ⟨a, w⟩ := p
  rw [List.map_cons, List.nodup_cons] at hn
  cases j with
  | zero =>
   rw [List.getElem?_cons_zero] at h
   injection h with h
   injection h with h1 h2
   subst h1
   simp [mset]
  | succ j =>
   rw [List.getElem?_cons_succ] at h
   have hm : k ∈ l.map (·.1) := List.mem_map.2 ⟨_, List.mem_of_getElem? h, rfl⟩
   have : ¬ a = k := fun e => hn.1 (e ▸ hm)
   simp [mset, this, ih hn.2 h]
theorem mset_keys (l : List (κ × Value)) (k : κ) (v : Value) : (mset l k v).map (·.1) = if k ∈ l.map (·.1) then l.map (·.1) else l.map (·.1) ++ [k] := by
 induction l with
 | nil => simp [mset]
 | cons p l ih =>
  obtain ⟨a, u⟩ := p
  unfold mset
  by_cases h : a = k
  ·subst h
   simp
  rw [if_neg h, List.map_cons, ih]
  by_cases h2 : k ∈ l.map (·.1)
  ·simp [h2]
  simp only [List.map_cons, List.mem_cons, if_neg h2]
  rw [if_neg (fun e => e.elim (fun e => h e.symm) h2)]
  rfl
theorem mset_nodup {l : List (κ × Value)} (hn : (l.map (·.1)).Nodup) (k : κ) (v : Value) : ((mset l k v).map (·.1)).Nodup := by
 rw [mset_keys]
 split
 ·exact hn
 rename_i h
 exact List.nodup_append.2 ⟨hn, by simp, fun a ha b hb => by
  obtain rfl : b = k := by simpa using hb
  exact fun e => h (e ▸ ha)⟩
theorem mset_ok {ok : κ → Prop} {l : List (κ × Value)} (h : ∀ p ∈ l, ok p.1) {k : κ} (hk : ok k) (v : Value) : ∀ p ∈ mset l k v, ok p.1 := fun p hp => by
 have : p.1 ∈ (mset l k v).map (·.1) := List.mem_map.2 ⟨p, hp, rfl⟩
 rw [mset_keys] at this
 split at this
 ·obtain ⟨q, hq, e⟩ := List.mem_map.1 this
  rw [← e]
  exact h q hq
 rcases List.mem_append.1 this with h1 | h1
 ·obtain ⟨q, hq, e⟩ := List.mem_map.1 h1
  rw [← e]
  exact h q hq
 obtain rfl : p.1 = k := by simpa using h1
 exact hk
end
structure MapIs {κ : Type} (f : κ → Value) (ok : κ → Prop) (es : Array MapEntry) (l : List (κ × Value)) : Prop where
 eq : es.toList.map (fun e => (e.key, e.val)) = l.map fun p => (f p.1, p.2)
 nodup : (l.map (·.1)).Nodup
 ok : ∀ p ∈ l, ok p.1
def mpc {κ : Type} (f : κ → Value) (ok : κ → Prop) (b : Nat) (l : List (κ × Value)) : Ck := ⟨(· = b), fun w => ∃ es clock, w.heap[b]? = some (.map es clock) ∧ MapIs f ok es l ∧ Go.MapKept.Stamped es clock, fun w w' h ⟨es, c, h1, h2⟩ => ⟨es, c, (h b rfl).trans h1, h2⟩⟩
section
variable {κ : Type} {f : κ → Value} {ok : κ → Prop} {es : Array MapEntry} {l : List (κ × Value)} {P : Program} {k : TypeId}
theorem MapIs.get (h : MapIs f ok es l) {j : Nat} {e : MapEntry} (he : es[j]? = some e) : ∃ x, l[j]? = some (x, e.val) ∧ f x = e.key := by
 have h1 : (es.toList.map (fun e => (e.key, e.val)))[j]? = some (e.key, e.val) := by rw [List.getElem?_map, Array.getElem?_toList, he]; rfl
 rw [h.eq, List.getElem?_map] at h1
 obtain ⟨p, hp, e2⟩ := Option.map_eq_some_iff.1 h1
 injection e2 with e3 e4
 exact ⟨p.1, by rw [hp, ← e4], e3⟩
theorem MapIs.mem (h : MapIs f ok es l) {e : MapEntry} (he : e ∈ es.toList) : ∃ x, (x, e.val) ∈ l ∧ f x = e.key := by
 obtain ⟨j, hj⟩ := List.getElem?_of_mem he
 obtain ⟨x, h1, h2⟩ := h.get (j := j) (by rw [← Array.getElem?_toList]; exact hj)
 exact ⟨x, List.mem_of_getElem? h1, h2⟩
theorem MapIs.back (h : MapIs f ok es l) {p : κ × Value} (hp : p ∈ l) : ∃ e ∈ es.toList, f p.1 = e.key ∧ p.2 = e.val := by
 have : (f p.1, p.2) ∈ l.map fun p => (f p.1, p.2) := List.mem_map.2 ⟨p, hp, rfl⟩
 rw [← h.eq] at this
 obtain ⟨e, he, e1⟩ := List.mem_map.1 this
 injection e1 with e2 e3
 exact ⟨e, he, e2.symm, e3.symm⟩
theorem MapIs.nil : MapIs f ok #[] [] := ⟨rfl, by simp, by simp⟩
theorem MapIs.find (K : KeyF P k f ok) (h : MapIs f ok es l) {x : κ} (hx : ok x) (w : World) :
 ((Instr.findKey k (f x) es.toList).run P w = .ok none w ∧ (∀ p ∈ l, p.1 ≠ x)) ∨ ∃ j e, (Instr.findKey k (f x) es.toList).run P w = .ok (some (j, e.val)) w ∧ es[j]? = some e ∧ e.key = f x ∧ l[j]? = some (x, e.val) := by
 obtain ⟨lx, hlx⟩ := K.is x hx
 rcases K.keyed.find w hlx es.toList (fun e he => by
  obtain ⟨y, hy, e1⟩ := h.mem he
  rw [← e1]
  exact K.is y (h.ok _ hy)) with ⟨h1, h2⟩ | ⟨j, e, h1, h2, h3⟩
 ·exact .inl ⟨h1, fun p hp e1 => by
   obtain ⟨e, he, e2, _⟩ := h.back hp
   exact h2 e he (by rw [← e2, e1])⟩
 rw [Array.getElem?_toList] at h2
 obtain ⟨y, hy, e1⟩ := h.get h2
 have : y = x := K.inj _ _ (e1.trans h3)
 subst this
 exact .inr ⟨j, e, h1, h2, h3, hy⟩
variable [DecidableEq κ]
theorem run_mapGet {t e : TypeId} {w : World} {b : Nat} {clock : Nat} (K : KeyF P k f ok) (h : MapIs f ok es l) (hb : w.heap[b]? = some (.map es clock)) (ht : P.underlying t = some (.map k e)) {z : Value} (hz : (zeroValue e).run P w = .ok z w) {x : κ} (hx : ok x) (c : Bool) :
 (Instr.lookup t (.map (some b)) (f x) c).run P w = .ok (if c then .tuple #[(mget l x).getD z, .bool (mget l x).isSome] else (mget l x).getD z) w := by
 obtain ⟨lx, hlx⟩ := K.is x hx
 rcases h.find K hx w with ⟨h1, h2⟩ | ⟨j, e0, h1, h2, h3, h4⟩
 ·rw [mget_none h2]
  simp [Instr.lookup, run_underlying ht, MapKept.run_getObj_map hb, K.keyed.check w _ hlx, h1, hz, Result.andThen]
 rw [mget_at h.nodup h4]
 simp [Instr.lookup, run_underlying ht, MapKept.run_getObj_map hb, K.keyed.check w _ hlx, h1, Result.andThen]
theorem run_mapSet {t e : TypeId} {w : World} {b : Nat} {clock : Nat} (K : KeyF P k f ok) (h : MapIs f ok es l) (hb : w.heap[b]? = some (.map es clock)) (ht : P.underlying t = some (.map k e)) {x : κ} (hx : ok x) (v : Value) (hsp : Go.MapKept.Stamped es clock) :
 ∃ es' clock', (Instr.mapUpdate t (.map (some b)) (f x) v).run P w = .ok () (w.putObj b (.map es' clock')) ∧ MapIs f ok es' (mset l x v) ∧ Go.MapKept.Stamped es' clock' := by
 obtain ⟨lx, hlx⟩ := K.is x hx
 rcases h.find K hx w with ⟨h1, h2⟩ | ⟨j, e0, h1, h2, h3, h4⟩
 ·refine ⟨es.push ⟨f x, v, clock⟩, clock + 1, ?_, ⟨?_, mset_nodup h.nodup x v, mset_ok h.ok hx v⟩, Go.MapKept.stamped_push hsp fun e he e1 => by
   obtain ⟨y, hy, e2⟩ := h.mem he
   exact h2 _ hy (K.inj _ _ (e2.trans e1))⟩
  ·simp [Instr.mapUpdate, run_underlying ht, MapKept.run_getObj_map hb, K.keyed.check w false hlx, h1, MapKept.run_setObj_map _ hb, Result.andThen, World.putObj]
  rw [mset_new h2, Array.toList_push, List.map_append, List.map_append, h.eq]
  rfl
 have hst := K.keyed.stays w hlx
 refine ⟨es.modify j fun e => { e with key := f x, val := v }, clock, ?_, ⟨?_, mset_nodup h.nodup x v, mset_ok h.ok hx v⟩, Go.MapKept.stamped_modify hsp j _ (fun e _ => rfl) fun e _ he => by
  rw [h2] at he
  injection he with he
  rw [← he]
  exact h3.symm⟩
 ·simp [Instr.mapUpdate, run_underlying ht, MapKept.run_getObj_map hb, K.keyed.check w false hlx, h1, h2, h3, hst, MapKept.run_setObj_map _ hb, Result.andThen, World.putObj]
 rw [mset_at h.nodup h4]
 apply List.ext_getElem?
 intro q
 rw [List.getElem?_map, List.getElem?_map, Array.getElem?_toList, Array.getElem?_modify]
 by_cases hq : j = q
 ·subst hq
  have hl : j < l.length := (List.getElem?_eq_some_iff.1 h4).1
  rw [if_pos rfl, h2, List.getElem?_set_self hl]
  rfl
 rw [if_neg hq, List.getElem?_set_ne hq]
 have := congrArg (·[q]?) h.eq
 simp only [List.getElem?_map, Array.getElem?_toList] at this
 exact this
end
section
variable {P : Program} {n : Nat} {w0 : World} {S : Nat → Prop} {l : Fr} {m : List Ck} {Q : Exit → Act → World → Prop} {K : Act → World → Prop}
variable {dst : Option Tmp} {ty : TypeId} {pos : String} {after : Array Edge} {g : Option (Nat × Bool)}
theorem G.mapNew {κ : Type} (f : κ → Value) (ok : κ → Prop) {t d : Nat} (hn : Nat.blt d n = true) (h : ∀ b, G n w0 S ((d, .map (some b)) :: l) (mpc f ok b [] :: m) K) : G n w0 S l m (fun a w => Oper.wp P ⟨some d, .makeMap t none, ty, pos, after, g⟩ a w K Q) := G.eff rfl hn fun a w ha hw => by
 have hw' := hw.allocO (.map #[] 0)
 refine ⟨.map (some w.heap.size), w.alloc (.map #[] 0), mpc f ok w.heap.size [] :: m, run_v (run_makeMap t w), ?_, h _⟩
 refine ⟨hw'.chg, fun c hc => ?_, fun c hc b hb => ?_, ?_⟩
 ·rcases List.mem_cons.1 hc with rfl | hc
  ·have : (w.alloc (.map #[] 0)).heap[w.heap.size]? = some (.map #[] 0) := hw'.holds _ (List.mem_cons_self ..)
   exact ⟨#[], 0, this, MapIs.nil, Go.MapKept.stamped_empty 0⟩
  exact hw'.holds c (List.mem_cons_of_mem _ hc)
 ·rcases List.mem_cons.1 hc with rfl | hc
  ·exact hw'.own _ (List.mem_cons_self ..) b hb
  exact hw'.own c (List.mem_cons_of_mem _ hc) b hb
 have hd := List.pairwise_cons.1 hw'.dis
 exact List.pairwise_cons.2 ⟨fun c hc b hb => hd.1 c hc b hb, hd.2⟩
theorem Hp.mapPut {κ : Type} {f : κ → Value} {ok : κ → Prop} {w : World} {b : Nat} {es es' : Array MapEntry} {clock clock' : Nat} {xs xs' : List (κ × Value)} {q : List Ck} (hw : Hp w0 S w (mpc f ok b xs :: q)) (hb : w.heap[b]? = some (.map es clock)) (h : MapIs f ok es' xs') (hsp : Go.MapKept.Stamped es' clock') : Hp w0 S (w.putObj b (.map es' clock')) (mpc f ok b xs' :: q) := by
 have hd := List.pairwise_cons.1 hw.dis
 have h1 : Hp w0 S w (obc b (.map es clock) :: q) := ⟨hw.chg, fun c hc => by
  rcases List.mem_cons.1 hc with rfl | hc
  ·exact hb
  ·exact hw.holds c (List.mem_cons_of_mem _ hc), fun c hc i hi => by
  rcases List.mem_cons.1 hc with rfl | hc
  ·exact hw.own _ (List.mem_cons_self ..) i hi
  exact hw.own c (List.mem_cons_of_mem _ hc) i hi, List.pairwise_cons.2 ⟨fun c hc i hi => hd.1 c hc i hi, hd.2⟩⟩
 have h2 := h1.putO (.map es' clock')
 have hd2 := List.pairwise_cons.1 h2.dis
 refine ⟨h2.chg, fun c hc => ?_, fun c hc i hi => ?_, List.pairwise_cons.2 ⟨fun c hc i hi => hd2.1 c hc i hi, hd2.2⟩⟩
 ·rcases List.mem_cons.1 hc with rfl | hc
  ·exact ⟨es', clock', h2.holds _ (List.mem_cons_self ..), h, hsp⟩
  exact h2.holds c (List.mem_cons_of_mem _ hc)
 rcases List.mem_cons.1 hc with rfl | hc
 ·exact h2.own _ (List.mem_cons_self ..) i hi
 exact h2.own c (List.mem_cons_of_mem _ hc) i hi
theorem G.mapSet {κ : Type} [DecidableEq κ] {f : κ → Value} {ok : κ → Prop} {t k e b : Nat} {xm xk xv : Operand} {x : κ} {v : Value} {xs : List (κ × Value)} {r : List Ck} (Kf : KeyF P k f ok) (ht : P.underlying t = some (.map k e)) (hm : ev l xm = some (.map (some b))) (hk : ev l xk = some (f x)) (hv : ev l xv = some v) (hx : ok x) (hs : Sel m (mpc f ok b xs) r)
 (h : G n w0 S l (mpc f ok b (mset xs x v) :: r) K) : G n w0 S l m (fun a w => Oper.wp P ⟨none, .mapUpdate t xm xk xv, ty, pos, after, g⟩ a w K Q) := G.act rfl fun a w ha hw => by
 have hw' := hw.sel hs
 obtain ⟨es, clock, hb, hi, hsp⟩ : ∃ es clock, w.heap[b]? = some (.map es clock) ∧ MapIs f ok es xs ∧ Go.MapKept.Stamped es clock := hw'.holds _ (List.mem_cons_self ..)
 obtain ⟨es', clock', hr, hi', hsp'⟩ := run_mapSet Kf hi hb ht hx v hsp
 refine ⟨_, _, ?_, hw'.mapPut (clock' := clock') hb hi' hsp', h⟩
 have e1 := ha.eval hm
 have e2 := ha.eval hk
 have e3 := ha.eval hv
 show (execOp a.eval _).run P w = _
 simp only [execOp, e1, e2, e3]
 exact run_u hr
theorem pv_mapGet {κ : Type} [DecidableEq κ] {f : κ → Value} {ok : κ → Prop} {t k e b : Nat} {xm xk : Operand} {c : Bool} {x : κ} {z : Value} {xs : List (κ × Value)} (Kf : KeyF P k f ok) (ht : P.underlying t = some (.map k e)) (hz : ∀ w, (zeroValue e).run P w = .ok z w) (hm : ev l xm = some (.map (some b))) (hk : ev l xk = some (f x)) (hx : ok x)
 (hs : ∀ w, Hp w0 S w m → (mpc f ok b xs).φ w) : PV P n w0 S l m ⟨dst, .lookup t xm xk c, ty, pos, after, g⟩ (if c then .tuple #[(mget xs x).getD z, .bool (mget xs x).isSome] else (mget xs x).getD z) := fun a w ha hw => by
 obtain ⟨es, clock, hb, hi, _⟩ := hs w hw
 have e1 := ha.eval hm
 have e2 := ha.eval hk
 show (execOp a.eval _).run P w = _
 simp only [execOp, e1, e2]
 exact run_v (run_mapGet Kf hi hb ht (hz w) hx c)
theorem sel_map {κ : Type} {f : κ → Value} {ok : κ → Prop} {b : Nat} {xs : List (κ × Value)} {r : List Ck} (h : Sel m (mpc f ok b xs) r) : ∀ w, Hp w0 S w m → (mpc f ok b xs).φ w := fun w hw => hw.holds _ h.mem
end
structure It where
 path : List UInt8
 kind : Int
 mode : Int
 size : Int
 «to» : List UInt8
 ids : List (List UInt8)
abbrev IT := It × Value
def itC (x : IT) : List Value := [vStr x.1.path, vInt x.1.kind, vInt x.1.mode, vInt x.1.size, vStr x.1.to, x.2]
theorem itC_len (x : IT) : (itC x).length = 6 := rfl
def ItOk (e : It) : Prop := I64 e.kind ∧ I64 e.mode ∧ I64 e.size ∧ e.path.length ≤ 140737488355328 ∧ e.to.length ≤ 140737488355328 ∧ e.ids.length ≤ 140737488355328
def rIT : Rdr IT where
 sz := 6
 R := fun Ps w b o x => Ps b ∧ w.rangeAt b o (itC x) ∧ IsSl rID Ps w x.2 x.1.ids ∧ ItOk x.1
 loc := fun h ⟨h1, h2, h3, h4⟩ => ⟨h1, rangeAt_loc (h _ h1) h2, h3.loc h, h4⟩
 mono := fun h ⟨h1, h2, h3, h4⟩ => ⟨h _ h1, h2, h3.mono h, h4⟩
def its (xs : List IT) : List It := xs.map (·.1)
theorem its_length (xs : List IT) : (its xs).length = xs.length := List.length_map ..
theorem its_get {xs : List IT} {i : Nat} (h : i < xs.length) : (its xs)[i]'(by rw [its_length]; exact h) = xs[i].1 := List.getElem_map ..
theorem it_eq {a b : It} : a = b ↔ a.path = b.path ∧ a.kind = b.kind ∧ a.mode = b.mode ∧ a.size = b.size ∧ a.to = b.to ∧ a.ids = b.ids := by
 cases a
 cases b
 simp
instance : DecidableEq It := fun a b => decidable_of_iff (a.path = b.path ∧ a.kind = b.kind ∧ a.mode = b.mode ∧ a.size = b.size ∧ a.to = b.to ∧ a.ids = b.ids) it_eq.symm
abbrev CT := (List UInt8 × List UInt8) × Value
def pad16 (l : List UInt8) : List UInt8 := (l ++ List.replicate 16 0).take 16
theorem pad16_len (l : List UInt8) : (pad16 l).length = 16 := by
 unfold pad16
 rw [List.length_take, List.length_append, List.length_replicate]
 omega
theorem pad16_eq {l : List UInt8} (h : l.length = 16) : pad16 l = l := List.take_left' h
def chC (x : CT) : List Value := (pad16 x.1.1).map vByte ++ [x.2]
theorem chC_len (x : CT) : (chC x).length = 17 := by
 unfold chC
 rw [List.length_append, List.length_map, pad16_len]
 rfl
def rCT : Rdr CT where
 sz := 17
 R := fun Ps w b o x => Ps b ∧ w.rangeAt b o (chC x) ∧ IsSl rByte Ps w x.2 x.1.2 ∧ x.1.1.length = 16 ∧ x.1.2.length ≤ 140737488355328
 loc := fun h ⟨h1, h2, h3, h4⟩ => ⟨h1, rangeAt_loc (h _ h1) h2, h3.loc h, h4⟩
 mono := fun h ⟨h1, h2, h3, h4⟩ => ⟨h _ h1, h2, h3.mono h, h4⟩
def cks (xs : List CT) : List (List UInt8 × List UInt8) := xs.map (·.1)
theorem map1_ne {α β γ : Type} {xs : List (α × β)} {ys : List (α × γ)} {i : Nat} (h1 : i < xs.length) (h2 : i < ys.length) (h : xs[i].1 ≠ ys[i].1) : xs.map (·.1) ≠ ys.map (·.1) := fun e => h (by
 have e1 : (xs.map (·.1))[i]? = (ys.map (·.1))[i]? := by rw [e]
 rw [List.getElem?_map, List.getElem?_map, List.getElem?_eq_getElem h1, List.getElem?_eq_getElem h2] at e1
 exact Option.some.inj e1)
theorem map1_eq {α β γ : Type} {xs : List (α × β)} {ys : List (α × γ)} (hl : xs.length = ys.length) (h : ∀ q (h1 : q < xs.length), xs[q].1 = (ys[q]'(by omega)).1) : xs.map (·.1) = ys.map (·.1) := by
 apply List.ext_getElem (by simpa using hl)
 intro q h1 h2
 rw [List.getElem_map, List.getElem_map]
 exact h q (by simpa using h1)
structure Mh where
 c : Int
 k : Int
 n : Int
 t : Int
theorem mh_eq {a b : Mh} : a = b ↔ a.c = b.c ∧ a.k = b.k ∧ a.n = b.n ∧ a.t = b.t := by
 cases a
 cases b
 simp
instance : DecidableEq Mh := fun a b => decidable_of_iff (a.c = b.c ∧ a.k = b.k ∧ a.n = b.n ∧ a.t = b.t) mh_eq.symm
def datI (e : TypeId) (xs : List IT) : Ck := star (xs.map fun x => own e 16 x.2 x.1.ids.length (flatI x.1.ids))
def datD (e : TypeId) (xs : List CT) : Ck := star (xs.map fun x => ownB e x.2 x.1.2)
section
variable {P : Program} {n : Nat} {w0 : World} {S : Nat → Prop} {l : Fr} {m : List Ck} {K : Act → World → Prop}
theorem Ro.itRng {Ps : Nat → Prop} {b o : Nat} {x : IT} (h : Ro w0 S (elc rIT Ps b o x)) : Ro w0 S (rng b o [.string (sB x.1.path), .int .i64 x.1.kind, .int .i64 x.1.mode, .int .i64 x.1.size, .string (sB x.1.to), x.2]) := ⟨h.1.2.1, fun k hk => h.2 k (by obtain rfl : k = b := hk; exact h.1.1)⟩
theorem Ro.itIds {Ps : Nat → Prop} {b o : Nat} {x : IT} (h : Ro w0 S (elc rIT Ps b o x)) : Ro w0 S (slc rID Ps x.2 x.1.ids) := ⟨h.1.2.2.1, h.2⟩
theorem Ro.itOk {Ps : Nat → Prop} {b o : Nat} {x : IT} (h : Ro w0 S (elc rIT Ps b o x)) : ItOk x.1 := h.1.2.2.2
theorem Ro.ckRng {Ps : Nat → Prop} {b o : Nat} {x : CT} (h : Ro w0 S (elc rCT Ps b o x)) : Ro w0 S (rng b o (chC x)) := ⟨h.1.2.1, fun k hk => h.2 k (by obtain rfl : k = b := hk; exact h.1.1)⟩
theorem Ro.ckDat {Ps : Nat → Prop} {b o : Nat} {x : CT} (h : Ro w0 S (elc rCT Ps b o x)) : Ro w0 S (slc rByte Ps x.2 x.1.2) := ⟨h.1.2.2.1, h.2⟩
theorem Ro.ckID {Ps : Nat → Prop} {b o : Nat} {x : CT} (h : Ro w0 S (elc rCT Ps b o x)) : x.1.1.length = 16 := h.1.2.2.2.1
theorem Ro.ckLen {Ps : Nat → Prop} {b o : Nat} {x : CT} (h : Ro w0 S (elc rCT Ps b o x)) : x.1.2.length ≤ 140737488355328 := h.1.2.2.2.2
theorem Ro.one1I {Ps : Nat → Prop} {v : Value} {a : List (List UInt8)} (h : Ro w0 S (slc rID Ps v a)) : v.oneCell' = true := by
 obtain ⟨ad, cap, rfl⟩ := Ro.slv h
 rfl
theorem rows_news {α : Type} {f : α → List Value} {k : Nat} (hf : ∀ x, (f x).length = k) {w : World} {b o : Nat} {xs : List α} (h : ∀ i (hi : i < xs.length), w.rangeAt b (o + i * k) (f xs[i])) : News w b o (xs.flatMap f) := fun j u hj => by
 have hl : j < xs.length * k := by
  have := (List.getElem?_eq_some_iff.1 hj).1
  rwa [rows_len hf] at this
 have hk : 0 < k := by
  rcases Nat.eq_zero_or_pos k with h0 | h0
  ·subst h0; omega
  exact h0
 obtain ⟨q, r, rfl, hr, hq⟩ : ∃ q r, j = q * k + r ∧ r < k ∧ q < xs.length := ⟨j / k, j % k, by rw [Nat.mul_comm]; exact (Nat.div_add_mod j k).symm, Nat.mod_lt _ hk, Nat.div_lt_of_lt_mul (by rw [Nat.mul_comm]; exact hl)⟩
 rw [flatMap_get f k hf xs q r hq hr] at hj
 have h2 := h q hq r u hj
 rwa [Nat.add_assoc] at h2
theorem newsI {b o : Nat} {Ps : Nat → Prop} {xs : List IT} (hel : ∀ i (hi : i < xs.length), Ro w0 S (elc rIT Ps b (o + i * 6) xs[i])) : ∀ w, Hp w0 S w m → News w b o (xs.flatMap itC) := fun w hw => rows_news itC_len fun i hi => ((hel i hi).at hw : rIT.R Ps w b (o + i * 6) xs[i]).2.1
theorem itC_one {x : IT} (h : x.2.oneCell' = true) : ∀ u ∈ itC x, u.oneCell' = true := fun u hu => by
 simp only [itC, List.mem_cons, List.not_mem_nil, or_false] at hu
 rcases hu with rfl | rfl | rfl | rfl | rfl | rfl
 ·rfl
 ·rfl
 ·rfl
 ·rfl
 ·rfl
 exact h
theorem chC_one {x : CT} (h : x.2.oneCell' = true) : ∀ u ∈ chC x, u.oneCell' = true := fun u hu => by
 rcases List.mem_append.1 hu with hu | hu
 ·exact vByte_one _ u hu
 obtain rfl : u = x.2 := by simpa using hu
 exact h
theorem Ro.allI {b o : Nat} {Ps : Nat → Prop} {xs : List IT} (hel : ∀ i (hi : i < xs.length), Ro w0 S (elc rIT Ps b (o + i * 6) xs[i])) : ∀ x ∈ xs, ItOk x.1 ∧ Go.Proofs.YtcgacpmippdkeaaGreat.all16 x.1.ids ∧ x.2.oneCell' = true := fun x hx => by
 obtain ⟨i, hi, rfl⟩ := List.getElem_of_mem hx
 exact ⟨Ro.itOk (hel i hi), Ro.all16 (Ro.itIds (hel i hi)), Ro.one1I (Ro.itIds (hel i hi))⟩
theorem Ro.allOneI {b o : Nat} {Ps : Nat → Prop} {xs : List IT} (hel : ∀ i (hi : i < xs.length), Ro w0 S (elc rIT Ps b (o + i * 6) xs[i])) : ∀ u ∈ xs.flatMap itC, u.oneCell' = true := rows_all (p := fun u => u.oneCell' = true) fun x hx => itC_one (Ro.allI hel x hx).2.2
theorem Ro.allCk {b o : Nat} {Ps : Nat → Prop} {xs : List CT} (hel : ∀ i (hi : i < xs.length), Ro w0 S (elc rCT Ps b (o + i * 17) xs[i])) : ∀ x ∈ xs, x.1.1.length = 16 ∧ x.1.2.length ≤ 140737488355328 ∧ x.2.oneCell' = true := fun x hx => by
 obtain ⟨i, hi, rfl⟩ := List.getElem_of_mem hx
 exact ⟨Ro.ckID (hel i hi), Ro.ckLen (hel i hi), Ro.one1 (Ro.ckDat (hel i hi))⟩
theorem G.starNil (h : G n w0 S l (star [] :: m) K) : G n w0 S l m K := G.mem (fun w hw => Hp.star (m := []) hw) h
theorem G.starSnoc {α : Type} {f : α → Ck} {ys : List α} {x : α} {c : Ck} {r r' : List Ck} (hc : c = f x) (h1 : Sel m (star (ys.map f)) r) (h2 : Sel r c r') (h : G n w0 S l (star ((ys ++ [x]).map f) :: r') K) : G n w0 S l m K := G.mem (fun w hw => by
 subst hc
 have h3 := Hp.unstar (hw.sel h1)
 have p : (ys.map f ++ r).Perm (((ys ++ [x]).map f) ++ r') := by
  rw [List.map_append, List.append_assoc]
  exact List.Perm.append_left _ h2.perm
 exact Hp.star (h3.perm p)) h
theorem datI_sl {w : World} {e : TypeId} {xs : List IT} (h : (datI e xs).φ w) (h16 : ∀ x ∈ xs, all16 x.1.ids) : ∀ x ∈ xs, IsSl rID (datI e xs).S w x.2 x.1.ids := fun x hx => by
 have h1 : (own e 16 x.2 x.1.ids.length (flatI x.1.ids)).φ w := h.1 _ (List.mem_map.2 ⟨x, hx, rfl⟩)
 exact (own_isI h1 (h16 x hx)).mono fun k hk => ⟨_, List.mem_map.2 ⟨x, hx, rfl⟩, hk⟩
theorem rows_sl {α : Type} {f : α → List Value} {k : Nat} {E : Rdr α} (hf : ∀ x, (f x).length = k) (hE : E.sz = k) {e : TypeId} {v : Value} {xs : List α} {w : World} {Ps : Nat → Prop} (h : w.ownsRow 0 e k v xs.length (xs.flatMap f)) (hP : ∀ b, v.ownBlock = some b → Ps b)
 (hx : ∀ b o x, x ∈ xs → Ps b → w.rangeAt b o (f x) → E.R Ps w b o x) : IsSl E Ps w v xs := by
 obtain ⟨ad, cap, b, hv, had, hnil, hnw⟩ := own_news h
 obtain ⟨h1, h2⟩ := h
 have hb : xs.length ≤ cap ∧ cap ≤ 9223372036854775807 := by
  rcases h2 with ⟨rfl, h0⟩ | ⟨g, cap', cur, rfl, _, _, hc, hm, _⟩
  ·injection hv with e1 e2 e3
   subst e3
   omega
  injection hv with e1 e2 e3
  subst e3
  exact ⟨hc, by unfold maxLen at hm; omega⟩
 refine ⟨ad, cap, b, 0, hv, hb.1, hb.2, hnil, had, fun i hi => hx _ _ _ (List.getElem_mem hi) (hP b ?_) fun j u hj => ?_⟩
 ·rw [hv, had (by omega)]
  rfl
 have hjk : j < k := by
  have := (List.getElem?_eq_some_iff.1 hj).1
  rwa [hf] at this
 have := hnw (i * k + j) u (by rw [flatMap_get f k hf xs i j hi hjk]; exact hj)
 rw [hE, show 0 + i * k + j = 0 + (i * k + j) from by omega]
 exact this
theorem may_items {e e2 : TypeId} {v : Value} {xs : List IT} {r r' : List Ck} (h : Sel m (own e 6 v xs.length (xs.flatMap itC)) r) (h' : Sel m (datI e2 xs) r') (hok : ∀ x ∈ xs, ItOk x.1 ∧ all16 x.1.ids) : May w0 S m (slc rIT (fun b => v.ownBlock = some b ∨ (datI e2 xs).S b) v xs) :=
 .mix (fun w hw => rows_sl itC_len rfl (hw.holds _ h.mem) (fun b hb => .inl hb) fun b o x hx hP hr => ⟨hP, hr, (datI_sl (hw.holds _ h'.mem) (fun x hx => (hok x hx).2) x hx).mono fun k hk => .inr hk, (hok x hx).1⟩) fun b hb => .inr (by
  rcases hb with hb | hb
  ·exact ⟨_, h.mem, hb⟩
  exact ⟨_, h'.mem, hb⟩)
end
theorem chC_id {x : CT} (h : x.1.1.length = 16) : ((chC x).drop 0).take 16 = x.1.1.map vByte := by
 unfold chC
 rw [List.drop_zero, pad16_eq h]
 exact List.take_left' (by rw [List.length_map]; exact h)
theorem chC_dat (x : CT) : (chC x)[16]? = some x.2 := by
 unfold chC
 rw [List.getElem?_append_right (by rw [List.length_map, pad16_len]; exact Nat.le_refl _), List.length_map, pad16_len]
 rfl
theorem Tryz.infoIt : (Tryz.prog.info? 78).map (fun i => (i.zero.map (·.cells.size), i.size, i.bytes)) = some (some 6, 6, 80) := by kernel_rfl
theorem Tryz.infoCk : (Tryz.prog.info? 106).map (fun i => (i.zero.map (·.cells.size), i.size, i.bytes)) = some (some 17, 17, 40) := by kernel_rfl
theorem neq_list (a b : List UInt8) : Value.bool (!(decide (a = b))) = .bool (decide (a ≠ b)) := by
 congr 1
 rw [Bool.eq_iff_iff]
 simp
set_option maxHeartbeats 4000000 in
theorem sameM_tr {Ps Pu : Nat → Prop} (a b : Mh) (v u : Value) (xs ys : List IT) : Tr Tryz.prog 18 #[.agg #[.int .i64 a.c, .int .i64 a.k, .int .i64 a.n, .int .i64 a.t, v], .agg #[.int .i64 b.c, .int .i64 b.k, .int .i64 b.n, .int .i64 b.t, u]] [slc rIT Ps v xs, slc rIT Pu u ys] [] (T0 (.bool (decide (a = b ∧ its xs = its ys)))) := by
 refine Tr.of (l := [(0, .agg #[.int .i64 a.c, .int .i64 a.k, .int .i64 a.n, .int .i64 a.t, v]), (1, .agg #[.int .i64 b.c, .int .i64 b.k, .int .i64 b.n, .int .i64 b.t, u])]) Tryz.func18 rfl (n := 101) rfl (.cons rfl (.cons rfl .nil)) (fun w0 hro => ?_)
 obtain ⟨hv0, hu0⟩ := ro2 hro
 have hv := hv0
 have hv' := hv
 obtain ⟨av, cv, bv, fv, rfl, hcapv, hmaxv, hnilv, hadv, helv⟩ := Ro.open hv
 have hu := hu0
 have hu' := hu
 obtain ⟨au, cu, bu, fu, rfl, hcapu, hmaxu, hnilu, hadu, helu⟩ := Ro.open hu
 have hmh := mh_eq (a := a) (b := b)
 refine go [9,10,60,5] ?_
 intro b2
 refine go [60,5] ?_
 intro b3
 refine go [1,7,8,9,9] ?_
 refine G.cutK (X := Unit) (ts := [2, 3, 4]) (p := []) (fun _ => True) (fun _ => [(42, .bool (decide (¬ (a = b ∧ xs.length = ys.length))))]) (fun _ => []) (.cons rfl (.cons rfl (.cons rfl .nil))) subT (.cons .nil) apT ?_ ?_
 ·refine go [10,2,3,0,2,4,2,3,0,2,4,2,14,0] ?_
  refine G.partP (t := 13) rfl (fun h13 => ?_) (fun h13 => ?_)
  ·refine go [4,4,4,4,4,2,2,0,4,4,4,4,4,2,2,0,4,4,4,4,4,2,2,0,4,4,4,4,4,4,4,2,2,7] ?_
   exact G.meet (()) trT (.consE rfl Y18 (.cons rfl (.cons rfl (.cons rfl .nil)))) subT
  refine go [3,3,1,3,4,3,3,1,3,4,3,14,2,2,0] ?_
  refine G.partP (t := 20) rfl (fun h20 => ?_) (fun h20 => ?_)
  ·refine go [4,4,4,4,4,2,2,0,4,4,4,4,4,2,2,0,4,4,4,4,4,4,4,2,2,7] ?_
   exact G.meet (()) trT (.consE rfl Y18 (.cons rfl (.cons rfl (.cons rfl .nil)))) subT
  refine go [3,3,2,3,4,3,3,2,3,4,3,14,2,2,0] ?_
  refine G.partP (t := 27) rfl (fun h27 => ?_) (fun h27 => ?_)
  ·refine go [4,4,4,4,4,2,2,0,4,4,4,4,4,4,4,2,2,7] ?_
   exact G.meet (()) trT (.consE rfl Y18 (.cons rfl (.cons rfl (.cons rfl .nil)))) subT
  refine go [3,3,3,3,4,3,3,3,3,4,3,14,2,2,0] ?_
  refine G.partP (t := 34) rfl (fun h34 => ?_) (fun h34 => ?_)
  ·refine go [4,4,4,4,4,4,4,2,2,7] ?_
   exact G.meet (()) trT (.consE rfl Y18 (.cons rfl (.cons rfl (.cons rfl .nil)))) subT
  refine go [3,3,4,3,4,3,5,3,3,4,3,4,3,5,3,14,2,2,7] ?_
  exact G.meet (()) trT (.consE rfl Y18 (.cons rfl (.cons rfl (.cons rfl .nil)))) subT
 intro _ hJ
 try dsimp only at hJ
 try dsimp only
 refine G.condP rfl (fun h42 => ?_) (fun h42 => ?_)
 ·refine go [9,10,1,7,8,11,12] ?_
  exact G.done0G rfl (Rv.tmp rfl Rv.nil) (by rw [decide_eq_false (fun h => h42 ⟨h.1, by have := congrArg List.length h.2; rwa [its_length, its_length] at this⟩)]; rfl)
 obtain ⟨hab, hxy⟩ : a = b ∧ xs.length = ys.length := Decidable.of_not_not h42
 refine go [13,8,9,9,10,1,7,8,15] ?_
 refine G.loopK (X := Nat) (ts := [2, 3]) (fun i => i ≤ xs.length ∧ (∀ q (hq : q < xs.length), q < i → xs[q].1 = (ys[q]'(by omega)).1)) (fun i => [(5, .int .i64 (i : Int))]) (fun i => []) (fun i => xs.length - i) (x0 := 0) (.cons rfl (.cons rfl .nil)) subT (.cons .nil) apT (by first | exact trivial | ((try dsimp only) <;> exact ⟨Nat.zero_le _, fun q _ h => absurd h (by omega)⟩)) (.consE rfl veqT .nil) (fun i hJ => ?_)
 try dsimp only at hJ
 try dsimp only
 obtain ⟨hki, hJ⟩ := hJ
 have hJ0 := hJ
 refine go [9,9,10,0,2,3,4,2,4,2,5,2,9,7,8] ?_
 refine G.condP rfl (fun h47 => ?_) (fun h47 => ?_)
 ·have hlt : i < xs.length := by omega
  have hlu : i < ys.length := by omega
  have hEv := helv i hlt
  have hRv := Ro.itRng hEv
  have hDv := Ro.itIds hEv
  have hOv := Ro.itOk hEv
  obtain ⟨hk1v, hk2v, hk3v, hlpv, hltv, hlnv⟩ := hOv
  have hCv := Ro.one1I hDv
  have hEu := helu i hlu
  have hRu := Ro.itRng hEu
  have hDu := Ro.itIds hEu
  have hOu := Ro.itOk hEu
  obtain ⟨hk1u, hk2u, hk3u, hlpu, hltu, hlnu⟩ := hOu
  have hCu := Ro.one1I hDu
  have he := it_eq (a := xs[i].1) (b := ys[i].1)
  refine go [13,8,9,15,9] ?_
  refine G.cutK (X := Nat × Nat) (ts := [2, 3, 5]) (p := []) (fun st => True) (fun st => [(6, .pointer (some ⟨st.1, 0, none⟩)), (7, .pointer (some ⟨st.2, 0, none⟩))]) (fun st => [blk st.1 78 [.string (sB xs[i].1.path), .int .i64 xs[i].1.kind, .int .i64 xs[i].1.mode, .int .i64 xs[i].1.size, .string (sB xs[i].1.to), xs[i].2], blk st.2 78 [.string (sB ys[i].1.path), .int .i64 ys[i].1.kind, .int .i64 ys[i].1.mode, .int .i64 ys[i].1.size, .string (sB ys[i].1.to), ys[i].2]]) (.cons rfl (.cons rfl (.cons rfl .nil))) subT (.cons (.cons .nil)) apT ?_ ?_
  ·refine G.drawT (nn := 14) (p := []) (rem := 16383) [0, 1, 0, 6, 8, 0, 32, 0, 192, 256, 0, 0, 3103, 8191] [0, 1, 0, 6, 8, 0, 32, 0, 192, 256, 0, 0, 1040, 2560] kr ⟨rfl, by kernel_rfl, by kernel_rfl⟩ subT kr (fun hT6 => ?_)
   refine go [22,0,16382,3,4,22,2,16378,0,22,5,16346,3,4,22,7,16218,0,22,1,16216,4] ?_
   refine G.takeT hT6 (i := 3) (rem' := 16208) rfl rfl rfl kr (fun _ _ _ h => h) rfl (pv_ixSl (sz := 6) (k := i) Tryz.underlying40 kr rfl rfl adT (by omega) (by omega)) subT ?_
   refine go [22,4,16192,50,6,22,6,16128,4] ?_
   refine G.takeT hT6 (i := 8) (rem' := 15872) rfl rfl rfl kr (fun _ _ _ h => h) rfl (pv_ixSl (sz := 6) (k := i) Tryz.underlying40 kr rfl rfl adT (by omega) (by omega)) subT ?_
   refine go [22,9,15360,50,6] ?_
   refine G.twoT hT6 (i := 10) (j := 11) (rem' := 14336) (rem'' := 13312) kr kr kr ?_ ?_
   ·refine go [60,16] ?_
    intro b6
    refine go [26,24,11,12288,60,16] ?_
    intro b7
    refine go [26,24,12,8192,29,26,24,13,0,29,26,27] ?_
    exact G.meet ((b6, b7)) trT (.consE rfl veqT (.consE rfl veqT (.cons rfl (.cons rfl (.cons rfl .nil))))) subT
   refine go [60,16] ?_
   intro b7
   refine go [26,24,10,12288,60,16] ?_
   intro b6
   refine go [26,24,12,8192,29,26,24,13,0,29,26,27] ?_
   exact G.meet ((b6, b7)) trT (.consE rfl veqT (.consE rfl veqT (.cons rfl (.cons rfl (.cons rfl .nil))))) subT
  intro st hJ
  obtain ⟨p, q⟩ := st
  try dsimp only at hJ
  try dsimp only
  refine G.seq ?_
  refine G.cutK (X := Unit) (ts := [2, 3, 5]) (p := []) (fun _ => True) (fun _ => [(100, .bool (decide (xs[i].1 ≠ ys[i].1)))]) (fun _ => []) (.cons rfl (.cons rfl (.cons rfl .nil))) subT (.cons .nil) apT ?_ ?_
  ·refine go [10,2,3,0,2,4,2,3,0,2,4,2,23,0] ?_
   refine G.partP (t := 65) rfl (fun h65 => ?_) (fun h65 => ?_)
   ·refine go [4,4,4,4,4,2,2,0,4,4,4,4,4,2,2,0,4,4,4,4,4,2,2,0,4,4,4,4,4,2,2,0,4,4,4,4,4,4,2,2,7] ?_
    exact G.meet (()) trT (.consE rfl Y11 (.cons rfl (.cons rfl (.cons rfl .nil)))) subT
   refine go [3,3,1,3,4,3,3,1,3,4,3,14,2,2,0] ?_
   refine G.partP (t := 72) rfl (fun h72 => ?_) (fun h72 => ?_)
   ·refine go [4,4,4,4,4,2,2,0,4,4,4,4,4,2,2,0,4,4,4,4,4,2,2,0,4,4,4,4,4,4,2,2,7] ?_
    exact G.meet (()) trT (.consE rfl Y11 (.cons rfl (.cons rfl (.cons rfl .nil)))) subT
   refine go [3,3,2,3,4,3,3,2,3,4,3,14,2,2,0] ?_
   refine G.partP (t := 79) rfl (fun h79 => ?_) (fun h79 => ?_)
   ·refine go [4,4,4,4,4,2,2,0,4,4,4,4,4,2,2,0,4,4,4,4,4,4,2,2,7] ?_
    exact G.meet (()) trT (.consE rfl Y11 (.cons rfl (.cons rfl (.cons rfl .nil)))) subT
   refine go [3,3,3,3,4,3,3,3,3,4,3,14,2,2,0] ?_
   refine G.partP (t := 86) rfl (fun h86 => ?_) (fun h86 => ?_)
   ·refine go [4,4,4,4,4,2,2,0,4,4,4,4,4,4,2,2,7] ?_
    exact G.meet (()) trT (.consE rfl Y11 (.cons rfl (.cons rfl (.cons rfl .nil)))) subT
   refine go [3,3,4,3,4,3,3,4,3,4,3,23,2,2,0] ?_
   refine G.partP (t := 93) rfl (fun h93 => ?_) (fun h93 => ?_)
   ·refine go [4,4,4,4,4,4,2,2,7] ?_
    exact G.meet (()) trT (.consE rfl Y11 (.cons rfl (.cons rfl (.cons rfl .nil)))) subT
   refine go [3,3,5,3,4,3,3,5,3,4] ?_
   refine G.want rfl rfl rfl (G.cR rfl rfl rfl rfl Tryz.func32 rfl rfl (may2 Y1 Y1) (sameIDs_tr _ _ _ _) ?_)
   refine go [3,15,2,2,7] ?_
   exact G.meet (()) trT (.consE rfl Y11 (.cons rfl (.cons rfl (.cons rfl .nil)))) subT
  intro _ hJ
  try dsimp only at hJ
  try dsimp only
  refine G.condP rfl (fun h100 => ?_) (fun h100 => ?_)
  ·have hne : xs[i].1 ≠ ys[i].1 := by assumption
   refine go [9,10,1,7,8,11,17,12,12,17,12] ?_
   exact G.done0G rfl (Rv.tmp rfl Rv.nil) (by rw [decide_eq_false (fun h => map1_ne hlt hlu hne h.2)]; rfl)
  have heq : xs[i].1 = ys[i].1 := Decidable.of_not_not (by assumption)
  refine go [13,16,8,10,0,2,6,1,7] ?_
  exact G.next (i + 1) (by first | exact trivial | ((try dsimp only) <;> exact ⟨by omega, fun q hq hqi => by rcases Nat.lt_or_ge q i with h1 | h1; exact hJ0 q hq h1; obtain rfl : q = i := (by omega); exact heq⟩)) (by (try dsimp only); omega) (.consE rfl veqT (.cons rfl (.cons rfl .nil))) subT
 refine go [18,14,14,19,8,9,10,1,7,8,11] ?_
 exact G.done0G rfl (Rv.tmp rfl Rv.nil) (by rw [decide_eq_true ⟨hab, map1_eq hxy (fun q hq => hJ q hq (by omega))⟩]; rfl)
section
variable {P : Program} {n : Nat} {w0 : World} {S : Nat → Prop} {l : Fr} {m : List Ck} {K : Act → World → Prop}
end
theorem drop_cons {α : Type} {zs : List α} {i : Nat} (h : i < zs.length) : zs.drop i = zs[i] :: zs.drop (i + 1) := List.drop_eq_getElem_cons h
section
variable {P : Program} {n : Nat} {w0 : World} {S : Nat → Prop} {l : Fr} {m : List Ck} {K : Act → World → Prop}
theorem G.datINil (e : TypeId) (h : G n w0 S l (datI e [] :: m) K) : G n w0 S l m K := G.starNil h
theorem G.datISnoc {e : TypeId} {ys : List IT} {x : IT} {r r' : List Ck} (h1 : Sel m (datI e ys) r) (h2 : Sel r (own e 16 x.2 x.1.ids.length (flatI x.1.ids)) r') (h : G n w0 S l (datI e (ys ++ [x]) :: r') K) : G n w0 S l m K := G.starSnoc rfl h1 h2 h
theorem G.datDNil (e : TypeId) (h : G n w0 S l (datD e [] :: m) K) : G n w0 S l m K := G.starNil h
theorem G.datDSnoc {e : TypeId} {ys : List CT} {x : CT} {r r' : List Ck} (h1 : Sel m (datD e ys) r) (h2 : Sel r (ownB e x.2 x.1.2) r') (h : G n w0 S l (datD e (ys ++ [x]) :: r') K) : G n w0 S l m K := G.starSnoc rfl h1 h2 h
end
theorem map1_set {α β : Type} {xs : List (α × β)} {i : Nat} (h : i < xs.length) (d : β) : (xs.set i (xs[i].1, d)).map (·.1) = xs.map (·.1) := by
 rw [List.map_set]
 apply List.ext_getElem?
 intro j
 by_cases hj : i = j
 ·subst hj
  rw [List.getElem?_set_self (by simpa using h)]
  simp [h]
 rw [List.getElem?_set_ne hj]
theorem map1_len {α β γ : Type} {xs : List (α × β)} {ys : List (α × γ)} (h : xs.map (·.1) = ys.map (·.1)) : xs.length = ys.length := by
 have := congrArg List.length h
 simpa using this
def Few (xs : List IT) : Prop := ∀ x ∈ xs, x.1.ids.length ≤ 1000000
set_option maxHeartbeats 4000000 in
theorem cloneI_tr {Ps : Nat → Prop} (v : Value) (ids : List (List UInt8)) (hn : ids.length ≤ 1000000) : Tr Tryz.prog 63 #[v] [slc rID Ps v ids] [] (TX (fun _ : Value => True) (fun x => x) (fun x => [own 59 16 x ids.length (flatI ids)])) := by
 refine Tr.of (l := [(0, v)]) Tryz.func63 rfl (n := 8) rfl (.cons rfl .nil) (fun w0 hro => ?_)
 have hv0 := ro1 hro
 have hDv := hv0
 obtain ⟨av, cv, bv, fv, rfl, hcapv, hmaxv, hnilv, hadv, helv⟩ := Ro.open hv0
 refine go [9,10,1,7,8,9,9,10,0] ?_
 refine G.op rfl (G.val rfl rfl (pv_eqlSl0 Tryz.underlying30 rfl rfl) ?_)
 refine go [7,8] ?_
 refine G.cond rfl (fun h4 => ?_) (fun h4 => ?_)
 ·have hn0 : av = none := by simpa using h4
  have hc0 := hnilv hn0
  obtain rfl : ids = [] := List.eq_nil_of_length_eq_zero (by omega)
  refine go [9,10,1,7,8,11,12] ?_
  refine G.ownNil 59 16 ?_
  exact G.doneX1 (.slice none 0 0) trT rfl rfl rfl subT
 refine go [13,8,9,10] ?_
 refine G.op rfl (G.lit0 rfl Tryz.underlying30 kr rfl ?_)
 intro b5
 refine G.ownBlk (b := b5) (k := 0) (sz := 16) selT rfl (by omega) ?_
 refine go [0] ?_
 refine G.op rfl (G.appendI (k := 0) (cs := []) (ids := ids) rfl Tryz.underlying30 Tryz.infoID' rfl rfl selT (ro_sl hDv) (by omega) ?_)
 intro v'
 rw [List.nil_append, Nat.zero_add ids.length]
 refine go [1,7,8,11] ?_
 exact G.doneX1 (v') trT rfl rfl rfl subT
set_option maxHeartbeats 4000000 in
theorem cloneIt_tr {Ps : Nat → Prop} (v : Value) (xs : List IT) (hn : xs.length ≤ 1000) : Tr Tryz.prog 62 #[v] [slc rIT Ps v xs] [] (TX (fun _ : Value => True) (fun x => x) (fun x => [own 78 6 x xs.length (xs.flatMap itC)])) := by
 refine Tr.of (l := [(0, v)]) Tryz.func62 rfl (n := 8) rfl (.cons rfl .nil) (fun w0 hro => ?_)
 have hv := ro1 hro
 have hv' := hv
 obtain ⟨av, cv, bv, fv, rfl, hcapv, hmaxv, hnilv, hadv, helv⟩ := Ro.open hv
 refine go [9,10,1,7,8,9,9,10,0] ?_
 refine G.op rfl (G.val rfl rfl (pv_eqlSl0 Tryz.underlying40 rfl rfl) ?_)
 refine go [7,8] ?_
 refine G.cond rfl (fun h4 => ?_) (fun h4 => ?_)
 ·have hn0 : av = none := by simpa using h4
  have hc0 := hnilv hn0
  obtain rfl : xs = [] := List.eq_nil_of_length_eq_zero (by omega)
  refine go [9,10,1,7,8,11,12,60,8] ?_
  exact G.doneX1 (.slice none 0 0) trT rfl rfl rfl subT
 refine go [13,8,9,10] ?_
 refine G.op rfl (G.lit0 rfl Tryz.underlying40 kr rfl ?_)
 intro b5
 refine G.ownBlk (b := b5) (k := 0) (sz := 6) selT rfl (by omega) ?_
 refine go [0] ?_
 refine G.op rfl (G.append (k := 0) (j := xs.length) (cs := []) (news := xs.flatMap itC) (b := bv) (off := fv) rfl Tryz.underlying40 Tryz.infoIt rfl rfl rfl selT hadv hnilv (rows_len itC_len xs) (newsI helv) (Ro.allOneI helv) (by omega) (by omega) ?_)
 intro v'
 rw [List.nil_append, Nat.zero_add xs.length]
 refine go [1,7,8,11] ?_
 exact G.doneX1 (v') trT rfl rfl rfl subT
set_option maxHeartbeats 4000000 in
theorem mclone_tr {Ps : Nat → Prop} (a : Mh) (v : Value) (xs : List IT) (hn : xs.length ≤ 1000) (hfew : Few xs) : Tr Tryz.prog 46 #[.agg #[.int .i64 a.c, .int .i64 a.k, .int .i64 a.n, .int .i64 a.t, v]] [slc rIT Ps v xs] [] (TX (fun z : Value × List IT => its z.2 = its xs) (fun z => .agg #[.int .i64 a.c, .int .i64 a.k, .int .i64 a.n, .int .i64 a.t, z.1]) (fun z => [own 78 6 z.1 z.2.length (z.2.flatMap itC), datI 59 z.2])) := by
 refine Tr.of (l := [(0, .agg #[.int .i64 a.c, .int .i64 a.k, .int .i64 a.n, .int .i64 a.t, v])]) Tryz.func46 rfl (n := 28) rfl (.cons rfl .nil) (fun w0 hro => ?_)
 have hv := ro1 hro
 have hv' := hv
 obtain ⟨av, cv, bv, fv, rfl, hcapv, hmaxv, hnilv, hadv, helv⟩ := Ro.open hv
 refine go [9,10,60,5] ?_
 intro b1
 refine go [60,6] ?_
 intro b2
 refine go [7,8,9,10,2,3,4,2,4] ?_
 refine G.op rfl (G.cS rfl rfl rfl rfl Tryz.func62 rfl rfl subT (may1 Y1) (cloneIt_tr _ _ (by omega)) apT ?_)
 intro x6 hJ
 try dsimp only at hJ
 try dsimp only
 refine G.ownOpen (v := x6) selT (fun a3 c3 h3 hk3 hm3 => ?_)
 subst h3
 refine go [2,3,4,21,7,8,9,9,10,2,3,4,2,4,2,5,0,7,8,15] ?_
 refine G.datINil 59 ?_
 refine G.loopK (X := Nat × (List IT)) (ts := [1, 2, 10]) (fun st => st.1 ≤ xs.length ∧ (its st.2 = its xs ∧ ∀ q (hq : q < st.2.length) (hx : q < xs.length), st.1 ≤ q → st.2[q] = xs[q])) (fun st => [(11, .int .i64 (st.1 : Int))]) (fun st => [own 78 6 (.slice a3 xs.length c3) xs.length (st.2.flatMap itC), datI 59 (st.2.take st.1)]) (fun st => xs.length - st.1) (x0 := (0, xs)) (.cons rfl (.cons rfl (.cons rfl .nil))) subT (.cons .nil) apT (by first | exact trivial | ((try dsimp only) <;> exact ⟨Nat.zero_le _, ⟨rfl, fun q _ _ _ => rfl⟩⟩)) (.consE rfl veqT .nil) (fun st hJ => ?_)
 obtain ⟨i, zs⟩ := st
 try dsimp only at hJ
 try dsimp only
 obtain ⟨hki, hJ⟩ := hJ
 obtain ⟨hez, hsame⟩ := hJ
 have hlz : zs.length = xs.length := map1_len hez
 refine go [9,10,2,9,7,8,9] ?_
 refine G.condP rfl (fun h12 => ?_) (fun h12 => ?_)
 ·have hlt : i < xs.length := by omega
  have hlt' : i < zs.length := by omega
  have hzx : zs[i] = xs[i] := hsame i hlt' hlt (Nat.le_refl _)
  have hEv := helv i hlt
  have hRv := Ro.itRng hEv
  have hDv := Ro.itIds hEv
  have hOv := Ro.itOk hEv
  obtain ⟨hk1v, hk2v, hk3v, hlpv, hltv, hlnv⟩ := hOv
  have hCv := Ro.one1I hDv
  have hfi := hfew _ (List.getElem_mem hlt)
  refine go [13,8,9,15,9,10,0,1,7,8] ?_
  refine G.ownTo (v := (.slice a3 xs.length c3)) selT (by omega) (fun g cap sp hvv hkc hmx hl hlen => ?_)
  injection hvv with e1 e2 e3
  subst e1
  subst e3
  refine G.drawT (nn := 13) (p := [blk g _ _]) (rem := 8191) [0, 1, 0, 0, 8, 0, 48, 64, 128, 256, 1023, 2047, 3071] [0, 1, 0, 0, 8, 0, 48, 64, 128, 256, 6, 1024, 2560] kr ⟨rfl, by kernel_rfl, by kernel_rfl⟩ subT kr (fun hT5 => ?_)
  refine go [22,0,8190,3,4,22,2,8186,0,22,3,8178,3,4,22,5,8146,0,22,1,8144,4,24,4,8128,25,4,26] ?_
  refine G.takeT hT5 (i := 6) (rem' := 8064) rfl rfl rfl kr (fun _ _ _ h => h) rfl (pv_ixSl (sz := 6) (k := i) Tryz.underlying40 kr rfl rfl (fun _ => rfl) (by omega) (by omega)) subT ?_
  refine go [22,7,7936,3,5,24,8,7680] ?_
  refine G.turnOp rfl rfl (G.val rfl rfl (pv_load (v := xs[i].2) Tryz.underlying30 rfl rfl (blk_cell selD (by rw [rows_at itC_len hlt' 5 (by omega), hzx]; rfl))) ?_)
  refine go [26,24,9,7168] ?_
  refine G.turnOp rfl rfl (G.cS rfl rfl rfl rfl Tryz.func63 rfl rfl subT (may1 Y1) (cloneI_tr xs[i].2 xs[i].1.ids (by omega)) apT ?_)
  intro x23 hJ
  try dsimp only at hJ
  try dsimp only
  refine G.ownFact (v := x23) selT (fun hx23 _ => ?_)
  refine go [26] ?_
  refine G.takeT hT5 (i := 10) (rem' := 6144) rfl rfl rfl kr (fun _ _ _ h => h) rfl (pv_ixSl (sz := 6) (k := i) Tryz.underlying40 kr rfl rfl (fun _ => rfl) (by omega) (by omega)) subT ?_
  refine go [22,11,4096,3,5,24,12,0] ?_
  refine G.turnOp rfl rfl (G.store kr rfl rfl (by assumption) selT (rows_room itC_len hlt' (by omega)) ?_)
  rw [rows_set itC_len hlt' (j := 5) (by omega) (x := (zs[i].1, x23)) rfl]
  refine go [26,27,16,8,10,2,6,0,7] ?_
  refine G.ownOf (sz := 6) (k := xs.length) (cs := (zs.set i (zs[i].1, x23)).flatMap itC) (sp := sp) selT (by rw [rows_len itC_len, List.length_set, hlz]) (by omega) hmx (by rw [List.length_append, rows_len itC_len, List.length_set]; rw [List.length_append, rows_len itC_len] at hl; exact hl) ?_
  have hzt : zs.take i ++ [(zs[i].1, x23)] = (zs.set i (zs[i].1, x23)).take (i + 1) := (take_set_succ hlt' _).symm
  refine G.datISnoc (ys := zs.take i) (x := (zs[i].1, x23)) selT (by rw [show (zs[i].1, x23).1.ids = xs[i].1.ids from by rw [hzx]]; repeat (first | with_reducible exact Sel.here | exact Sel.here | apply Sel.there)) ?_
  rw [hzt]
  exact G.next ((i + 1, zs.set i (zs[i].1, x23))) (by first | exact trivial | ((try dsimp only) <;> exact ⟨by omega, ⟨(map1_set hlt' _).trans hez, fun q hq hx hiq => by rw [List.getElem_set_ne (by omega)]; exact hsame q (by rw [List.length_set] at hq; exact hq) hx (by omega)⟩⟩)) (by (try dsimp only); omega) (.consE rfl veqT (.cons rfl (.cons rfl (.cons rfl .nil)))) subT
 refine go [18,14,14,19,8,9,10,2,50,3,20,7,8,11] ?_
 obtain rfl : i = xs.length := by omega
 rw [show zs.take xs.length = zs from List.take_of_length_le (by omega), show own 78 6 (.slice a3 xs.length c3) xs.length (zs.flatMap itC) = own 78 6 (.slice a3 xs.length c3) zs.length (zs.flatMap itC) from by rw [hlz]]
 exact G.doneG ((.slice a3 xs.length c3, zs)) (by first | exact trivial | ((try dsimp only) <;> exact hez)) rfl (Rv.cellN (cs := [_, _, _, _, _]) rfl Tryz.underlying42 rfl kr Y22 Rv.nil) rfl subT
set_option maxHeartbeats 4000000 in
theorem numbered_tr {Ps : Nat → Prop} (a : Mh) (v : Value) (xs : List IT) (q : Int) (hn : xs.length ≤ 1000) (hfew : Few xs) : Tr Tryz.prog 31 #[.agg #[.int .i64 a.c, .int .i64 a.k, .int .i64 a.n, .int .i64 a.t, v], .int .i64 q] [slc rIT Ps v xs] [] (TX (fun z : Value × List IT => its z.2 = its xs) (fun z => .agg #[.int .i64 (⟨a.c, a.k, q, a.t⟩ : Mh).c, .int .i64 (⟨a.c, a.k, q, a.t⟩ : Mh).k, .int .i64 (⟨a.c, a.k, q, a.t⟩ : Mh).n, .int .i64 (⟨a.c, a.k, q, a.t⟩ : Mh).t, z.1]) (fun z => [own 78 6 z.1 z.2.length (z.2.flatMap itC), datI 59 z.2])) := by
 refine Tr.of (l := [(0, .agg #[.int .i64 a.c, .int .i64 a.k, .int .i64 a.n, .int .i64 a.t, v]), (1, .int .i64 q)]) Tryz.func31 rfl (n := 10) rfl (.cons rfl (.cons rfl .nil)) (fun w0 hro => ?_)
 have hv := ro1 hro
 have hv' := hv
 obtain ⟨av, cv, bv, fv, rfl, hcapv, hmaxv, hnilv, hadv, helv⟩ := Ro.open hv
 refine go [9,10,60,5] ?_
 intro b2
 refine go [60,6] ?_
 intro b4
 refine go [7,8,9,10,2,50,3] ?_
 refine G.op rfl (G.cS rfl rfl rfl rfl Tryz.func46 rfl rfl subT (may1 Y1) (mclone_tr a _ xs hn hfew) apT ?_)
 intro x6 hJ
 obtain ⟨v', zs⟩ := x6
 try dsimp only at hJ
 try dsimp only
 have hez : its zs = its xs := hJ
 refine G.ownFact (v := v') selT (fun hv'1 _ => ?_)
 refine go [20,7,8,9,10,0,2,3,2,21,7,8,9,10,2,50,3,20,7,8,11] ?_
 exact G.doneG ((v', zs)) (by first | exact trivial | ((try dsimp only) <;> exact hez)) rfl (Rv.cellN (cs := [_, _, _, _, _]) rfl Tryz.underlying42 rfl kr Y22 Rv.nil) rfl subT
def numI (e : It) : Prop := e.kind < 1 ∨ 3 < e.kind ∨ e.mode < 0 ∨ 511 < e.mode ∨ (e.kind = 3 ↔ e.to.length = 0) ∨ 200 < e.to.length
instance (e : It) : Decidable (numI e) := inferInstanceAs (Decidable (_ ∨ _))
def rngI (e : It) : Prop := e.size < 0 ∨ 1048576 < e.size ∨ (0 < e.size ∧ e.kind ≠ 2) ∨ ¬ ((e.size + 1023) / 1024 ≤ (e.ids.length : Int) ∧ (e.ids.length : Int) ≤ (e.size + 63) / 64)
instance (e : It) : Decidable (rngI e) := inferInstanceAs (Decidable (_ ∨ _))
def oneI (e : It) : Int := if ¬ okP e.path then 4 else if numI e then 2 else if rngI e then 5 else 0
theorem oneI_bytes {e : It} (h : ¬ okP e.path) : oneI e = 4 := if_pos h
theorem oneI_arg {e : It} (h : okP e.path) (h1 : numI e) : oneI e = 2 := by
 unfold oneI
 rw [if_neg (not_not_intro h), if_pos h1]
theorem oneI_rng {e : It} (h : okP e.path) (h1 : ¬ numI e) (h2 : rngI e) : oneI e = 5 := by
 unfold oneI
 rw [if_neg (not_not_intro h), if_neg h1, if_pos h2]
theorem oneI_ok {e : It} (h : okP e.path) (h1 : ¬ numI e) (h2 : ¬ rngI e) : oneI e = 0 := by
 unfold oneI
 rw [if_neg (not_not_intro h), if_neg h1, if_neg h2]
theorem oneI_zero {e : It} (h : oneI e = 0) : okP e.path ∧ ¬ numI e ∧ ¬ rngI e := by
 unfold oneI at h
 split at h
 ·cases h
 split at h
 ·cases h
 split at h
 ·cases h
 exact ⟨Decidable.of_not_not (by assumption), by assumption, by assumption⟩
set_option maxHeartbeats 4000000 in
theorem win_tr (n a b : Int) : Tr Tryz.prog 80 #[.int .i64 n, .int .i64 a, .int .i64 b] [] [] (T0 (.bool (decide (a ≤ n ∧ n ≤ b)))) := by
 refine Tr.of (l := [(0, .int .i64 n), (1, .int .i64 a), (2, .int .i64 b)]) Tryz.func80 rfl (n := 15) rfl (.cons rfl (.cons rfl (.cons rfl .nil))) (fun w0 hro => ?_)
 refine go [9,10,1,7,8,9,10,0,0,2,12,0] ?_
 refine G.partP (t := 10) rfl (fun h10 => ?_) (fun h10 => ?_)
 ·refine go [3,0,3,0,3,11,2,2,1,7,8,11] ?_
  exact G.done0G rfl (Rv.tmp rfl Rv.nil) (by first | exact dec_e (by omega) | exact dec_f (by omega) | exact dec_t (by omega))
 refine go [4,4,4,2,2,1,7,8,11] ?_
 exact G.done0G rfl (Rv.tmp rfl Rv.nil) (by first | exact dec_e (by omega) | exact dec_f (by omega) | exact dec_t (by omega))
set_option maxHeartbeats 4000000 in
theorem parts_tr (n k : Int) (hn : 0 ≤ n ∧ n ≤ 1048576) (hk : 1 ≤ k) (hk2 : k ≤ 1024) : Tr Tryz.prog 104 #[.int .i64 n, .int .i64 k] [] [] (T0 (.int .i64 ((n + k - 1) / k))) := by
 refine Tr.of (l := [(0, .int .i64 n), (1, .int .i64 k)]) Tryz.func104 rfl (n := 11) rfl (.cons rfl (.cons rfl .nil)) (fun w0 hro => ?_)
 refine go [9,10,1,7,8,9,10,0,0,2,6,2,19,0] ?_
 refine G.op rfl (G.val rfl rfl (pv_quo64 rfl rfl (by omega) (by omega)) ?_)
 refine go [1,7,8,11] ?_
 exact G.done0G rfl (Rv.tmp rfl Rv.nil) Y8
set_option maxHeartbeats 4000000 in
theorem ione_tr {Pd : Nat → Prop} (e : It) (d : Value) (hl : e.path.length ≤ 9223372036854775807) (hn : e.ids.length ≤ 140737488355328) (hsz : I64 e.size) : Tr Tryz.prog 81 #[.agg #[.string (sB e.path), .int .i64 e.kind, .int .i64 e.mode, .int .i64 e.size, .string (sB e.to), d]] [slc rID Pd d e.ids] [] (T0 (.int .i64 (oneI e))) := by
 refine Tr.of (l := [(0, .agg #[.string (sB e.path), .int .i64 e.kind, .int .i64 e.mode, .int .i64 e.size, .string (sB e.to), d])]) Tryz.func81 rfl (n := 61) rfl (.cons rfl .nil) (fun w0 hro => ?_)
 have hd := ro1 hro
 obtain ⟨ad, cap, rfl⟩ := Ro.slv hd
 have hto := nil_len (s := e.to)
 obtain ⟨hs1, hs2⟩ := hsz
 refine go [9,10] ?_
 refine G.op rfl (G.box rfl rfl (cs := [_, _, _, _, _, _]) rfl ?_)
 intro b1
 refine go [1,7,8,9,10,2,3,1,2,4,2,13,1,7,8,9,15,9,10,2,3,0,2,4] ?_
 refine G.op rfl (G.cR rfl rfl rfl rfl Tryz.func95 rfl rfl may0 (check_tr _ (by omega)) ?_)
 refine go [2,50,11,2,14,1,7,8] ?_
 refine G.condP rfl (fun h7 => ?_) (fun h7 => ?_)
 ·refine go [9,10,1,7,8,11,17,12] ?_
  exact G.done0G rfl (Rv.tmp rfl Rv.nil) (by rw [oneI_bytes (by assumption)]; rfl)
 have hok : okP e.path := Decidable.of_not_not (by assumption)
 refine G.seq ?_
 refine G.cutK (X := Unit) (ts := [1, 2]) (p := []) (fun _ => True) (fun _ => [(13, .bool (decide (numI e)))]) (fun _ => []) (.cons rfl (.cons rfl .nil)) subT (.cons .nil) apT ?_ ?_
 ·refine go [10,2,3,1,2,4] ?_
  refine G.op rfl (G.cR rfl rfl rfl rfl Tryz.func80 rfl rfl may0 (win_tr _ _ _) ?_)
  refine go [2,15,0] ?_
  refine G.partP (t := 18) rfl (fun h18 => ?_) (fun h18 => ?_)
  ·refine go [4,4,4,4,2,2,0,4,4,4,4,4,2,2,0,4,4,4,4,2,2,1,7] ?_
   exact G.meet (()) trT (.consE rfl Y30 (.cons rfl (.cons rfl .nil))) subT
  refine go [3,3,2,3,4] ?_
  refine G.want rfl rfl rfl (G.cR rfl rfl rfl rfl Tryz.func80 rfl rfl may0 (win_tr _ _ _) ?_)
  refine go [3,15,2,2,0] ?_
  refine G.partP (t := 24) rfl (fun h24 => ?_) (fun h24 => ?_)
  ·refine go [4,4,4,4,4,2,2,0,4,4,4,4,2,2,1,7] ?_
   exact G.meet (()) trT (.consE rfl Y30 (.cons rfl (.cons rfl .nil))) subT
  refine go [3,0,3,3,4,3,4,3,23] ?_
  refine G.want rfl rfl rfl (G.val rfl rfl (pv_neqB Tryz.underlying4 rfl rfl) ?_)
  refine go [2,2,0] ?_
  refine G.part (t := 31) rfl (fun h31 => ?_) (fun h31 => ?_)
  ·have hb := bne_dec.1 h31
   rw [ne_eq, hto] at hb
   refine go [4,4,4,4,2,2,1,7] ?_
   exact G.meet (()) trT (.consE rfl Y30 (.cons rfl (.cons rfl .nil))) subT
  have hb : ¬ ¬ (e.kind = 3 ↔ ¬ e.to.length = 0) := fun h => by have := bne_dec.2 (show ¬ (e.kind = 3 ↔ e.to ≠ []) by rw [ne_eq, hto]; exact h); rw [h31] at this; cases this
  refine go [3,3,4,3,4,3,21,3,10,2,2,1,7] ?_
  exact G.meet (()) trT (.consE rfl Y30 (.cons rfl (.cons rfl .nil))) subT
 intro _ hJ
 try dsimp only at hJ
 try dsimp only
 refine G.condP rfl (fun h13 => ?_) (fun h13 => ?_)
 ·refine go [9,10,1,7,8,11,17,12] ?_
  exact G.done0G rfl (Rv.tmp rfl Rv.nil) (by rw [oneI_arg hok (by assumption)]; rfl)
 refine G.seq ?_
 refine G.cutK (X := Unit) (ts := [2]) (p := []) (fun _ => True) (fun _ => [(37, .bool (decide (rngI e)))]) (fun _ => []) (.cons rfl .nil) subT (.cons .nil) apT ?_ ?_
 ·refine go [9,10,2,3,3,2,4] ?_
  refine G.op rfl (G.cR rfl rfl rfl rfl Tryz.func80 rfl rfl may0 (win_tr _ _ _) ?_)
  refine go [2,15,1,7,8] ?_
  refine G.condP rfl (fun h37 => ?_) (fun h37 => ?_)
  ·refine G.skip ?_
   exact G.meet (()) trT (.consE rfl Y29 (.cons rfl .nil)) subT
  refine go [9,10,2,3,3,2,4,2,10,0] ?_
  refine G.partP (t := 45) rfl (fun h45 => ?_) (fun h45 => ?_)
  ·refine go [3,3,1,3,4,3,14,2,2,1,7,8] ?_
   refine G.condP rfl (fun h37 => ?_) (fun h37 => ?_)
   ·refine G.skip ?_
    exact G.meet (()) trT (.consE rfl Y29 (.cons rfl .nil)) subT
   refine G.drawT (nn := 12) (p := []) (rem := 4095) [0, 1, 2, 0, 8, 16, 0, 64, 160, 292, 512, 1536] [0, 1, 2, 0, 8, 16, 0, 64, 128, 292, 512, 1024] kr ⟨rfl, by kernel_rfl, by kernel_rfl⟩ subT kr (fun hT8 => ?_)
   refine go [22,0,4094,3,5,22,3,4086,3,3,22,6,4022,3,3,22,1,4020,4,22,2,4016,5,22,4,4000,4,22,7,3872,4,24,5,3840] ?_
   refine G.turnOp rfl rfl (G.cR rfl rfl rfl rfl Tryz.func104 rfl rfl may0 (parts_tr _ _ (by omega) (by omega) (by omega)) ?_)
   refine go [26,24,8,3584] ?_
   refine G.turnOp rfl rfl (G.cR rfl rfl rfl rfl Tryz.func104 rfl rfl may0 (parts_tr _ _ (by omega) (by omega) (by omega)) ?_)
   refine go [26,24,9,3072] ?_
   refine G.turnOp rfl rfl (G.cR rfl rfl rfl rfl Tryz.func80 rfl rfl may0 (win_tr _ _ _) ?_)
   refine go [26,22,10,2048,15,22,11,0,1,27] ?_
   exact G.meet (()) trT (.consE rfl Y29 (.cons rfl .nil)) subT
  refine go [4,4,4,2,2,1,7,8,60,1] ?_
  refine G.drawT (nn := 12) (p := []) (rem := 4095) [0, 1, 2, 0, 8, 16, 0, 64, 160, 292, 512, 1536] [0, 1, 2, 0, 8, 16, 0, 64, 128, 292, 512, 1024] kr ⟨rfl, by kernel_rfl, by kernel_rfl⟩ subT kr (fun hT8 => ?_)
  refine go [22,0,4094,3,5,22,3,4086,3,3,22,6,4022,3,3,22,1,4020,4,22,2,4016,5,22,4,4000,4,22,7,3872,4,24,5,3840] ?_
  refine G.turnOp rfl rfl (G.cR rfl rfl rfl rfl Tryz.func104 rfl rfl may0 (parts_tr _ _ (by omega) (by omega) (by omega)) ?_)
  refine go [26,24,8,3584] ?_
  refine G.turnOp rfl rfl (G.cR rfl rfl rfl rfl Tryz.func104 rfl rfl may0 (parts_tr _ _ (by omega) (by omega) (by omega)) ?_)
  refine go [26,24,9,3072] ?_
  refine G.turnOp rfl rfl (G.cR rfl rfl rfl rfl Tryz.func80 rfl rfl may0 (win_tr _ _ _) ?_)
  refine go [26,22,10,2048,15,22,11,0,1,27] ?_
  exact G.meet (()) trT (.consE rfl Y29 (.cons rfl .nil)) subT
 intro _ hJ
 try dsimp only at hJ
 try dsimp only
 refine G.condP rfl (fun h37 => ?_) (fun h37 => ?_)
 ·refine go [9,10,1,7,8,11,17,12] ?_
  exact G.done0G rfl (Rv.tmp rfl Rv.nil) (by rw [oneI_rng hok (by assumption) (by assumption)]; rfl)
 refine go [13,16,8,9,10,1,7,8,11] ?_
 exact G.done0G rfl (Rv.tmp rfl Rv.nil) (by rw [oneI_ok hok (by assumption) (by assumption)]; rfl)
end Go.Proofs.YtcgacpmippdkeaaGreat
namespace Go.Proofs.YtcgacpmippdkeaaGreat
open Go.RowKit
open Go.ChangeShapes Go.WideShapes
def okS9 (s : List UInt8) : Prop := s.length ≤ 140737488355328
theorem mapM_each' {α β : Type} {f : α → Option β} : ∀ {l : List α}, (∀ x ∈ l, ∃ y, f x = some y) → ∃ ys, l.mapM f = some ys
 | [], _ => ⟨[], rfl⟩
 | a :: l, h => by
  obtain ⟨y, hy⟩ := h a (List.mem_cons_self ..)
  obtain ⟨ys, hys⟩ := mapM_each' (l := l) fun x hx => h x (List.mem_cons_of_mem _ hx)
  exact ⟨y :: ys, by rw [List.mapM_cons, hy, hys]; rfl⟩
theorem vStr_inj {a b : List UInt8} (h : vStr a = vStr b) : a = b := by
 unfold vStr at h
 injection h with h
 exact sB_inj h
theorem vInt_inj {a b : Int} (h : vInt a = vInt b) : a = b := by
 unfold vInt at h
 injection h
theorem vByte_inj {a b : UInt8} (h : vByte a = vByte b) : a = b := by
 unfold vByte at h
 injection h with _ h
 exact UInt8.toNat_inj.1 (by omega)
theorem keyS : KeyF Tryz.prog 9 vStr okS9 where
 keyed := Go.Maps.string_keyed Tryz.underlying9
 is x hx := ⟨_, Go.WideMaps.keyOf_string_mk Tryz.underlying9 (by show (sB x).size ≤ maxLen; rw [sB_size]; unfold maxLen; unfold okS9 at hx; omega)⟩
 inj _ _ h := vStr_inj h
def ok16 (x : List UInt8) : Prop := x.length = 16
theorem vID_inj {a b : List UInt8} (h : vID a = vID b) : a = b := by
 unfold vID at h
 injection h with h
 have h2 : a.map vByte = b.map vByte := by have := congrArg Array.toList h; simpa using this
 exact List.map_inj_right (fun _ _ => vByte_inj) |>.1 h2
theorem keyI_is (x : List UInt8) (hx : ok16 x) : ∃ l, keyOf Tryz.prog 59 (vID x) = some l := by
 have hx : x.length = 16 := hx
 have hu : Tryz.prog.underlying 59 = some (.array 16 5) := Tryz.underlying59
 have hc : Tryz.prog.cellsOf 59 = 16 := by kernel_rfl
 have hc1 : Tryz.prog.cellsOf 5 = 1 := by kernel_rfl
 have hk : Tryz.prog.keyType 59 = true := by kernel_rfl
 have hpos : 0 < Tryz.prog.types.size := of_decide_eq_true kr
 obtain ⟨sz, hsz⟩ : ∃ m, Tryz.prog.types.size = m + 1 := ⟨Tryz.prog.types.size - 1, by omega⟩
 unfold keyOf
 rw [hu]
 simp only
 rw [if_pos (by simp [hk, vID, Value.formed, hu, hc, hx])]
 have : ∃ ls, Tryz.prog.keyLits (Tryz.prog.types.size + 1) 59 (vID x).cells.toList = some ls := by
  unfold Program.keyLits
  rw [hu]
  simp only
  rw [if_pos (by simp [vID, Value.cells, hc, hx])]
  obtain ⟨ys, hys⟩ := mapM_each' (l := List.range 16) (f := fun i => Tryz.prog.keyLits Tryz.prog.types.size 5 (((vID x).cells.toList.drop (i * Tryz.prog.cellsOf 5)).take (Tryz.prog.cellsOf 5))) fun i hi => by
   have hi : i < x.length := by rw [hx]; simpa using hi
   have e : (((vID x).cells.toList.drop (i * Tryz.prog.cellsOf 5)).take (Tryz.prog.cellsOf 5)) = [vByte x[i]] := by
    rw [hc1, Nat.mul_one]
    show ((x.map vByte).drop i).take 1 = _
    rw [List.drop_eq_getElem_cons (by simpa using hi)]
    simp
   rw [e, hsz]
   unfold Program.keyLits
   rw [show Tryz.prog.underlying 5 = some (.int .u8) from Tryz.underlying5]
   have := x[i].toNat_lt
   exact ⟨_, if_pos ⟨rfl, by simp only [Lit.wf, Bool.and_eq_true, decide_eq_true_eq]; exact ⟨by show (0 : Int) ≤ _; omega, by show _ ≤ (255 : Int); omega⟩⟩⟩
  rw [hys]
  exact ⟨_, rfl⟩
 obtain ⟨ls, hls⟩ := this
 exact ⟨_, by rw [hls]; rfl⟩
theorem keyI : KeyF Tryz.prog 59 vID ok16 where
 keyed := Go.Maps.Keyed.of_law (Go.deep_law_laid Tryz.laidOut (m := 3) (by omega) (of_decide_eq_true kr) kr kr)
 is := keyI_is
 inj _ _ h := vID_inj h
end Go.Proofs.YtcgacpmippdkeaaGreat
