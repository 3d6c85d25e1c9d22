/- Merged of VC, PA, Shelf, PB, PC, PE, PF, PG, PH, PI, PJ, PL, PQ, TreeA, TB, VD. Conditions: none. -/
import Derived.Test.YtbfpbibkklfnfaaGreatGb
import Derived.Laws.BitsLemmas
import Derived.Shelf.Strings.Search1
import Derived.Shelf.Strings.Search2
import Derived.Shelf.Strings.Cut
import Derived.Shelf.LaysM
import Derived.Shelf.Strings.Shaped
import Derived.Test.YtbfpbibkklfnfaaGreatProg
set_option linter.unusedVariables false
set_option linter.unusedSimpArgs false
namespace Go.Proofs.YtbfpbibkklfnfaaGreat
open Go.RowKit
/-- what a byte counts -/
def wtM (c : UInt8) : Int := ((c.toNat : Int) * 2 + 1) * 2654435761 % 4294967296
def rsum (b : List UInt8) : Int := b.foldl (fun n c => (n * 3 + wtM c) % 4294967296) 0
def lastW (m : List UInt8) : List UInt8 := m.drop (m.length - 16)
def rollM (s : Int) (o c : UInt8) : Int := ((s - wtM o * 14348907) * 3 + wtM c) % 4294967296
theorem wtM_rng (c : UInt8) : 0 ≤ wtM c ∧ wtM c < 4294967296 := by unfold wtM; omega
theorem rsum_snoc (b : List UInt8) (c : UInt8) : rsum (b ++ [c]) = (rsum b * 3 + wtM c) % 4294967296 := by simp [rsum, List.foldl_append]
theorem mod_ex (x M : Int) : ∃ k, x % M = x + M * k := ⟨-(x / M), by have := Int.emod_add_mul_ediv x M; grind⟩
theorem fold_lin : ∀ (b : List UInt8) (n : Int), ∃ k, b.foldl (fun n c => (n * 3 + wtM c) % 4294967296) n = n * 3 ^ b.length + b.foldl (fun n c => (n * 3 + wtM c) % 4294967296) 0 + 4294967296 * k
  | [], n => ⟨0, by simp⟩
  | c :: b, n => by
    obtain ⟨k1, h1⟩ := fold_lin b ((n * 3 + wtM c) % 4294967296)
    obtain ⟨k2, h2⟩ := fold_lin b ((0 * 3 + wtM c) % 4294967296)
    obtain ⟨k3, h3⟩ := mod_ex (n * 3 + wtM c) 4294967296
    obtain ⟨k4, h4⟩ := mod_ex (0 * 3 + wtM c) 4294967296
    refine ⟨k1 - k2 + (k3 - k4) * 3 ^ b.length, ?_⟩
    rw [List.foldl_cons, List.foldl_cons, h1, h2, h3, h4, List.length_cons, Int.pow_succ]
    grind
theorem rsum_cons (a : UInt8) (l : List UInt8) (h : l.length = 15) : ∃ k, rsum (a :: l) = wtM a * 14348907 + rsum l + 4294967296 * k := by
  unfold rsum
  obtain ⟨k1, h1⟩ := fold_lin l ((0 * 3 + wtM a) % 4294967296)
  have h2 : (0 * 3 + wtM a) % 4294967296 = wtM a := by have := wtM_rng a; omega
  rw [h2, h] at h1
  exact ⟨k1, by rw [List.foldl_cons, h2, h1]; rfl⟩
/-- a window rolls by a byte -/
theorem roll_win (a c : UInt8) (l : List UInt8) (h : l.length = 15) : rollM (rsum (a :: l)) a c = rsum (l ++ [c]) := by
  obtain ⟨k, hk⟩ := rsum_cons a l h
  rw [rsum_snoc, hk]
  unfold rollM
  have : (wtM a * 14348907 + rsum l + 4294967296 * k - wtM a * 14348907) * 3 + wtM c = rsum l * 3 + wtM c + 4294967296 * (k * 3) := by omega
  rw [this, Int.add_mul_emod_self_left]
theorem lastW_small {m : List UInt8} (h : m.length ≤ 16) : lastW m = m := by
  unfold lastW
  rw [show m.length - 16 = 0 by omega, List.drop_zero]
theorem lastW_snoc {m : List UInt8} (h : m.length < 16) (c : UInt8) : rsum (lastW (m ++ [c])) = (rsum (lastW m) * 3 + wtM c) % 4294967296 := by
  rw [lastW_small (show (m ++ [c]).length ≤ 16 by simp; omega), lastW_small (by omega), rsum_snoc]
theorem lastW_roll {m : List UInt8} (h : 16 ≤ m.length) (c : UInt8) : rsum (lastW (m ++ [c])) = rollM (rsum (lastW m)) (m[m.length - 16]'(by omega)) c := by
  have e1 : lastW m = m[m.length - 16]'(by omega) :: m.drop (m.length - 15) := by
    unfold lastW
    rw [List.drop_eq_getElem_cons (by omega), show m.length - 16 + 1 = m.length - 15 by omega]
  have e2 : lastW (m ++ [c]) = m.drop (m.length - 15) ++ [c] := by
    unfold lastW
    rw [List.length_append, List.length_singleton, List.drop_append_of_le_length (by omega), show m.length + 1 - 16 = m.length - 15 by omega]
  rw [e1, e2, roll_win _ _ _ (by rw [List.length_drop]; omega)]
def rollC (ring : List UInt8) (n : Nat) (s : Int) (rest : List Value) : List Value := ring.map vByte ++ (.int .i64 (n : Int) :: .int .u32 s :: .bool true :: rest)
def rollN (k : Nat) : Nat := if k < 16 then k else 16 + k % 16
structure RollAt (ring : List UInt8) (n : Nat) (s : Int) (m : List UInt8) : Prop where
  len : ring.length = 16
  num : n = rollN m.length
  sum : s = rsum (lastW m)
  at' : ∀ j (h : j < m.length), m.length ≤ j + 16 → ring[j % 16]? = some m[j]
theorem roll_zero : RollAt (List.replicate 16 0) 0 0 [] := ⟨rfl, rfl, rfl, fun j h => absurd h (by simp)⟩
variable {ring : List UInt8} {n : Nat} {s : Int} {rest : List Value}
theorem roll_n (h : ring.length = 16) : (rollC ring n s rest)[0 + 16]? = some (.int .i64 (n : Int)) := by
  unfold rollC
  rw [List.getElem?_append_right (by rw [List.length_map]; omega), List.length_map, h]
  rfl
theorem roll_s (h : ring.length = 16) : (rollC ring n s rest)[0 + 17]? = some (.int .u32 s) := by
  unfold rollC
  rw [List.getElem?_append_right (by rw [List.length_map]; omega), List.length_map, h]
  rfl
theorem roll_m (h : ring.length = 16) : (rollC ring n s rest)[0 + 18]? = some (.bool true) := by
  unfold rollC
  rw [List.getElem?_append_right (by rw [List.length_map]; omega), List.length_map, h]
  rfl
theorem roll_x {v : Value} (h : ring.length = 16) : (rollC ring n s [v])[0 + 19]? = some v := by
  unfold rollC
  rw [List.getElem?_append_right (by rw [List.length_map]; omega), List.length_map, h]
  rfl
theorem roll_r (h : ring.length = 16) {i : Nat} {c : UInt8} (hc : ring[i]? = some c) : (rollC ring n s rest)[0 + 0 + i * 1]? = some (.int .u8 (c.toNat : Int)) := by
  have hi := (List.getElem?_eq_some_iff.1 hc).1
  unfold rollC
  rw [List.getElem?_append_left (by rw [List.length_map]; omega), List.getElem?_map, show 0 + 0 + i * 1 = i by omega, hc]
  rfl
theorem roll_len (h : ring.length = 16) : (rollC ring n s rest).length = 19 + rest.length := by
  unfold rollC
  simp [h]
  omega
theorem roll_setN (h : ring.length = 16) (n' : Nat) : (rollC ring n s rest).set (0 + 16) (.int .i64 (n' : Int)) = rollC ring n' s rest := by
  unfold rollC
  rw [List.set_append_right _ _ (by rw [List.length_map]; omega), List.length_map, h]
  rfl
theorem roll_setS (h : ring.length = 16) (s' : Int) : (rollC ring n s rest).set (0 + 17) (.int .u32 s') = rollC ring n s' rest := by
  unfold rollC
  rw [List.set_append_right _ _ (by rw [List.length_map]; omega), List.length_map, h]
  rfl
theorem roll_setX {v : Value} (h : ring.length = 16) (v' : Value) : (rollC ring n s [v]).set (0 + 19) v' = rollC ring n s [v'] := by
  unfold rollC
  rw [List.set_append_right _ _ (by rw [List.length_map]; omega), List.length_map, h]
  rfl
theorem roll_setR (h : ring.length = 16) {i : Nat} (hi : i < 16) (c : UInt8) : (rollC ring n s rest).set (0 + 0 + i * 1) (.int .u8 (c.toNat : Int)) = rollC (ring.set i c) n s rest := by
  unfold rollC
  rw [show 0 + 0 + i * 1 = i by omega, List.set_append_left _ _ (by rw [List.length_map]; omega), List.map_set]
  rfl
/-- the ring's byte that goes out -/
theorem RollAt.out {m : List UInt8} (h : RollAt ring n s m) (hm : ¬ n < 16) : ∃ hl : 16 ≤ m.length, ring[n % 16]? = some (m[m.length - 16]'(by omega)) ∧ n % 16 = m.length % 16 := by
  have hn := h.num
  unfold rollN at hn
  split at hn
  · omega
  refine ⟨by omega, ?_, by omega⟩
  have := h.at' (m.length - 16) (by omega) (by omega)
  rw [← this]
  congr 1
  omega
theorem RollAt.mod {m : List UInt8} (h : RollAt ring n s m) : n % 16 = m.length % 16 ∧ n < 32 := by
  have hn := h.num
  unfold rollN at hn
  split at hn <;> omega
theorem RollAt.push {m : List UInt8} (h : RollAt ring n s m) (c : UInt8) : RollAt (ring.set (n % 16) c) (if n + 1 = 32 then 16 else n + 1) (rsum (lastW (m ++ [c]))) (m ++ [c]) := by
  obtain ⟨hm, hlt⟩ := h.mod
  refine ⟨by rw [List.length_set]; exact h.len, ?_, rfl, fun j hj hj2 => ?_⟩
  · have hn := h.num
    unfold rollN at hn ⊢
    rw [List.length_append, List.length_singleton]
    split at hn <;> split <;> split <;> omega
  rw [List.length_append, List.length_singleton] at hj hj2
  rcases Nat.lt_or_ge j m.length with h1 | h1
  · rw [List.getElem_append_left h1, List.getElem?_set_ne (by omega)]
    exact h.at' j h1 (by omega)
  obtain rfl : j = m.length := by omega
  rw [hm, List.getElem?_set_self (by rw [h.len]; omega)]
  simp
theorem or_one (c : UInt8) : bits .or .u32 ((c.toNat : Int) * 2) 1 = (c.toNat : Int) * 2 + 1 := by
  have : ∀ k : Fin 256, bits .or .u32 ((k.val : Int) * 2) 1 = (k.val : Int) * 2 + 1 := by decide +kernel
  exact this ⟨c.toNat, c.toNat_lt⟩
theorem u32_wt (c : UInt8) : IntKind.u32.wrap (((c.toNat : Int) * 2 + 1) * 2654435761) = wtM c := by rw [IntKind.wrap_u32]; rfl
theorem u32_small {x : Int} (h : 0 ≤ x ∧ x < 4294967296) : IntKind.u32.wrap x = x := by rw [IntKind.wrap_u32]; omega
theorem u32_roll (s : Int) (o c : UInt8) : IntKind.u32.wrap (IntKind.u32.wrap (IntKind.u32.wrap (s - IntKind.u32.wrap (wtM o * 14348907)) * 3) + wtM c) = rollM s o c := by
  simp only [IntKind.wrap_u32]
  unfold rollM
  omega
theorem u32_next (s : Int) (c : UInt8) : IntKind.u32.wrap (IntKind.u32.wrap (s * 3) + wtM c) = (s * 3 + wtM c) % 4294967296 := by
  simp only [IntKind.wrap_u32]
  omega
set_option maxRecDepth 20000 in
set_option maxHeartbeats 4000000 in
theorem weight_tr (c : UInt8) : Tr Tryz.prog 168 #[.int .u8 (c.toNat : Int)] [] [] (T0 (.int .u32 (wtM c))) := by
  refine Tr.of (l := [(0, .int .u8 (c.toNat : Int))]) Tryz.func168 rfl (n := 8) rfl (.cons rfl .nil) (fun w0 hro => ?_)
  have hc := c.toNat_lt
  refine G.seq (G.region ?_)
  refine G.asT rfl rfl ?_
  refine G.nil ?_
  refine G.nThen (G.seq (G.region ?_))
  refine G.mvT rfl rfl ?_
  refine G.op rfl (G.val rfl rfl ((pv_conv (by rw [Tryz.underlying5]; rfl) Tryz.underlying151 rfl).int (b := (c.toNat : Int)) (u32_small ⟨by omega, by omega⟩)) ?_)
  refine G.op rfl (G.val rfl rfl ((pv_shl (s := 1) rfl rfl (by decide)).int (b := (c.toNat : Int) * 2) (u32_small (x := (c.toNat : Int) * 2 ^ 1) ⟨by omega, by omega⟩)) ?_)
  refine G.op rfl (G.val rfl rfl ((pv_or rfl rfl).int (or_one c)) ?_)
  refine G.op rfl (G.val rfl rfl ((pv_mulk rfl rfl).int (u32_wt c)) ?_)
  refine G.asT rfl rfl ?_
  refine G.nil ?_
  refine G.nThen ?_
  refine G.ret ?_
  exact G.done0G rfl (Rv.tmp rfl Rv.nil) (by first | rfl | exact int_eq (by omega) | (simp; done))
set_option maxRecDepth 20000 in
set_option maxHeartbeats 4000000 in
theorem rollF_tr (s : Int) (o c : UInt8) : Tr Tryz.prog 169 #[.int .u32 s, .int .u8 (o.toNat : Int), .int .u8 (c.toNat : Int)] [] [] (T0 (.int .u32 (rollM s o c))) := by
  refine Tr.of (l := [(0, .int .u32 s), (1, .int .u8 (o.toNat : Int)), (2, .int .u8 (c.toNat : Int))]) Tryz.func169 rfl (n := 16) rfl (.cons rfl (.cons rfl (.cons rfl .nil))) (fun w0 hro => ?_)
  refine G.seq (G.region ?_)
  refine G.asT rfl rfl ?_
  refine G.nil ?_
  refine G.nThen (G.seq (G.region ?_))
  refine G.mvT rfl rfl ?_
  refine G.mvT rfl rfl ?_
  refine G.op rfl (G.cR rfl rfl rfl rfl Tryz.func168 rfl rfl may0 (weight_tr _) ?_)
  refine G.op rfl (G.val rfl rfl (pv_mulk rfl rfl) ?_)
  refine G.op rfl (G.val rfl rfl (pv_subk rfl rfl) ?_)
  refine G.op rfl (G.val rfl rfl (pv_mulk rfl rfl) ?_)
  refine G.mvT rfl rfl ?_
  refine G.op rfl (G.cR rfl rfl rfl rfl Tryz.func168 rfl rfl may0 (weight_tr _) ?_)
  refine G.op rfl (G.val rfl rfl ((pv_addk rfl rfl).int (u32_roll s o c)) ?_)
  refine G.asT rfl rfl ?_
  refine G.nil ?_
  refine G.nThen ?_
  refine G.ret ?_
  exact G.done0G rfl (Rv.tmp rfl Rv.nil) (by first | rfl | exact int_eq (by omega) | (simp; done))
set_option maxRecDepth 20000 in
set_option maxHeartbeats 4000000 in
theorem rnone_tr (D : Nat) (T : TypeId) (ring : List UInt8) (n : Nat) (s : Int) (rest : List Value) (hr : ring.length = 16) : Tr Tryz.prog 167 #[.pointer (some ⟨D, 0, none⟩)] [blk D T (rollC ring n s rest)] [] (T0 (.bool false)) := by
  refine Tr.of (l := [(0, .pointer (some ⟨D, 0, none⟩))]) Tryz.func167 rfl (n := 12) rfl (.cons rfl .nil) (fun w0 hro => ?_)
  have hb := ro1 hro
  refine G.seq (G.region ?_)
  refine G.asT rfl rfl ?_
  refine G.nil ?_
  refine G.nThen (G.seq (G.region ?_))
  refine G.mvT rfl rfl ?_
  refine G.op rfl (G.val rfl rfl ((pv_eqlP0 Tryz.underlying181 rfl rfl).cast (v' := .bool false) rfl) ?_)
  refine G.mvT rfl rfl ?_
  refine G.want rfl rfl rfl (G.val rfl rfl (pv_move rfl) ?_)
  refine G.want rfl rfl rfl (G.val rfl rfl (pv_nilCheck rfl) ?_)
  refine G.want rfl rfl rfl (G.val rfl rfl (pv_fieldAddrK (sz := 0) (k := 18) Tryz.underlying153 rfl kr rfl rfl) ?_)
  refine G.want rfl rfl rfl (G.val rfl rfl (pv_load Tryz.underlying4 rfl rfl (ro_blk hb (roll_m hr))) ?_)
  refine G.want rfl rfl rfl (G.val rfl rfl ((pv_not rfl).cast (v' := .bool false) rfl) ?_)
  refine G.op rfl (G.val rfl rfl (pv_pick rfl rfl) ?_)
  refine G.asT rfl rfl ?_
  refine G.nil ?_
  refine G.nThen ?_
  refine G.ret ?_
  exact G.done0G rfl (Rv.tmp rfl Rv.nil) (by first | rfl | exact int_eq (by omega) | (simp; done))
set_option maxRecDepth 20000 in
set_option maxHeartbeats 4000000 in
theorem push_tr (D : Nat) (T : TypeId) (ring : List UInt8) (n : Nat) (s : Int) (rest : List Value) (m : List UInt8) (c : UInt8) (h : RollAt ring n s m) : Tr Tryz.prog 161 #[.pointer (some ⟨D, 0, none⟩), .int .u8 (c.toNat : Int)] [] [blk D T (rollC ring n s rest)]
    (TX (fun z : List UInt8 × Nat × Int => RollAt z.1 z.2.1 z.2.2 (m ++ [c])) (fun _ => .int .u32 (rsum (lastW (m ++ [c])))) (fun z => [blk D T (rollC z.1 z.2.1 z.2.2 rest)])) := by
  refine Tr.of (l := [(0, .pointer (some ⟨D, 0, none⟩)), (1, .int .u8 (c.toNat : Int))]) Tryz.func161 rfl (n := 73) rfl (.cons rfl (.cons rfl .nil)) (fun w0 hro => ?_)
  have hr := h.len
  obtain ⟨hmod, hn32⟩ := h.mod
  have hpush := h.push c
  refine G.seq (G.region ?_)
  refine G.asT rfl rfl ?_
  refine G.nil ?_
  refine G.nThen (G.seq ?_)
  refine G.cutK (X := Int) (ts := [0, 1]) (p := [blk D _ _]) (fun s' => s' = rsum (lastW (m ++ [c]))) (fun s' => []) (fun s' => [blk D T (rollC ring n s' rest)]) (.cons rfl (.cons rfl .nil)) subT Ap.nil apT ?_ ?_
  · refine G.block ?_
    refine G.seq (G.region ?_)
    refine G.mvT rfl rfl ?_
    refine G.op rfl (G.cR rfl rfl rfl rfl Tryz.func167 rfl rfl (may1 (by first | (apply May.old; first | with_reducible assumption | assumption) | (apply Sel.may; (repeat (first | with_reducible exact Sel.here | exact Sel.here | apply Sel.there)); done) | (apply may_own; (repeat (first | with_reducible exact Sel.here | exact Sel.here | apply Sel.there)); exact rfl; exact (fun _ _ => trivial); done) | (apply may_ownB; (repeat (first | with_reducible exact Sel.here | exact Sel.here | apply Sel.there)); done))) (rnone_tr _ _ _ _ _ _ (by assumption)) ?_)
    refine G.asT rfl rfl ?_
    refine G.nil ?_
    refine G.nThen ?_
    refine G.condF rfl (rfl) ?_
    refine G.seq (G.region ?_)
    refine G.mvT rfl rfl ?_
    refine G.op rfl (G.val rfl rfl (pv_nilCheck rfl) ?_)
    refine G.op rfl (G.val rfl rfl (pv_fieldAddrK (sz := 0) (k := 16) Tryz.underlying153 rfl kr rfl rfl) ?_)
    refine G.op rfl (G.val rfl rfl (pv_load Tryz.underlying3 rfl rfl (by first | exact blk_cell selD (roll_n hr) | exact blk_cell selD (roll_s hr) | exact blk_cell selD (by rfl) | exact rng_cell selD (by rfl) | exact ro_blk (by assumption) (by rfl) | exact ro_rngC (by assumption) (by rfl) | exact ro_int (by assumption) | exact ro_byte (by assumption) | exact ro_str (by assumption) | with_reducible assumption | assumption)) ?_)
    refine G.op rfl (G.val rfl rfl (pv_lss rfl rfl) ?_)
    refine G.asT rfl rfl ?_
    refine G.nil ?_
    refine G.nThen ?_
    refine G.condP rfl (fun h27 => ?_) (fun h27 => ?_)
    · have hm16 : m.length < 16 := by have := h.num; unfold rollN at this; split at this <;> omega
      have hsn := lastW_snoc hm16 c
      rw [← h.sum] at hsn
      refine G.drawT (nn := 12) (p := [blk D _ _]) (rem := 4095) [0, 0, 2, 4, 8, 16, 0, 64, 160, 511, 1023, 1535] [0, 0, 2, 4, 8, 16, 0, 64, 160, 1, 512, 1280] kr ⟨rfl, by kernel_rfl, by kernel_rfl⟩ subT kr (fun hT5 => ?_)
      refine G.takeT hT5 (i := 0) (rem' := 4094) rfl rfl rfl kr (fun _ _ _ h => h) rfl (pv_move rfl) subT ?_
      refine G.takeT hT5 (i := 1) (rem' := 4092) rfl rfl rfl kr (fun _ _ _ h => h) rfl (pv_move rfl) subT ?_
      refine G.takeT hT5 (i := 2) (rem' := 4088) rfl rfl rfl kr (fun _ _ _ h => h) rfl (pv_nilCheck rfl) subT ?_
      refine G.takeT hT5 (i := 3) (rem' := 4080) rfl rfl rfl kr (fun _ _ _ h => h) rfl (pv_fieldAddrK (sz := 0) (k := 17) Tryz.underlying153 rfl kr rfl rfl) subT ?_
      refine G.takeT hT5 (i := 6) (rem' := 4016) rfl rfl rfl kr (fun _ _ _ h => h) rfl (pv_move rfl) subT ?_
      refine G.twoT hT5 (i := 4) (j := 7) (rem' := 4000) (rem'' := 3888) kr kr kr ?_ ?_
      · refine G.turnOp rfl rfl (G.val rfl rfl (pv_load Tryz.underlying151 rfl rfl (by first | exact blk_cell selD (roll_n hr) | exact blk_cell selD (roll_s hr) | exact blk_cell selD (by rfl) | exact rng_cell selD (by rfl) | exact ro_blk (by assumption) (by rfl) | exact ro_rngC (by assumption) (by rfl) | exact ro_int (by assumption) | exact ro_byte (by assumption) | exact ro_str (by assumption) | with_reducible assumption | assumption)) ?_)
        refine G.back subT ?_
        refine G.takeT hT5 (i := 5) (rem' := 3968) rfl rfl rfl kr (fun _ _ _ h => h) rfl (pv_mulk rfl rfl) subT ?_
        refine G.oneT hT5 (i := 7) (rem' := 3840) kr kr ?_
        refine G.turnOp rfl rfl (G.cR rfl rfl rfl rfl Tryz.func168 rfl rfl may0 (weight_tr _) ?_)
        refine G.back subT ?_
        refine G.takeT hT5 (i := 8) (rem' := 3584) rfl rfl rfl kr (fun _ _ _ h => h) rfl ((pv_addk rfl rfl).int ((u32_next _ _).trans hsn.symm)) subT ?_
        refine G.takeT hT5 (i := 9) (rem' := 3072) rfl rfl rfl kr (fun _ _ _ h => h) rfl (pv_nilCheck rfl) subT ?_
        refine G.takeT hT5 (i := 10) (rem' := 2048) rfl rfl rfl kr (fun _ _ _ h => h) rfl (pv_fieldAddrK (sz := 0) (k := 17) Tryz.underlying153 rfl kr rfl rfl) subT ?_
        refine G.oneT hT5 (i := 11) (rem' := 0) kr kr ?_
        refine G.turnOp rfl rfl (G.store kr rfl rfl (by rfl) selT (by rw [roll_len hr]; first | done | omega) ?_)
        rw [roll_setS hr]
        refine G.back subT ?_
        refine G.overT hT5 kr ?_
        refine G.nBlock ?_
        exact G.meet (rsum (lastW (m ++ [c]))) (by first | exact trivial | ((try dsimp only) <;> exact rfl)) (.cons rfl (.cons rfl .nil)) subT
      refine G.turnOp rfl rfl (G.cR rfl rfl rfl rfl Tryz.func168 rfl rfl may0 (weight_tr _) ?_)
      refine G.back subT ?_
      refine G.oneT hT5 (i := 4) (rem' := 3872) kr kr ?_
      refine G.turnOp rfl rfl (G.val rfl rfl (pv_load Tryz.underlying151 rfl rfl (by first | exact blk_cell selD (roll_n hr) | exact blk_cell selD (roll_s hr) | exact blk_cell selD (by rfl) | exact rng_cell selD (by rfl) | exact ro_blk (by assumption) (by rfl) | exact ro_rngC (by assumption) (by rfl) | exact ro_int (by assumption) | exact ro_byte (by assumption) | exact ro_str (by assumption) | with_reducible assumption | assumption)) ?_)
      refine G.back subT ?_
      refine G.takeT hT5 (i := 5) (rem' := 3840) rfl rfl rfl kr (fun _ _ _ h => h) rfl (pv_mulk rfl rfl) subT ?_
      refine G.takeT hT5 (i := 8) (rem' := 3584) rfl rfl rfl kr (fun _ _ _ h => h) rfl ((pv_addk rfl rfl).int ((u32_next _ _).trans hsn.symm)) subT ?_
      refine G.takeT hT5 (i := 9) (rem' := 3072) rfl rfl rfl kr (fun _ _ _ h => h) rfl (pv_nilCheck rfl) subT ?_
      refine G.takeT hT5 (i := 10) (rem' := 2048) rfl rfl rfl kr (fun _ _ _ h => h) rfl (pv_fieldAddrK (sz := 0) (k := 17) Tryz.underlying153 rfl kr rfl rfl) subT ?_
      refine G.oneT hT5 (i := 11) (rem' := 0) kr kr ?_
      refine G.turnOp rfl rfl (G.store kr rfl rfl (by rfl) selT (by rw [roll_len hr]; first | done | omega) ?_)
      rw [roll_setS hr]
      refine G.back subT ?_
      refine G.overT hT5 kr ?_
      refine G.nBlock ?_
      exact G.meet (rsum (lastW (m ++ [c]))) (by first | exact trivial | ((try dsimp only) <;> exact rfl)) (.cons rfl (.cons rfl .nil)) subT
    obtain ⟨h16, hout, _⟩ := h.out (by omega)
    have hro2 := lastW_roll h16 c
    rw [← h.sum] at hro2
    refine G.drawT (nn := 20) (p := [blk D _ _]) (rem := 1048575) [0, 0, 2, 4, 8, 0, 0, 64, 128, 256, 512, 32, 2048, 5120, 8192, 0, 49168, 131071, 262143, 393215] [0, 0, 2, 4, 8, 0, 0, 64, 128, 256, 512, 32, 2048, 5120, 8192, 0, 49168, 1, 131072, 327680] kr ⟨rfl, by kernel_rfl, by kernel_rfl⟩ subT kr (fun hT1 => ?_)
    refine G.takeT hT1 (i := 0) (rem' := 1048574) rfl rfl rfl kr (fun _ _ _ h => h) rfl (pv_move rfl) subT ?_
    refine G.takeT hT1 (i := 1) (rem' := 1048572) rfl rfl rfl kr (fun _ _ _ h => h) rfl (pv_move rfl) subT ?_
    refine G.takeT hT1 (i := 2) (rem' := 1048568) rfl rfl rfl kr (fun _ _ _ h => h) rfl (pv_nilCheck rfl) subT ?_
    refine G.takeT hT1 (i := 3) (rem' := 1048560) rfl rfl rfl kr (fun _ _ _ h => h) rfl (pv_fieldAddrK (sz := 0) (k := 17) Tryz.underlying153 rfl kr rfl rfl) subT ?_
    refine G.takeT hT1 (i := 5) (rem' := 1048528) rfl rfl rfl kr (fun _ _ _ h => h) rfl (pv_move rfl) subT ?_
    refine G.takeT hT1 (i := 6) (rem' := 1048464) rfl rfl rfl kr (fun _ _ _ h => h) rfl (pv_move rfl) subT ?_
    refine G.takeT hT1 (i := 7) (rem' := 1048336) rfl rfl rfl kr (fun _ _ _ h => h) rfl (pv_nilCheck rfl) subT ?_
    refine G.takeT hT1 (i := 8) (rem' := 1048080) rfl rfl rfl kr (fun _ _ _ h => h) rfl (pv_fieldAddrK (sz := 0) (k := 16) Tryz.underlying153 rfl kr rfl rfl) subT ?_
    refine G.takeT hT1 (i := 11) (rem' := 1046032) rfl rfl rfl kr (fun _ _ _ h => h) rfl (pv_nilCheck rfl) subT ?_
    refine G.takeT hT1 (i := 12) (rem' := 1041936) rfl rfl rfl kr (fun _ _ _ h => h) rfl (pv_fieldAddrK (sz := 15) (k := 0) Tryz.underlying153 rfl kr rfl rfl) subT ?_
    refine G.takeT hT1 (i := 15) (rem' := 1009168) rfl rfl rfl kr (fun _ _ _ h => h) rfl (pv_move rfl) subT ?_
    refine G.twoT hT1 (i := 4) (j := 9) (rem' := 1009152) (rem'' := 1008656) kr kr kr ?_ ?_
    · refine G.turnOp rfl rfl (G.val rfl rfl (pv_load Tryz.underlying151 rfl rfl (by first | exact blk_cell selD (roll_n hr) | exact blk_cell selD (roll_s hr) | exact blk_cell selD (by rfl) | exact rng_cell selD (by rfl) | exact ro_blk (by assumption) (by rfl) | exact ro_rngC (by assumption) (by rfl) | exact ro_int (by assumption) | exact ro_byte (by assumption) | exact ro_str (by assumption) | with_reducible assumption | assumption)) ?_)
      refine G.back subT ?_
      refine G.oneT hT1 (i := 9) (rem' := 1008640) kr kr ?_
      refine G.turnOp rfl rfl (G.val rfl rfl (pv_load Tryz.underlying3 rfl rfl (by first | exact blk_cell selD (roll_n hr) | exact blk_cell selD (roll_s hr) | exact blk_cell selD (by rfl) | exact rng_cell selD (by rfl) | exact ro_blk (by assumption) (by rfl) | exact ro_rngC (by assumption) (by rfl) | exact ro_int (by assumption) | exact ro_byte (by assumption) | exact ro_str (by assumption) | with_reducible assumption | assumption)) ?_)
      refine G.back subT ?_
      refine G.takeT hT1 (i := 10) (rem' := 1007616) rfl rfl rfl kr (fun _ _ _ h => h) rfl (pv_rem64 rfl rfl (by omega) (by omega)) subT ?_
      refine G.takeT hT1 (i := 13) (rem' := 999424) rfl rfl rfl kr (fun _ _ _ h => h) rfl (pv_ixA (sz := 1) (k := n % 16) Tryz.underlying65 kr rfl rfl (by omega) (by omega)) subT ?_
      refine G.oneT hT1 (i := 14) (rem' := 983040) kr kr ?_
      refine G.turnOp rfl rfl (G.val rfl rfl (pv_load Tryz.underlying5 rfl rfl (blk_cell selD (roll_r hr hout))) ?_)
      refine G.back subT ?_
      refine G.oneT hT1 (i := 16) (rem' := 917504) kr kr ?_
      refine G.turnOp rfl rfl (G.cR rfl rfl rfl rfl Tryz.func169 rfl rfl may0 (rollF_tr _ _ _) ?_)
      rw [← hro2]
      refine G.back subT ?_
      refine G.takeT hT1 (i := 17) (rem' := 786432) rfl rfl rfl kr (fun _ _ _ h => h) rfl (pv_nilCheck rfl) subT ?_
      refine G.takeT hT1 (i := 18) (rem' := 524288) rfl rfl rfl kr (fun _ _ _ h => h) rfl (pv_fieldAddrK (sz := 0) (k := 17) Tryz.underlying153 rfl kr rfl rfl) subT ?_
      refine G.oneT hT1 (i := 19) (rem' := 0) kr kr ?_
      refine G.turnOp rfl rfl (G.store kr rfl rfl (by rfl) selT (by rw [roll_len hr]; first | done | omega) ?_)
      rw [roll_setS hr]
      refine G.back subT ?_
      refine G.overT hT1 kr ?_
      refine G.nBlock ?_
      exact G.meet (rsum (lastW (m ++ [c]))) (by first | exact trivial | ((try dsimp only) <;> exact rfl)) (.cons rfl (.cons rfl .nil)) subT
    refine G.turnOp rfl rfl (G.val rfl rfl (pv_load Tryz.underlying3 rfl rfl (by first | exact blk_cell selD (roll_n hr) | exact blk_cell selD (roll_s hr) | exact blk_cell selD (by rfl) | exact rng_cell selD (by rfl) | exact ro_blk (by assumption) (by rfl) | exact ro_rngC (by assumption) (by rfl) | exact ro_int (by assumption) | exact ro_byte (by assumption) | exact ro_str (by assumption) | with_reducible assumption | assumption)) ?_)
    refine G.back subT ?_
    refine G.takeT hT1 (i := 10) (rem' := 1007632) rfl rfl rfl kr (fun _ _ _ h => h) rfl (pv_rem64 rfl rfl (by omega) (by omega)) subT ?_
    refine G.takeT hT1 (i := 13) (rem' := 999440) rfl rfl rfl kr (fun _ _ _ h => h) rfl (pv_ixA (sz := 1) (k := n % 16) Tryz.underlying65 kr rfl rfl (by omega) (by omega)) subT ?_
    refine G.twoT hT1 (i := 4) (j := 14) (rem' := 999424) (rem'' := 983056) kr kr kr ?_ ?_
    · refine G.turnOp rfl rfl (G.val rfl rfl (pv_load Tryz.underlying151 rfl rfl (by first | exact blk_cell selD (roll_n hr) | exact blk_cell selD (roll_s hr) | exact blk_cell selD (by rfl) | exact rng_cell selD (by rfl) | exact ro_blk (by assumption) (by rfl) | exact ro_rngC (by assumption) (by rfl) | exact ro_int (by assumption) | exact ro_byte (by assumption) | exact ro_str (by assumption) | with_reducible assumption | assumption)) ?_)
      refine G.back subT ?_
      refine G.oneT hT1 (i := 14) (rem' := 983040) kr kr ?_
      refine G.turnOp rfl rfl (G.val rfl rfl (pv_load Tryz.underlying5 rfl rfl (blk_cell selD (roll_r hr hout))) ?_)
      refine G.back subT ?_
      refine G.oneT hT1 (i := 16) (rem' := 917504) kr kr ?_
      refine G.turnOp rfl rfl (G.cR rfl rfl rfl rfl Tryz.func169 rfl rfl may0 (rollF_tr _ _ _) ?_)
      rw [← hro2]
      refine G.back subT ?_
      refine G.takeT hT1 (i := 17) (rem' := 786432) rfl rfl rfl kr (fun _ _ _ h => h) rfl (pv_nilCheck rfl) subT ?_
      refine G.takeT hT1 (i := 18) (rem' := 524288) rfl rfl rfl kr (fun _ _ _ h => h) rfl (pv_fieldAddrK (sz := 0) (k := 17) Tryz.underlying153 rfl kr rfl rfl) subT ?_
      refine G.oneT hT1 (i := 19) (rem' := 0) kr kr ?_
      refine G.turnOp rfl rfl (G.store kr rfl rfl (by rfl) selT (by rw [roll_len hr]; first | done | omega) ?_)
      rw [roll_setS hr]
      refine G.back subT ?_
      refine G.overT hT1 kr ?_
      refine G.nBlock ?_
      exact G.meet (rsum (lastW (m ++ [c]))) (by first | exact trivial | ((try dsimp only) <;> exact rfl)) (.cons rfl (.cons rfl .nil)) subT
    refine G.turnOp rfl rfl (G.val rfl rfl (pv_load Tryz.underlying5 rfl rfl (blk_cell selD (roll_r hr hout))) ?_)
    refine G.back subT ?_
    refine G.oneT hT1 (i := 4) (rem' := 983040) kr kr ?_
    refine G.turnOp rfl rfl (G.val rfl rfl (pv_load Tryz.underlying151 rfl rfl (by first | exact blk_cell selD (roll_n hr) | exact blk_cell selD (roll_s hr) | exact blk_cell selD (by rfl) | exact rng_cell selD (by rfl) | exact ro_blk (by assumption) (by rfl) | exact ro_rngC (by assumption) (by rfl) | exact ro_int (by assumption) | exact ro_byte (by assumption) | exact ro_str (by assumption) | with_reducible assumption | assumption)) ?_)
    refine G.back subT ?_
    refine G.oneT hT1 (i := 16) (rem' := 917504) kr kr ?_
    refine G.turnOp rfl rfl (G.cR rfl rfl rfl rfl Tryz.func169 rfl rfl may0 (rollF_tr _ _ _) ?_)
    rw [← hro2]
    refine G.back subT ?_
    refine G.takeT hT1 (i := 17) (rem' := 786432) rfl rfl rfl kr (fun _ _ _ h => h) rfl (pv_nilCheck rfl) subT ?_
    refine G.takeT hT1 (i := 18) (rem' := 524288) rfl rfl rfl kr (fun _ _ _ h => h) rfl (pv_fieldAddrK (sz := 0) (k := 17) Tryz.underlying153 rfl kr rfl rfl) subT ?_
    refine G.oneT hT1 (i := 19) (rem' := 0) kr kr ?_
    refine G.turnOp rfl rfl (G.store kr rfl rfl (by rfl) selT (by rw [roll_len hr]; first | done | omega) ?_)
    rw [roll_setS hr]
    refine G.back subT ?_
    refine G.overT hT1 kr ?_
    refine G.nBlock ?_
    exact G.meet (rsum (lastW (m ++ [c]))) (by first | exact trivial | ((try dsimp only) <;> exact rfl)) (.cons rfl (.cons rfl .nil)) subT
  intro s' hJ
  try dsimp only at hJ
  try dsimp only
  subst hJ
  refine G.seq ?_
  refine G.drawT (nn := 11) (p := [blk D _ _]) (rem := 2047) [0, 0, 2, 4, 8, 16, 0, 1, 128, 383, 639] [0, 0, 2, 4, 8, 16, 0, 1, 128, 288, 576] kr ⟨rfl, by kernel_rfl, by kernel_rfl⟩ subT kr (fun hT6 => ?_)
  refine G.takeT hT6 (i := 0) (rem' := 2046) rfl rfl rfl kr (fun _ _ _ h => h) rfl (pv_move rfl) subT ?_
  refine G.takeT hT6 (i := 1) (rem' := 2044) rfl rfl rfl kr (fun _ _ _ h => h) rfl (pv_move rfl) subT ?_
  refine G.takeT hT6 (i := 2) (rem' := 2040) rfl rfl rfl kr (fun _ _ _ h => h) rfl (pv_nilCheck rfl) subT ?_
  refine G.takeT hT6 (i := 3) (rem' := 2032) rfl rfl rfl kr (fun _ _ _ h => h) rfl (pv_fieldAddrK (sz := 0) (k := 16) Tryz.underlying153 rfl kr rfl rfl) subT ?_
  refine G.takeT hT6 (i := 6) (rem' := 1968) rfl rfl rfl kr (fun _ _ _ h => h) rfl (pv_move rfl) subT ?_
  refine G.takeT hT6 (i := 7) (rem' := 1840) rfl rfl rfl kr (fun _ _ _ h => h) rfl (pv_nilCheck rfl) subT ?_
  refine G.takeT hT6 (i := 8) (rem' := 1584) rfl rfl rfl kr (fun _ _ _ h => h) rfl (pv_fieldAddrK (sz := 15) (k := 0) Tryz.underlying153 rfl kr rfl rfl) subT ?_
  refine G.oneT hT6 (i := 4) (rem' := 1568) kr kr ?_
  refine G.turnOp rfl rfl (G.val rfl rfl (pv_load Tryz.underlying3 rfl rfl (by first | exact blk_cell selD (roll_n hr) | exact blk_cell selD (roll_s hr) | exact blk_cell selD (by rfl) | exact rng_cell selD (by rfl) | exact ro_blk (by assumption) (by rfl) | exact ro_rngC (by assumption) (by rfl) | exact ro_int (by assumption) | exact ro_byte (by assumption) | exact ro_str (by assumption) | with_reducible assumption | assumption)) ?_)
  refine G.back subT ?_
  refine G.takeT hT6 (i := 5) (rem' := 1536) rfl rfl rfl kr (fun _ _ _ h => h) rfl (pv_rem64 rfl rfl (by omega) (by omega)) subT ?_
  refine G.takeT hT6 (i := 9) (rem' := 1024) rfl rfl rfl kr (fun _ _ _ h => h) rfl (pv_ixA (sz := 1) (k := n % 16) Tryz.underlying65 kr rfl rfl (by omega) (by omega)) subT ?_
  refine G.oneT hT6 (i := 10) (rem' := 0) kr kr ?_
  refine G.turnOp rfl rfl (G.store kr rfl rfl (by rfl) selT (by rw [roll_len hr]; first | done | omega) ?_)
  rw [roll_setR hr (by omega)]
  have hr0 := hr
  have hr : (ring.set (n % 16) c).length = 16 := by rw [List.length_set]; exact hr0
  refine G.back subT ?_
  refine G.overT hT6 kr ?_
  refine G.nThen (G.seq (G.region ?_))
  refine G.mvT rfl rfl ?_
  refine G.op rfl (G.val rfl rfl (pv_nilCheck rfl) ?_)
  refine G.op rfl (G.val rfl rfl (pv_fieldAddrK (sz := 0) (k := 16) Tryz.underlying153 rfl kr rfl rfl) ?_)
  refine G.op rfl (G.val rfl rfl (pv_load Tryz.underlying3 rfl rfl (by first | exact blk_cell selD (roll_n hr) | exact blk_cell selD (roll_s hr) | exact blk_cell selD (by rfl) | exact rng_cell selD (by rfl) | exact ro_blk (by assumption) (by rfl) | exact ro_rngC (by assumption) (by rfl) | exact ro_int (by assumption) | exact ro_byte (by assumption) | exact ro_str (by assumption) | with_reducible assumption | assumption)) ?_)
  refine G.op rfl (G.val rfl rfl ((pv_add64 rfl rfl (by omega)).int (b := ((n + 1 : Nat) : Int)) (by omega)) ?_)
  refine G.op rfl (G.val rfl rfl (pv_nilCheck rfl) ?_)
  refine G.op rfl (G.val rfl rfl (pv_fieldAddrK (sz := 0) (k := 16) Tryz.underlying153 rfl kr rfl rfl) ?_)
  refine G.op rfl (G.store kr rfl rfl (by rfl) selT (by rw [roll_len hr]; first | done | omega) ?_)
  rw [roll_setN hr]
  refine G.nil ?_
  refine G.nThen (G.seq (G.seq (G.region ?_)))
  refine G.mvT rfl rfl ?_
  refine G.op rfl (G.val rfl rfl (pv_nilCheck rfl) ?_)
  refine G.op rfl (G.val rfl rfl (pv_fieldAddrK (sz := 0) (k := 16) Tryz.underlying153 rfl kr rfl rfl) ?_)
  refine G.op rfl (G.val rfl rfl (pv_load Tryz.underlying3 rfl rfl (by first | exact blk_cell selD (roll_n hr) | exact blk_cell selD (roll_s hr) | exact blk_cell selD (by rfl) | exact rng_cell selD (by rfl) | exact ro_blk (by assumption) (by rfl) | exact ro_rngC (by assumption) (by rfl) | exact ro_int (by assumption) | exact ro_byte (by assumption) | exact ro_str (by assumption) | with_reducible assumption | assumption)) ?_)
  refine G.op rfl (G.val rfl rfl (pv_eql rfl rfl) ?_)
  refine G.nil ?_
  refine G.nThen ?_
  refine G.condP rfl (fun h65 => ?_) (fun h65 => ?_)
  · have h32 : n + 1 = 32 := by omega
    rw [if_pos h32] at hpush
    refine G.region ?_
    refine G.mvT rfl rfl ?_
    refine G.op rfl (G.val rfl rfl (pv_nilCheck rfl) ?_)
    refine G.op rfl (G.val rfl rfl (pv_fieldAddrK (sz := 0) (k := 16) Tryz.underlying153 rfl kr rfl rfl) ?_)
    refine G.op rfl (G.store kr rfl rfl (by rfl) selT (by rw [roll_len hr]; first | done | omega) ?_)
    rw [show (.int .i64 16 : Value) = .int .i64 ((16 : Nat) : Int) from rfl, roll_setN hr]
    refine G.nil ?_
    refine G.nThen (G.seq (G.region ?_))
    refine G.mvT rfl rfl ?_
    refine G.op rfl (G.val rfl rfl (pv_nilCheck rfl) ?_)
    refine G.op rfl (G.val rfl rfl (pv_fieldAddrK (sz := 0) (k := 17) Tryz.underlying153 rfl kr rfl rfl) ?_)
    refine G.op rfl (G.val rfl rfl (pv_load Tryz.underlying151 rfl rfl (by first | exact blk_cell selD (roll_n hr) | exact blk_cell selD (roll_s hr) | exact blk_cell selD (by rfl) | exact rng_cell selD (by rfl) | exact ro_blk (by assumption) (by rfl) | exact ro_rngC (by assumption) (by rfl) | exact ro_int (by assumption) | exact ro_byte (by assumption) | exact ro_str (by assumption) | with_reducible assumption | assumption)) ?_)
    refine G.asT rfl rfl ?_
    refine G.nil ?_
    refine G.nThen ?_
    refine G.ret ?_
    exact G.doneX1 ((ring.set (n % 16) c, 16, rsum (lastW (m ++ [c])))) (by first | exact trivial | ((try dsimp only) <;> exact hpush)) rfl rfl rfl subT
  have h32 : ¬ n + 1 = 32 := by omega
  rw [if_neg h32] at hpush
  refine G.skip ?_
  refine G.nThen (G.seq (G.region ?_))
  refine G.mvT rfl rfl ?_
  refine G.op rfl (G.val rfl rfl (pv_nilCheck rfl) ?_)
  refine G.op rfl (G.val rfl rfl (pv_fieldAddrK (sz := 0) (k := 17) Tryz.underlying153 rfl kr rfl rfl) ?_)
  refine G.op rfl (G.val rfl rfl (pv_load Tryz.underlying151 rfl rfl (by first | exact blk_cell selD (roll_n hr) | exact blk_cell selD (roll_s hr) | exact blk_cell selD (by rfl) | exact rng_cell selD (by rfl) | exact ro_blk (by assumption) (by rfl) | exact ro_rngC (by assumption) (by rfl) | exact ro_int (by assumption) | exact ro_byte (by assumption) | exact ro_str (by assumption) | with_reducible assumption | assumption)) ?_)
  refine G.asT rfl rfl ?_
  refine G.nil ?_
  refine G.nThen ?_
  refine G.ret ?_
  exact G.doneX1 ((ring.set (n % 16) c, n + 1, rsum (lastW (m ++ [c])))) (by first | exact trivial | ((try dsimp only) <;> exact hpush)) rfl rfl rfl subT
end Go.Proofs.YtbfpbibkklfnfaaGreat

set_option linter.unusedVariables false
set_option linter.unusedSimpArgs false
namespace Go.Proofs.YtbfpbibkklfnfaaGreat
open Go.RowKit
/-- a byte that may not be -/
def badP (c : UInt8) : Bool := decide (c.toNat < 33) || decide (126 < c.toNat) || decide (c.toNat = 47)
/-- what is wrong with a part -/
def stepB (bad : UInt8 → Bool) (s : List UInt8) : Int × Int :=
  if s = [] ∨ s = [46] ∨ s = [46, 46] then (2, 0)
  else if s.findIdx bad < s.length then (4, s.findIdx bad)
  else if 60 < s.length then (3, 60) else (0, 0)
/-- .. the reference's -/
def badR (c : UInt8) : Bool := decide (c.toNat < 33) || decide (126 < c.toNat)
theorem stepJ {s : List UInt8} {k : Nat} (h : ∀ j, j < k → ∀ h : j < s.length, badP s[j] = false) (hk : k < s.length) (h1 : ¬ ((s[k].toNat : Int) < 33)) (h2 : ¬ ((126 : Int) < s[k].toNat)) (h3 : ¬ ((s[k].toNat : Int) = 47)) : ∀ j, j < k + 1 → ∀ h : j < s.length, badP s[j] = false := fun j hj hl => by
  rcases Nat.lt_or_ge j k with h4 | h4
  · exact h j h4 hl
  obtain rfl : j = k := by omega
  unfold badP
  simp
  omega
theorem stepJR {s : List UInt8} {k : Nat} (h : ∀ j, j < k → ∀ h : j < s.length, badR s[j] = false) (hk : k < s.length) (h1 : ¬ ((s[k].toNat : Int) < 33)) (h2 : ¬ ((126 : Int) < s[k].toNat)) : ∀ j, j < k + 1 → ∀ h : j < s.length, badR s[j] = false := fun j hj hl => by
  rcases Nat.lt_or_ge j k with h4 | h4
  · exact h j h4 hl
  obtain rfl : j = k := by omega
  unfold badR
  simp
  omega
theorem stepArg {bad : UInt8 → Bool} {s : List UInt8} (h : s = [] ∨ s = [46] ∨ s = [46, 46]) : stepB bad s = (2, 0) := if_pos h
theorem stepBad {bad : UInt8 → Bool} {s : List UInt8} {k : Nat} (h1 : ¬ s = []) (h2 : ¬ s = [46]) (h3 : ¬ s = [46, 46]) (h : ∀ j, j < k → ∀ h : j < s.length, bad s[j] = false) (hk : k < s.length) (hb : bad s[k] = true) : stepB bad s = (4, (k : Int)) := by
  have e : s.findIdx bad = k := (List.findIdx_eq hk).2 ⟨hb, fun j hj => h j hj (by omega)⟩
  unfold stepB
  rw [if_neg (by simp [h1, h2, h3]), e, if_pos hk]
theorem stepAll {bad : UInt8 → Bool} {s : List UInt8} {k : Nat} (h : ∀ j, j < k → ∀ h : j < s.length, bad s[j] = false) (hk : s.length ≤ k) : s.findIdx bad = s.length := List.findIdx_eq_length_of_false fun x hx => by
  obtain ⟨j, hj, rfl⟩ := List.getElem_of_mem hx
  exact h j (by omega) hj
theorem stepLong {bad : UInt8 → Bool} {s : List UInt8} {k : Nat} (h1 : ¬ s = []) (h2 : ¬ s = [46]) (h3 : ¬ s = [46, 46]) (h : ∀ j, j < k → ∀ h : j < s.length, bad s[j] = false) (hk : s.length ≤ k) (hl : 60 < s.length) : stepB bad s = (3, 60) := by
  unfold stepB
  rw [if_neg (by simp [h1, h2, h3]), stepAll h hk, if_neg (by omega), if_pos hl]
theorem stepOk {bad : UInt8 → Bool} {s : List UInt8} {k : Nat} (h1 : ¬ s = []) (h2 : ¬ s = [46]) (h3 : ¬ s = [46, 46]) (h : ∀ j, j < k → ∀ h : j < s.length, bad s[j] = false) (hk : s.length ≤ k) (hl : ¬ 60 < s.length) : stepB bad s = (0, 0) := by
  unfold stepB
  rw [if_neg (by simp [h1, h2, h3]), stepAll h hk, if_neg (by omega), if_neg hl]
theorem bad1 {c : UInt8} (h : (c.toNat : Int) < 33) : badP c = true := by unfold badP; simp; omega
theorem bad2 {c : UInt8} (h : (126 : Int) < c.toNat) : badP c = true := by unfold badP; simp; omega
theorem badR1 {c : UInt8} (h : (c.toNat : Int) < 33) : badR c = true := by unfold badR; simp; omega
theorem badR2 {c : UInt8} (h : (126 : Int) < c.toNat) : badR c = true := by unfold badR; simp; omega
theorem bad3 {c : UInt8} (h : (c.toNat : Int) = 47) : badP c = true := by unfold badP; simp; omega
set_option maxRecDepth 20000 in
set_option maxHeartbeats 4000000 in
theorem step_tr (s : List UInt8) (hs : s.length ≤ 1000000000) : Tr Tryz.prog 139 #[.string (sB s)] [] [] (T0 (.tuple #[.int .i64 (stepB badP s).1, .int .i64 (stepB badP s).2])) := by
  refine Tr.of (l := [(0, .string (sB s))]) Tryz.func139 rfl (n := 41) rfl (.cons rfl .nil) (fun w0 hro => ?_)
  refine G.seq (G.region ?_)
  refine G.asT rfl rfl ?_
  refine G.asT rfl rfl ?_
  refine G.nil ?_
  refine G.nThen (G.seq (G.seq (G.region ?_)))
  refine G.mvT rfl rfl ?_
  refine G.op rfl (G.val rfl rfl (pv_eqlS rfl rfl) ?_)
  refine G.mvT rfl rfl ?_
  refine G.partP (t := 7) rfl (fun h7 => ?_) (fun h7 => ?_)
  · refine G.pass rfl rfl rfl rfl rfl rfl ?_
    refine G.pass rfl rfl rfl rfl rfl rfl ?_
    refine G.op rfl (G.val rfl rfl (pv_pick rfl rfl) ?_)
    refine G.mvT rfl rfl ?_
    refine G.pass rfl rfl rfl rfl rfl rfl ?_
    refine G.pass rfl rfl rfl rfl rfl rfl ?_
    refine G.op rfl (G.val rfl rfl (pv_pick rfl rfl) ?_)
    refine G.nil ?_
    refine G.nThen ?_
    refine G.condT rfl (rfl) ?_
    refine G.seq (G.region ?_)
    refine G.asT rfl rfl ?_
    refine G.asT rfl rfl ?_
    refine G.nil ?_
    refine G.nThen ?_
    refine G.ret ?_
    refine G.rThen ?_
    exact G.done0G rfl (Rv.tmp rfl (Rv.tmp rfl Rv.nil)) (by rw [stepArg (.inl (by assumption))]; rfl)
  refine G.want rfl rfl rfl (G.val rfl rfl (pv_move rfl) ?_)
  refine G.want rfl rfl rfl (G.val rfl rfl (pv_eqlS rfl rfl) ?_)
  refine G.op rfl (G.val rfl rfl (pv_pick rfl rfl) ?_)
  refine G.mvT rfl rfl ?_
  refine G.partP (t := 11) rfl (fun h11 => ?_) (fun h11 => ?_)
  · refine G.pass rfl rfl rfl rfl rfl rfl ?_
    refine G.pass rfl rfl rfl rfl rfl rfl ?_
    refine G.op rfl (G.val rfl rfl (pv_pick rfl rfl) ?_)
    refine G.nil ?_
    refine G.nThen ?_
    refine G.condT rfl (rfl) ?_
    refine G.seq (G.region ?_)
    refine G.asT rfl rfl ?_
    refine G.asT rfl rfl ?_
    refine G.nil ?_
    refine G.nThen ?_
    refine G.ret ?_
    refine G.rThen ?_
    exact G.done0G rfl (Rv.tmp rfl (Rv.tmp rfl Rv.nil)) (by rw [stepArg (.inr (.inl (by assumption)))]; rfl)
  refine G.want rfl rfl rfl (G.val rfl rfl (pv_move rfl) ?_)
  refine G.want rfl rfl rfl (G.val rfl rfl (pv_eqlS rfl rfl) ?_)
  refine G.op rfl (G.val rfl rfl (pv_pick rfl rfl) ?_)
  refine G.nil ?_
  refine G.nThen ?_
  refine G.condP rfl (fun h14 => ?_) (fun h14 => ?_)
  · refine G.seq (G.region ?_)
    refine G.asT rfl rfl ?_
    refine G.asT rfl rfl ?_
    refine G.nil ?_
    refine G.nThen ?_
    refine G.ret ?_
    refine G.rThen ?_
    exact G.done0G rfl (Rv.tmp rfl (Rv.tmp rfl Rv.nil)) (by rw [stepArg (.inr (.inr (by assumption)))]; rfl)
  refine G.skip ?_
  refine G.nThen (G.seq (G.seq (G.region ?_)))
  refine G.mvT rfl rfl ?_
  refine G.op rfl (G.val rfl rfl (pv_lenS Tryz.underlying9 rfl) ?_)
  refine G.mvT rfl rfl ?_
  refine G.nil ?_
  refine G.nThen ?_
  refine G.block ?_
  refine G.loopK (X := Nat) (ts := [0, 16]) (fun k => k ≤ s.length ∧ (∀ j, j < k → ∀ h : j < s.length, badP s[j] = false)) (fun k => [(17, .int .i64 (k : Int))]) (fun k => []) (fun k => s.length - k) (x0 := 0) (.cons rfl (.cons rfl .nil)) subT (.cons .nil) apT (by first | exact trivial | ((try dsimp only); exact ⟨Nat.zero_le _, fun j h => absurd h (by omega)⟩)) (.consE rfl veqT .nil) (fun k hJ => ?_)
  try dsimp only at hJ
  try dsimp only
  obtain ⟨hkk, hJ⟩ := hJ
  refine G.seq (G.region ?_)
  refine G.op rfl (G.val rfl rfl (pv_lss rfl rfl) ?_)
  refine G.nil ?_
  refine G.nThen (G.seq ?_)
  refine G.condP rfl (fun h18 => ?_) (fun h18 => ?_)
  · refine G.skip ?_
    refine G.nThen (G.seq ?_)
    refine G.block ?_
    refine G.seq (G.region ?_)
    refine G.mvT rfl rfl ?_
    refine G.asT rfl rfl ?_
    refine G.nil ?_
    refine G.nThen (G.seq (G.region ?_))
    refine G.mvT rfl rfl ?_
    refine G.mvT rfl rfl ?_
    refine G.op rfl (G.val rfl rfl (pv_ixS Tryz.underlying9 rfl rfl rfl (by omega)) ?_)
    refine G.op rfl (G.val rfl rfl (pv_lss rfl rfl) ?_)
    refine G.mvT rfl rfl ?_
    refine G.partP (t := 24) rfl (fun h24 => ?_) (fun h24 => ?_)
    · refine G.pass rfl rfl rfl rfl rfl rfl ?_
      refine G.pass rfl rfl rfl rfl rfl rfl ?_
      refine G.pass rfl rfl rfl rfl rfl rfl ?_
      refine G.pass rfl rfl rfl rfl rfl rfl ?_
      refine G.op rfl (G.val rfl rfl (pv_pick rfl rfl) ?_)
      refine G.mvT rfl rfl ?_
      refine G.pass rfl rfl rfl rfl rfl rfl ?_
      refine G.pass rfl rfl rfl rfl rfl rfl ?_
      refine G.pass rfl rfl rfl rfl rfl rfl ?_
      refine G.pass rfl rfl rfl rfl rfl rfl ?_
      refine G.op rfl (G.val rfl rfl (pv_pick rfl rfl) ?_)
      refine G.nil ?_
      refine G.nThen ?_
      refine G.condT rfl (rfl) ?_
      refine G.seq (G.region ?_)
      refine G.mvT rfl rfl ?_
      refine G.asT rfl rfl ?_
      refine G.asT rfl rfl ?_
      refine G.nil ?_
      refine G.nThen ?_
      refine G.ret ?_
      refine G.rBlock ?_
      refine G.rThen ?_
      refine G.rThen ?_
      refine G.rBlock ?_
      refine G.rThen ?_
      exact G.done0G rfl (Rv.tmp rfl (Rv.tmp rfl Rv.nil)) (by rw [stepBad (by assumption) (by assumption) (by assumption) hJ (by omega) (bad1 (by assumption))]; rfl)
    refine G.want rfl rfl rfl (G.val rfl rfl (pv_move rfl) ?_)
    refine G.want rfl rfl rfl (G.val rfl rfl (pv_move rfl) ?_)
    refine G.want rfl rfl rfl (G.val rfl rfl (pv_ixS Tryz.underlying9 rfl rfl rfl (by omega)) ?_)
    refine G.want rfl rfl rfl (G.val rfl rfl (pv_gtr rfl rfl) ?_)
    refine G.op rfl (G.val rfl rfl (pv_pick rfl rfl) ?_)
    refine G.mvT rfl rfl ?_
    refine G.partP (t := 30) rfl (fun h30 => ?_) (fun h30 => ?_)
    · refine G.pass rfl rfl rfl rfl rfl rfl ?_
      refine G.pass rfl rfl rfl rfl rfl rfl ?_
      refine G.pass rfl rfl rfl rfl rfl rfl ?_
      refine G.pass rfl rfl rfl rfl rfl rfl ?_
      refine G.op rfl (G.val rfl rfl (pv_pick rfl rfl) ?_)
      refine G.nil ?_
      refine G.nThen ?_
      refine G.condT rfl (rfl) ?_
      refine G.seq (G.region ?_)
      refine G.mvT rfl rfl ?_
      refine G.asT rfl rfl ?_
      refine G.asT rfl rfl ?_
      refine G.nil ?_
      refine G.nThen ?_
      refine G.ret ?_
      refine G.rBlock ?_
      refine G.rThen ?_
      refine G.rThen ?_
      refine G.rBlock ?_
      refine G.rThen ?_
      exact G.done0G rfl (Rv.tmp rfl (Rv.tmp rfl Rv.nil)) (by rw [stepBad (by assumption) (by assumption) (by assumption) hJ (by omega) (bad2 (by assumption))]; rfl)
    refine G.want rfl rfl rfl (G.val rfl rfl (pv_move rfl) ?_)
    refine G.want rfl rfl rfl (G.val rfl rfl (pv_move rfl) ?_)
    refine G.want rfl rfl rfl (G.val rfl rfl (pv_ixS Tryz.underlying9 rfl rfl rfl (by omega)) ?_)
    refine G.want rfl rfl rfl (G.val rfl rfl (pv_eql rfl rfl) ?_)
    refine G.op rfl (G.val rfl rfl (pv_pick rfl rfl) ?_)
    refine G.nil ?_
    refine G.nThen ?_
    refine G.condP rfl (fun h35 => ?_) (fun h35 => ?_)
    · refine G.seq (G.region ?_)
      refine G.mvT rfl rfl ?_
      refine G.asT rfl rfl ?_
      refine G.asT rfl rfl ?_
      refine G.nil ?_
      refine G.nThen ?_
      refine G.ret ?_
      refine G.rBlock ?_
      refine G.rThen ?_
      refine G.rThen ?_
      refine G.rBlock ?_
      refine G.rThen ?_
      exact G.done0G rfl (Rv.tmp rfl (Rv.tmp rfl Rv.nil)) (by rw [stepBad (by assumption) (by assumption) (by assumption) hJ (by omega) (bad3 (by assumption))]; rfl)
    refine G.skip ?_
    refine G.nBlock ?_
    refine G.nThen (G.region ?_)
    refine G.op rfl (G.val rfl rfl (pv_add64 rfl rfl (by omega)) ?_)
    refine G.mvT rfl rfl ?_
    refine G.nil ?_
    exact G.next (k + 1) (by first | exact trivial | ((try dsimp only); exact ⟨by omega, stepJ hJ (by omega) (by assumption) (by assumption) (by assumption)⟩)) (by (try dsimp only); omega) (.consE rfl veqT (.cons rfl (.cons rfl .nil))) subT
  refine G.exit ?_
  refine G.eThen ?_
  refine G.eThen ?_
  refine G.eBlock ?_
  refine G.nThen (G.seq (G.seq (G.region ?_)))
  refine G.mvT rfl rfl ?_
  refine G.op rfl (G.val rfl rfl (pv_lenS Tryz.underlying9 rfl) ?_)
  refine G.op rfl (G.val rfl rfl (pv_gtr rfl rfl) ?_)
  refine G.nil ?_
  refine G.nThen ?_
  refine G.condP rfl (fun h40 => ?_) (fun h40 => ?_)
  · refine G.seq (G.region ?_)
    refine G.asT rfl rfl ?_
    refine G.asT rfl rfl ?_
    refine G.nil ?_
    refine G.nThen ?_
    refine G.ret ?_
    refine G.rThen ?_
    exact G.done0G rfl (Rv.tmp rfl (Rv.tmp rfl Rv.nil)) (by rw [stepLong (by assumption) (by assumption) (by assumption) hJ (by omega) (by omega)]; rfl)
  refine G.skip ?_
  refine G.nThen (G.seq (G.region ?_))
  refine G.asT rfl rfl ?_
  refine G.asT rfl rfl ?_
  refine G.nil ?_
  refine G.nThen ?_
  refine G.ret ?_
  exact G.done0G rfl (Rv.tmp rfl (Rv.tmp rfl Rv.nil)) (by rw [stepOk (by assumption) (by assumption) (by assumption) hJ (by omega) (by omega)]; rfl)
set_option maxRecDepth 20000 in
set_option maxHeartbeats 4000000 in
theorem part_tr (s : List UInt8) (hs : s.length ≤ 1000000000) : Tr Tryz.prog 160 #[.string (sB s)] [] [] (T0 (.tuple #[.int .i64 (stepB badR s).1, .int .i64 (stepB badR s).2])) := by
  refine Tr.of (l := [(0, .string (sB s))]) Tryz.func160 rfl (n := 35) rfl (.cons rfl .nil) (fun w0 hro => ?_)
  refine G.seq (G.region ?_)
  refine G.asT rfl rfl ?_
  refine G.asT rfl rfl ?_
  refine G.nil ?_
  refine G.nThen (G.seq (G.seq (G.region ?_)))
  refine G.mvT rfl rfl ?_
  refine G.op rfl (G.val rfl rfl (pv_eqlS rfl rfl) ?_)
  refine G.mvT rfl rfl ?_
  refine G.partP (t := 7) rfl (fun h7 => ?_) (fun h7 => ?_)
  · refine G.pass rfl rfl rfl rfl rfl rfl ?_
    refine G.pass rfl rfl rfl rfl rfl rfl ?_
    refine G.op rfl (G.val rfl rfl (pv_pick rfl rfl) ?_)
    refine G.mvT rfl rfl ?_
    refine G.pass rfl rfl rfl rfl rfl rfl ?_
    refine G.pass rfl rfl rfl rfl rfl rfl ?_
    refine G.op rfl (G.val rfl rfl (pv_pick rfl rfl) ?_)
    refine G.nil ?_
    refine G.nThen ?_
    refine G.condT rfl (rfl) ?_
    refine G.seq (G.region ?_)
    refine G.asT rfl rfl ?_
    refine G.asT rfl rfl ?_
    refine G.nil ?_
    refine G.nThen ?_
    refine G.ret ?_
    refine G.rThen ?_
    exact G.done0G rfl (Rv.tmp rfl (Rv.tmp rfl Rv.nil)) (by rw [stepArg (.inl (by assumption))]; rfl)
  refine G.want rfl rfl rfl (G.val rfl rfl (pv_move rfl) ?_)
  refine G.want rfl rfl rfl (G.val rfl rfl (pv_eqlS rfl rfl) ?_)
  refine G.op rfl (G.val rfl rfl (pv_pick rfl rfl) ?_)
  refine G.mvT rfl rfl ?_
  refine G.partP (t := 11) rfl (fun h11 => ?_) (fun h11 => ?_)
  · refine G.pass rfl rfl rfl rfl rfl rfl ?_
    refine G.pass rfl rfl rfl rfl rfl rfl ?_
    refine G.op rfl (G.val rfl rfl (pv_pick rfl rfl) ?_)
    refine G.nil ?_
    refine G.nThen ?_
    refine G.condT rfl (rfl) ?_
    refine G.seq (G.region ?_)
    refine G.asT rfl rfl ?_
    refine G.asT rfl rfl ?_
    refine G.nil ?_
    refine G.nThen ?_
    refine G.ret ?_
    refine G.rThen ?_
    exact G.done0G rfl (Rv.tmp rfl (Rv.tmp rfl Rv.nil)) (by rw [stepArg (.inr (.inl (by assumption)))]; rfl)
  refine G.want rfl rfl rfl (G.val rfl rfl (pv_move rfl) ?_)
  refine G.want rfl rfl rfl (G.val rfl rfl (pv_eqlS rfl rfl) ?_)
  refine G.op rfl (G.val rfl rfl (pv_pick rfl rfl) ?_)
  refine G.nil ?_
  refine G.nThen ?_
  refine G.condP rfl (fun h14 => ?_) (fun h14 => ?_)
  · refine G.seq (G.region ?_)
    refine G.asT rfl rfl ?_
    refine G.asT rfl rfl ?_
    refine G.nil ?_
    refine G.nThen ?_
    refine G.ret ?_
    refine G.rThen ?_
    exact G.done0G rfl (Rv.tmp rfl (Rv.tmp rfl Rv.nil)) (by rw [stepArg (.inr (.inr (by assumption)))]; rfl)
  refine G.skip ?_
  refine G.nThen (G.seq (G.seq (G.region ?_)))
  refine G.asT rfl rfl ?_
  refine G.nil ?_
  refine G.nThen ?_
  refine G.block ?_
  refine G.loopK (X := Nat) (ts := [0]) (fun k => k ≤ s.length ∧ (∀ j, j < k → ∀ h : j < s.length, badR s[j] = false)) (fun k => [(4, .int .i64 (k : Int))]) (fun k => []) (fun k => s.length - k) (x0 := 0) (.cons rfl .nil) subT (.cons .nil) apT (by first | exact trivial | ((try dsimp only); exact ⟨Nat.zero_le _, fun j h => absurd h (by omega)⟩)) (.consE rfl veqT .nil) (fun k hJ => ?_)
  try dsimp only at hJ
  try dsimp only
  obtain ⟨hkk, hJ⟩ := hJ
  refine G.seq (G.seq (G.region ?_))
  refine G.mvT rfl rfl ?_
  refine G.mvT rfl rfl ?_
  refine G.op rfl (G.val rfl rfl (pv_lenS Tryz.underlying9 rfl) ?_)
  refine G.op rfl (G.val rfl rfl (pv_lss rfl rfl) ?_)
  refine G.nil ?_
  refine G.nThen ?_
  refine G.condP rfl (fun h18 => ?_) (fun h18 => ?_)
  · refine G.skip ?_
    refine G.nThen (G.seq ?_)
    refine G.block ?_
    refine G.seq (G.region ?_)
    refine G.mvT rfl rfl ?_
    refine G.mvT rfl rfl ?_
    refine G.op rfl (G.val rfl rfl (pv_ixS Tryz.underlying9 rfl rfl rfl (by omega)) ?_)
    refine G.op rfl (G.val rfl rfl (pv_lss rfl rfl) ?_)
    refine G.mvT rfl rfl ?_
    refine G.partP (t := 25) rfl (fun h25 => ?_) (fun h25 => ?_)
    · refine G.pass rfl rfl rfl rfl rfl rfl ?_
      refine G.pass rfl rfl rfl rfl rfl rfl ?_
      refine G.pass rfl rfl rfl rfl rfl rfl ?_
      refine G.pass rfl rfl rfl rfl rfl rfl ?_
      refine G.op rfl (G.val rfl rfl (pv_pick rfl rfl) ?_)
      refine G.nil ?_
      refine G.nThen ?_
      refine G.condT rfl (rfl) ?_
      refine G.seq (G.region ?_)
      refine G.mvT rfl rfl ?_
      refine G.asT rfl rfl ?_
      refine G.asT rfl rfl ?_
      refine G.nil ?_
      refine G.nThen ?_
      refine G.ret ?_
      refine G.rBlock ?_
      refine G.rThen ?_
      refine G.rThen ?_
      refine G.rBlock ?_
      refine G.rThen ?_
      exact G.done0G rfl (Rv.tmp rfl (Rv.tmp rfl Rv.nil)) (by rw [stepBad (by assumption) (by assumption) (by assumption) hJ (by omega) (badR1 (by assumption))]; rfl)
    refine G.want rfl rfl rfl (G.val rfl rfl (pv_move rfl) ?_)
    refine G.want rfl rfl rfl (G.val rfl rfl (pv_move rfl) ?_)
    refine G.want rfl rfl rfl (G.val rfl rfl (pv_ixS Tryz.underlying9 rfl rfl rfl (by omega)) ?_)
    refine G.want rfl rfl rfl (G.val rfl rfl (pv_gtr rfl rfl) ?_)
    refine G.op rfl (G.val rfl rfl (pv_pick rfl rfl) ?_)
    refine G.nil ?_
    refine G.nThen ?_
    refine G.condP rfl (fun h30 => ?_) (fun h30 => ?_)
    · refine G.seq (G.region ?_)
      refine G.mvT rfl rfl ?_
      refine G.asT rfl rfl ?_
      refine G.asT rfl rfl ?_
      refine G.nil ?_
      refine G.nThen ?_
      refine G.ret ?_
      refine G.rBlock ?_
      refine G.rThen ?_
      refine G.rThen ?_
      refine G.rBlock ?_
      refine G.rThen ?_
      exact G.done0G rfl (Rv.tmp rfl (Rv.tmp rfl Rv.nil)) (by rw [stepBad (by assumption) (by assumption) (by assumption) hJ (by omega) (badR2 (by assumption))]; rfl)
    refine G.skip ?_
    refine G.nBlock ?_
    refine G.nThen (G.region ?_)
    refine G.mvT rfl rfl ?_
    refine G.op rfl (G.val rfl rfl (pv_add64 rfl rfl (by omega)) ?_)
    refine G.asT rfl rfl ?_
    refine G.nil ?_
    exact G.next (k + 1) (by first | exact trivial | ((try dsimp only); exact ⟨by omega, stepJR hJ (by omega) (by assumption) (by assumption)⟩)) (by (try dsimp only); omega) (.consE rfl veqT (.cons rfl .nil)) subT
  refine G.exit ?_
  refine G.eThen ?_
  refine G.eThen ?_
  refine G.eBlock ?_
  refine G.nThen (G.seq (G.seq (G.region ?_)))
  refine G.mvT rfl rfl ?_
  refine G.op rfl (G.val rfl rfl (pv_lenS Tryz.underlying9 rfl) ?_)
  refine G.op rfl (G.val rfl rfl (pv_gtr rfl rfl) ?_)
  refine G.nil ?_
  refine G.nThen ?_
  refine G.condP rfl (fun h34 => ?_) (fun h34 => ?_)
  · refine G.seq (G.region ?_)
    refine G.asT rfl rfl ?_
    refine G.asT rfl rfl ?_
    refine G.nil ?_
    refine G.nThen ?_
    refine G.ret ?_
    refine G.rThen ?_
    exact G.done0G rfl (Rv.tmp rfl (Rv.tmp rfl Rv.nil)) (by rw [stepLong (by assumption) (by assumption) (by assumption) hJ (by omega) (by omega)]; rfl)
  refine G.skip ?_
  refine G.nThen (G.seq (G.region ?_))
  refine G.asT rfl rfl ?_
  refine G.asT rfl rfl ?_
  refine G.nil ?_
  refine G.nThen ?_
  refine G.ret ?_
  exact G.done0G rfl (Rv.tmp rfl (Rv.tmp rfl Rv.nil)) (by rw [stepOk (by assumption) (by assumption) (by assumption) hJ (by omega) (by omega)]; rfl)
end Go.Proofs.YtbfpbibkklfnfaaGreat

namespace Go.Proofs
open Go.Shelf
def Tryz.lays219_ren : Go.Shelf.Ren := ⟨fun | 219 => 166 | 217 => 171 | 225 => 172 | 224 => 173 | 267 => 174 | 266 => 175 | 314 => 176 | n => n, fun | 9 => 9 | 3 => 3 | 4 => 4 | 5 => 5 | 46 => 174 | 146 => 199 | 51 => 151 | n => n, fun | 1 => 0 | n => n⟩
theorem Tryz.lays219 : Go.Proofs.Lays.n219 Tryz.prog Tryz.lays219_ren := {
  mixed := by kernel_rfl
  f217 := Tryz.func171.trans (congrArg some (by kernel_rfl))
  f219 := Tryz.func166.trans (congrArg some (by kernel_rfl))
  f224 := Tryz.func173.trans (congrArg some (by kernel_rfl))
  f225 := Tryz.func172.trans (congrArg some (by kernel_rfl))
  f266 := Tryz.func175.trans (congrArg some (by kernel_rfl))
  f267 := Tryz.func174.trans (congrArg some (by kernel_rfl))
  f314 := Tryz.func176.trans (congrArg some (by kernel_rfl))
  t3 := Tryz.underlying3
  a3 := Tryz.isAgg3
  z3 := Tryz.sizeOf3
  v3 := Tryz.zeroValue3
  t4 := Tryz.underlying4
  a4 := Tryz.isAgg4
  z4 := Tryz.sizeOf4
  v4 := Tryz.zeroValue4
  t5 := Tryz.underlying5
  a5 := Tryz.isAgg5
  z5 := Tryz.sizeOf5
  v5 := Tryz.zeroValue5
  t9 := Tryz.underlying9
  a9 := Tryz.isAgg9
  z9 := Tryz.sizeOf9
  v9 := Tryz.zeroValue9
  t46 := Tryz.underlying174
  a46 := Tryz.isAgg174
  z46 := Tryz.sizeOf174
  v46 := Tryz.zeroValue174
  t51 := Tryz.underlying151
  a51 := Tryz.isAgg151
  z51 := Tryz.sizeOf151
  v51 := Tryz.zeroValue151
  t146 := Tryz.underlying199
  a146 := Tryz.isAgg199
  z146 := Tryz.sizeOf199
  v146 := Tryz.zeroValue199
  g1 := by kernel_rfl }
open Go.RowKit Go.Lib in
/-- internal/stringslite.Index (what strings.Index calls) AT A substr OF ONE BYTE c: IT RETURNS 'Lib.indexByte s c'; the world is as it was. (LAID: no walk: one application.) -/
theorem Tryz.stringslite_Index_one (s : ByteArray) (c : UInt8) (w : World) :
    Calls Tryz.prog 166 #[.string s, .string ⟨#[c]⟩] w fun e w' => e = .returned (.int .i64 (Lib.indexByte s.data.toList c)) ∧ w' = w := Any.stringslite_Index_one Tryz.lays219 s c w
end Go.Proofs

set_option linter.unusedVariables false
set_option linter.unusedSimpArgs false
namespace Go.Proofs.YtbfpbibkklfnfaaGreat
open Go.RowKit
/-- where the first stroke is -/
def at1 (s : List UInt8) : Nat := s.findIdx (· == 47)
def cutM (s : List UInt8) : List UInt8 × List UInt8 × Bool := if at1 s < s.length then (s.take (at1 s), s.drop (at1 s + 1), true) else (s, [], false)
theorem at1_le (s : List UInt8) : at1 s ≤ s.length := List.findIdx_le_length
theorem index1 : ∀ s : List UInt8, Lib.indexByte s 47 = if at1 s < s.length then (at1 s : Int) else -1
  | [] => rfl
  | b :: l => by
    have ih := index1 l
    have hle := at1_le l
    unfold Lib.indexByte
    by_cases h : b = 47
    · subst h
      have e : at1 (47 :: l) = 0 := by simp [at1, List.findIdx_cons]
      rw [e]
      simp
    have hb : (b == 47) = false := by simpa using h
    have e : at1 (b :: l) = at1 l + 1 := by simp [at1, List.findIdx_cons, hb]
    rw [e, hb, ih]
    by_cases hlt : at1 l < l.length
    · rw [if_pos hlt, if_pos (show at1 l + 1 < (b :: l).length by simp; omega), if_neg (by simp), if_neg (by rw [beq_iff_eq]; omega)]
      rfl
    rw [if_neg hlt, if_neg (show ¬ at1 l + 1 < (b :: l).length by simp; omega)]
    simp
theorem Tr.ofQ {P : Program} {f : FuncId} {args : Array Value} {v : Value} (h : ∀ w, Calls P f args w fun e w' => e = .returned v ∧ w' = w) : Tr P f args [] [] (T0 v) := fun w _ _ =>
  (h w).mono fun e w' ⟨he, hb⟩ => ⟨v, [], he, ⟨rfl, rfl⟩, ⟨(Chg.none_of_below (hb ▸ Below.refl _ _)).mono fun b hb => hb.elim, by simp, by simp, .nil⟩⟩
theorem index_tr (s : List UInt8) : Tr Tryz.prog 166 #[.string (sB s), .string (sB [47])] [] [] (T0 (.int .i64 (if at1 s < s.length then (at1 s : Int) else -1))) := Tr.ofQ fun w => by
  have h := Tryz.stringslite_Index_one (sB s) 47 w
  rw [show (sB s).data.toList = s by simp [sB], index1 s] at h
  exact h
theorem index_tr1 (s : List UInt8) (ha : at1 s < s.length) : Tr Tryz.prog 166 #[.string (sB s), .string (sB [47])] [] [] (T0 (.int .i64 (at1 s : Int))) := by
  have h := index_tr s
  rwa [if_pos ha] at h
theorem index_tr0 (s : List UInt8) (ha : ¬ at1 s < s.length) : Tr Tryz.prog 166 #[.string (sB s), .string (sB [47])] [] [] (T0 (.int .i64 (-1))) := by
  have h := index_tr s
  rwa [if_neg ha] at h
set_option maxRecDepth 20000 in
set_option maxHeartbeats 4000000 in
theorem scut1 (s : List UInt8) (hs : s.length ≤ 1000000000) (ha : at1 s < s.length) : Tr Tryz.prog 159 #[.string (sB s), .string (sB [47])] [] [] (T0 (.tuple #[.string (sB (s.take (at1 s))), .string (sB (s.drop (at1 s + 1))), .bool true])) := by
  refine Tr.of (l := [(0, .string (sB s)), (1, .string (sB [47]))]) Tryz.func159 rfl (n := 23) rfl (.cons rfl (.cons rfl .nil)) (fun w0 hro => ?_)
  have h47 : ([47] : List UInt8).length = 1 := rfl
  refine G.seq (G.region ?_)
  refine G.asT rfl rfl ?_
  refine G.asT rfl rfl ?_
  refine G.asT rfl rfl ?_
  refine G.nil ?_
  refine G.nThen (G.seq (G.seq (G.region ?_)))
  refine G.mvT rfl rfl ?_
  refine G.mvT rfl rfl ?_
  refine G.op rfl (G.cR rfl rfl rfl rfl Tryz.func166 rfl rfl may0 (index_tr1 s ha) ?_)
  refine G.asT rfl rfl ?_
  refine G.nil ?_
  refine G.nThen (G.seq (G.region ?_))
  refine G.mvT rfl rfl ?_
  refine G.op rfl (G.val rfl rfl (pv_geq rfl rfl) ?_)
  refine G.nil ?_
  refine G.nThen ?_
  refine G.condP rfl (fun h12 => ?_) (fun h12 => ?_)
  · refine G.seq ?_
    refine G.drawT (nn := 12) (p := []) (rem := 4095) [0, 0, 3, 0, 0, 0, 32, 80, 136, 7, 1023, 2047] [0, 0, 3, 0, 0, 0, 32, 80, 136, 4, 256, 0] kr ⟨rfl, by kernel_rfl, by kernel_rfl⟩ subT kr (fun hT3 => ?_)
    refine G.takeT hT3 (i := 0) (rem' := 4094) rfl rfl rfl kr (fun _ _ _ h => h) rfl (pv_move rfl) subT ?_
    refine G.takeT hT3 (i := 1) (rem' := 4092) rfl rfl rfl kr (fun _ _ _ h => h) rfl (pv_move rfl) subT ?_
    refine G.takeT hT3 (i := 2) (rem' := 4088) rfl rfl rfl kr (fun _ _ _ h => h) rfl (pv_strH Tryz.underlying9 rfl rfl rfl (by omega)) subT ?_
    refine G.takeT hT3 (i := 3) (rem' := 4080) rfl rfl rfl kr (fun _ _ _ h => h) rfl (pv_move rfl) subT ?_
    refine G.takeT hT3 (i := 4) (rem' := 4064) rfl rfl rfl kr (fun _ _ _ h => h) rfl (pv_move rfl) subT ?_
    refine G.takeT hT3 (i := 5) (rem' := 4032) rfl rfl rfl kr (fun _ _ _ h => h) rfl (pv_move rfl) subT ?_
    refine G.takeT hT3 (i := 6) (rem' := 3968) rfl rfl rfl kr (fun _ _ _ h => h) rfl (pv_lenS Tryz.underlying9 rfl) subT ?_
    refine G.takeT hT3 (i := 7) (rem' := 3840) rfl rfl rfl kr (fun _ _ _ h => h) rfl (pv_add64 rfl rfl (by omega)) subT ?_
    refine G.takeT hT3 (i := 8) (rem' := 3584) rfl rfl rfl kr (fun _ _ _ h => h) rfl (pv_strL Tryz.underlying9 rfl rfl rfl (by omega)) subT ?_
    refine G.takeT hT3 (i := 9) (rem' := 3072) rfl rfl rfl kr (fun _ _ _ h => h) rfl (pv_assign rfl) subT ?_
    refine G.takeT hT3 (i := 10) (rem' := 2048) rfl rfl rfl kr (fun _ _ _ h => h) rfl (pv_assign rfl) subT ?_
    refine G.takeT hT3 (i := 11) (rem' := 0) rfl rfl rfl kr (fun _ _ _ h => h) rfl (pv_assign rfl) subT ?_
    refine G.overT hT3 kr ?_
    refine G.nThen ?_
    refine G.ret ?_
    refine G.rThen ?_
    exact G.done0G rfl (Rv.tmp rfl (Rv.tmp rfl (Rv.tmp rfl Rv.nil))) (by first | rfl | exact int_eq (by omega) | (simp; done))
  exfalso; omega
set_option maxRecDepth 20000 in
set_option maxHeartbeats 4000000 in
theorem scut0 (s : List UInt8) (hs : s.length ≤ 1000000000) (ha : ¬ at1 s < s.length) : Tr Tryz.prog 159 #[.string (sB s), .string (sB [47])] [] [] (T0 (.tuple #[.string (sB s), .string (sB []), .bool false])) := by
  refine Tr.of (l := [(0, .string (sB s)), (1, .string (sB [47]))]) Tryz.func159 rfl (n := 23) rfl (.cons rfl (.cons rfl .nil)) (fun w0 hro => ?_)
  refine G.seq (G.region ?_)
  refine G.asT rfl rfl ?_
  refine G.asT rfl rfl ?_
  refine G.asT rfl rfl ?_
  refine G.nil ?_
  refine G.nThen (G.seq (G.seq (G.region ?_)))
  refine G.mvT rfl rfl ?_
  refine G.mvT rfl rfl ?_
  refine G.op rfl (G.cR rfl rfl rfl rfl Tryz.func166 rfl rfl may0 (index_tr0 s ha) ?_)
  refine G.asT rfl rfl ?_
  refine G.nil ?_
  refine G.nThen (G.seq (G.region ?_))
  refine G.mvT rfl rfl ?_
  refine G.op rfl (G.val rfl rfl (pv_geq rfl rfl) ?_)
  refine G.nil ?_
  refine G.nThen ?_
  refine G.condP rfl (fun h12 => ?_) (fun h12 => ?_)
  · exfalso; omega
  refine G.skip ?_
  refine G.nThen (G.seq (G.region ?_))
  refine G.mvT rfl rfl ?_
  refine G.asT rfl rfl ?_
  refine G.asT rfl rfl ?_
  refine G.asT rfl rfl ?_
  refine G.nil ?_
  refine G.nThen ?_
  refine G.ret ?_
  exact G.done0G rfl (Rv.tmp rfl (Rv.tmp rfl (Rv.tmp rfl Rv.nil))) (by first | rfl | exact int_eq (by omega) | (simp; done))
theorem scut_tr (s : List UInt8) (hs : s.length ≤ 1000000000) : Tr Tryz.prog 159 #[.string (sB s), .string (sB [47])] [] [] (T0 (.tuple #[.string (sB (cutM s).1), .string (sB (cutM s).2.1), .bool (cutM s).2.2])) := by
  unfold cutM
  split
  · exact scut1 s hs (by assumption)
  exact scut0 s hs (by assumption)
set_option maxRecDepth 20000 in
set_option maxHeartbeats 4000000 in
theorem cut_tr (s : List UInt8) (hs : s.length ≤ 1000000000) : Tr Tryz.prog 140 #[.string (sB s), .string (sB [47])] [] [] (T0 (.tuple #[.string (sB (cutM s).1), .string (sB (cutM s).2.1), .bool (cutM s).2.2])) := by
  refine Tr.of (l := [(0, .string (sB s)), (1, .string (sB [47]))]) Tryz.func140 rfl (n := 13) rfl (.cons rfl (.cons rfl .nil)) (fun w0 hro => ?_)
  refine G.seq (G.region ?_)
  refine G.asT rfl rfl ?_
  refine G.asT rfl rfl ?_
  refine G.asT rfl rfl ?_
  refine G.nil ?_
  refine G.nThen (G.seq (G.region ?_))
  refine G.mvT rfl rfl ?_
  refine G.mvT rfl rfl ?_
  refine G.op rfl (G.cR rfl rfl rfl rfl Tryz.func159 rfl rfl may0 (scut_tr s (by omega)) ?_)
  refine G.op rfl (G.val rfl rfl (pv_extract rfl rfl) ?_)
  refine G.op rfl (G.val rfl rfl (pv_extract rfl rfl) ?_)
  refine G.op rfl (G.val rfl rfl (pv_extract rfl rfl) ?_)
  refine G.asT rfl rfl ?_
  refine G.asT rfl rfl ?_
  refine G.asT rfl rfl ?_
  refine G.nil ?_
  refine G.nThen ?_
  refine G.ret ?_
  exact G.done0G rfl (Rv.tmp rfl (Rv.tmp rfl (Rv.tmp rfl Rv.nil))) (by first | rfl | exact int_eq (by omega) | (simp; done))
end Go.Proofs.YtbfpbibkklfnfaaGreat

set_option linter.unusedVariables false
set_option linter.unusedSimpArgs false
namespace Go.Proofs.YtbfpbibkklfnfaaGreat
open Go.RowKit
set_option maxRecDepth 20000 in
set_option maxHeartbeats 4000000 in
theorem isNaN_tr (s : List UInt8) : Tr Tryz.prog 141 #[.string (sB s)] [] [] (T0 (.bool false)) := by
  refine Tr.of (l := [(0, .string (sB s))]) Tryz.func141 rfl (n := 6) rfl (.cons rfl .nil) (fun w0 hro => ?_)
  refine G.seq (G.region ?_)
  refine G.asT rfl rfl ?_
  refine G.nil ?_
  refine G.nThen (G.seq (G.region ?_))
  refine G.mvT rfl rfl ?_
  refine G.mvT rfl rfl ?_
  refine G.op rfl (G.val rfl rfl (pv_neqS rfl rfl) ?_)
  refine G.asT rfl rfl ?_
  refine G.nil ?_
  refine G.nThen ?_
  refine G.ret ?_
  exact G.done0G rfl (Rv.tmp rfl Rv.nil) (by simp; rfl)
/-- which of two texts is ahead, as bytes -/
def bytesC (a b : List UInt8) : Int := if Op.bytesLess a b then -1 else if !(Op.bytesLess a b || decide (a = b)) then 1 else 0
theorem bytes_lt {a b : List UInt8} (h : Op.bytesLess a b = true) : bytesC a b = -1 := if_pos h
theorem bytes_gt {a b : List UInt8} (h : Op.bytesLess a b = false) (h2 : (!(Op.bytesLess a b || decide (a = b))) = true) : bytesC a b = 1 := by
  unfold bytesC
  rw [if_neg (by rw [h]; decide), if_pos h2]
theorem bytes_eq {a b : List UInt8} (h : Op.bytesLess a b = false) (h2 : (!(Op.bytesLess a b || decide (a = b))) = false) : bytesC a b = 0 := by
  unfold bytesC
  rw [if_neg (by rw [h]; decide), if_neg (by rw [h2]; decide)]
set_option maxRecDepth 20000 in
set_option maxHeartbeats 4000000 in
theorem cmp_tr (a b : List UInt8) : Tr Tryz.prog 105 #[.string (sB a), .string (sB b)] [] [] (T0 (.int .i64 (bytesC a b))) := by
  refine Tr.of (l := [(0, .string (sB a)), (1, .string (sB b))]) Tryz.func105 rfl (n := 20) rfl (.cons rfl (.cons rfl .nil)) (fun w0 hro => ?_)
  refine G.seq (G.region ?_)
  refine G.asT rfl rfl ?_
  refine G.nil ?_
  refine G.nThen (G.seq (G.region ?_))
  refine G.mvT rfl rfl ?_
  refine G.op rfl (G.cR rfl rfl rfl rfl Tryz.func141 rfl rfl may0 (isNaN_tr a) ?_)
  refine G.asT rfl rfl ?_
  refine G.nil ?_
  refine G.nThen (G.seq (G.region ?_))
  refine G.mvT rfl rfl ?_
  refine G.op rfl (G.cR rfl rfl rfl rfl Tryz.func141 rfl rfl may0 (isNaN_tr b) ?_)
  refine G.asT rfl rfl ?_
  refine G.nil ?_
  refine G.nThen (G.seq (G.seq (G.region ?_)))
  refine G.mvT rfl rfl ?_
  refine G.nil ?_
  refine G.nThen ?_
  refine G.condF rfl (rfl) ?_
  refine G.skip ?_
  refine G.nThen (G.seq (G.seq (G.region ?_)))
  refine G.mvT rfl rfl ?_
  refine G.nil ?_
  refine G.nThen ?_
  refine G.condF rfl (rfl) ?_
  refine G.skip ?_
  refine G.nThen (G.seq (G.seq (G.region ?_)))
  refine G.mvT rfl rfl ?_
  refine G.mvT rfl rfl ?_
  refine G.op rfl (G.val rfl rfl (pv_lssS rfl rfl) ?_)
  refine G.nil ?_
  refine G.nThen ?_
  refine G.cond rfl (fun h16 => ?_) (fun h16 => ?_)
  · refine G.seq (G.region ?_)
    refine G.asT rfl rfl ?_
    refine G.nil ?_
    refine G.nThen ?_
    refine G.ret ?_
    refine G.rThen ?_
    exact G.done0G rfl (Rv.tmp rfl Rv.nil) (by rw [bytes_lt (by assumption)]; rfl)
  refine G.skip ?_
  refine G.nThen (G.seq (G.seq (G.region ?_)))
  refine G.mvT rfl rfl ?_
  refine G.mvT rfl rfl ?_
  refine G.op rfl (G.val rfl rfl (pv_gtrS rfl rfl) ?_)
  refine G.nil ?_
  refine G.nThen ?_
  refine G.cond rfl (fun h19 => ?_) (fun h19 => ?_)
  · refine G.seq (G.region ?_)
    refine G.asT rfl rfl ?_
    refine G.nil ?_
    refine G.nThen ?_
    refine G.ret ?_
    refine G.rThen ?_
    exact G.done0G rfl (Rv.tmp rfl Rv.nil) (by rw [bytes_gt (by assumption) (by assumption)]; rfl)
  refine G.skip ?_
  refine G.nThen (G.seq (G.region ?_))
  refine G.asT rfl rfl ?_
  refine G.nil ?_
  refine G.nThen ?_
  refine G.ret ?_
  exact G.done0G rfl (Rv.tmp rfl Rv.nil) (by rw [bytes_eq (by assumption) (by assumption)]; rfl)
set_option maxRecDepth 20000 in
set_option maxHeartbeats 4000000 in
theorem bytesC_tr (a b : List UInt8) : Tr Tryz.prog 109 #[.string (sB a), .string (sB b)] [] [] (T0 (.int .i64 (bytesC a b))) := by
  refine Tr.of (l := [(0, .string (sB a)), (1, .string (sB b))]) Tryz.func109 rfl (n := 11) rfl (.cons rfl (.cons rfl .nil)) (fun w0 hro => ?_)
  refine G.seq (G.region ?_)
  refine G.asT rfl rfl ?_
  refine G.nil ?_
  refine G.nThen (G.seq (G.seq (G.region ?_)))
  refine G.mvT rfl rfl ?_
  refine G.mvT rfl rfl ?_
  refine G.op rfl (G.val rfl rfl (pv_lssS rfl rfl) ?_)
  refine G.nil ?_
  refine G.nThen ?_
  refine G.cond rfl (fun h7 => ?_) (fun h7 => ?_)
  · refine G.seq (G.region ?_)
    refine G.asT rfl rfl ?_
    refine G.nil ?_
    refine G.nThen ?_
    refine G.ret ?_
    refine G.rThen ?_
    exact G.done0G rfl (Rv.tmp rfl Rv.nil) (by rw [bytes_lt (by assumption)]; rfl)
  refine G.skip ?_
  refine G.nThen (G.seq (G.seq (G.region ?_)))
  refine G.mvT rfl rfl ?_
  refine G.mvT rfl rfl ?_
  refine G.op rfl (G.val rfl rfl (pv_gtrS rfl rfl) ?_)
  refine G.nil ?_
  refine G.nThen ?_
  refine G.cond rfl (fun h10 => ?_) (fun h10 => ?_)
  · refine G.seq (G.region ?_)
    refine G.asT rfl rfl ?_
    refine G.nil ?_
    refine G.nThen ?_
    refine G.ret ?_
    refine G.rThen ?_
    exact G.done0G rfl (Rv.tmp rfl Rv.nil) (by rw [bytes_gt (by assumption) (by assumption)]; rfl)
  refine G.skip ?_
  refine G.nThen (G.seq (G.region ?_))
  refine G.asT rfl rfl ?_
  refine G.nil ?_
  refine G.nThen ?_
  refine G.ret ?_
  exact G.done0G rfl (Rv.tmp rfl Rv.nil) (by rw [bytes_eq (by assumption) (by assumption)]; rfl)
end Go.Proofs.YtbfpbibkklfnfaaGreat

set_option linter.unusedVariables false
set_option linter.unusedSimpArgs false
namespace Go.Proofs.YtbfpbibkklfnfaaGreat
open Go.RowKit
/-- the place behind the last stroke of the first k bytes; 0 where there is none -/
def lastM (s : List UInt8) : Nat → Nat
  | 0 => 0
  | k + 1 => if s[k]? = some 47 then k + 1 else lastM s k
theorem last_yes {s : List UInt8} {k : Nat} (h0 : 0 < k) (hk : k - 1 < s.length) (h : (s[k - 1].toNat : Int) = 47) : lastM s k = k := by
  obtain ⟨j, rfl⟩ : ∃ j, k = j + 1 := ⟨k - 1, by omega⟩
  have hj : j < s.length := hk
  have h' : (s[j].toNat : Int) = 47 := h
  have e : s[j] = 47 := UInt8.toNat_inj.1 (show s[j].toNat = 47 by omega)
  unfold lastM
  rw [if_pos (by rw [List.getElem?_eq_getElem hj, e])]
theorem last_no {s : List UInt8} {k : Nat} (h0 : 0 < k) (hk : k - 1 < s.length) (h : ¬ (s[k - 1].toNat : Int) = 47) : lastM s k = lastM s (k - 1) := by
  obtain ⟨j, rfl⟩ : ∃ j, k = j + 1 := ⟨k - 1, by omega⟩
  have hj : j < s.length := by omega
  rw [lastM.eq_2, if_neg]
  · rfl
  rw [List.getElem?_eq_getElem hj]
  intro e
  injection e with e
  exact h (by show ((s[j].toNat : Nat) : Int) = 47; rw [e]; rfl)
set_option maxRecDepth 20000 in
set_option maxHeartbeats 4000000 in
theorem last0 (s : List UInt8) (hs : s.length ≤ 9223372036854775807) : Tr Tryz.prog 142 #[.string (sB s), .int .u8 47] [] [] (T0 (.int .i64 ((lastM s s.length : Int) - 1))) := by
  refine Tr.of (l := [(0, .string (sB s)), (1, .int .u8 47)]) Tryz.func142 rfl (n := 19) rfl (.cons rfl (.cons rfl .nil)) (fun w0 hro => ?_)
  refine G.seq (G.region ?_)
  refine G.asT rfl rfl ?_
  refine G.nil ?_
  refine G.nThen (G.seq (G.seq (G.region ?_)))
  refine G.mvT rfl rfl ?_
  refine G.op rfl (G.val rfl rfl (pv_lenS Tryz.underlying9 rfl) ?_)
  refine G.op rfl (G.val rfl rfl (pv_sub64 rfl rfl (by omega)) ?_)
  refine G.asT rfl rfl ?_
  refine G.nil ?_
  refine G.nThen ?_
  refine G.block ?_
  refine G.loopK (X := Nat) (ts := [0, 1]) (fun k => k ≤ s.length ∧ lastM s s.length = lastM s k) (fun k => [(5, .int .i64 ((k : Int) - 1))]) (fun k => []) (fun k => k) (x0 := s.length) (.cons rfl (.cons rfl .nil)) subT (.cons .nil) apT (by first | exact trivial | ((try dsimp only); exact ⟨Nat.le_refl _, rfl⟩)) (.consE rfl veqT .nil) (fun k hJ => ?_)
  try dsimp only at hJ
  try dsimp only
  obtain ⟨hk1, hk2⟩ := hJ
  refine G.seq (G.seq (G.region ?_))
  refine G.mvT rfl rfl ?_
  refine G.op rfl (G.val rfl rfl (pv_geq rfl rfl) ?_)
  refine G.nil ?_
  refine G.nThen ?_
  refine G.condP rfl (fun h10 => ?_) (fun h10 => ?_)
  · refine G.skip ?_
    refine G.nThen (G.seq ?_)
    refine G.block ?_
    refine G.seq (G.region ?_)
    refine G.mvT rfl rfl ?_
    refine G.mvT rfl rfl ?_
    refine G.op rfl (G.val rfl rfl (pv_ixS Tryz.underlying9 (k := k - 1) rfl rfl (by omega) (by omega)) ?_)
    refine G.mvT rfl rfl ?_
    refine G.op rfl (G.val rfl rfl (pv_eql rfl rfl) ?_)
    refine G.nil ?_
    refine G.nThen ?_
    refine G.condP rfl (fun h17 => ?_) (fun h17 => ?_)
    · refine G.seq (G.region ?_)
      refine G.mvT rfl rfl ?_
      refine G.asT rfl rfl ?_
      refine G.nil ?_
      refine G.nThen ?_
      refine G.ret ?_
      refine G.rBlock ?_
      refine G.rThen ?_
      refine G.rThen ?_
      refine G.rBlock ?_
      refine G.rThen ?_
      exact G.done0G rfl (Rv.tmp rfl Rv.nil) (by rw [hk2, last_yes (by omega) (by omega) (by assumption)]; rfl)
    refine G.skip ?_
    refine G.nBlock ?_
    refine G.nThen (G.region ?_)
    refine G.mvT rfl rfl ?_
    refine G.op rfl (G.val rfl rfl (pv_sub64 rfl rfl (by omega)) ?_)
    refine G.asT rfl rfl ?_
    refine G.nil ?_
    exact G.next (k - 1) (by first | exact trivial | ((try dsimp only); exact ⟨by omega, by rw [hk2]; exact last_no (by omega) (by omega) (by assumption)⟩)) (by (try dsimp only); omega) (.consE rfl veqT (.cons rfl (.cons rfl .nil))) subT
  refine G.exit ?_
  refine G.eThen ?_
  refine G.eThen ?_
  refine G.eBlock ?_
  refine G.nThen (G.seq (G.region ?_))
  refine G.asT rfl rfl ?_
  refine G.nil ?_
  refine G.nThen ?_
  refine G.ret ?_
  exact G.done0G rfl (Rv.tmp rfl Rv.nil) (by rw [hk2, show k = 0 by omega]; rfl)
set_option maxRecDepth 20000 in
set_option maxHeartbeats 4000000 in
theorem last_tr (s : List UInt8) (hs : s.length ≤ 9223372036854775807) : Tr Tryz.prog 106 #[.string (sB s), .int .u8 47] [] [] (T0 (.int .i64 ((lastM s s.length : Int) - 1))) := by
  refine Tr.of (l := [(0, .string (sB s)), (1, .int .u8 47)]) Tryz.func106 rfl (n := 8) rfl (.cons rfl (.cons rfl .nil)) (fun w0 hro => ?_)
  refine G.seq (G.region ?_)
  refine G.asT rfl rfl ?_
  refine G.nil ?_
  refine G.nThen (G.seq (G.region ?_))
  refine G.mvT rfl rfl ?_
  refine G.mvT rfl rfl ?_
  refine G.op rfl (G.cR rfl rfl rfl rfl Tryz.func142 rfl rfl may0 (last0 s hs) ?_)
  refine G.asT rfl rfl ?_
  refine G.nil ?_
  refine G.nThen ?_
  refine G.ret ?_
  exact G.done0G rfl (Rv.tmp rfl Rv.nil) (by first | rfl | exact int_eq (by omega) | (simp; done))
end Go.Proofs.YtbfpbibkklfnfaaGreat

set_option linter.unusedVariables false
set_option linter.unusedSimpArgs false
namespace Go.Proofs.YtbfpbibkklfnfaaGreat
open Go.RowKit
/-- a text by its strokes -/
def headP (c : UInt8) : List (List UInt8) → List (List UInt8)
  | [] => [[c]]
  | p :: r => (c :: p) :: r
def splitM : List UInt8 → List (List UInt8)
  | [] => [[]]
  | c :: s => if c = 47 then [] :: splitM s else headP c (splitM s)
theorem splitM_stroke (s : List UInt8) : splitM (47 :: s) = [] :: splitM s := if_pos rfl
theorem splitM_char {c : UInt8} (h : ¬ c = 47) (s : List UInt8) : splitM (c :: s) = headP c (splitM s) := if_neg h
theorem splitM_ne : ∀ s, splitM s ≠ []
  | [] => by unfold splitM; simp
  | c :: s => by
    unfold splitM
    split
    · simp
    cases h : splitM s <;> simp [headP]
theorem splitM_cut : ∀ s, splitM s = if (cutM s).2.2 then (cutM s).1 :: splitM (cutM s).2.1 else [(cutM s).1]
  | [] => rfl
  | c :: s => by
    have ih := splitM_cut s
    by_cases hc : c = 47
    · subst hc
      have e : at1 (47 :: s) = 0 := by simp [at1, List.findIdx_cons]
      have e2 : cutM (47 :: s) = ([], s, true) := by
        unfold cutM
        rw [e, if_pos (by simp)]
        rfl
      rw [e2, splitM_stroke]
      rfl
    have hb : (c == 47) = false := by simpa using hc
    have e : at1 (c :: s) = at1 s + 1 := by simp [at1, List.findIdx_cons, hb]
    have e2 : cutM (c :: s) = (c :: (cutM s).1, (cutM s).2.1, (cutM s).2.2) := by
      unfold cutM
      rw [e]
      by_cases h : at1 s < s.length
      · rw [if_pos h, if_pos (show at1 s + 1 < (c :: s).length by simp; omega)]
        rfl
      rw [if_neg h, if_neg (show ¬ at1 s + 1 < (c :: s).length by simp; omega)]
    rw [e2, splitM_char hc, ih]
    cases h : (cutM s).2.2 <;> simp [headP]
def atL (ps : List (List UInt8)) (i : Nat) : Nat := ((ps.take i).map fun p => p.length + 1).sum
theorem atL_zero (ps : List (List UInt8)) : atL ps 0 = 0 := by simp [atL]
theorem atL_succ {ps : List (List UInt8)} {i : Nat} (h : i < ps.length) : atL ps (i + 1) = atL ps i + (ps[i].length + 1) := by
  unfold atL
  rw [List.take_succ_eq_append_getElem h, List.map_append, List.sum_append]
  simp
theorem splitM_sum : ∀ s, ((splitM s).map fun p => p.length + 1).sum = s.length + 1
  | [] => rfl
  | c :: s => by
    have ih := splitM_sum s
    unfold splitM
    split
    · simp [ih]; omega
    cases h : splitM s with
    | nil => exact absurd h (splitM_ne s)
    | cons p r =>
      rw [h] at ih
      simp [headP] at ih ⊢
      omega
theorem sum_take_le (l : List Nat) (i : Nat) : (l.take i).sum ≤ l.sum := by
  have := congrArg List.sum (List.take_append_drop i l)
  rw [List.sum_append] at this
  omega
theorem atL_le (s : List UInt8) (i : Nat) : atL (splitM s) i ≤ s.length + 1 := by
  unfold atL
  rw [List.map_take, ← splitM_sum s]
  exact sum_take_le _ i
theorem part_le {s : List UInt8} {i : Nat} (h : i < (splitM s).length) : atL (splitM s) i + ((splitM s)[i].length + 1) ≤ s.length + 1 := by
  rw [← atL_succ h]
  exact atL_le s _
def getL (ps : List (List UInt8)) (i : Nat) : List UInt8 := ps.getD i []
theorem getL_eq {ps : List (List UInt8)} {i : Nat} (h : i < ps.length) : getL ps i = ps[i] := by
  unfold getL
  rw [List.getD_eq_getElem?_getD, List.getElem?_eq_getElem h]
  rfl
theorem cutM_len (t : List UInt8) : (cutM t).2.1.length ≤ t.length := by
  unfold cutM
  split
  · simp
  simp
/-- a cut, told by the parts -/
theorem cut_drop {ps : List (List UInt8)} {t : List UInt8} {i : Nat} (hi : i < ps.length) (h : splitM t = ps.drop i) : ∃ t', cutM t = (getL ps i, t', decide (i + 1 < ps.length)) ∧ t'.length ≤ t.length ∧ (i + 1 < ps.length → splitM t' = ps.drop (i + 1)) := by
  refine ⟨(cutM t).2.1, ?_, cutM_len t, ?_⟩
  · rw [splitM_cut, List.drop_eq_getElem_cons hi] at h
    rw [getL_eq hi]
    cases hm : (cutM t).2.2 with
    | true =>
      rw [hm, if_pos rfl] at h
      injection h with h1 h2
      have : i + 1 < ps.length := by
        rcases Nat.lt_or_ge (i + 1) ps.length with h3 | h3
        · exact h3
        rw [List.drop_eq_nil_of_le h3] at h2
        exact absurd h2 (splitM_ne _)
      rw [decide_eq_true this, ← h1, ← hm]
    | false =>
      rw [hm, if_neg (by simp)] at h
      injection h with h1 h2
      have : ¬ i + 1 < ps.length := fun h3 => by
        rw [List.drop_eq_getElem_cons h3] at h2
        cases h2
      rw [decide_eq_false this, ← h1, ← hm]
  intro h3
  rw [splitM_cut, List.drop_eq_getElem_cons hi] at h
  cases hm : (cutM t).2.2 with
  | true =>
    rw [hm, if_pos rfl] at h
    injection h
  | false =>
    rw [hm, if_neg (by simp)] at h
    injection h with h1 h2
    rw [List.drop_eq_getElem_cons h3] at h2
    cases h2
theorem cut_at (t p t' : List UInt8) (m : Bool) (ht : t.length ≤ 1000000000) (h : cutM t = (p, t', m)) : Tr Tryz.prog 140 #[.string (sB t), .string (sB [47])] [] [] (T0 (.tuple #[.string (sB p), .string (sB t'), .bool m])) := by
  have := cut_tr t ht
  rwa [h] at this
set_option maxRecDepth 20000 in
set_option maxHeartbeats 4000000 in
theorem steps_seq (s : List UInt8) (hs : s.length ≤ 1000000000) (b : Nat) : SeqT Tryz.prog 158 #[.pointer (some ⟨b, 0, none⟩)] [] [blk b 9 [.string (sB s)]] (splitM s).length (fun i => [.int .i64 (atL (splitM s) i : Int), .string (sB (getL (splitM s) i))]) := by
  intro lp X J C x0 h0 hY
  show Tr _ _ #[.func (.yield lp) #[] #[], .pointer (some ⟨b, 0, none⟩)] _ _ _
  refine Tr.ofI (l := [(0, .func (.yield lp) #[] #[]), (1, .pointer (some ⟨b, 0, none⟩))]) Tryz.func158 rfl (n := 23) rfl (.cons rfl (.cons rfl .nil)) (fun w0 hro => ?_)
  refine I.seq ?_
  refine I.region kr (by rintro ⟨_, _, h⟩; first | exact h | exact noOut h) ?_
  refine G.asT rfl rfl ?_
  refine G.asT rfl rfl ?_
  refine I.nil ?_
  refine I.nThen ?_
  refine I.block ?_
  have hpos : 0 < (splitM s).length := List.length_pos_iff.2 (splitM_ne s)
  refine I.loopK (X := Nat × (List UInt8) × X) (ts := [0, 1]) (fun st => st.1 ≤ (splitM s).length ∧ st.2.1.length ≤ s.length ∧ (st.1 < (splitM s).length → splitM st.2.1 = (splitM s).drop st.1) ∧ J true st.1 st.2.2) (fun st => [(3, .int .i64 (atL (splitM s) st.1 : Int)), (4, .bool (decide (st.1 < (splitM s).length)))]) (fun st => [blk b 9 [.string (sB st.2.1)], C true st.1 st.2.2]) (fun st => (splitM s).length - st.1) (x0 := (0, s, x0)) (.cons rfl (.cons rfl .nil)) subT (.cons (.cons .nil)) apT (by first | exact trivial | ((try dsimp only); exact ⟨Nat.zero_le _, Nat.le_refl _, fun _ => rfl, h0⟩)) (.consE rfl (by first | rfl | exact int_eq (by rw [atL_zero]; rfl)) (.consE rfl (by rw [decide_eq_true hpos]) .nil)) (fun st hJ => ?_)
  obtain ⟨i, t, x⟩ := st
  try dsimp only at hJ
  try dsimp only
  obtain ⟨hi, ht, hsp, hJ0⟩ := hJ
  refine I.seq ?_
  refine I.seq ?_
  refine I.region kr (by rintro ⟨_, _, h⟩; first | exact h | exact noOut h) ?_
  refine G.mvT rfl rfl ?_
  refine I.nil ?_
  refine I.nThen ?_
  refine I.condP rfl (fun h6 => ?_) (fun h6 => ?_)
  · have hil : i < (splitM s).length := by assumption
    obtain ⟨t', hcut, ht', hsp'⟩ := cut_drop hil (hsp hil)
    refine I.skip ?_
    refine I.nThen ?_
    refine I.block ?_
    refine I.seq ?_
    refine I.region kr (by rintro ⟨_, _, h⟩; first | exact h | exact noOut h) ?_
    refine G.asT rfl rfl ?_
    refine I.nil ?_
    refine I.nThen ?_
    refine I.seq ?_
    refine I.region kr (by rintro ⟨_, _, h⟩; first | exact h | exact noOut h) ?_
    refine G.op rfl (G.val rfl rfl (pv_load Tryz.underlying9 rfl rfl celT) ?_)
    refine G.op rfl (G.cR rfl rfl rfl rfl Tryz.func140 rfl rfl may0 (cut_at t _ t' _ (by omega) hcut) ?_)
    refine G.mvT rfl rfl ?_
    refine G.op rfl (G.val rfl rfl (pv_extract rfl rfl) ?_)
    refine G.op rfl (G.val rfl rfl (pv_extract rfl rfl) ?_)
    refine G.op rfl (G.val rfl rfl (pv_extract rfl rfl) ?_)
    refine G.asT rfl rfl ?_
    refine G.op rfl (G.store kr rfl rfl eqT selT leT ?_)
    refine G.asT rfl rfl ?_
    refine I.nil ?_
    refine I.nThen ?_
    refine I.seq ?_
    refine I.seq ?_
    refine IL.region ?_
    refine IL.op rfl (IL.lift kr (G.val rfl rfl (pv_move rfl) ?_))
    refine IL.op rfl (IL.lift kr (G.val rfl rfl (pv_move rfl) ?_))
    refine IL.op rfl (IL.lift kr (G.val rfl rfl (pv_move rfl) ?_))
    refine IL.op rfl (IL.yield rfl rfl rfl rfl rfl subT (hY i x hil hJ0) apT ?_)
    intro x16 hJ
    obtain ⟨v, y⟩ := x16
    try dsimp only at hJ
    try dsimp only
    have hJ2 := hJ
    refine IL.op rfl (IL.lift kr (G.val rfl rfl (pv_not rfl) ?_))
    refine IL.nil ?_
    refine I.nThen ?_
    have hlen := part_le hil
    rw [← getL_eq hil] at hlen
    have hat := atL_succ hil
    rw [← getL_eq hil] at hat
    refine I.cond rfl (fun h17 => ?_) (fun h17 => ?_)
    · obtain rfl : v = false := by cases v <;> simp_all
      refine I.ret ?_
      refine I.rThen ?_
      refine I.rBlock ?_
      refine I.rThen ?_
      refine I.rBlock ?_
      exact I.doneIr ((false, i + 1, y)) (by first | exact trivial | ((try dsimp only); exact ⟨hJ2, hil, fun h => by cases h⟩)) rfl rfl subT
    obtain rfl : v = true := by cases v <;> simp_all
    refine I.skip ?_
    refine I.nThen ?_
    refine I.region kr (by rintro ⟨_, _, h⟩; first | exact h | exact noOut h) ?_
    refine G.mvT rfl rfl ?_
    refine G.mvT rfl rfl ?_
    refine G.op rfl (G.val rfl rfl (pv_lenS Tryz.underlying9 rfl) ?_)
    refine G.op rfl (G.val rfl rfl (pv_add64 rfl rfl (by omega)) ?_)
    refine G.op rfl (G.val rfl rfl (pv_add64 rfl rfl (by omega)) ?_)
    refine G.asT rfl rfl ?_
    refine I.nil ?_
    refine I.nBlock ?_
    exact I.next ((i + 1, t', y)) (by first | exact trivial | ((try dsimp only); exact ⟨by omega, by omega, hsp', hJ2⟩)) (by (try dsimp only); omega) (.consE rfl veqT (.consE rfl veqT (.cons rfl (.cons rfl .nil)))) subT
  refine I.exit ?_
  refine I.eThen ?_
  refine I.eThen ?_
  refine I.eBlock ?_
  exact I.doneI ((true, i, x)) (by first | exact trivial | ((try dsimp only); exact ⟨hJ0, hi, fun _ => by omega⟩)) rfl rfl subT
end Go.Proofs.YtbfpbibkklfnfaaGreat

set_option linter.unusedVariables false
set_option linter.unusedSimpArgs false
namespace Go.Proofs.YtbfpbibkklfnfaaGreat
open Go.RowKit
set_option maxRecDepth 20000 in
set_option maxHeartbeats 4000000 in
theorem steps_tr (s : List UInt8) : Tr Tryz.prog 138 #[.string (sB s)] [] [] (TX (fun _ : Nat => True) (fun b => .func (.func 158) #[] #[.pointer (some ⟨b, 0, none⟩)]) (fun b => [blk b 9 [.string (sB s)]])) := by
  refine Tr.of (l := [(0, .string (sB s))]) Tryz.func138 rfl (n := 4) rfl (.cons rfl .nil) (fun w0 hro => ?_)
  refine G.seq (G.region ?_)
  refine G.op rfl (G.box rfl rfl (cs := [_]) rfl ?_)
  intro b1
  refine G.asT rfl rfl ?_
  refine G.nil ?_
  refine G.nThen (G.seq (G.region ?_))
  refine G.op rfl (G.val rfl rfl (pv_makeFunc rfl rfl) ?_)
  refine G.asT rfl rfl ?_
  refine G.nil ?_
  refine G.nThen ?_
  refine G.ret ?_
  exact G.doneX1 (b1) (by first | exact trivial | ((try dsimp only); exact trivial)) rfl rfl rfl subT
theorem badR_of {c : UInt8} (h : ¬ c = 47) : badP c = badR c := by
  unfold badP badR
  have : c.toNat ≠ 47 := fun e => h (UInt8.toNat_inj.1 e)
  simp [this]
theorem findIdx_congr {p q : UInt8 → Bool} : ∀ {l : List UInt8}, (∀ x ∈ l, p x = q x) → l.findIdx p = l.findIdx q
  | [], _ => rfl
  | x :: l, h => by
    rw [List.findIdx_cons, List.findIdx_cons, h x (List.mem_cons_self ..), findIdx_congr fun y hy => h y (List.mem_cons_of_mem _ hy)]
theorem stepB_eq {s : List UInt8} (h : ∀ x ∈ s, ¬ x = 47) : stepB badP s = stepB badR s := by
  unfold stepB
  rw [findIdx_congr (p := badP) (q := badR) fun x hx => badR_of (h x hx)]
theorem step_at (s : List UInt8) (h : ∀ x ∈ s, ¬ x = 47) (hs : s.length ≤ 1000000000) : Tr Tryz.prog 139 #[.string (sB s)] [] [] (T0 (.tuple #[.int .i64 (stepB badR s).1, .int .i64 (stepB badR s).2])) := by
  have := step_tr s hs
  rwa [stepB_eq h] at this
theorem splitM_no : ∀ s, ∀ p ∈ splitM s, ∀ x ∈ p, ¬ x = 47
  | [], p, hp, x, hx => by
    have : p = [] := by simpa [splitM] using hp
    subst this
    cases hx
  | c :: s, p, hp, x, hx => by
    have ih := splitM_no s
    by_cases hc : c = 47
    · subst hc
      rw [splitM_stroke] at hp
      rcases List.mem_cons.1 hp with rfl | hp
      · cases hx
      exact ih p hp x hx
    rw [splitM_char hc] at hp
    cases h : splitM s with
    | nil => exact absurd h (splitM_ne s)
    | cons q r =>
      rw [h] at hp ih
      rcases List.mem_cons.1 hp with rfl | hp
      · rcases List.mem_cons.1 hx with rfl | hx
        · exact hc
        exact ih q (List.mem_cons_self ..) x hx
      exact ih p (List.mem_cons_of_mem _ hp) x hx
theorem stepB_pos (bad : UInt8 → Bool) (s : List UInt8) : 0 ≤ (stepB bad s).2 ∧ (stepB bad s).2 ≤ s.length + 60 ∧ 0 ≤ (stepB bad s).1 ∧ (stepB bad s).1 ≤ 4 := by
  unfold stepB
  have := @List.findIdx_le_length _ bad s
  split
  · simp; omega
  split
  · simp; omega
  split <;> simp <;> omega
/-- what is wrong with the parts of a path, from the i-th on, which begins at byte o -/
def checkL : List (List UInt8) → Nat → Nat → Int × Int
  | [], _, _ => (0, 0)
  | p :: r, i, o => if i = 20 then (3, (o : Int)) else if (stepB badR p).1 = 0 then checkL r (i + 1) (o + (p.length + 1)) else ((stepB badR p).1, (o : Int) + (stepB badR p).2)
def checkM (s : List UInt8) : Int × Int := if s = [] then (2, 0) else if 200 < s.length then (3, 200) else checkL (splitM s) 0 0
theorem checkM_nil {s : List UInt8} (h : s = []) : checkM s = (2, 0) := if_pos h
theorem checkM_long {s : List UInt8} (h0 : ¬ s = []) (h : (200 : Int) < s.length) : checkM s = (3, 200) := by
  unfold checkM
  rw [if_neg h0, if_pos (by omega)]
theorem checkM_parts {s : List UInt8} (h0 : ¬ s = []) (h : ¬ (200 : Int) < s.length) : checkM s = checkL (splitM s) 0 0 := by
  unfold checkM
  rw [if_neg h0, if_neg (by omega)]
theorem checkL_many {ps : List (List UInt8)} {i : Nat} (hi : i < ps.length) (h : i = 20) : checkL (ps.drop i) i (atL ps i) = (3, (atL ps i : Int)) := by
  rw [List.drop_eq_getElem_cons hi]
  exact if_pos h
theorem checkL_next {ps : List (List UInt8)} {i : Nat} (hi : i < ps.length) (h : ¬ i = 20) (hs : (stepB badR (getL ps i)).1 = 0) : checkL (ps.drop i) i (atL ps i) = checkL (ps.drop (i + 1)) (i + 1) (atL ps (i + 1)) := by
  rw [getL_eq hi] at hs
  rw [List.drop_eq_getElem_cons hi, atL_succ hi]
  unfold checkL
  rw [if_neg h, if_pos hs]
  cases ps.drop (i + 1) <;> rfl
theorem checkL_bad {ps : List (List UInt8)} {i : Nat} (hi : i < ps.length) (h : ¬ i = 20) (hs : ¬ (stepB badR (getL ps i)).1 = 0) : checkL (ps.drop i) i (atL ps i) = ((stepB badR (getL ps i)).1, (atL ps i : Int) + (stepB badR (getL ps i)).2) := by
  rw [getL_eq hi] at hs ⊢
  rw [List.drop_eq_getElem_cons hi]
  unfold checkL
  rw [if_neg h, if_neg hs]
theorem okP_len {s : List UInt8} (h : (checkM s).1 = 0) : s.length ≤ 200 := by
  unfold checkM at h
  split at h
  · cases h
  split at h
  · cases h
  omega
set_option maxRecDepth 20000 in
set_option maxHeartbeats 4000000 in
theorem check_tr (s : List UInt8) (hs : s.length ≤ 9223372036854775807) : Tr Tryz.prog 101 #[.string (sB s)] [] [] (T0 (.agg #[.int .i64 (checkM s).1, .int .i64 (checkM s).2])) := by
  refine Tr.ofM (l := [(0, .string (sB s))]) Tryz.func101 rfl (n := 40) rfl (.cons rfl .nil) (fun w0 hro => ?_)
  refine I.seq ?_
  refine I.region kr (by rintro ⟨_, _, h⟩; first | exact h | exact noOut h) ?_
  refine G.op rfl (G.alloc (z := .agg #[.int .i64 0, .int .i64 0]) (cs := [.int .i64 0, .int .i64 0]) rfl kr rfl ?_)
  intro b2
  refine I.nil ?_
  refine I.nThen ?_
  refine I.seq ?_
  refine I.block ?_
  refine I.seq ?_
  refine I.region kr (by rintro ⟨_, _, h⟩; first | exact h | exact noOut h) ?_
  refine G.mvT rfl rfl ?_
  refine G.op rfl (G.val rfl rfl (pv_eqlS rfl rfl) ?_)
  refine G.asT rfl rfl ?_
  refine I.nil ?_
  refine I.nThen ?_
  refine I.condP rfl (fun h8 => ?_) (fun h8 => ?_)
  · refine I.seq ?_
    refine I.region kr (by rintro ⟨_, _, h⟩; first | exact h | exact noOut h) ?_
    refine G.op rfl (G.val rfl rfl (pv_buildSt (z := [.int .i64 0, .int .i64 0]) (pl := [(0, 1), (1, 1)]) Tryz.underlying42 kr kr rfl flT) ?_)
    refine G.op rfl (G.storeN kr rfl rfl allT selT leT ?_)
    refine I.nil ?_
    refine I.nThen ?_
    refine I.ret ?_
    refine I.rBlock ?_
    refine I.rThen ?_
    exact I.doneT0 rfl (Rv.cellN (cs := [_, _]) rfl Tryz.underlying42 rfl kr (by first | exact blk_range (k := 2) selD (by rfl)) Rv.nil) (by rw [checkM_nil (by assumption)]; rfl)
  refine I.seq ?_
  refine I.region kr (by rintro ⟨_, _, h⟩; first | exact h | exact noOut h) ?_
  refine G.mvT rfl rfl ?_
  refine G.op rfl (G.val rfl rfl (pv_lenS Tryz.underlying9 rfl) ?_)
  refine G.op rfl (G.val rfl rfl (pv_gtr rfl rfl) ?_)
  refine G.asT rfl rfl ?_
  refine I.nil ?_
  refine I.nThen ?_
  refine I.condP rfl (fun h12 => ?_) (fun h12 => ?_)
  · refine I.seq ?_
    refine I.region kr (by rintro ⟨_, _, h⟩; first | exact h | exact noOut h) ?_
    refine G.op rfl (G.val rfl rfl (pv_buildSt (z := [.int .i64 0, .int .i64 0]) (pl := [(0, 1), (1, 1)]) Tryz.underlying42 kr kr rfl flT) ?_)
    refine G.op rfl (G.storeN kr rfl rfl allT selT leT ?_)
    refine I.nil ?_
    refine I.nThen ?_
    refine I.ret ?_
    refine I.rBlock ?_
    refine I.rThen ?_
    exact I.doneT0 rfl (Rv.cellN (cs := [_, _]) rfl Tryz.underlying42 rfl kr (by first | exact blk_range (k := 2) selD (by rfl)) Rv.nil) (by rw [checkM_long (by assumption) (by assumption)]; rfl)
  refine I.skip ?_
  refine I.nBlock ?_
  refine I.nThen ?_
  refine I.seq ?_
  refine I.region kr (by rintro ⟨_, _, h⟩; first | exact h | exact noOut h) ?_
  refine G.op rfl (G.alloc (z := .int .i64 0) (cs := [.int .i64 0]) rfl kr rfl ?_)
  intro b3
  refine G.op rfl (G.store kr rfl rfl eqT selT leT ?_)
  refine I.nil ?_
  refine I.nThen ?_
  refine I.seq ?_
  refine I.seq ?_
  refine I.region kr (by rintro ⟨_, _, h⟩; first | exact h | exact noOut h) ?_
  refine G.mvT rfl rfl ?_
  refine G.op rfl (G.cS rfl rfl rfl rfl Tryz.func138 rfl rfl subT may0 (steps_tr _) apT ?_)
  intro x18 hJ
  try dsimp only at hJ
  try dsimp only
  refine I.nil ?_
  refine I.nThen ?_
  refine I.block ?_
  refine I.rangeK (X := Int × Int) (encs := fun i => (.int .i64 (atL (splitM s) i : Int), .string (sB (getL (splitM s) i)))) (ts := [2, 3]) (fun b i st => (b = true → st.1 = 0 ∧ st.2 = 0 ∧ i ≤ 20 ∧ checkL (splitM s) 0 0 = checkL ((splitM s).drop i) i (atL (splitM s) i)) ∧ (b = false → checkL (splitM s) 0 0 = (st.1, st.2))) (fun b i st => [blk b2 42 [.int .i64 st.1, .int .i64 st.2], blk b3 3 [.int .i64 (i : Int)]]) (fun st => .ret) (fun i => [(4, .int .i64 (atL (splitM s) i : Int)), (5, .string (sB (getL (splitM s) i)))]) (x0 := (0, 0)) rfl Tryz.func158 rfl rfl (steps_seq s (by omega) x18) (by show Sub _ [blk b2 42 [.int .i64 0, .int .i64 0], blk b3 3 [.int .i64 0], blk x18 9 [.string (sB s)]] _; repeat (first | exact Sub.nil | (apply Sub.cons; (repeat (first | with_reducible exact Sel.here | exact Sel.here | apply Sel.there))))) may0 (by first | exact trivial | (exact ⟨fun _ => ⟨rfl, rfl, by omega, rfl⟩, fun h => (by cases h)⟩)) rfl rfl (.cons rfl (.cons rfl .nil)) (.cons (.cons .nil)) ?_ ?_ ?_ ?_
  · intro w1 S1 lp m1 i hi
    try dsimp only at hJ
    try dsimp only
    refine I.seq ?_
    refine I.region kr (by rintro ⟨_, _, h⟩; first | exact h | exact noOut h) ?_
    refine G.asT rfl rfl ?_
    refine I.nil ?_
    refine I.nThen ?_
    refine I.region kr (by rintro ⟨_, _, h⟩; first | exact h | exact noOut h) ?_
    refine G.asT rfl rfl ?_
    refine I.nil ?_
    exact I.asg (.consE rfl veqT (.consE rfl veqT (.cons rfl (.cons rfl .nil))))
  · intro w1 S1 lp c i st hi hJ
    obtain ⟨x, y⟩ := st
    try dsimp only at hJ
    try dsimp only
    obtain ⟨hT, -⟩ := hJ
    obtain ⟨rfl, rfl, hi20, hck⟩ := hT rfl
    have hlen := part_le hi
    rw [← getL_eq hi] at hlen
    have hno : ∀ c ∈ getL (splitM s) i, ¬ c = 47 := by rw [getL_eq hi]; exact splitM_no s _ (List.getElem_mem hi)
    have hb := stepB_pos badR (getL (splitM s) i)
    refine I.block ?_
    refine I.seq ?_
    refine I.region kr (by rintro ⟨_, _, h⟩; first | exact h | exact noOut h) ?_
    refine G.op rfl (G.val rfl rfl (pv_load Tryz.underlying3 rfl rfl celT) ?_)
    refine G.op rfl (G.val rfl rfl ((pv_add64 rfl rfl (by omega)).int (b := ((i + 1 : Nat) : Int)) (by omega)) ?_)
    refine G.op rfl (G.store kr rfl rfl eqT selT leT ?_)
    refine I.nil ?_
    refine I.nThen ?_
    refine I.seq ?_
    refine I.seq ?_
    refine I.region kr (by rintro ⟨_, _, h⟩; first | exact h | exact noOut h) ?_
    refine G.op rfl (G.val rfl rfl (pv_load Tryz.underlying3 rfl rfl celT) ?_)
    refine G.op rfl (G.val rfl rfl (pv_gtr rfl rfl) ?_)
    refine I.nil ?_
    refine I.nThen ?_
    refine I.condP rfl (fun h24 => ?_) (fun h24 => ?_)
    · refine I.seq ?_
      refine I.region kr (by rintro ⟨_, _, h⟩; first | exact h | exact noOut h) ?_
      refine G.mvT rfl rfl ?_
      refine G.op rfl (G.val rfl rfl (pv_buildSt (z := [.int .i64 0, .int .i64 0]) (pl := [(0, 1), (1, 1)]) Tryz.underlying42 kr kr rfl flT) ?_)
      refine G.op rfl (G.storeN kr rfl rfl allT selT leT ?_)
      refine I.nil ?_
      refine I.nThen ?_
      refine I.ret ?_
      refine I.rThen ?_
      refine I.rBlock ?_
      exact I.rR ((3, (atL (splitM s) i : Int))) (by first | exact trivial | ((try dsimp only); exact ⟨fun h => (by cases h), fun _ => hck.trans (checkL_many hi (by omega))⟩)) rfl subT
    refine I.skip ?_
    refine I.nThen ?_
    refine I.seq ?_
    refine I.region kr (by rintro ⟨_, _, h⟩; first | exact h | exact noOut h) ?_
    refine G.mvT rfl rfl ?_
    refine G.op rfl (G.cR rfl rfl rfl rfl Tryz.func139 rfl rfl may0 (step_at (getL (splitM s) i) hno (by omega)) ?_)
    refine G.mvT rfl rfl ?_
    refine G.op rfl (G.val rfl rfl (pv_extract rfl rfl) ?_)
    refine G.op rfl (G.val rfl rfl (pv_extract rfl rfl) ?_)
    refine G.asT rfl rfl ?_
    refine G.asT rfl rfl ?_
    refine I.nil ?_
    refine I.nThen ?_
    refine I.seq ?_
    refine I.region kr (by rintro ⟨_, _, h⟩; first | exact h | exact noOut h) ?_
    refine G.mvT rfl rfl ?_
    refine G.op rfl (G.val rfl rfl (pv_neq rfl rfl) ?_)
    refine I.nil ?_
    refine I.nThen ?_
    refine I.condP rfl (fun h33 => ?_) (fun h33 => ?_)
    · refine I.seq ?_
      refine I.region kr (by rintro ⟨_, _, h⟩; first | exact h | exact noOut h) ?_
      refine G.mvT rfl rfl ?_
      refine G.mvT rfl rfl ?_
      refine G.mvT rfl rfl ?_
      refine G.op rfl (G.val rfl rfl (pv_add64 rfl rfl (by omega)) ?_)
      refine G.op rfl (G.val rfl rfl (pv_buildSt (z := [.int .i64 0, .int .i64 0]) (pl := [(0, 1), (1, 1)]) Tryz.underlying42 kr kr rfl flT) ?_)
      refine G.op rfl (G.storeN kr rfl rfl allT selT leT ?_)
      refine I.nil ?_
      refine I.nThen ?_
      refine I.ret ?_
      refine I.rBlock ?_
      exact I.rR (((stepB badR (getL (splitM s) i)).1, (atL (splitM s) i : Int) + (stepB badR (getL (splitM s) i)).2)) (by first | exact trivial | ((try dsimp only); exact ⟨fun h => (by cases h), fun _ => hck.trans (checkL_bad hi (by omega) (by omega))⟩)) rfl subT
    refine I.skip ?_
    refine I.nBlock ?_
    exact I.rN ((0, 0)) (by first | exact trivial | ((try dsimp only); exact ⟨fun _ => ⟨rfl, rfl, by omega, hck.trans (checkL_next hi (by omega) (by omega))⟩, fun h => (by cases h)⟩)) subT
  · intro D st hJ
    obtain ⟨x, y⟩ := st
    try dsimp only at hJ
    try dsimp only
    obtain ⟨hT, -⟩ := hJ
    obtain ⟨rfl, rfl, hi20, hck⟩ := hT rfl
    refine I.nBlock ?_
    refine I.nThen ?_
    refine I.seq ?_
    refine I.region kr (by rintro ⟨_, _, h⟩; first | exact h | exact noOut h) ?_
    refine G.op rfl (G.val rfl rfl (pv_buildSt (z := [.int .i64 0, .int .i64 0]) (pl := [(0, 1), (1, 1)]) Tryz.underlying42 kr kr rfl flT) ?_)
    refine G.op rfl (G.storeN kr rfl rfl allT selT leT ?_)
    refine I.nil ?_
    refine I.nThen ?_
    refine I.ret ?_
    exact I.doneT rfl (by (repeat (first | with_reducible exact Sel.here | exact Sel.here | apply Sel.there))) (Rv.cellN (cs := [_, _]) rfl Tryz.underlying42 rfl kr (by first | exact blk_range (k := 2) selD (by rfl)) Rv.nil) (by rw [checkM_parts (by assumption) (by assumption), hck, List.drop_length]; rfl)
  intro D i st hle hJ
  obtain ⟨x, y⟩ := st
  try dsimp only at hJ
  try dsimp only
  obtain ⟨-, hF⟩ := hJ
  have hxy := hF rfl
  refine I.ret ?_
  refine I.rBlock ?_
  refine I.rThen ?_
  exact I.doneT rfl (by (repeat (first | with_reducible exact Sel.here | exact Sel.here | apply Sel.there))) (Rv.cellN (cs := [_, _]) rfl Tryz.underlying42 rfl kr (by first | exact blk_range (k := 2) selD (by rfl)) Rv.nil) (by rw [checkM_parts (by assumption) (by assumption), hxy]; rfl)
set_option maxRecDepth 20000 in
set_option maxHeartbeats 4000000 in
theorem valid_tr (s : List UInt8) (hs : s.length ≤ 9223372036854775807) : Tr Tryz.prog 103 #[.string (sB s)] [] [] (T0 (.bool (decide ((checkM s).1 = 0)))) := by
  refine Tr.of (l := [(0, .string (sB s))]) Tryz.func103 rfl (n := 7) rfl (.cons rfl .nil) (fun w0 hro => ?_)
  refine G.seq (G.region ?_)
  refine G.asT rfl rfl ?_
  refine G.nil ?_
  refine G.nThen (G.seq (G.region ?_))
  refine G.mvT rfl rfl ?_
  refine G.op rfl (G.cR rfl rfl rfl rfl Tryz.func101 rfl rfl may0 (check_tr _ (by omega)) ?_)
  refine G.op rfl (G.val rfl rfl (pv_field1 Tryz.underlying42 rfl Tryz.underlying30 rfl rfl rfl) ?_)
  refine G.op rfl (G.val rfl rfl (pv_eql rfl rfl) ?_)
  refine G.asT rfl rfl ?_
  refine G.nil ?_
  refine G.nThen ?_
  refine G.ret ?_
  exact G.done0G rfl (Rv.tmp rfl Rv.nil) (by first | rfl | exact int_eq (by omega) | (simp; done))
end Go.Proofs.YtbfpbibkklfnfaaGreat

set_option linter.unusedVariables false
set_option linter.unusedSimpArgs false
namespace Go.Proofs.YtbfpbibkklfnfaaGreat
open Go.RowKit
theorem splitM_snoc47 : ∀ s, splitM (s ++ [47]) = splitM s ++ [[]]
  | [] => rfl
  | c :: s => by
    have ih := splitM_snoc47 s
    rw [List.cons_append]
    by_cases hc : c = 47
    · subst hc
      rw [splitM_stroke, splitM_stroke, ih]
      rfl
    rw [splitM_char hc, splitM_char hc, ih]
    cases h : splitM s with
    | nil => exact absurd h (splitM_ne s)
    | cons p r => rfl
theorem splitM_snoc {c : UInt8} (hc : ¬ c = 47) : ∀ (s : List UInt8) (ini : List (List UInt8)) (p : List UInt8), splitM s = ini ++ [p] → splitM (s ++ [c]) = ini ++ [p ++ [c]]
  | [], ini, p, h => by
    have h : [[]] = ini ++ [p] := h
    have h1 : ini = [] := by
      cases ini with
      | nil => rfl
      | cons a l => simp at h
    subst h1
    have h2 : p = [] := by simpa using h.symm
    subst h2
    show splitM [c] = _
    rw [splitM_char hc]
    rfl
  | d :: s, ini, p, h => by
    rw [List.cons_append]
    by_cases hd : d = 47
    · subst hd
      rw [splitM_stroke] at h ⊢
      cases ini with
      | nil =>
        have h2 : splitM s = [] := by
          have := congrArg List.tail h
          simpa using this
        exact absurd h2 (splitM_ne s)
      | cons a l =>
        rw [List.cons_append] at h
        injection h with h1 h2
        rw [splitM_snoc hc s l p h2, ← h1]
        rfl
    rw [splitM_char hd] at h ⊢
    obtain ⟨i2, q, hq⟩ : ∃ i2 q, splitM s = i2 ++ [q] := ⟨_, _, (List.dropLast_concat_getLast (splitM_ne s)).symm⟩
    rw [splitM_snoc hc s i2 q hq]
    rw [hq] at h
    cases i2 with
    | nil =>
      have h : [d :: q] = ini ++ [p] := h
      have h1 : ini = [] := by
        cases ini with
        | nil => rfl
        | cons a l => simp at h
      subst h1
      have h2 : p = d :: q := by simpa using h.symm
      subst h2
      rfl
    | cons a l =>
      have h : (d :: a) :: (l ++ [q]) = ini ++ [p] := h
      have e : ((d :: a) :: l) ++ [q] = ini ++ [p] := h
      have e1 := List.append_inj' e rfl
      have e2 : q = p := by simpa using e1.2
      rw [← e1.1, ← e2]
      rfl
theorem splitM_last (s : List UInt8) : ∃ ini p, splitM s = ini ++ [p] := ⟨_, _, (List.dropLast_concat_getLast (splitM_ne s)).symm⟩
theorem splitM_len (s : List UInt8) : (splitM s).length ≤ s.length + 1 := by
  have h := splitM_sum s
  have : ∀ l : List (List UInt8), l.length ≤ (l.map fun p => p.length + 1).sum := by
    intro l
    induction l with
    | nil => simp
    | cons a l ih => simp; omega
  have := this (splitM s)
  omega
theorem mem_len {s p : List UInt8} (h : p ∈ splitM s) : p.length ≤ s.length := by
  have h1 := splitM_sum s
  have : ∀ l : List (List UInt8), p ∈ l → p.length + 1 ≤ (l.map fun p => p.length + 1).sum := by
    intro l
    induction l with
    | nil => intro h; cases h
    | cons a l ih =>
      intro h
      rcases List.mem_cons.1 h with rfl | h
      · simp
      have := ih h
      simp; omega
  have := this _ h
  omega
theorem Tryz.infoStr' : (Tryz.prog.info? 9).map (fun i => (i.zero.map (·.cells.size), i.size, i.bytes)) = some (some 1, 1, 16) := by kernel_rfl
theorem own_str {e : TypeId} {v : Value} {k : Nat} {ps qs : List (List UInt8)} (h : qs = ps) (hk : k = ps.length) : own e 1 v k (ps.map vStr) = own e 1 v qs.length (qs.map vStr) := by
  subst h
  rw [hk]
theorem own_str1 {e : TypeId} {v : Value} {ps qs : List (List UInt8)} {p : List UInt8} (h : qs = ps ++ [p]) : own e 1 v (ps.length + 1) (ps.map vStr ++ [vStr p]) = own e 1 v qs.length (qs.map vStr) := by
  subst h
  simp
theorem rdLast {ini : List (List UInt8)} {p : List UInt8} {sp : List Value} : ((ini ++ [p]).map vStr ++ sp)[0 + ini.length * 1]? = some (.string (sB p)) := by
  rw [Nat.zero_add, Nat.mul_one, List.map_append, List.append_assoc, List.getElem?_append_right (by simp)]
  simp
  rfl
theorem setLast {ini : List (List UInt8)} {p q : List UInt8} {sp : List Value} : ((ini ++ [p]).map vStr ++ sp).set (0 + ini.length * 1) (.string (sB q)) = (ini ++ [q]).map vStr ++ sp := by
  rw [Nat.zero_add, Nat.mul_one, List.map_append, List.append_assoc, List.set_append_right _ _ (by simp), List.map_append, List.append_assoc]
  simp
  rfl
theorem take_succ_app {s : List UInt8} {k : Nat} (h : k < s.length) : s.take (k + 1) = s.take k ++ [s[k]] := List.take_succ_eq_append_getElem h
theorem take_drop_one {s : List UInt8} {k : Nat} (h : k < s.length) : (s.take (k + 1)).drop k = [s[k]] := by
  rw [take_succ_app h, List.drop_append_of_le_length (by simp; omega), List.drop_of_length_le (by simp; omega), List.nil_append]
theorem split47 {s : List UInt8} {k : Nat} (hk : k < s.length) (h : (s[k].toNat : Int) = 47) : splitM (s.take (k + 1)) = splitM (s.take k) ++ [[]] := by
  have e : s[k] = 47 := UInt8.toNat_inj.1 (show s[k].toNat = 47 by omega)
  rw [take_succ_app hk, e, splitM_snoc47]
theorem splitC {s : List UInt8} {k : Nat} {ini : List (List UInt8)} {p : List UInt8} (hk : k < s.length) (h : ¬ (s[k].toNat : Int) = 47) (hi : splitM (s.take k) = ini ++ [p]) : splitM (s.take (k + 1)) = ini ++ [p ++ [s[k]]] := by
  have e : ¬ s[k] = 47 := fun e => h (by rw [e]; rfl)
  rw [take_succ_app hk]
  exact splitM_snoc e _ _ _ hi
set_option maxRecDepth 20000 in
set_option maxHeartbeats 4000000 in
theorem split_tr (s : List UInt8) (hs : s.length ≤ 1000000) : Tr Tryz.prog 110 #[.string (sB s)] [] [] (TX (fun _ : Value => True) (fun v => v) (fun v => [own 9 1 v (splitM s).length ((splitM s).map vStr)])) := by
  refine Tr.of (l := [(0, .string (sB s))]) Tryz.func110 rfl (n := 37) rfl (.cons rfl .nil) (fun w0 hro => ?_)
  refine G.seq (G.region ?_)
  refine G.asT rfl rfl ?_
  refine G.nil ?_
  refine G.nThen (G.seq (G.region ?_))
  refine G.op rfl (G.lit1 (vs := [_]) rfl Tryz.underlying142 kr rfl (by decide) (by decide) rfl rfl ?_)
  intro b5
  refine G.asT rfl rfl ?_
  refine G.nil ?_
  refine G.nThen (G.seq (G.seq (G.region ?_)))
  refine G.asT rfl rfl ?_
  refine G.nil ?_
  refine G.nThen ?_
  refine G.block ?_
  refine G.ownBlk (b := b5) (k := 1) (sz := 1) selT rfl (by omega) ?_
  refine G.loopK (X := Nat × Value) (ts := [0, 2]) (fun st => st.1 ≤ s.length) (fun st => [(4, .int .i64 (st.1 : Int)), (3, st.2)]) (fun st => [own 9 1 st.2 (splitM (s.take st.1)).length ((splitM (s.take st.1)).map vStr)]) (fun st => s.length - st.1) (x0 := (0, .slice (some ⟨b5, 0, none⟩) 1 1)) (.cons rfl (.cons rfl .nil)) (by show Sub _ [own 9 1 (.slice (some ⟨b5, 0, none⟩) 1 1) 1 [vStr []]] _; repeat (first | exact Sub.nil | (apply Sub.cons; (repeat (first | with_reducible exact Sel.here | exact Sel.here | apply Sel.there))))) (.cons (.cons .nil)) apT (by first | exact trivial | ((try dsimp only); exact Nat.zero_le _)) (.consE rfl veqT (.consE rfl veqT .nil)) (fun st hJ => ?_)
  obtain ⟨k, v⟩ := st
  try dsimp only at hJ
  try dsimp only
  have hkk := hJ
  have hle := splitM_len (s.take k)
  have htk : (s.take k).length ≤ k := by simp; omega
  refine G.seq (G.seq (G.region ?_))
  refine G.mvT rfl rfl ?_
  refine G.mvT rfl rfl ?_
  refine G.op rfl (G.val rfl rfl (pv_lenS Tryz.underlying9 rfl) ?_)
  refine G.op rfl (G.val rfl rfl (pv_lss rfl rfl) ?_)
  refine G.nil ?_
  refine G.nThen ?_
  refine G.condP rfl (fun h9 => ?_) (fun h9 => ?_)
  · refine G.skip ?_
    refine G.nThen (G.seq ?_)
    refine G.block ?_
    refine G.seq (G.seq (G.region ?_))
    refine G.mvT rfl rfl ?_
    refine G.mvT rfl rfl ?_
    refine G.op rfl (G.val rfl rfl (pv_ixS Tryz.underlying9 rfl rfl rfl (by omega)) ?_)
    refine G.op rfl (G.val rfl rfl (pv_eql rfl rfl) ?_)
    refine G.nil ?_
    refine G.nThen ?_
    have hkl : k < s.length := by omega
    refine G.condP rfl (fun h15 => ?_) (fun h15 => ?_)
    · refine G.seq (G.region ?_)
      refine G.mvT rfl rfl ?_
      refine G.op rfl (G.lit1 (vs := [_]) rfl Tryz.underlying142 kr rfl (by decide) (by decide) rfl rfl ?_)
      intro b17
      refine G.op rfl (G.append (k := (splitM (s.take k)).length) (j := 1) (cs := (splitM (s.take k)).map vStr) (news := [vStr []]) (b := b17) (off := 0) rfl Tryz.underlying142 Tryz.infoStr' rfl rfl rfl selT (fun _ => rfl) (fun h => by cases h) rfl (blk_news (k := 1) selT rfl) (by intro u hu; obtain rfl : u = _ := (by simpa using hu); rfl) (by omega) (by omega) ?_)
      intro vn
      rw [own_str1 (split47 hkl (by assumption))]
      refine G.asT rfl rfl ?_
      refine G.nil ?_
      refine G.nThen ?_
      refine G.exit ?_
      refine G.eThen ?_
      refine G.eBlock ?_
      refine G.nThen (G.region ?_)
      refine G.mvT rfl rfl ?_
      refine G.op rfl (G.val rfl rfl (pv_add64 rfl rfl (by omega)) ?_)
      refine G.asT rfl rfl ?_
      refine G.nil ?_
      exact G.next ((k + 1, vn)) (by first | exact trivial | ((try dsimp only); exact by omega)) (by (try dsimp only); omega) (.consE rfl veqT (.consE rfl veqT (.cons rfl (.cons rfl .nil)))) subT
    refine G.skip ?_
    refine G.nThen ?_
    obtain ⟨ini, p, hip⟩ := splitM_last (s.take k)
    have hpl : p.length ≤ (s.take k).length := mem_len (by rw [hip]; simp)
    rw [hip] at hle
    rw [hip]
    have hn : (ini ++ [p]).length = ini.length + 1 := by simp
    refine G.ownTo selT (by omega) (fun g cap sp hv hkc hmx hl hlen => ?_)
    subst hv
    rw [hn] at hkc ⊢
    refine G.drawT (nn := 18) (p := [blk g _ _]) (rem := 262143) [0, 0, 2, 4, 0, 0, 32, 64, 144, 256, 0, 0, 0, 4096, 11264, 16896, 65535, 131071] [0, 0, 2, 4, 0, 0, 32, 64, 144, 256, 0, 0, 0, 4096, 11264, 16896, 9, 98304] kr ⟨rfl, by kernel_rfl, by kernel_rfl⟩ subT kr (fun hT7 => ?_)
    refine G.takeT hT7 (i := 0) (rem' := 262142) rfl rfl rfl kr (fun _ _ _ h => h) rfl (pv_move rfl) subT ?_
    refine G.takeT hT7 (i := 1) (rem' := 262140) rfl rfl rfl kr (fun _ _ _ h => h) rfl (pv_move rfl) subT ?_
    refine G.takeT hT7 (i := 2) (rem' := 262136) rfl rfl rfl kr (fun _ _ _ h => h) rfl (pv_lenSl Tryz.underlying142 rfl) subT ?_
    refine G.takeT hT7 (i := 3) (rem' := 262128) rfl rfl rfl kr (fun _ _ _ h => h) rfl (pv_sub64 rfl rfl (by omega)) subT ?_
    refine G.takeT hT7 (i := 4) (rem' := 262112) rfl rfl rfl kr (fun _ _ _ h => h) rfl (pv_move rfl) subT ?_
    refine G.takeT hT7 (i := 5) (rem' := 262080) rfl rfl rfl kr (fun _ _ _ h => h) rfl (pv_move rfl) subT ?_
    refine G.takeT hT7 (i := 6) (rem' := 262016) rfl rfl rfl kr (fun _ _ _ h => h) rfl (pv_lenSl Tryz.underlying142 rfl) subT ?_
    refine G.takeT hT7 (i := 7) (rem' := 261888) rfl rfl rfl kr (fun _ _ _ h => h) rfl (pv_sub64 rfl rfl (by omega)) subT ?_
    refine G.takeT hT7 (i := 8) (rem' := 261632) rfl rfl rfl kr (fun _ _ _ h => h) rfl (pv_ixSl (sz := 1) (k := ini.length) Tryz.underlying142 kr rfl rfl (fun _ => rfl) (by omega) (by omega)) subT ?_
    refine G.takeT hT7 (i := 10) (rem' := 260608) rfl rfl rfl kr (fun _ _ _ h => h) rfl (pv_move rfl) subT ?_
    refine G.takeT hT7 (i := 11) (rem' := 258560) rfl rfl rfl kr (fun _ _ _ h => h) rfl (pv_move rfl) subT ?_
    refine G.takeT hT7 (i := 12) (rem' := 254464) rfl rfl rfl kr (fun _ _ _ h => h) rfl (pv_move rfl) subT ?_
    refine G.takeT hT7 (i := 13) (rem' := 246272) rfl rfl rfl kr (fun _ _ _ h => h) rfl (pv_add64 rfl rfl (by omega)) subT ?_
    refine G.takeT hT7 (i := 14) (rem' := 229888) rfl rfl rfl kr (fun _ _ _ h => h) rfl ((pv_strLH (k := k) (k' := k + 1) Tryz.underlying9 rfl rfl rfl rfl (by omega) (by omega) (by omega)).cast (congrArg (fun x => Value.string (sB x)) (take_drop_one hkl))) subT ?_
    refine G.oneT hT7 (i := 9) (rem' := 229376) kr kr ?_
    refine G.turnOp rfl rfl (G.val rfl rfl (pv_load (v := .string (sB p)) Tryz.underlying9 rfl rfl (blk_cell selD rdLast)) ?_)
    refine G.back subT ?_
    refine G.takeT hT7 (i := 15) (rem' := 196608) rfl rfl rfl kr (fun _ _ _ h => h) rfl (pv_addS rfl rfl (by simp; omega)) subT ?_
    refine G.takeT hT7 (i := 16) (rem' := 131072) rfl rfl rfl kr (fun _ _ _ h => h) rfl (pv_ixSl (sz := 1) (k := ini.length) Tryz.underlying142 kr rfl rfl (fun _ => rfl) (by omega) (by omega)) subT ?_
    refine G.oneT hT7 (i := 17) (rem' := 0) kr kr ?_
    refine G.turnOp rfl rfl (G.store kr rfl rfl rfl selT (by simp) ?_)
    rw [setLast]
    refine G.back subT ?_
    refine G.overT hT7 kr ?_
    refine G.nBlock ?_
    refine G.nThen (G.region ?_)
    refine G.mvT rfl rfl ?_
    refine G.op rfl (G.val rfl rfl (pv_add64 rfl rfl (by omega)) ?_)
    refine G.asT rfl rfl ?_
    refine G.nil ?_
    refine G.ownOf (sz := 1) (k := ini.length + 1) (cs := (ini ++ [p ++ [s[k]]]).map vStr) (sp := sp) selT (by simp) hkc hmx (by simpa using hl) ?_
    rw [own_str (splitC hkl (by assumption) hip) (by simp)]
    exact G.next ((k + 1, .slice (some ⟨g, 0, none⟩) (ini.length + 1) cap)) (by first | exact trivial | ((try dsimp only); exact by omega)) (by (try dsimp only); omega) (.consE rfl veqT (.consE rfl veqT (.cons rfl (.cons rfl .nil)))) subT
  refine G.exit ?_
  refine G.eThen ?_
  refine G.eThen ?_
  refine G.eBlock ?_
  refine G.nThen (G.seq (G.region ?_))
  refine G.mvT rfl rfl ?_
  refine G.asT rfl rfl ?_
  refine G.nil ?_
  refine G.nThen ?_
  refine G.ret ?_
  obtain rfl : k = s.length := by omega
  rw [List.take_length]
  exact G.doneX1 (v) (by first | exact trivial | ((try dsimp only); exact trivial)) rfl rfl rfl subT
theorem splitM_pos (s : List UInt8) : 0 < (splitM s).length := List.length_pos_iff.2 (splitM_ne s)
set_option maxRecDepth 20000 in
set_option maxHeartbeats 4000000 in
theorem checkR_tr (s : List UInt8) (hs : s.length ≤ 9223372036854775807) : Tr Tryz.prog 143 #[.string (sB s)] [] [] (T0 (.agg #[.int .i64 (checkM s).1, .int .i64 (checkM s).2])) := by
  refine Tr.of (l := [(0, .string (sB s))]) Tryz.func143 rfl (n := 51) rfl (.cons rfl .nil) (fun w0 hro => ?_)
  refine G.seq (G.region ?_)
  refine G.op rfl (G.alloc (z := .agg #[.int .i64 0, .int .i64 0]) (cs := [.int .i64 0, .int .i64 0]) rfl kr rfl ?_)
  intro b2
  refine G.nil ?_
  refine G.nThen (G.seq (G.seq (G.region ?_)))
  refine G.mvT rfl rfl ?_
  refine G.op rfl (G.val rfl rfl (pv_eqlS rfl rfl) ?_)
  refine G.nil ?_
  refine G.nThen ?_
  refine G.condP rfl (fun h9 => ?_) (fun h9 => ?_)
  · refine G.seq (G.region ?_)
    refine G.op rfl (G.val rfl rfl (pv_buildSt (z := [.int .i64 0, .int .i64 0]) (pl := [(0, 1), (1, 1)]) Tryz.underlying42 kr kr rfl flT) ?_)
    refine G.op rfl (G.storeN kr rfl rfl allT selT leT ?_)
    refine G.nil ?_
    refine G.nThen ?_
    refine G.ret ?_
    refine G.rThen ?_
    exact G.done0G rfl (Rv.cellN (cs := [_, _]) rfl Tryz.underlying42 rfl kr (by first | exact blk_range (k := 2) selD (by rfl)) Rv.nil) (by rw [checkM_nil (by assumption)]; rfl)
  refine G.skip ?_
  refine G.nThen (G.seq (G.seq (G.region ?_)))
  refine G.mvT rfl rfl ?_
  refine G.op rfl (G.val rfl rfl (pv_lenS Tryz.underlying9 rfl) ?_)
  refine G.op rfl (G.val rfl rfl (pv_gtr rfl rfl) ?_)
  refine G.nil ?_
  refine G.nThen ?_
  refine G.condP rfl (fun h13 => ?_) (fun h13 => ?_)
  · refine G.seq (G.region ?_)
    refine G.op rfl (G.val rfl rfl (pv_buildSt (z := [.int .i64 0, .int .i64 0]) (pl := [(0, 1), (1, 1)]) Tryz.underlying42 kr kr rfl flT) ?_)
    refine G.op rfl (G.storeN kr rfl rfl allT selT leT ?_)
    refine G.nil ?_
    refine G.nThen ?_
    refine G.ret ?_
    refine G.rThen ?_
    exact G.done0G rfl (Rv.cellN (cs := [_, _]) rfl Tryz.underlying42 rfl kr (by first | exact blk_range (k := 2) selD (by rfl)) Rv.nil) (by rw [checkM_long (by assumption) (by assumption)]; rfl)
  refine G.skip ?_
  refine G.nThen (G.seq (G.region ?_))
  refine G.mvT rfl rfl ?_
  refine G.op rfl (G.cS rfl rfl rfl rfl Tryz.func110 rfl rfl subT may0 (split_tr s (by omega)) apT ?_)
  intro x16 hJ
  try dsimp only at hJ
  try dsimp only
  have hpos := splitM_pos s
  have hlen := splitM_len s
  refine G.ownTo selT hpos (fun g cap sp hv hkc hmx hl hlen2 => ?_)
  subst hv
  refine G.asT rfl rfl ?_
  refine G.nil ?_
  refine G.nThen (G.seq (G.region ?_))
  refine G.asT rfl rfl ?_
  refine G.nil ?_
  refine G.nThen (G.seq (G.seq (G.region ?_)))
  refine G.asT rfl rfl ?_
  refine G.nil ?_
  refine G.nThen ?_
  refine G.block ?_
  refine G.loopK (X := Nat) (ts := [2, 3]) (fun i => i ≤ (splitM s).length ∧ (i ≤ 20 ∧ checkL (splitM s) 0 0 = checkL ((splitM s).drop i) i (atL (splitM s) i))) (fun i => [(5, .int .i64 (i : Int)), (4, .int .i64 (atL (splitM s) i : Int))]) (fun i => []) (fun i => (splitM s).length - i) (x0 := 0) (.cons rfl (.cons rfl .nil)) subT (.cons (.cons .nil)) apT (by first | exact trivial | ((try dsimp only); exact ⟨Nat.zero_le _, ⟨by omega, rfl⟩⟩)) (.consE rfl veqT (.consE rfl veqT .nil)) (fun i hJ => ?_)
  try dsimp only at hJ
  try dsimp only
  obtain ⟨hki, hJ⟩ := hJ
  refine G.seq (G.seq (G.region ?_))
  refine G.mvT rfl rfl ?_
  refine G.mvT rfl rfl ?_
  refine G.op rfl (G.val rfl rfl (pv_lenSl Tryz.underlying142 rfl) ?_)
  refine G.op rfl (G.val rfl rfl (pv_lss rfl rfl) ?_)
  refine G.nil ?_
  refine G.nThen ?_
  refine G.condP rfl (fun h20 => ?_) (fun h20 => ?_)
  · obtain ⟨hi20, hck⟩ := hJ
    have hil : i < (splitM s).length := by omega
    have hpl := part_le hil
    have hge := getL_eq hil
    have hb := stepB_pos badR (getL (splitM s) i)
    have hat := atL_succ hil
    rw [← hge] at hpl hat
    refine G.skip ?_
    refine G.nThen (G.seq ?_)
    refine G.block ?_
    refine G.seq (G.seq (G.region ?_))
    refine G.mvT rfl rfl ?_
    refine G.op rfl (G.val rfl rfl (pv_eql rfl rfl) ?_)
    refine G.nil ?_
    refine G.nThen ?_
    refine G.condP rfl (fun h24 => ?_) (fun h24 => ?_)
    · refine G.seq (G.region ?_)
      refine G.mvT rfl rfl ?_
      refine G.op rfl (G.val rfl rfl (pv_buildSt (z := [.int .i64 0, .int .i64 0]) (pl := [(0, 1), (1, 1)]) Tryz.underlying42 kr kr rfl flT) ?_)
      refine G.op rfl (G.storeN kr rfl rfl allT selT leT ?_)
      refine G.nil ?_
      refine G.nThen ?_
      refine G.ret ?_
      refine G.rThen ?_
      refine G.rBlock ?_
      refine G.rThen ?_
      refine G.rThen ?_
      refine G.rBlock ?_
      refine G.rThen ?_
      exact G.done0G rfl (Rv.cellN (cs := [_, _]) rfl Tryz.underlying42 rfl kr (by first | exact blk_range (k := 2) selD (by rfl)) Rv.nil) (by rw [checkM_parts (by assumption) (by assumption), hck, checkL_many hil (by omega)]; rfl)
    refine G.skip ?_
    refine G.nThen (G.seq (G.region ?_))
    refine G.mvT rfl rfl ?_
    refine G.mvT rfl rfl ?_
    refine G.op rfl (G.val rfl rfl (pv_ixSl (sz := 1) Tryz.underlying142 kr rfl rfl (by first | with_reducible assumption | assumption | exact fun _ => rfl) rfl (by omega)) ?_)
    refine G.op rfl (G.val rfl rfl (pv_load (v := .string (sB (getL (splitM s) i))) Tryz.underlying9 rfl rfl (blk_cell selD (by rw [hge]; exact rd1 hil))) ?_)
    refine G.op rfl (G.cR rfl rfl rfl rfl Tryz.func160 rfl rfl may0 (part_tr _ (by omega)) ?_)
    refine G.mvT rfl rfl ?_
    refine G.op rfl (G.val rfl rfl (pv_extract rfl rfl) ?_)
    refine G.op rfl (G.val rfl rfl (pv_extract rfl rfl) ?_)
    refine G.asT rfl rfl ?_
    refine G.asT rfl rfl ?_
    refine G.nil ?_
    refine G.nThen (G.seq (G.seq (G.region ?_)))
    refine G.mvT rfl rfl ?_
    refine G.op rfl (G.val rfl rfl (pv_neq rfl rfl) ?_)
    refine G.nil ?_
    refine G.nThen ?_
    refine G.condP rfl (fun h36 => ?_) (fun h36 => ?_)
    · refine G.seq (G.region ?_)
      refine G.mvT rfl rfl ?_
      refine G.mvT rfl rfl ?_
      refine G.mvT rfl rfl ?_
      refine G.op rfl (G.val rfl rfl (pv_add64 rfl rfl (by omega)) ?_)
      refine G.op rfl (G.val rfl rfl (pv_buildSt (z := [.int .i64 0, .int .i64 0]) (pl := [(0, 1), (1, 1)]) Tryz.underlying42 kr kr rfl flT) ?_)
      refine G.op rfl (G.storeN kr rfl rfl allT selT leT ?_)
      refine G.nil ?_
      refine G.nThen ?_
      refine G.ret ?_
      refine G.rThen ?_
      refine G.rBlock ?_
      refine G.rThen ?_
      refine G.rThen ?_
      refine G.rBlock ?_
      refine G.rThen ?_
      exact G.done0G rfl (Rv.cellN (cs := [_, _]) rfl Tryz.underlying42 rfl kr (by first | exact blk_range (k := 2) selD (by rfl)) Rv.nil) (by rw [checkM_parts (by assumption) (by assumption), hck, checkL_bad hil (by omega) (by omega)]; rfl)
    refine G.skip ?_
    refine G.nThen (G.region ?_)
    refine G.mvT rfl rfl ?_
    refine G.mvT rfl rfl ?_
    refine G.mvT rfl rfl ?_
    refine G.op rfl (G.val rfl rfl (pv_ixSl (sz := 1) Tryz.underlying142 kr rfl rfl (by first | with_reducible assumption | assumption | exact fun _ => rfl) rfl (by omega)) ?_)
    refine G.op rfl (G.val rfl rfl (pv_load (v := .string (sB (getL (splitM s) i))) Tryz.underlying9 rfl rfl (blk_cell selD (by rw [hge]; exact rd1 hil))) ?_)
    refine G.op rfl (G.val rfl rfl (pv_lenS Tryz.underlying9 rfl) ?_)
    refine G.op rfl (G.val rfl rfl (pv_add64 rfl rfl (by omega)) ?_)
    refine G.op rfl (G.val rfl rfl (pv_add64 rfl rfl (by omega)) ?_)
    refine G.asT rfl rfl ?_
    refine G.nil ?_
    refine G.nBlock ?_
    refine G.nThen (G.region ?_)
    refine G.mvT rfl rfl ?_
    refine G.op rfl (G.val rfl rfl (pv_add64 rfl rfl (by omega)) ?_)
    refine G.asT rfl rfl ?_
    refine G.nil ?_
    exact G.next (i + 1) (by first | exact trivial | ((try dsimp only); exact ⟨by omega, ⟨by omega, hck.trans (checkL_next hil (by omega) (by omega))⟩⟩)) (by (try dsimp only); omega) (.consE rfl veqT (.consE rfl veqT (.cons rfl (.cons rfl .nil)))) subT
  refine G.exit ?_
  refine G.eThen ?_
  refine G.eThen ?_
  refine G.eBlock ?_
  refine G.nThen (G.seq (G.region ?_))
  refine G.op rfl (G.val rfl rfl (pv_buildSt (z := [.int .i64 0, .int .i64 0]) (pl := [(0, 1), (1, 1)]) Tryz.underlying42 kr kr rfl flT) ?_)
  refine G.op rfl (G.storeN kr rfl rfl allT selT leT ?_)
  refine G.nil ?_
  refine G.nThen ?_
  refine G.ret ?_
  obtain ⟨hi20, hck⟩ := hJ
  obtain rfl : i = (splitM s).length := by omega
  exact G.done0G rfl (Rv.cellN (cs := [_, _]) rfl Tryz.underlying42 rfl kr (by first | exact blk_range (k := 2) selD (by rfl)) Rv.nil) (by rw [checkM_parts (by assumption) (by assumption), hck, List.drop_length]; rfl)
set_option maxRecDepth 20000 in
set_option maxHeartbeats 4000000 in
theorem validR_tr (s : List UInt8) (hs : s.length ≤ 9223372036854775807) : Tr Tryz.prog 107 #[.string (sB s)] [] [] (T0 (.bool (decide ((checkM s).1 = 0)))) := by
  refine Tr.of (l := [(0, .string (sB s))]) Tryz.func107 rfl (n := 7) rfl (.cons rfl .nil) (fun w0 hro => ?_)
  refine G.seq (G.region ?_)
  refine G.asT rfl rfl ?_
  refine G.nil ?_
  refine G.nThen (G.seq (G.region ?_))
  refine G.mvT rfl rfl ?_
  refine G.op rfl (G.cR rfl rfl rfl rfl Tryz.func143 rfl rfl may0 (checkR_tr s hs) ?_)
  refine G.op rfl (G.val rfl rfl (pv_field1 Tryz.underlying42 rfl Tryz.underlying30 rfl rfl rfl) ?_)
  refine G.op rfl (G.val rfl rfl (pv_eql rfl rfl) ?_)
  refine G.asT rfl rfl ?_
  refine G.nil ?_
  refine G.nThen ?_
  refine G.ret ?_
  exact G.done0G rfl (Rv.tmp rfl Rv.nil) (by first | rfl | exact int_eq (by omega) | (simp; done))
end Go.Proofs.YtbfpbibkklfnfaaGreat

set_option linter.unusedVariables false
set_option linter.unusedSimpArgs false
namespace Go.Proofs.YtbfpbibkklfnfaaGreat
open Go.RowKit
theorem retV1 (v : Value) : retV [v] = v := rfl
theorem retV2 (a b : Value) : retV [a, b] = .tuple #[a, b] := rfl
/-- is a text a path? -/
def okP (s : List UInt8) : Prop := (checkM s).1 = 0
instance (s : List UInt8) : Decidable (okP s) := inferInstanceAs (Decidable (_ = _))
def cmpL : List (List UInt8) → List (List UInt8) → Int
  | [], [] => 0
  | [], _ :: _ => -1
  | _ :: _, [] => 1
  | x :: xs, y :: ys => if x = y then cmpL xs ys else bytesC x y
theorem cut_split {t p t' : List UInt8} {m : Bool} (h : cutM t = (p, t', m)) : splitM t = if m then p :: splitM t' else [p] := by
  rw [splitM_cut, h]
theorem cutM_lt {t p t' : List UInt8} (h : cutM t = (p, t', true)) : t'.length < t.length ∧ p.length ≤ t.length := by
  unfold cutM at h
  split at h
  · injection h with h1 h2
    injection h2 with h2 h3
    rw [← h1, ← h2]
    simp
    omega
  injection h with h1 h2
  injection h2 with h2 h3
  cases h3
theorem ord_ne {x y a b : List UInt8} {m k : Bool} {s t : List UInt8} (hs : cutM s = (x, a, m)) (ht : cutM t = (y, b, k)) (h : x ≠ y) : cmpL (splitM s) (splitM t) = bytesC x y := by
  rw [cut_split hs, cut_split ht]
  cases m <;> cases k <;> exact if_neg h
theorem ord_eq {x y a b : List UInt8} {m k : Bool} {s t : List UInt8} (hs : cutM s = (x, a, m)) (ht : cutM t = (y, b, k)) (h : ¬ x ≠ y) : cmpL (splitM s) (splitM t) = if m then (if k then cmpL (splitM a) (splitM b) else 1) else if k then -1 else 0 := by
  have h : x = y := Decidable.of_not_not h
  rw [cut_split hs, cut_split ht]
  have e : ∀ xs ys, cmpL (x :: xs) (y :: ys) = cmpL xs ys := fun xs ys => if_pos h
  cases m <;> cases k <;> simp [e]
  · rfl
  · cases h2 : splitM b with
    | nil => exact absurd h2 (splitM_ne b)
    | cons p r => rfl
  cases h2 : splitM a with
  | nil => exact absurd h2 (splitM_ne a)
  | cons p r => rfl
set_option maxRecDepth 20000 in
set_option maxHeartbeats 4000000 in
theorem order_all (k : Nat) : ∀ a b : List UInt8, a.length = k → a.length ≤ 1000000 → b.length ≤ 1000000 → Tr Tryz.prog 104 #[.string (sB a), .string (sB b)] [] [] (T0 (.int .i64 (cmpL (splitM a) (splitM b)))) := by
  induction k using Nat.strongRecOn
  rename_i k ih
  intro a b hk ha hb
  obtain ⟨x, a', m, hx⟩ : ∃ x a' m, cutM a = (x, a', m) := ⟨_, _, _, rfl⟩
  obtain ⟨y, b', j, hy⟩ : ∃ y b' j, cutM b = (y, b', j) := ⟨_, _, _, rfl⟩
  have hbl := cutM_len b
  rw [hy] at hbl
  have hbl : b'.length ≤ b.length := hbl
  refine Tr.of (l := [(0, .string (sB a)), (1, .string (sB b))]) Tryz.func104 rfl (n := 40) rfl (.cons rfl (.cons rfl .nil)) (fun w0 hro => ?_)
  refine G.seq (G.region ?_)
  refine G.asT rfl rfl ?_
  refine G.nil ?_
  refine G.nThen (G.seq (G.region ?_))
  refine G.mvT rfl rfl ?_
  refine G.op rfl (G.cR rfl rfl rfl rfl Tryz.func140 rfl rfl may0 (cut_at a _ _ _ (by omega) hx) ?_)
  refine G.mvT rfl rfl ?_
  refine G.op rfl (G.val rfl rfl (pv_extract rfl rfl) ?_)
  refine G.op rfl (G.val rfl rfl (pv_extract rfl rfl) ?_)
  refine G.op rfl (G.val rfl rfl (pv_extract rfl rfl) ?_)
  refine G.asT rfl rfl ?_
  refine G.asT rfl rfl ?_
  refine G.asT rfl rfl ?_
  refine G.nil ?_
  refine G.nThen (G.seq (G.region ?_))
  refine G.mvT rfl rfl ?_
  refine G.op rfl (G.cR rfl rfl rfl rfl Tryz.func140 rfl rfl may0 (cut_at b _ _ _ (by omega) hy) ?_)
  refine G.mvT rfl rfl ?_
  refine G.op rfl (G.val rfl rfl (pv_extract rfl rfl) ?_)
  refine G.op rfl (G.val rfl rfl (pv_extract rfl rfl) ?_)
  refine G.op rfl (G.val rfl rfl (pv_extract rfl rfl) ?_)
  refine G.asT rfl rfl ?_
  refine G.asT rfl rfl ?_
  refine G.asT rfl rfl ?_
  refine G.nil ?_
  refine G.nThen (G.seq ?_)
  refine G.block ?_
  refine G.seq (G.region ?_)
  refine G.mvT rfl rfl ?_
  refine G.mvT rfl rfl ?_
  refine G.op rfl (G.val rfl rfl (pv_neqS rfl rfl) ?_)
  refine G.asT rfl rfl ?_
  refine G.nil ?_
  refine G.nThen ?_
  refine G.condP rfl (fun h21 => ?_) (fun h21 => ?_)
  · refine G.seq (G.region ?_)
    refine G.mvT rfl rfl ?_
    refine G.mvT rfl rfl ?_
    refine G.op rfl (G.cR rfl rfl rfl rfl Tryz.func105 rfl rfl may0 (cmp_tr _ _) ?_)
    refine G.asT rfl rfl ?_
    refine G.nil ?_
    refine G.nThen ?_
    refine G.ret ?_
    refine G.rBlock ?_
    refine G.rThen ?_
    exact G.done0G rfl (Rv.tmp rfl Rv.nil) (by rw [ord_ne hx hy (by assumption)]; rfl)
  refine G.seq (G.region ?_)
  refine G.mvT rfl rfl ?_
  refine G.mvT rfl rfl ?_
  refine G.part (t := 30) rfl (fun h30 => ?_) (fun h30 => ?_)
  · refine G.want rfl rfl rfl (G.val rfl rfl (pv_move rfl) ?_)
    refine G.op rfl (G.val rfl rfl (pv_pick rfl rfl) ?_)
    refine G.asT rfl rfl ?_
    refine G.nil ?_
    refine G.nThen ?_
    refine G.cond rfl (fun h28 => ?_) (fun h28 => ?_)
    · refine G.seq (G.region ?_)
      refine G.mvT rfl rfl ?_
      refine G.mvT rfl rfl ?_
      have hm : m = true := by simp_all
      subst hm
      have hal := (cutM_lt hx).1
      refine G.op rfl (G.cR rfl rfl rfl rfl Tryz.func104 rfl rfl may0 (ih a'.length (by have := (cutM_lt (by assumption)).1; omega) a' b' rfl (by have := (cutM_lt (by assumption)).1; omega) (by omega)) ?_)
      refine G.asT rfl rfl ?_
      refine G.nil ?_
      refine G.nThen ?_
      refine G.ret ?_
      refine G.rBlock ?_
      refine G.rThen ?_
      exact G.done0G rfl (Rv.tmp rfl Rv.nil) (by rw [ord_eq hx hy (by assumption)]; simp_all [retV1])
    refine G.seq (G.region ?_)
    refine G.mvT rfl rfl ?_
    refine G.asT rfl rfl ?_
    refine G.nil ?_
    refine G.nThen ?_
    refine G.cond rfl (fun h36 => ?_) (fun h36 => ?_)
    · refine G.seq (G.region ?_)
      refine G.asT rfl rfl ?_
      refine G.nil ?_
      refine G.nThen ?_
      refine G.ret ?_
      refine G.rBlock ?_
      refine G.rThen ?_
      exact G.done0G rfl (Rv.tmp rfl Rv.nil) (by rw [ord_eq hx hy (by assumption)]; simp_all [retV1])
    refine G.seq (G.region ?_)
    refine G.mvT rfl rfl ?_
    refine G.asT rfl rfl ?_
    refine G.nil ?_
    refine G.nThen ?_
    refine G.cond rfl (fun h38 => ?_) (fun h38 => ?_)
    · refine G.seq (G.region ?_)
      refine G.asT rfl rfl ?_
      refine G.nil ?_
      refine G.nThen ?_
      refine G.ret ?_
      refine G.rBlock ?_
      refine G.rThen ?_
      exact G.done0G rfl (Rv.tmp rfl Rv.nil) (by rw [ord_eq hx hy (by assumption)]; simp_all [retV1])
    refine G.skip ?_
    refine G.nBlock ?_
    refine G.nThen (G.seq (G.region ?_))
    refine G.asT rfl rfl ?_
    refine G.nil ?_
    refine G.nThen ?_
    refine G.ret ?_
    exact G.done0G rfl (Rv.tmp rfl Rv.nil) (by rw [ord_eq hx hy (by assumption)]; simp_all [retV1])
  refine G.pass rfl rfl rfl rfl rfl rfl ?_
  refine G.op rfl (G.val rfl rfl (pv_pick rfl rfl) ?_)
  refine G.asT rfl rfl ?_
  refine G.nil ?_
  refine G.nThen ?_
  refine G.condF rfl (rfl) ?_
  refine G.seq (G.region ?_)
  refine G.mvT rfl rfl ?_
  refine G.asT rfl rfl ?_
  refine G.nil ?_
  refine G.nThen ?_
  refine G.cond rfl (fun h36 => ?_) (fun h36 => ?_)
  · refine G.seq (G.region ?_)
    refine G.asT rfl rfl ?_
    refine G.nil ?_
    refine G.nThen ?_
    refine G.ret ?_
    refine G.rBlock ?_
    refine G.rThen ?_
    exact G.done0G rfl (Rv.tmp rfl Rv.nil) (by rw [ord_eq hx hy (by assumption)]; simp_all [retV1])
  refine G.seq (G.region ?_)
  refine G.mvT rfl rfl ?_
  refine G.asT rfl rfl ?_
  refine G.nil ?_
  refine G.nThen ?_
  refine G.cond rfl (fun h38 => ?_) (fun h38 => ?_)
  · refine G.seq (G.region ?_)
    refine G.asT rfl rfl ?_
    refine G.nil ?_
    refine G.nThen ?_
    refine G.ret ?_
    refine G.rBlock ?_
    refine G.rThen ?_
    exact G.done0G rfl (Rv.tmp rfl Rv.nil) (by rw [ord_eq hx hy (by assumption)]; simp_all [retV1])
  refine G.skip ?_
  refine G.nBlock ?_
  refine G.nThen (G.seq (G.region ?_))
  refine G.asT rfl rfl ?_
  refine G.nil ?_
  refine G.nThen ?_
  refine G.ret ?_
  exact G.done0G rfl (Rv.tmp rfl Rv.nil) (by rw [ord_eq hx hy (by assumption)]; simp_all [retV1])
theorem order_tr (a b : List UInt8) (ha : a.length ≤ 1000000) (hb : b.length ≤ 1000000) : Tr Tryz.prog 104 #[.string (sB a), .string (sB b)] [] [] (T0 (.int .i64 (cmpL (splitM a) (splitM b)))) := order_all _ a b rfl ha hb
/-- which of two texts is ahead -/
def compareM (a b : List UInt8) : Int := if okP a then (if okP b then cmpL (splitM a) (splitM b) else 1) else if okP b then -1 else bytesC a b
def parentM (s : List UInt8) : List UInt8 × Bool := if 0 < lastM s s.length ∧ okP s then (s.take (lastM s s.length - 1), true) else ([], false)
theorem lastM_le (s : List UInt8) : ∀ k, lastM s k ≤ k
  | 0 => Nat.le_refl _
  | k + 1 => by
    unfold lastM
    split
    · exact Nat.le_refl _
    have := lastM_le s k
    omega
set_option maxRecDepth 20000 in
set_option maxHeartbeats 4000000 in
theorem compare_tr (a b : List UInt8) (ha : a.length ≤ 9223372036854775807) (hb : b.length ≤ 9223372036854775807) : Tr Tryz.prog 71 #[.string (sB a), .string (sB b)] [] [] (T0 (.int .i64 (compareM a b))) := by
  refine Tr.of (l := [(0, .string (sB a)), (1, .string (sB b))]) Tryz.func71 rfl (n := 26) rfl (.cons rfl (.cons rfl .nil)) (fun w0 hro => ?_)
  refine G.seq (G.region ?_)
  refine G.asT rfl rfl ?_
  refine G.nil ?_
  refine G.nThen (G.seq (G.region ?_))
  refine G.mvT rfl rfl ?_
  refine G.op rfl (G.cR rfl rfl rfl rfl Tryz.func103 rfl rfl may0 (valid_tr _ (by omega)) ?_)
  refine G.mvT rfl rfl ?_
  refine G.op rfl (G.cR rfl rfl rfl rfl Tryz.func103 rfl rfl may0 (valid_tr _ (by omega)) ?_)
  refine G.asT rfl rfl ?_
  refine G.asT rfl rfl ?_
  refine G.nil ?_
  refine G.nThen (G.seq ?_)
  refine G.block ?_
  refine G.seq (G.region ?_)
  refine G.mvT rfl rfl ?_
  refine G.mvT rfl rfl ?_
  refine G.partP (t := 13) rfl (fun h13 => ?_) (fun h13 => ?_)
  · refine G.want rfl rfl rfl (G.val rfl rfl (pv_move rfl) ?_)
    refine G.op rfl (G.val rfl rfl (pv_pick rfl rfl) ?_)
    refine G.asT rfl rfl ?_
    refine G.nil ?_
    refine G.nThen ?_
    refine G.condP rfl (fun h11 => ?_) (fun h11 => ?_)
    · refine G.seq (G.region ?_)
      refine G.mvT rfl rfl ?_
      refine G.mvT rfl rfl ?_
      refine G.op rfl (G.cR rfl rfl rfl rfl Tryz.func104 rfl rfl may0 (order_tr _ _ (by have := okP_len (s := a) (by assumption); omega) (by have := okP_len (s := b) (by assumption); omega)) ?_)
      refine G.asT rfl rfl ?_
      refine G.nil ?_
      refine G.nThen ?_
      refine G.ret ?_
      refine G.rBlock ?_
      refine G.rThen ?_
      exact G.done0G rfl (Rv.tmp rfl Rv.nil) (by simp_all [compareM, okP, retV1])
    refine G.seq (G.region ?_)
    refine G.mvT rfl rfl ?_
    refine G.asT rfl rfl ?_
    refine G.nil ?_
    refine G.nThen ?_
    refine G.condP rfl (fun h19 => ?_) (fun h19 => ?_)
    · refine G.seq (G.region ?_)
      refine G.asT rfl rfl ?_
      refine G.nil ?_
      refine G.nThen ?_
      refine G.ret ?_
      refine G.rBlock ?_
      refine G.rThen ?_
      exact G.done0G rfl (Rv.tmp rfl Rv.nil) (by simp_all [compareM, okP, retV1])
    refine G.seq (G.region ?_)
    refine G.mvT rfl rfl ?_
    refine G.asT rfl rfl ?_
    refine G.nil ?_
    refine G.nThen ?_
    refine G.condP rfl (fun h21 => ?_) (fun h21 => ?_)
    · refine G.seq (G.region ?_)
      refine G.asT rfl rfl ?_
      refine G.nil ?_
      refine G.nThen ?_
      refine G.ret ?_
      refine G.rBlock ?_
      refine G.rThen ?_
      exact G.done0G rfl (Rv.tmp rfl Rv.nil) (by simp_all [compareM, okP, retV1])
    refine G.skip ?_
    refine G.nBlock ?_
    refine G.nThen (G.seq (G.region ?_))
    refine G.mvT rfl rfl ?_
    refine G.mvT rfl rfl ?_
    refine G.op rfl (G.cR rfl rfl rfl rfl Tryz.func105 rfl rfl may0 (cmp_tr _ _) ?_)
    refine G.asT rfl rfl ?_
    refine G.nil ?_
    refine G.nThen ?_
    refine G.ret ?_
    exact G.done0G rfl (Rv.tmp rfl Rv.nil) (by simp_all [compareM, okP, retV1])
  refine G.pass rfl rfl rfl rfl rfl rfl ?_
  refine G.op rfl (G.val rfl rfl (pv_pick rfl rfl) ?_)
  refine G.asT rfl rfl ?_
  refine G.nil ?_
  refine G.nThen ?_
  refine G.condF rfl (rfl) ?_
  refine G.seq (G.region ?_)
  refine G.mvT rfl rfl ?_
  refine G.asT rfl rfl ?_
  refine G.nil ?_
  refine G.nThen ?_
  refine G.condP rfl (fun h19 => ?_) (fun h19 => ?_)
  · refine G.seq (G.region ?_)
    refine G.asT rfl rfl ?_
    refine G.nil ?_
    refine G.nThen ?_
    refine G.ret ?_
    refine G.rBlock ?_
    refine G.rThen ?_
    exact G.done0G rfl (Rv.tmp rfl Rv.nil) (by simp_all [compareM, okP, retV1])
  refine G.seq (G.region ?_)
  refine G.mvT rfl rfl ?_
  refine G.asT rfl rfl ?_
  refine G.nil ?_
  refine G.nThen ?_
  refine G.condP rfl (fun h21 => ?_) (fun h21 => ?_)
  · refine G.seq (G.region ?_)
    refine G.asT rfl rfl ?_
    refine G.nil ?_
    refine G.nThen ?_
    refine G.ret ?_
    refine G.rBlock ?_
    refine G.rThen ?_
    exact G.done0G rfl (Rv.tmp rfl Rv.nil) (by simp_all [compareM, okP, retV1])
  refine G.skip ?_
  refine G.nBlock ?_
  refine G.nThen (G.seq (G.region ?_))
  refine G.mvT rfl rfl ?_
  refine G.mvT rfl rfl ?_
  refine G.op rfl (G.cR rfl rfl rfl rfl Tryz.func105 rfl rfl may0 (cmp_tr _ _) ?_)
  refine G.asT rfl rfl ?_
  refine G.nil ?_
  refine G.nThen ?_
  refine G.ret ?_
  exact G.done0G rfl (Rv.tmp rfl Rv.nil) (by simp_all [compareM, okP, retV1])
set_option maxRecDepth 20000 in
set_option maxHeartbeats 4000000 in
theorem parent_tr (s : List UInt8) (hs : s.length ≤ 9223372036854775807) : Tr Tryz.prog 72 #[.string (sB s)] [] [] (T0 (.tuple #[.string (sB (parentM s).1), .bool (parentM s).2])) := by
  refine Tr.of (l := [(0, .string (sB s))]) Tryz.func72 rfl (n := 17) rfl (.cons rfl .nil) (fun w0 hro => ?_)
  have hlast := lastM_le s s.length
  refine G.seq (G.region ?_)
  refine G.asT rfl rfl ?_
  refine G.asT rfl rfl ?_
  refine G.nil ?_
  refine G.nThen (G.seq (G.region ?_))
  refine G.mvT rfl rfl ?_
  refine G.op rfl (G.cR rfl rfl rfl rfl Tryz.func106 rfl rfl may0 (last_tr _ (by omega)) ?_)
  refine G.asT rfl rfl ?_
  refine G.nil ?_
  refine G.nThen (G.seq (G.seq (G.region ?_)))
  refine G.mvT rfl rfl ?_
  refine G.op rfl (G.val rfl rfl (pv_lss rfl rfl) ?_)
  refine G.mvT rfl rfl ?_
  refine G.partP (t := 9) rfl (fun h9 => ?_) (fun h9 => ?_)
  · refine G.pass rfl rfl rfl rfl rfl rfl ?_
    refine G.pass rfl rfl rfl rfl rfl rfl ?_
    refine G.pass rfl rfl rfl rfl rfl rfl ?_
    refine G.op rfl (G.val rfl rfl (pv_pick rfl rfl) ?_)
    refine G.nil ?_
    refine G.nThen ?_
    refine G.condT rfl (rfl) ?_
    refine G.seq (G.region ?_)
    refine G.asT rfl rfl ?_
    refine G.asT rfl rfl ?_
    refine G.nil ?_
    refine G.nThen ?_
    refine G.ret ?_
    refine G.rThen ?_
    exact G.done0G rfl (Rv.tmp rfl (Rv.tmp rfl Rv.nil)) (by unfold parentM; rw [if_neg (show ¬ (0 < lastM s s.length ∧ okP s) from fun h => by first | omega | exact absurd h.2 (by assumption))]; rfl)
  refine G.want rfl rfl rfl (G.val rfl rfl (pv_move rfl) ?_)
  refine G.want rfl rfl rfl (G.cR rfl rfl rfl rfl Tryz.func103 rfl rfl may0 (valid_tr _ (by omega)) ?_)
  refine G.want rfl rfl rfl (G.val rfl rfl (pv_notP rfl) ?_)
  refine G.op rfl (G.val rfl rfl (pv_pick rfl rfl) ?_)
  refine G.nil ?_
  refine G.nThen ?_
  refine G.condP rfl (fun h13 => ?_) (fun h13 => ?_)
  · refine G.seq (G.region ?_)
    refine G.asT rfl rfl ?_
    refine G.asT rfl rfl ?_
    refine G.nil ?_
    refine G.nThen ?_
    refine G.ret ?_
    refine G.rThen ?_
    exact G.done0G rfl (Rv.tmp rfl (Rv.tmp rfl Rv.nil)) (by unfold parentM; rw [if_neg (show ¬ (0 < lastM s s.length ∧ okP s) from fun h => by first | omega | exact absurd h.2 (by assumption))]; rfl)
  refine G.skip ?_
  refine G.nThen (G.seq (G.region ?_))
  refine G.mvT rfl rfl ?_
  refine G.mvT rfl rfl ?_
  refine G.op rfl (G.val rfl rfl (pv_strH (k := lastM s s.length - 1) Tryz.underlying9 rfl rfl (by omega) (by omega)) ?_)
  refine G.asT rfl rfl ?_
  refine G.asT rfl rfl ?_
  refine G.nil ?_
  refine G.nThen ?_
  refine G.ret ?_
  exact G.done0G rfl (Rv.tmp rfl (Rv.tmp rfl Rv.nil)) (by unfold parentM; rw [if_pos (show 0 < lastM s s.length ∧ okP s from ⟨by omega, Decidable.of_not_not (by assumption)⟩)]; rfl)
end Go.Proofs.YtbfpbibkklfnfaaGreat

set_option linter.unusedVariables false
set_option linter.unusedSimpArgs false
namespace Go.Proofs.YtbfpbibkklfnfaaGreat
open Go.RowKit
theorem cmp_ne {xs ys : List (List UInt8)} {i : Nat} (hx : i < xs.length) (hy : i < ys.length) (h : xs[i] ≠ ys[i]) : cmpL (xs.drop i) (ys.drop i) = bytesC xs[i] ys[i] := by
  rw [List.drop_eq_getElem_cons hx, List.drop_eq_getElem_cons hy]
  exact if_neg h
theorem cmp_next {xs ys : List (List UInt8)} {i : Nat} (hx : i < xs.length) (hy : i < ys.length) (h : ¬ xs[i] ≠ ys[i]) : cmpL (xs.drop i) (ys.drop i) = cmpL (xs.drop (i + 1)) (ys.drop (i + 1)) := by
  rw [List.drop_eq_getElem_cons hx, List.drop_eq_getElem_cons hy]
  exact if_pos (Decidable.of_not_not h)
theorem cmp_end {xs ys : List (List UInt8)} {i : Nat} (hx : i ≤ xs.length) (hy : i ≤ ys.length) (h : ¬ (i < xs.length ∧ i < ys.length)) : cmpL (xs.drop i) (ys.drop i) = if xs.length < ys.length then -1 else if ys.length < xs.length then 1 else 0 := by
  rcases Nat.lt_or_ge i xs.length with h1 | h1
  · have h2 : ys.length ≤ i := by omega
    rw [List.drop_of_length_le h2, if_neg (by omega), if_pos (by omega), List.drop_eq_getElem_cons h1]
    rfl
  rw [List.drop_of_length_le h1]
  rcases Nat.lt_or_ge i ys.length with h2 | h2
  · rw [if_pos (by omega), List.drop_eq_getElem_cons h2]
    rfl
  rw [List.drop_of_length_le h2, if_neg (by omega), if_neg (by omega)]
  rfl
theorem split_one {p : List UInt8} (h : ∀ x ∈ p, ¬ x = 47) : splitM p = [p] := by
  induction p with
  | nil => rfl
  | cons c s ih =>
    rw [splitM_char (h c (List.mem_cons_self ..)), ih fun x hx => h x (List.mem_cons_of_mem _ hx)]
    rfl
theorem headP_len {c : UInt8} {ps : List (List UInt8)} (h : ps ≠ []) : (headP c ps).length = ps.length := by
  cases ps with
  | nil => exact absurd rfl h
  | cons p r => rfl
theorem split_one' : ∀ {p : List UInt8}, (splitM p).length = 1 → ∀ x ∈ p, ¬ x = 47
  | [], _, x, hx => by cases hx
  | c :: s, h, x, hx => by
    by_cases hc : c = 47
    · subst hc
      rw [splitM_stroke] at h
      have := splitM_pos s
      have h : (splitM s).length + 1 = 1 := h
      omega
    rw [splitM_char hc, headP_len (splitM_ne s)] at h
    rcases List.mem_cons.1 hx with rfl | hx
    · exact hc
    exact split_one' h x hx
set_option maxRecDepth 20000 in
set_option maxHeartbeats 4000000 in
theorem compareR_tr (a b : List UInt8) (ha : a.length ≤ 9223372036854775807) (hb : b.length ≤ 9223372036854775807) : Tr Tryz.prog 75 #[.string (sB a), .string (sB b)] [] [] (T0 (.int .i64 (compareM a b))) := by
  refine Tr.of (l := [(0, .string (sB a)), (1, .string (sB b))]) Tryz.func75 rfl (n := 71) rfl (.cons rfl (.cons rfl .nil)) (fun w0 hro => ?_)
  have hla := splitM_len a
  have hlb := splitM_len b
  refine G.seq (G.region ?_)
  refine G.asT rfl rfl ?_
  refine G.nil ?_
  refine G.nThen (G.seq (G.region ?_))
  refine G.mvT rfl rfl ?_
  refine G.op rfl (G.cR rfl rfl rfl rfl Tryz.func107 rfl rfl may0 (validR_tr _ (by omega)) ?_)
  refine G.mvT rfl rfl ?_
  refine G.op rfl (G.cR rfl rfl rfl rfl Tryz.func107 rfl rfl may0 (validR_tr _ (by omega)) ?_)
  refine G.asT rfl rfl ?_
  refine G.asT rfl rfl ?_
  refine G.nil ?_
  refine G.nThen (G.seq (G.seq ?_))
  refine G.cutK (X := Unit) (ts := [0, 1, 4, 5, 6]) (p := []) (fun _ => True) (fun _ => [(19, .bool (decide (¬ (checkM a).1 = 0 ∧ ¬ (checkM b).1 = 0)))]) (fun _ => []) (.cons rfl (.cons rfl (.cons rfl (.cons rfl (.cons rfl .nil))))) subT (.cons .nil) apT ?_ ?_
  · refine G.region ?_
    refine G.mvT rfl rfl ?_
    refine G.op rfl (G.val rfl rfl (pv_notP rfl) ?_)
    refine G.mvT rfl rfl ?_
    refine G.partP (t := 16) rfl (fun h16 => ?_) (fun h16 => ?_)
    · refine G.want rfl rfl rfl (G.val rfl rfl (pv_move rfl) ?_)
      refine G.want rfl rfl rfl (G.val rfl rfl (pv_notP rfl) ?_)
      refine G.op rfl (G.val rfl rfl (pv_pick rfl rfl) ?_)
      refine G.nil ?_
      exact G.meet (()) (by first | exact trivial | ((try dsimp only); exact trivial)) (.consE rfl (congrArg Value.bool (by simp_all)) (.cons rfl (.cons rfl (.cons rfl (.cons rfl (.cons rfl .nil)))))) subT
    refine G.pass rfl rfl rfl rfl rfl rfl ?_
    refine G.pass rfl rfl rfl rfl rfl rfl ?_
    refine G.op rfl (G.val rfl rfl (pv_pick rfl rfl) ?_)
    refine G.nil ?_
    exact G.meet (()) (by first | exact trivial | ((try dsimp only); exact trivial)) (.consE rfl (congrArg Value.bool (by simp_all)) (.cons rfl (.cons rfl (.cons rfl (.cons rfl (.cons rfl .nil)))))) subT
  intro _ hJ
  try dsimp only at hJ
  try dsimp only
  refine G.condP rfl (fun h19 => ?_) (fun h19 => ?_)
  · refine G.seq (G.region ?_)
    refine G.mvT rfl rfl ?_
    refine G.mvT rfl rfl ?_
    refine G.op rfl (G.cR rfl rfl rfl rfl Tryz.func109 rfl rfl may0 (bytesC_tr _ _) ?_)
    refine G.asT rfl rfl ?_
    refine G.nil ?_
    refine G.nThen ?_
    refine G.ret ?_
    refine G.rThen ?_
    exact G.done0G rfl (Rv.tmp rfl Rv.nil) (by simp_all [compareM, okP, retV1])
  refine G.skip ?_
  refine G.nThen (G.seq (G.seq (G.region ?_)))
  refine G.mvT rfl rfl ?_
  refine G.op rfl (G.val rfl rfl (pv_notP rfl) ?_)
  refine G.nil ?_
  refine G.nThen ?_
  refine G.condP rfl (fun h24 => ?_) (fun h24 => ?_)
  · refine G.seq (G.region ?_)
    refine G.asT rfl rfl ?_
    refine G.nil ?_
    refine G.nThen ?_
    refine G.ret ?_
    refine G.rThen ?_
    exact G.done0G rfl (Rv.tmp rfl Rv.nil) (by simp_all [compareM, okP, retV1])
  refine G.skip ?_
  refine G.nThen (G.seq (G.seq (G.region ?_)))
  refine G.mvT rfl rfl ?_
  refine G.op rfl (G.val rfl rfl (pv_notP rfl) ?_)
  refine G.nil ?_
  refine G.nThen ?_
  refine G.condP rfl (fun h26 => ?_) (fun h26 => ?_)
  · refine G.seq (G.region ?_)
    refine G.asT rfl rfl ?_
    refine G.nil ?_
    refine G.nThen ?_
    refine G.ret ?_
    refine G.rThen ?_
    exact G.done0G rfl (Rv.tmp rfl Rv.nil) (by simp_all [compareM, okP, retV1])
  refine G.skip ?_
  refine G.nThen (G.seq (G.region ?_))
  have hal := okP_len (s := a) (by first | assumption | exact Decidable.of_not_not (by assumption))
  have hbl := okP_len (s := b) (by first | assumption | exact Decidable.of_not_not (by assumption))
  refine G.mvT rfl rfl ?_
  refine G.op rfl (G.cS rfl rfl rfl rfl Tryz.func110 rfl rfl subT may0 (split_tr _ (by omega)) apT ?_)
  intro x28 hJ
  try dsimp only at hJ
  try dsimp only
  refine G.ownTo selT (splitM_pos _) (fun g1 cap1 sp1 hv1 hkc1 hmx1 hl1 hlen1 => ?_)
  subst hv1
  refine G.mvT rfl rfl ?_
  refine G.op rfl (G.cS rfl rfl rfl rfl Tryz.func110 rfl rfl subT may0 (split_tr _ (by omega)) apT ?_)
  intro x30 hJ
  try dsimp only at hJ
  try dsimp only
  refine G.ownTo selT (splitM_pos _) (fun g2 cap2 sp2 hv2 hkc2 hmx2 hl2 hlen2 => ?_)
  subst hv2
  refine G.asT rfl rfl ?_
  refine G.asT rfl rfl ?_
  refine G.nil ?_
  refine G.nThen (G.seq (G.seq (G.region ?_)))
  refine G.asT rfl rfl ?_
  refine G.nil ?_
  refine G.nThen ?_
  refine G.block ?_
  have hcmp : compareM a b = cmpL (splitM a) (splitM b) := (if_pos (show okP a from by first | assumption | exact Decidable.of_not_not (by assumption))).trans (if_pos (show okP b from by first | assumption | exact Decidable.of_not_not (by assumption)))
  refine G.loopK (X := Nat) (ts := [7, 8]) (fun i => i ≤ (splitM a).length ∧ i ≤ (splitM b).length ∧ cmpL (splitM a) (splitM b) = cmpL ((splitM a).drop i) ((splitM b).drop i)) (fun i => [(9, .int .i64 (i : Int))]) (fun i => []) (fun i => (splitM a).length - i) (x0 := 0) (.cons rfl (.cons rfl .nil)) subT (.cons .nil) apT (by first | exact trivial | ((try dsimp only); exact ⟨Nat.zero_le _, Nat.zero_le _, rfl⟩)) (.consE rfl veqT .nil) (fun i hJ => ?_)
  try dsimp only at hJ
  try dsimp only
  refine G.seq (G.seq ?_)
  have hJ9 := hJ
  refine G.cutK (X := Unit) (ts := [7, 8, 9]) (p := []) (fun _ => True) (fun _ => [(40, .bool (decide (i < (splitM a).length ∧ i < (splitM b).length)))]) (fun _ => []) (.cons rfl (.cons rfl (.cons rfl .nil))) subT (.cons .nil) apT ?_ ?_
  · refine G.region ?_
    refine G.mvT rfl rfl ?_
    refine G.mvT rfl rfl ?_
    refine G.op rfl (G.val rfl rfl (pv_lenSl Tryz.underlying142 rfl) ?_)
    refine G.op rfl (G.val rfl rfl (pv_lss rfl rfl) ?_)
    refine G.mvT rfl rfl ?_
    refine G.partP (t := 35) rfl (fun h35 => ?_) (fun h35 => ?_)
    · refine G.want rfl rfl rfl (G.val rfl rfl (pv_move rfl) ?_)
      refine G.want rfl rfl rfl (G.val rfl rfl (pv_move rfl) ?_)
      refine G.want rfl rfl rfl (G.val rfl rfl (pv_lenSl Tryz.underlying142 rfl) ?_)
      refine G.want rfl rfl rfl (G.val rfl rfl (pv_lss rfl rfl) ?_)
      refine G.op rfl (G.val rfl rfl (pv_pick rfl rfl) ?_)
      refine G.nil ?_
      exact G.meet (()) (by first | exact trivial | ((try dsimp only); exact trivial)) (.consE rfl (congrArg Value.bool (by simp_all; try omega)) (.cons rfl (.cons rfl (.cons rfl .nil)))) subT
    refine G.pass rfl rfl rfl rfl rfl rfl ?_
    refine G.pass rfl rfl rfl rfl rfl rfl ?_
    refine G.pass rfl rfl rfl rfl rfl rfl ?_
    refine G.pass rfl rfl rfl rfl rfl rfl ?_
    refine G.op rfl (G.val rfl rfl (pv_pick rfl rfl) ?_)
    refine G.nil ?_
    exact G.meet (()) (by first | exact trivial | ((try dsimp only); exact trivial)) (.consE rfl (congrArg Value.bool (by simp_all; try omega)) (.cons rfl (.cons rfl (.cons rfl .nil)))) subT
  intro _ hJ
  try dsimp only at hJ
  try dsimp only
  have hJ := hJ9
  refine G.condP rfl (fun h40 => ?_) (fun h40 => ?_)
  · refine G.skip ?_
    refine G.nThen (G.seq ?_)
    refine G.block ?_
    refine G.seq ?_
    refine G.drawT (nn := 9) (p := []) (rem := 511) [0, 0, 3, 4, 0, 0, 48, 64, 136] [0, 0, 3, 4, 0, 0, 48, 64, 136] kr ⟨rfl, by kernel_rfl, by kernel_rfl⟩ subT kr (fun hT12 => ?_)
    refine G.takeT hT12 (i := 0) (rem' := 510) rfl rfl rfl kr (fun _ _ _ h => h) rfl (pv_move rfl) subT ?_
    refine G.takeT hT12 (i := 1) (rem' := 508) rfl rfl rfl kr (fun _ _ _ h => h) rfl (pv_move rfl) subT ?_
    refine G.takeT hT12 (i := 2) (rem' := 504) rfl rfl rfl kr (fun _ _ _ h => h) rfl (pv_ixSl (sz := 1) Tryz.underlying142 kr rfl rfl (by first | with_reducible assumption | assumption | exact fun _ => rfl) rfl (by omega)) subT ?_
    refine G.takeT hT12 (i := 4) (rem' := 488) rfl rfl rfl kr (fun _ _ _ h => h) rfl (pv_move rfl) subT ?_
    refine G.takeT hT12 (i := 5) (rem' := 456) rfl rfl rfl kr (fun _ _ _ h => h) rfl (pv_move rfl) subT ?_
    refine G.takeT hT12 (i := 6) (rem' := 392) rfl rfl rfl kr (fun _ _ _ h => h) rfl (pv_ixSl (sz := 1) Tryz.underlying142 kr rfl rfl (by first | with_reducible assumption | assumption | exact fun _ => rfl) rfl (by omega)) subT ?_
    refine G.takeT hT12 (i := 3) (rem' := 384) rfl rfl rfl kr (fun _ _ _ h => h) rfl (pv_load (v := .string (sB (splitM a)[i])) Tryz.underlying9 rfl rfl (blk_cell selD (by exact rd1 (by omega)))) subT ?_
    refine G.oneT hT12 (i := 7) (rem' := 256) kr kr ?_
    refine G.turnOp rfl rfl (G.val rfl rfl (pv_load (v := .string (sB (splitM b)[i])) Tryz.underlying9 rfl rfl (blk_cell selD (by exact rd1 (by omega)))) ?_)
    refine G.back subT ?_
    refine G.takeT hT12 (i := 8) (rem' := 0) rfl rfl rfl kr (fun _ _ _ h => h) rfl (pv_neqS rfl rfl) subT ?_
    refine G.overT hT12 kr ?_
    refine G.nThen ?_
    refine G.condP rfl (fun h51 => ?_) (fun h51 => ?_)
    · refine G.seq ?_
      refine G.drawT (nn := 10) (p := []) (rem := 1023) [0, 0, 3, 4, 0, 0, 48, 64, 136, 511] [0, 0, 3, 4, 0, 0, 48, 64, 136, 256] kr ⟨rfl, by kernel_rfl, by kernel_rfl⟩ subT kr (fun hT13 => ?_)
      refine G.takeT hT13 (i := 0) (rem' := 1022) rfl rfl rfl kr (fun _ _ _ h => h) rfl (pv_move rfl) subT ?_
      refine G.takeT hT13 (i := 1) (rem' := 1020) rfl rfl rfl kr (fun _ _ _ h => h) rfl (pv_move rfl) subT ?_
      refine G.takeT hT13 (i := 2) (rem' := 1016) rfl rfl rfl kr (fun _ _ _ h => h) rfl (pv_ixSl (sz := 1) Tryz.underlying142 kr rfl rfl (by first | with_reducible assumption | assumption | exact fun _ => rfl) rfl (by omega)) subT ?_
      refine G.takeT hT13 (i := 4) (rem' := 1000) rfl rfl rfl kr (fun _ _ _ h => h) rfl (pv_move rfl) subT ?_
      refine G.takeT hT13 (i := 5) (rem' := 968) rfl rfl rfl kr (fun _ _ _ h => h) rfl (pv_move rfl) subT ?_
      refine G.takeT hT13 (i := 6) (rem' := 904) rfl rfl rfl kr (fun _ _ _ h => h) rfl (pv_ixSl (sz := 1) Tryz.underlying142 kr rfl rfl (by first | with_reducible assumption | assumption | exact fun _ => rfl) rfl (by omega)) subT ?_
      refine G.takeT hT13 (i := 3) (rem' := 896) rfl rfl rfl kr (fun _ _ _ h => h) rfl (pv_load (v := .string (sB (splitM a)[i])) Tryz.underlying9 rfl rfl (blk_cell selD (by exact rd1 (by omega)))) subT ?_
      refine G.oneT hT13 (i := 7) (rem' := 768) kr kr ?_
      refine G.turnOp rfl rfl (G.val rfl rfl (pv_load (v := .string (sB (splitM b)[i])) Tryz.underlying9 rfl rfl (blk_cell selD (by exact rd1 (by omega)))) ?_)
      refine G.back subT ?_
      refine G.oneT hT13 (i := 8) (rem' := 512) kr kr ?_
      refine G.turnOp rfl rfl (G.cR rfl rfl rfl rfl Tryz.func109 rfl rfl may0 (bytesC_tr _ _) ?_)
      refine G.back subT ?_
      refine G.takeT hT13 (i := 9) (rem' := 0) rfl rfl rfl kr (fun _ _ _ h => h) rfl (pv_assign rfl) subT ?_
      refine G.overT hT13 kr ?_
      refine G.nThen ?_
      refine G.ret ?_
      refine G.rBlock ?_
      refine G.rThen ?_
      refine G.rThen ?_
      refine G.rBlock ?_
      refine G.rThen ?_
      obtain ⟨hi1, hi2, hck⟩ := hJ
      exact G.done0G rfl (Rv.tmp rfl Rv.nil) (by rw [hcmp, hck, cmp_ne (by omega) (by omega) (by assumption)]; rfl)
    refine G.skip ?_
    refine G.nBlock ?_
    refine G.nThen (G.region ?_)
    refine G.mvT rfl rfl ?_
    refine G.op rfl (G.val rfl rfl (pv_add64 rfl rfl (by omega)) ?_)
    refine G.asT rfl rfl ?_
    refine G.nil ?_
    obtain ⟨hi1, hi2, hck⟩ := hJ
    exact G.next (i + 1) (by first | exact trivial | ((try dsimp only); exact ⟨by omega, by omega, hck.trans (cmp_next (by omega) (by omega) (by assumption))⟩)) (by (try dsimp only); omega) (.consE rfl veqT (.cons rfl (.cons rfl .nil))) subT
  refine G.exit ?_
  refine G.eThen ?_
  refine G.eThen ?_
  refine G.eBlock ?_
  refine G.nThen (G.seq (G.seq (G.region ?_)))
  refine G.mvT rfl rfl ?_
  refine G.op rfl (G.val rfl rfl (pv_lenSl Tryz.underlying142 rfl) ?_)
  refine G.mvT rfl rfl ?_
  refine G.op rfl (G.val rfl rfl (pv_lenSl Tryz.underlying142 rfl) ?_)
  refine G.op rfl (G.val rfl rfl (pv_lss rfl rfl) ?_)
  refine G.nil ?_
  refine G.nThen ?_
  refine G.condP rfl (fun h65 => ?_) (fun h65 => ?_)
  · refine G.seq (G.region ?_)
    refine G.asT rfl rfl ?_
    refine G.nil ?_
    refine G.nThen ?_
    refine G.ret ?_
    refine G.rThen ?_
    obtain ⟨hi1, hi2, hck⟩ := hJ
    have hend := cmp_end (xs := splitM a) (ys := splitM b) (i := i) hi1 hi2 (by assumption)
    exact G.done0G rfl (Rv.tmp rfl Rv.nil) (by rw [hcmp, hck, hend, if_pos (by omega)]; rfl)
  refine G.skip ?_
  refine G.nThen (G.seq (G.seq (G.region ?_)))
  refine G.mvT rfl rfl ?_
  refine G.op rfl (G.val rfl rfl (pv_lenSl Tryz.underlying142 rfl) ?_)
  refine G.mvT rfl rfl ?_
  refine G.op rfl (G.val rfl rfl (pv_lenSl Tryz.underlying142 rfl) ?_)
  refine G.op rfl (G.val rfl rfl (pv_gtr rfl rfl) ?_)
  refine G.nil ?_
  refine G.nThen ?_
  refine G.condP rfl (fun h70 => ?_) (fun h70 => ?_)
  · refine G.seq (G.region ?_)
    refine G.asT rfl rfl ?_
    refine G.nil ?_
    refine G.nThen ?_
    refine G.ret ?_
    refine G.rThen ?_
    obtain ⟨hi1, hi2, hck⟩ := hJ
    have hend := cmp_end (xs := splitM a) (ys := splitM b) (i := i) hi1 hi2 (by assumption)
    exact G.done0G rfl (Rv.tmp rfl Rv.nil) (by rw [hcmp, hck, hend, if_neg (by omega), if_pos (by omega)]; rfl)
  refine G.skip ?_
  refine G.nThen (G.seq (G.region ?_))
  refine G.asT rfl rfl ?_
  refine G.nil ?_
  refine G.nThen ?_
  refine G.ret ?_
  obtain ⟨hi1, hi2, hck⟩ := hJ
  have hend := cmp_end (xs := splitM a) (ys := splitM b) (i := i) hi1 hi2 (by assumption)
  exact G.done0G rfl (Rv.tmp rfl Rv.nil) (by rw [hcmp, hck, hend, if_neg (by omega), if_neg (by omega)]; rfl)
end Go.Proofs.YtbfpbibkklfnfaaGreat

set_option linter.unusedVariables false
set_option linter.unusedSimpArgs false
namespace Go.Proofs.YtbfpbibkklfnfaaGreat
open Go.RowKit
theorem bl_irrefl : ∀ a, Op.bytesLess a a = false
  | [] => rfl
  | a :: x => by
    have h := bl_irrefl x
    simp [Op.bytesLess, h]
theorem bl_cons {a b : UInt8} {x y : List UInt8} : Op.bytesLess (a :: x) (b :: y) = true ↔ a.toNat < b.toNat ∨ (a = b ∧ Op.bytesLess x y = true) := by
  simp only [Op.bytesLess, Bool.or_eq_true, decide_eq_true_eq, Bool.and_eq_true, beq_iff_eq, UInt8.lt_iff_toNat_lt]
theorem bl_asymm : ∀ a b, Op.bytesLess a b = true → Op.bytesLess b a = true → False
  | a, [], h, _ => by cases a <;> cases h
  | [], b :: y, _, h => by cases h
  | a :: x, b :: y, h, k => by
    rcases bl_cons.1 h with h | ⟨rfl, h2⟩
    · rcases bl_cons.1 k with k | ⟨rfl, k⟩
      · omega
      omega
    rcases bl_cons.1 k with k | ⟨_, k2⟩
    · omega
    exact bl_asymm x y h2 k2
theorem bl_trans : ∀ a b c, Op.bytesLess a b = true → Op.bytesLess b c = true → Op.bytesLess a c = true
  | a, [], c, h, _ => by cases a <;> cases h
  | a, b :: y, [], _, k => by cases k
  | [], b :: y, c :: z, _, _ => rfl
  | a :: x, b :: y, c :: z, h, k => by
    refine bl_cons.2 ?_
    rcases bl_cons.1 h with h1 | ⟨rfl, h2⟩
    · rcases bl_cons.1 k with k1 | ⟨rfl, k2⟩
      · exact .inl (by omega)
      exact .inl h1
    rcases bl_cons.1 k with k1 | ⟨rfl, k2⟩
    · exact .inl k1
    exact .inr ⟨rfl, bl_trans x y z h2 k2⟩
theorem bl_total : ∀ a b, Op.bytesLess a b = false → Op.bytesLess b a = false → a = b
  | [], [], _, _ => rfl
  | [], b :: y, h, _ => by cases h
  | a :: x, [], _, h => by cases h
  | a :: x, b :: y, h, k => by
    have h' : ¬ (a.toNat < b.toNat ∨ (a = b ∧ Op.bytesLess x y = true)) := fun e => by rw [bl_cons.2 e] at h; cases h
    have k' : ¬ (b.toNat < a.toNat ∨ (b = a ∧ Op.bytesLess y x = true)) := fun e => by rw [bl_cons.2 e] at k; cases k
    have e : a = b := UInt8.toNat_inj.1 (by omega)
    subst e
    have h2 : Op.bytesLess x y = false := by
      cases hh : Op.bytesLess x y with
      | false => rfl
      | true => exact absurd (.inr ⟨rfl, hh⟩) h'
    have k2 : Op.bytesLess y x = false := by
      cases hh : Op.bytesLess y x with
      | false => rfl
      | true => exact absurd (.inr ⟨rfl, hh⟩) k'
    rw [bl_total x y h2 k2]
/-- an order that tells -1, 0, 1 -/
structure OrdF {α : Type} (f : α → α → Int) : Prop where
  rng : ∀ a b, f a b = -1 ∨ f a b = 0 ∨ f a b = 1
  zero : ∀ a b, f a b = 0 ↔ a = b
  anti : ∀ a b, f b a = - f a b
  trans : ∀ a b c, f a b = -1 → f b c = -1 → f a c = -1
theorem bytesM_neg {a b : List UInt8} : bytesC a b = -1 ↔ Op.bytesLess a b = true := by
  unfold bytesC
  cases h : Op.bytesLess a b <;> simp
  by_cases e : a = b <;> simp [e]
theorem bytesM_eq {a b : List UInt8} (h : Op.bytesLess a b = false) : bytesC a b = if a = b then 0 else 1 := by
  unfold bytesC
  rw [h]
  by_cases e : a = b <;> simp [e]
theorem bytesM_ord : OrdF bytesC where
  rng a b := by
    cases h : Op.bytesLess a b with
    | true => exact .inl (bytesM_neg.2 h)
    | false =>
      rw [bytesM_eq h]
      by_cases e : a = b <;> simp [e]
  zero a b := by
    cases h : Op.bytesLess a b with
    | true =>
      rw [bytesM_neg.2 h]
      constructor
      · intro h; cases h
      rintro rfl
      rw [bl_irrefl] at h
      cases h
    | false =>
      rw [bytesM_eq h]
      by_cases e : a = b <;> simp [e]
  anti a b := by
    cases h : Op.bytesLess a b with
    | true =>
      have h2 : Op.bytesLess b a = false := by
        cases k : Op.bytesLess b a with
        | false => rfl
        | true => exact (bl_asymm _ _ h k).elim
      have h3 : ¬ b = a := fun e => by
        subst e
        rw [bl_irrefl] at h
        cases h
      rw [bytesM_neg.2 h, bytesM_eq h2, if_neg h3]
      rfl
    | false =>
      cases k : Op.bytesLess b a with
      | true =>
        have h3 : ¬ a = b := fun e => by
          subst e
          rw [bl_irrefl] at k
          cases k
        rw [bytesM_neg.2 k, bytesM_eq h, if_neg h3]
      | false =>
        have := bl_total _ _ h k
        subst this
        rw [bytesM_eq h, if_pos rfl]
        rfl
  trans a b c h k := bytesM_neg.2 (bl_trans _ _ _ (bytesM_neg.1 h) (bytesM_neg.1 k))
theorem OrdF.self {α : Type} {f : α → α → Int} (h : OrdF f) (a : α) : f a a = 0 := (h.zero a a).2 rfl
theorem cmpL_cons_eq {x : List UInt8} {xs ys : List (List UInt8)} : cmpL (x :: xs) (x :: ys) = cmpL xs ys := if_pos rfl
theorem cmpL_cons_ne {x y : List UInt8} {xs ys : List (List UInt8)} (h : ¬ x = y) : cmpL (x :: xs) (y :: ys) = bytesC x y := if_neg h
theorem cmpL_rng : ∀ a b, cmpL a b = -1 ∨ cmpL a b = 0 ∨ cmpL a b = 1
  | [], [] => .inr (.inl rfl)
  | [], _ :: _ => .inl rfl
  | _ :: _, [] => .inr (.inr rfl)
  | x :: xs, y :: ys => by
    by_cases h : x = y
    · subst h
      rw [cmpL_cons_eq]
      exact cmpL_rng xs ys
    rw [cmpL_cons_ne h]
    exact bytesM_ord.rng x y
theorem cmpL_zero : ∀ a b, cmpL a b = 0 ↔ a = b
  | [], [] => ⟨fun _ => rfl, fun _ => rfl⟩
  | [], _ :: _ => ⟨fun h => (by cases h), fun h => (by cases h)⟩
  | _ :: _, [] => ⟨fun h => (by cases h), fun h => (by cases h)⟩
  | x :: xs, y :: ys => by
    by_cases h : x = y
    · subst h
      rw [cmpL_cons_eq, cmpL_zero xs ys]
      simp
    rw [cmpL_cons_ne h, bytesM_ord.zero]
    simp [h]
theorem cmpL_anti : ∀ a b, cmpL b a = - cmpL a b
  | [], [] => rfl
  | [], _ :: _ => rfl
  | _ :: _, [] => rfl
  | x :: xs, y :: ys => by
    by_cases h : x = y
    · subst h
      rw [cmpL_cons_eq, cmpL_cons_eq]
      exact cmpL_anti xs ys
    rw [cmpL_cons_ne h, cmpL_cons_ne (fun e => h e.symm)]
    exact bytesM_ord.anti x y
theorem cmpL_trans : ∀ a b c, cmpL a b = -1 → cmpL b c = -1 → cmpL a c = -1
  | [], [], _, h, _ => by cases h
  | _ :: _, [], _, h, _ => by cases h
  | _, _ :: _, [], _, k => by cases k
  | [], _ :: _, _ :: _, _, _ => rfl
  | x :: xs, y :: ys, z :: zs, h, k => by
    by_cases e : x = y
    · subst e
      rw [cmpL_cons_eq] at h
      by_cases e2 : x = z
      · subst e2
        rw [cmpL_cons_eq] at k ⊢
        exact cmpL_trans xs ys zs h k
      rw [cmpL_cons_ne e2] at k ⊢
      exact k
    rw [cmpL_cons_ne e] at h
    by_cases e2 : y = z
    · subst e2
      rw [cmpL_cons_ne e]
      exact h
    rw [cmpL_cons_ne e2] at k
    have h3 := bytesM_ord.trans x y z h k
    have e3 : ¬ x = z := fun e => by
      subst e
      rw [bytesM_ord.self] at h3
      cases h3
    rw [cmpL_cons_ne e3]
    exact h3
def joinL : List (List UInt8) → List UInt8
  | [] => []
  | [p] => p
  | p :: q :: r => p ++ 47 :: joinL (q :: r)
theorem joinL_cons {p : List UInt8} {r : List (List UInt8)} (h : r ≠ []) : joinL (p :: r) = p ++ 47 :: joinL r := by
  cases r with
  | nil => exact absurd rfl h
  | cons q r => rfl
theorem joinL_head {c : UInt8} {ps : List (List UInt8)} (h : ps ≠ []) : joinL (headP c ps) = c :: joinL ps := by
  cases ps with
  | nil => exact absurd rfl h
  | cons p r => cases r <;> rfl
theorem joinL_split : ∀ s, joinL (splitM s) = s
  | [] => rfl
  | c :: s => by
    have ih := joinL_split s
    by_cases h : c = 47
    · subst h
      rw [splitM_stroke, joinL_cons (splitM_ne s), ih]
      rfl
    rw [splitM_char h, joinL_head (splitM_ne s), ih]
theorem split_inj {a b : List UInt8} (h : splitM a = splitM b) : a = b := by
  rw [← joinL_split a, h, joinL_split]
theorem split_app : ∀ d t, splitM (d ++ 47 :: t) = splitM d ++ splitM t
  | [], t => splitM_stroke t
  | c :: d, t => by
    have ih := split_app d t
    rw [List.cons_append]
    by_cases h : c = 47
    · subst h
      rw [splitM_stroke, splitM_stroke, ih]
      rfl
    rw [splitM_char h, splitM_char h, ih]
    cases e : splitM d with
    | nil => exact absurd e (splitM_ne d)
    | cons p r => rfl
theorem joinL_app : ∀ {a b : List (List UInt8)}, a ≠ [] → b ≠ [] → joinL (a ++ b) = joinL a ++ 47 :: joinL b
  | [], _, h, _ => absurd rfl h
  | [p], b, _, hb => joinL_cons hb
  | p :: q :: r, b, _, hb => by
    have ih := joinL_app (a := q :: r) (b := b) (by simp) hb
    show p ++ 47 :: joinL (q :: r ++ b) = _
    rw [ih]
    show _ = (p ++ 47 :: joinL (q :: r)) ++ 47 :: joinL b
    simp
theorem last_at {a p : List UInt8} (hp : ∀ x ∈ p, ¬ x = 47) (ha : a = [] ∨ ∃ a', a = a' ++ [47]) : ∀ k, a.length ≤ k → k ≤ (a ++ p).length → lastM (a ++ p) k = a.length
  | 0, h, _ => by
    unfold lastM
    omega
  | k + 1, h, h2 => by
    rw [lastM.eq_2]
    by_cases e : a.length = k + 1
    · rcases ha with rfl | ⟨a', rfl⟩
      · simp at e
      have e2 : a'.length = k := by simpa using e
      rw [if_pos]
      · exact e.symm
      rw [List.getElem?_append_left (by omega), List.getElem?_append_right (by omega), e2]
      simp
    have hk : k - a.length < p.length := by
      simp at h2
      omega
    rw [if_neg, last_at hp ha k (by omega) (by omega)]
    rw [List.getElem?_append_right (by omega), List.getElem?_eq_getElem hk]
    intro e3
    injection e3 with e3
    exact hp _ (List.getElem_mem hk) e3
theorem last_none {s p : List UInt8} (h : splitM s = [p]) : lastM s s.length = 0 ∧ s = p := by
  have e : s = p := by
    have := joinL_split s
    rw [h] at this
    exact this.symm
  subst e
  exact ⟨last_at (a := []) (split_one' (by rw [h]; rfl)) (.inl rfl) s.length (Nat.zero_le _) (Nat.le_refl _), rfl⟩
theorem last_some {s p : List UInt8} {ini : List (List UInt8)} (h : splitM s = ini ++ [p]) (hi : ini ≠ []) : s = joinL ini ++ 47 :: p ∧ lastM s s.length = (joinL ini).length + 1 ∧ splitM (joinL ini) = ini := by
  have e : s = joinL ini ++ 47 :: p := by
    have := joinL_app hi (b := [p]) (by simp)
    rw [← h, joinL_split] at this
    exact this
  have hno : ∀ x ∈ p, ¬ x = 47 := splitM_no s p (by rw [h]; simp)
  refine ⟨e, ?_, ?_⟩
  · have := last_at (a := joinL ini ++ [47]) hno (.inr ⟨_, rfl⟩) (joinL ini ++ [47] ++ p).length (by simp) (Nat.le_refl _)
    have e2 : joinL ini ++ [47] ++ p = s := by rw [e]; simp
    rw [e2] at this
    rw [this]
    simp
  have e3 := split_app (joinL ini) p
  rw [← e, split_one hno, h] at e3
  exact (List.append_inj' e3 rfl).1.symm
theorem parent_some {s p : List UInt8} {ini : List (List UInt8)} (hs : okP s) (h : splitM s = ini ++ [p]) (hi : ini ≠ []) : parentM s = (joinL ini, true) := by
  obtain ⟨e, e2, _⟩ := last_some h hi
  unfold parentM
  rw [if_pos ⟨by omega, hs⟩, e2, Nat.add_sub_cancel]
  congr 1
  conv => lhs; rw [e]
  simp
theorem parent_none {s p : List UInt8} (h : splitM s = [p]) : parentM s = ([], false) := by
  unfold parentM
  rw [if_neg (fun h2 => by rw [(last_none h).1] at h2; omega)]
theorem parentM_len (s : List UInt8) : (parentM s).1.length ≤ s.length := by
  unfold parentM
  split
  · simp
    omega
  simp
theorem compareM_ok {a b : List UInt8} (ha : okP a) (hb : okP b) : compareM a b = cmpL (splitM a) (splitM b) := (if_pos ha).trans (if_pos hb)
theorem compareM_l {a b : List UInt8} (ha : okP a) (hb : ¬ okP b) : compareM a b = 1 := (if_pos ha).trans (if_neg hb)
theorem compareM_r {a b : List UInt8} (ha : ¬ okP a) (hb : okP b) : compareM a b = -1 := (if_neg ha).trans (if_pos hb)
theorem compareM_no {a b : List UInt8} (ha : ¬ okP a) (hb : ¬ okP b) : compareM a b = bytesC a b := (if_neg ha).trans (if_neg hb)
theorem compareM_ord : OrdF compareM where
  rng a b := by
    by_cases ha : okP a <;> by_cases hb : okP b
    · rw [compareM_ok ha hb]; exact cmpL_rng _ _
    · rw [compareM_l ha hb]; simp
    · rw [compareM_r ha hb]; simp
    rw [compareM_no ha hb]; exact bytesM_ord.rng _ _
  zero a b := by
    by_cases ha : okP a <;> by_cases hb : okP b
    · rw [compareM_ok ha hb, cmpL_zero]
      exact ⟨split_inj, fun h => by rw [h]⟩
    · rw [compareM_l ha hb]
      exact ⟨fun h => (by cases h), fun h => absurd (h ▸ ha) hb⟩
    · rw [compareM_r ha hb]
      exact ⟨fun h => (by cases h), fun h => absurd (h ▸ hb) ha⟩
    rw [compareM_no ha hb]; exact bytesM_ord.zero _ _
  anti a b := by
    by_cases ha : okP a <;> by_cases hb : okP b
    · rw [compareM_ok ha hb, compareM_ok hb ha]; exact cmpL_anti _ _
    · rw [compareM_l ha hb, compareM_r hb ha]
    · rw [compareM_r ha hb, compareM_l hb ha]; rfl
    rw [compareM_no ha hb, compareM_no hb ha]; exact bytesM_ord.anti _ _
  trans a b c h k := by
    by_cases ha : okP a
    · by_cases hb : okP b
      · rw [compareM_ok ha hb] at h
        by_cases hc : okP c
        · rw [compareM_ok hb hc] at k
          rw [compareM_ok ha hc]
          exact cmpL_trans _ _ _ h k
        rw [compareM_l hb hc] at k
        cases k
      rw [compareM_l ha hb] at h
      cases h
    by_cases hc : okP c
    · exact compareM_r ha hc
    by_cases hb : okP b
    · rw [compareM_l hb hc] at k
      cases k
    rw [compareM_no ha hb] at h
    rw [compareM_no hb hc] at k
    rw [compareM_no ha hc]
    exact bytesM_ord.trans _ _ _ h k
end Go.Proofs.YtbfpbibkklfnfaaGreat

set_option linter.unusedVariables false
set_option linter.unusedSimpArgs false
namespace Go.Proofs.YtbfpbibkklfnfaaGreat
open Go.RowKit
/-- a path's parts -/
def partsM (s : List UInt8) : List (List UInt8) := if okP s then splitM s else []
theorem parent_ref {s : List UInt8} (hs : okP s) (h : 1 < (splitM s).length) : parentM s = (s.take (s.length - ((splitM s)[(splitM s).length - 1]'(by omega)).length - 1), true) ∧ ((splitM s)[(splitM s).length - 1]'(by omega)).length + 1 ≤ s.length := by
  obtain ⟨ini, p, e⟩ := splitM_last s
  have hi : ini ≠ [] := fun h0 => by
    subst h0
    rw [e] at h
    simp at h
  have e2 : (splitM s)[(splitM s).length - 1]'(by omega) = p := by
    have : ∀ (l : List (List UInt8)) (h : l = ini ++ [p]) (hl : l.length - 1 < l.length), l[l.length - 1] = p := by
      rintro l rfl hl
      simp
    exact this _ e (by omega)
  obtain ⟨h1, h2, h3⟩ := last_some e hi
  have hlen : s.length = (joinL ini).length + 1 + p.length := by
    conv => lhs; rw [h1]
    simp
    omega
  refine ⟨?_, by rw [e2]; omega⟩
  rw [parent_some hs e hi]
  congr 1
  rw [e2, show s.length - p.length - 1 = (joinL ini).length by omega]
  conv => rhs; rw [h1]
  simp
theorem parent_one {s : List UInt8} (h : ¬ (1 < (partsM s).length)) : parentM s = ([], false) := by
  unfold partsM at h
  by_cases hs : okP s
  · rw [if_pos hs] at h
    have := splitM_pos s
    obtain ⟨ini, p, e⟩ := splitM_last s
    have hi : ini = [] := by
      rw [e] at h
      simp at h
      exact h
    subst hi
    exact parent_none e
  unfold parentM
  rw [if_neg (fun h => hs h.2)]
set_option maxRecDepth 20000 in
set_option maxHeartbeats 4000000 in
theorem partsR_tr (s : List UInt8) (hs : s.length ≤ 9223372036854775807) : Tr Tryz.prog 144 #[.string (sB s)] [] [] (TX (fun _ : Value => True) (fun v => v) (fun v => [own 9 1 v (partsM s).length ((partsM s).map vStr)])) := by
  refine Tr.of (l := [(0, .string (sB s))]) Tryz.func144 rfl (n := 8) rfl (.cons rfl .nil) (fun w0 hro => ?_)
  refine G.seq (G.region ?_)
  refine G.asT rfl rfl ?_
  refine G.nil ?_
  refine G.nThen (G.seq (G.seq (G.region ?_)))
  refine G.mvT rfl rfl ?_
  refine G.op rfl (G.cR rfl rfl rfl rfl Tryz.func107 rfl rfl may0 (validR_tr _ (by omega)) ?_)
  refine G.op rfl (G.val rfl rfl (pv_notP rfl) ?_)
  refine G.nil ?_
  refine G.nThen ?_
  refine G.condP rfl (fun h5 => ?_) (fun h5 => ?_)
  · refine G.seq (G.region ?_)
    refine G.asT rfl rfl ?_
    refine G.nil ?_
    refine G.nThen ?_
    refine G.ret ?_
    refine G.rThen ?_
    rw [show partsM s = [] from if_neg (show ¬ okP s from by assumption)]
    refine G.ownNil 9 1 ?_
    exact G.doneX1 (.slice none 0 0) (by first | exact trivial | ((try dsimp only); exact trivial)) rfl rfl rfl subT
  refine G.skip ?_
  refine G.nThen (G.seq (G.region ?_))
  refine G.mvT rfl rfl ?_
  refine G.op rfl (G.cS rfl rfl rfl rfl Tryz.func110 rfl rfl subT may0 (split_tr s (by have := okP_len (s := s) (Decidable.of_not_not (by assumption)); omega)) apT ?_)
  intro x7 hJ
  try dsimp only at hJ
  try dsimp only
  refine G.asT rfl rfl ?_
  refine G.nil ?_
  refine G.nThen ?_
  refine G.ret ?_
  rw [show partsM s = splitM s from if_pos (show okP s from Decidable.of_not_not (by assumption))]
  exact G.doneX1 (x7) (by first | exact trivial | ((try dsimp only); exact trivial)) rfl rfl rfl subT
set_option maxRecDepth 20000 in
set_option maxHeartbeats 4000000 in
theorem parentR_tr (s : List UInt8) (hs : s.length ≤ 9223372036854775807) : Tr Tryz.prog 111 #[.string (sB s)] [] [] (T0 (.tuple #[.string (sB (parentM s).1), .bool (parentM s).2])) := by
  refine Tr.of (l := [(0, .string (sB s))]) Tryz.func111 rfl (n := 23) rfl (.cons rfl .nil) (fun w0 hro => ?_)
  refine G.seq (G.region ?_)
  refine G.asT rfl rfl ?_
  refine G.asT rfl rfl ?_
  refine G.nil ?_
  refine G.nThen (G.seq (G.region ?_))
  refine G.mvT rfl rfl ?_
  refine G.op rfl (G.cS rfl rfl rfl rfl Tryz.func144 rfl rfl subT may0 (partsR_tr _ (by omega)) apT ?_)
  intro x6 hJ
  try dsimp only at hJ
  try dsimp only
  refine G.ownOpen (v := x6) selT (fun ad cap hv hk hm => ?_)
  have hv' := hv
  refine G.asT rfl rfl ?_
  refine G.nil ?_
  refine G.nThen (G.seq (G.seq (G.region ?_)))
  refine G.mvT rfl rfl ?_
  rw [hv]
  refine G.op rfl (G.val rfl rfl (pv_lenSl Tryz.underlying142 rfl) ?_)
  refine G.op rfl (G.val rfl rfl (pv_lss rfl rfl) ?_)
  refine G.nil ?_
  refine G.nThen ?_
  refine G.condP rfl (fun h9 => ?_) (fun h9 => ?_)
  · refine G.seq (G.region ?_)
    refine G.asT rfl rfl ?_
    refine G.asT rfl rfl ?_
    refine G.nil ?_
    refine G.nThen ?_
    refine G.ret ?_
    refine G.rThen ?_
    exact G.done0G rfl (Rv.tmp rfl (Rv.tmp rfl Rv.nil)) (by rw [parent_one (by omega)]; rfl)
  have h1 : 1 < (partsM s).length := by omega
  have hok : okP s := Decidable.of_not_not fun h => by rw [show partsM s = [] from if_neg h] at h1; simp at h1
  have hps : partsM s = splitM s := if_pos hok
  rw [hps] at h1 hk ⊢
  rw [hps] at hv
  rw [← hv]
  obtain ⟨hpr, hpl⟩ := parent_ref hok h1
  have hlen := splitM_len s
  have hs2 := okP_len hok
  refine G.ownTo selT (by omega) (fun g cap2 sp hv2 hkc hmx hl hlen2 => ?_)
  rw [hv2]
  refine G.skip ?_
  refine G.nThen (G.seq (G.region ?_))
  refine G.mvT rfl rfl ?_
  refine G.mvT rfl rfl ?_
  refine G.op rfl (G.val rfl rfl (pv_lenS Tryz.underlying9 rfl) ?_)
  refine G.mvT rfl rfl ?_
  refine G.mvT rfl rfl ?_
  refine G.op rfl (G.val rfl rfl (pv_lenSl Tryz.underlying142 rfl) ?_)
  refine G.op rfl (G.val rfl rfl (pv_sub64 rfl rfl (by omega)) ?_)
  refine G.op rfl (G.val rfl rfl (pv_ixSl (sz := 1) (k := (splitM s).length - 1) Tryz.underlying142 kr rfl rfl (fun _ => rfl) (by omega) (by omega)) ?_)
  refine G.op rfl (G.val rfl rfl (pv_load (v := .string (sB ((splitM s)[(splitM s).length - 1]'(by omega)))) Tryz.underlying9 rfl rfl (blk_cell selD (by exact rd1 (by omega)))) ?_)
  refine G.op rfl (G.val rfl rfl (pv_lenS Tryz.underlying9 rfl) ?_)
  refine G.op rfl (G.val rfl rfl (pv_sub64 rfl rfl (by omega)) ?_)
  refine G.op rfl (G.val rfl rfl (pv_sub64 rfl rfl (by omega)) ?_)
  refine G.op rfl (G.val rfl rfl (pv_strH (k := s.length - ((splitM s)[(splitM s).length - 1]'(by omega)).length - 1) Tryz.underlying9 rfl rfl (by omega) (by omega)) ?_)
  refine G.asT rfl rfl ?_
  refine G.asT rfl rfl ?_
  refine G.nil ?_
  refine G.nThen ?_
  refine G.ret ?_
  exact G.done0G rfl (Rv.tmp rfl (Rv.tmp rfl Rv.nil)) (by rw [hpr]; rfl)
end Go.Proofs.YtbfpbibkklfnfaaGreat

set_option linter.unusedVariables false
set_option linter.unusedSimpArgs false
namespace Go.Proofs.YtbfpbibkklfnfaaGreat
open Go.RowKit
/-- an entry -/
structure En where
  path : List UInt8
  kind : Int
  mode : Int
  data : List UInt8
  to : List UInt8
/-- .. and the value of its bytes' slice -/
abbrev ET := En × Value
def evC (x : ET) : List Value := [vStr x.1.path, vInt x.1.kind, vInt x.1.mode, x.2, vStr x.1.to]
def EnOk (e : En) : Prop := I64 e.kind ∧ I64 e.mode ∧ e.path.length ≤ 140737488355328 ∧ e.data.length ≤ 140737488355328 ∧ e.to.length ≤ 140737488355328
theorem rangeAt_loc {w w' : World} {b o : Nat} {cs : List Value} (h : w'.heap[b]? = w.heap[b]?) (hw : w.rangeAt b o cs) : w'.rangeAt b o cs := fun j v hj => (World.cell?_of_block h).trans (hw j v hj)
def rEV : Rdr ET where
  sz := 5
  R := fun Ps w b o x => Ps b ∧ w.rangeAt b o (evC x) ∧ IsSl rByte Ps w x.2 x.1.data ∧ EnOk x.1
  loc := fun h ⟨h1, h2, h3, h4⟩ => ⟨h1, rangeAt_loc (h _ h1) h2, h3.loc h, h4⟩
  mono := fun h ⟨h1, h2, h3, h4⟩ => ⟨h _ h1, h2, h3.mono h, h4⟩
def flatT (xs : List ET) : List Value := xs.flatMap evC
theorem evC_length (x : ET) : (evC x).length = 5 := rfl
theorem flatT_get {xs : List ET} {i j : Nat} (hi : i < xs.length) (hj : j < 5) : (flatT xs)[i * 5 + j]? = (evC xs[i])[j]? := flatMap_get evC 5 evC_length xs i j hi hj
theorem flatT_app (xs ys : List ET) : flatT (xs ++ ys) = flatT xs ++ flatT ys := List.flatMap_append ..
theorem flatT_one (x : ET) : flatT [x] = evC x := by simp [flatT]
/-- entries' names, without their bytes' places -/
def ens (xs : List ET) : List En := xs.map (·.1)
theorem ens_length (xs : List ET) : (ens xs).length = xs.length := List.length_map ..
theorem ens_get {xs : List ET} {i : Nat} (h : i < xs.length) : (ens xs)[i]'(by rw [ens_length]; exact h) = xs[i].1 := List.getElem_map ..
/-- entries of the call's own -/
def ownT (e : TypeId) (v : Value) (xs : List ET) : Ck := own e 5 v xs.length (flatT xs)
/-- their bytes -/
def datC (e : TypeId) (xs : List ET) : Ck := star (xs.map fun x => ownB e x.2 x.1.data)
section
variable {P : Program} {n : Nat} {w0 : World} {S : Nat → Prop} {l : Fr} {m : List Ck} {Q : Exit → Act → World → Prop} {K : Act → World → Prop}
/-- entries that are read, opened -/
theorem Ro.openT {Ps : Nat → Prop} {v : Value} {xs : List ET} (h : Ro w0 S (slc rEV Ps v xs)) : ∃ ad cap b off, v = .slice ad xs.length cap ∧ xs.length ≤ cap ∧ cap ≤ 9223372036854775807 ∧ (ad = none → cap = 0) ∧ (0 < xs.length → ad = some ⟨b, off, none⟩) ∧ ∀ i (hi : i < xs.length), Ro w0 S (elc rEV Ps b (off + i * 5) xs[i]) := h.open
theorem Ro.evRng {Ps : Nat → Prop} {b o : Nat} {x : ET} (h : Ro w0 S (elc rEV Ps b o x)) : Ro w0 S (rng b o [.string (sB x.1.path), .int .i64 x.1.kind, .int .i64 x.1.mode, x.2, .string (sB x.1.to)]) :=
  ⟨h.1.2.1, fun k hk => h.2 k (by obtain rfl : k = b := hk; exact h.1.1)⟩
theorem Ro.evDat {Ps : Nat → Prop} {b o : Nat} {x : ET} (h : Ro w0 S (elc rEV Ps b o x)) : Ro w0 S (slc rByte Ps x.2 x.1.data) := ⟨h.1.2.2.1, h.2⟩
theorem Ro.evOk {Ps : Nat → Prop} {b o : Nat} {x : ET} (h : Ro w0 S (elc rEV Ps b o x)) : EnOk x.1 := h.1.2.2.2
theorem Ro.slv {α : Type} {E : Rdr α} {Ps : Nat → Prop} {v : Value} {xs : List α} (h : Ro w0 S (slc E Ps v xs)) : ∃ ad cap, v = .slice ad xs.length cap := by
  obtain ⟨⟨ad, cap, b, off, e, _⟩, _⟩ := h
  exact ⟨ad, cap, e⟩
/-- fresh entries are read: their bytes lie in chunks, or in old blocks -/
theorem ownT_sl {e : TypeId} {v : Value} {xs : List ET} {w : World} {Ps : Nat → Prop} (h : w.ownsRow 0 e 5 v xs.length (flatT xs)) (hP : ∀ b, v.ownBlock = some b → Ps b) (hok : ∀ x ∈ xs, EnOk x.1) (hd : ∀ x ∈ xs, IsSl rByte Ps w x.2 x.1.data) : IsSl rEV Ps w v xs := by
  obtain ⟨ad, cap, b, hv, had, hnil, hnw⟩ := own_news h
  obtain ⟨h1, h2⟩ := h
  have hb : xs.length ≤ cap ∧ cap ≤ 9223372036854775807 := by
    rcases h2 with ⟨rfl, h0⟩ | ⟨g, cap', cur, rfl, _, _, hc, hm, _⟩
    · injection hv with e1 e2 e3
      subst e3
      omega
    injection hv with e1 e2 e3
    subst e3
    exact ⟨hc, by unfold maxLen at hm; omega⟩
  refine ⟨ad, cap, b, 0, hv, hb.1, hb.2, hnil, had, fun i hi => ⟨hP b ?_, fun j u hj => ?_, hd _ (List.getElem_mem hi), hok _ (List.getElem_mem hi)⟩⟩
  · rw [hv, had (by omega)]
    rfl
  have hj5 : j < 5 := (List.getElem?_eq_some_iff.1 hj).1
  have := hnw (i * 5 + j) u (by rw [flatT_get hi hj5]; exact hj)
  rw [show 0 + i * rEV.sz + j = 0 + (i * 5 + j) from by show 0 + i * 5 + j = _; omega]
  exact this
theorem datC_dat {w : World} {e : TypeId} {xs : List ET} (h : (datC e xs).φ w) : ∀ x ∈ xs, IsSl rByte (datC e xs).S w x.2 x.1.data := fun x hx => by
  have h1 : (ownB e x.2 x.1.data).φ w := h.1 _ (List.mem_map.2 ⟨x, hx, rfl⟩)
  exact (own_isSl' (p := fun _ => True) (OwnB.own h1) rfl (fun _ _ => trivial)).mono fun k hk => ⟨_, List.mem_map.2 ⟨x, hx, rfl⟩, hk⟩
/-- a tree of the call's own may be read -/
theorem may_tree {e e2 : TypeId} {v : Value} {xs : List ET} {r r' : List Ck} (h : Sel m (ownT e v xs) r) (h' : Sel m (datC e2 xs) r') (hok : ∀ x ∈ xs, EnOk x.1) : May w0 S m (slc rEV (fun b => v.ownBlock = some b ∨ (datC e2 xs).S b) v xs) :=
  .mix (fun w hw => ownT_sl (hw.holds _ h.mem) (fun b hb => .inl hb) hok fun x hx => (datC_dat (hw.holds _ h'.mem) x hx).mono fun k hk => .inr hk) fun b hb => .inr (by
    rcases hb with hb | hb
    · exact ⟨_, h.mem, hb⟩
    exact ⟨_, h'.mem, hb⟩)
end
end Go.Proofs.YtbfpbibkklfnfaaGreat

set_option linter.unusedVariables false
set_option linter.unusedSimpArgs false
namespace Go.Proofs.YtbfpbibkklfnfaaGreat
open Go.RowKit
def argP (e : En) : Prop := e.kind < 1 ∨ 3 < e.kind ∨ e.mode < 0 ∨ 511 < e.mode ∨ (0 < e.data.length ∧ e.kind ≠ 2) ∨ (e.kind = 3 ∧ e.to.length = 0) ∨ (e.kind ≠ 3 ∧ 0 < e.to.length) ∨ 200 < e.to.length
instance (e : En) : Decidable (argP e) := inferInstanceAs (Decidable (_ ∨ _))
/-- what is wrong with an entry by itself -/
def oneM (e : En) : Int := if ¬ okP e.path then 4 else if argP e then 2 else if 1048576 < e.data.length then 3 else 0
theorem one_bytes {e : En} (h : ¬ okP e.path) : oneM e = 4 := if_pos h
theorem one_arg {e : En} (h : okP e.path) (h2 : argP e) : oneM e = 2 := (if_neg (fun k => k h)).trans (if_pos h2)
theorem one_long {e : En} (h : okP e.path) (h2 : ¬ argP e) (h3 : 1048576 < e.data.length) : oneM e = 3 := (if_neg (fun k => k h)).trans ((if_neg h2).trans (if_pos h3))
theorem one_ok {e : En} (h : okP e.path) (h2 : ¬ argP e) (h3 : ¬ 1048576 < e.data.length) : oneM e = 0 := (if_neg (fun k => k h)).trans ((if_neg h2).trans (if_neg h3))
theorem nil_len {s : List UInt8} : s = [] ↔ s.length = 0 := List.length_eq_zero_iff.symm
theorem dec_t {p : Prop} [Decidable p] (h : p) : Value.bool true = .bool (decide p) := by rw [decide_eq_true h]
theorem dec_f {p : Prop} [Decidable p] (h : ¬ p) : Value.bool false = .bool (decide p) := by rw [decide_eq_false h]
theorem dec_e {p q : Prop} [Decidable p] [Decidable q] (h : p ↔ q) : Value.bool (decide p) = .bool (decide q) := by rw [decide_eq_decide.2 h]
theorem dec_n {p : Prop} [Decidable p] {a b : Bool} (h : (!(a == b)) = true ↔ p) : Value.bool (!(a == b)) = .bool (decide p) := by
  congr 1
  cases hh : (!(a == b)) with
  | true => exact (decide_eq_true (h.1 hh)).symm
  | false => exact (decide_eq_false fun k => by rw [h.2 k] at hh; cases hh).symm
theorem bne_dec {p q : Prop} [Decidable p] [Decidable q] : (!(decide p == decide q)) = true ↔ ¬ (p ↔ q) := by
  by_cases hp : p <;> by_cases hq : q <;> simp [hp, hq]
set_option maxRecDepth 20000 in
set_option maxHeartbeats 4000000 in
theorem one_tr {Pd : Nat → Prop} (e : En) (d : Value) (hl : e.path.length ≤ 9223372036854775807) : Tr Tryz.prog 79 #[.agg #[.string (sB e.path), .int .i64 e.kind, .int .i64 e.mode, d, .string (sB e.to)]] [slc rByte Pd d e.data] [] (T0 (.int .i64 (oneM e))) := by
  refine Tr.of (l := [(0, .agg #[.string (sB e.path), .int .i64 e.kind, .int .i64 e.mode, d, .string (sB e.to)])]) Tryz.func79 rfl (n := 58) rfl (.cons rfl .nil) (fun w0 hro => ?_)
  have hd := ro1 hro
  obtain ⟨ad, cap, rfl⟩ := Ro.slv hd
  have hto := nil_len (s := e.to)
  refine G.seq (G.region ?_)
  refine G.op rfl (G.box rfl rfl (cs := [_, _, _, _, _]) rfl ?_)
  intro b1
  refine G.asT rfl rfl ?_
  refine G.nil ?_
  refine G.nThen (G.seq ?_)
  refine G.drawT (nn := 8) (p := []) (rem := 255) [0, 1, 2, 0, 8, 16, 7, 127] [0, 1, 2, 0, 8, 16, 4, 32] kr ⟨rfl, by kernel_rfl, by kernel_rfl⟩ subT kr (fun hT1 => ?_)
  refine G.takeT hT1 (i := 0) (rem' := 254) rfl rfl rfl kr (fun _ _ _ h => h) rfl (pv_fieldAddrK (sz := 0) (k := 1) Tryz.underlying68 rfl kr rfl rfl) subT ?_
  refine G.takeT hT1 (i := 3) (rem' := 246) rfl rfl rfl kr (fun _ _ _ h => h) rfl (pv_fieldAddrK (sz := 0) (k := 1) Tryz.underlying68 rfl kr rfl rfl) subT ?_
  refine G.takeT hT1 (i := 1) (rem' := 244) rfl rfl rfl kr (fun _ _ _ h => h) rfl (pv_load Tryz.underlying3 rfl rfl celT) subT ?_
  refine G.takeT hT1 (i := 2) (rem' := 240) rfl rfl rfl kr (fun _ _ _ h => h) rfl (pv_eql rfl rfl) subT ?_
  refine G.takeT hT1 (i := 6) (rem' := 176) rfl rfl rfl kr (fun _ _ _ h => h) rfl (pv_assign rfl) subT ?_
  refine G.oneT hT1 (i := 4) (rem' := 160) kr kr ?_
  refine G.turnOp rfl rfl (G.val rfl rfl (pv_load Tryz.underlying3 rfl rfl celT) ?_)
  refine G.back subT ?_
  refine G.takeT hT1 (i := 5) (rem' := 128) rfl rfl rfl kr (fun _ _ _ h => h) rfl (pv_eql rfl rfl) subT ?_
  refine G.takeT hT1 (i := 7) (rem' := 0) rfl rfl rfl kr (fun _ _ _ h => h) rfl (pv_assign rfl) subT ?_
  refine G.overT hT1 kr ?_
  refine G.nThen (G.seq ?_)
  refine G.block ?_
  refine G.seq (G.region ?_)
  refine G.op rfl (G.val rfl rfl (pv_fieldAddrK (sz := 0) (k := 0) Tryz.underlying68 rfl kr rfl rfl) ?_)
  refine G.op rfl (G.val rfl rfl (pv_load Tryz.underlying9 rfl rfl celT) ?_)
  refine G.op rfl (G.cR rfl rfl rfl rfl Tryz.func101 rfl rfl may0 (check_tr _ (by omega)) ?_)
  refine G.op rfl (G.val rfl rfl (pv_field1 Tryz.underlying42 rfl Tryz.underlying30 rfl rfl rfl) ?_)
  refine G.op rfl (G.val rfl rfl (pv_neq rfl rfl) ?_)
  refine G.asT rfl rfl ?_
  refine G.nil ?_
  refine G.nThen ?_
  refine G.condP rfl (fun h11 => ?_) (fun h11 => ?_)
  · refine G.seq (G.region ?_)
    refine G.asT rfl rfl ?_
    refine G.nil ?_
    refine G.nThen ?_
    refine G.ret ?_
    refine G.rBlock ?_
    refine G.rThen ?_
    exact G.done0G rfl (Rv.tmp rfl Rv.nil) (by rw [one_bytes (by assumption)]; rfl)
  have hok : okP e.path := Decidable.of_not_not (by assumption)
  refine G.seq ?_
  refine G.cutK (X := Unit) (ts := [1, 2]) (p := []) (fun _ => True) (fun _ => [(17, .bool (decide (argP e)))]) (fun _ => []) (.cons rfl (.cons rfl .nil)) subT (.cons .nil) apT ?_ ?_
  · refine G.seq (G.region ?_)
    refine G.op rfl (G.val rfl rfl (pv_fieldAddrK (sz := 0) (k := 1) Tryz.underlying68 rfl kr rfl rfl) ?_)
    refine G.op rfl (G.val rfl rfl (pv_load Tryz.underlying3 rfl rfl celT) ?_)
    refine G.op rfl (G.val rfl rfl (pv_lss rfl rfl) ?_)
    refine G.mvT rfl rfl ?_
    refine G.partP (t := 21) rfl (fun h21 => ?_) (fun h21 => ?_)
    · refine G.pass rfl rfl rfl rfl rfl rfl ?_
      refine G.pass rfl rfl rfl rfl rfl rfl ?_
      refine G.pass rfl rfl rfl rfl rfl rfl ?_
      refine G.op rfl (G.val rfl rfl (pv_pick rfl rfl) ?_)
      refine G.asT rfl rfl ?_
      refine G.nil ?_
      refine G.nThen ?_
      refine G.condT rfl (rfl) ?_
      refine G.skip ?_
      exact G.meet (()) (by first | exact trivial | ((try dsimp only); exact trivial)) (.consE rfl (by first | exact dec_t (by unfold argP; omega) | exact dec_f (by unfold argP; omega) | exact dec_e (by unfold argP; omega) | exact dec_n (bne_dec.trans (by unfold argP; rw [hto]; omega)) | (rw [show _ = true from by assumption]; exact dec_t (by have h := bne_dec.1 (by assumption); rw [hto] at h; unfold argP; omega))) (.cons rfl (.cons rfl .nil))) subT
    refine G.want rfl rfl rfl (G.val rfl rfl (pv_fieldAddrK (sz := 0) (k := 1) Tryz.underlying68 rfl kr rfl rfl) ?_)
    refine G.want rfl rfl rfl (G.val rfl rfl (pv_load Tryz.underlying3 rfl rfl celT) ?_)
    refine G.want rfl rfl rfl (G.val rfl rfl (pv_gtr rfl rfl) ?_)
    refine G.op rfl (G.val rfl rfl (pv_pick rfl rfl) ?_)
    refine G.asT rfl rfl ?_
    refine G.nil ?_
    refine G.nThen ?_
    refine G.condP rfl (fun h17 => ?_) (fun h17 => ?_)
    · refine G.skip ?_
      exact G.meet (()) (by first | exact trivial | ((try dsimp only); exact trivial)) (.consE rfl (by first | exact dec_t (by unfold argP; omega) | exact dec_f (by unfold argP; omega) | exact dec_e (by unfold argP; omega) | exact dec_n (bne_dec.trans (by unfold argP; rw [hto]; omega)) | (rw [show _ = true from by assumption]; exact dec_t (by have h := bne_dec.1 (by assumption); rw [hto] at h; unfold argP; omega))) (.cons rfl (.cons rfl .nil))) subT
    refine G.seq (G.region ?_)
    refine G.op rfl (G.val rfl rfl (pv_fieldAddrK (sz := 0) (k := 2) Tryz.underlying68 rfl kr rfl rfl) ?_)
    refine G.op rfl (G.val rfl rfl (pv_load Tryz.underlying3 rfl rfl celT) ?_)
    refine G.op rfl (G.val rfl rfl (pv_lss rfl rfl) ?_)
    refine G.mvT rfl rfl ?_
    refine G.partP (t := 29) rfl (fun h29 => ?_) (fun h29 => ?_)
    · refine G.pass rfl rfl rfl rfl rfl rfl ?_
      refine G.pass rfl rfl rfl rfl rfl rfl ?_
      refine G.pass rfl rfl rfl rfl rfl rfl ?_
      refine G.op rfl (G.val rfl rfl (pv_pick rfl rfl) ?_)
      refine G.asT rfl rfl ?_
      refine G.nil ?_
      refine G.nThen ?_
      refine G.condT rfl (rfl) ?_
      refine G.skip ?_
      exact G.meet (()) (by first | exact trivial | ((try dsimp only); exact trivial)) (.consE rfl (by first | exact dec_t (by unfold argP; omega) | exact dec_f (by unfold argP; omega) | exact dec_e (by unfold argP; omega) | exact dec_n (bne_dec.trans (by unfold argP; rw [hto]; omega)) | (rw [show _ = true from by assumption]; exact dec_t (by have h := bne_dec.1 (by assumption); rw [hto] at h; unfold argP; omega))) (.cons rfl (.cons rfl .nil))) subT
    refine G.want rfl rfl rfl (G.val rfl rfl (pv_fieldAddrK (sz := 0) (k := 2) Tryz.underlying68 rfl kr rfl rfl) ?_)
    refine G.want rfl rfl rfl (G.val rfl rfl (pv_load Tryz.underlying3 rfl rfl celT) ?_)
    refine G.want rfl rfl rfl (G.val rfl rfl (pv_gtr rfl rfl) ?_)
    refine G.op rfl (G.val rfl rfl (pv_pick rfl rfl) ?_)
    refine G.asT rfl rfl ?_
    refine G.nil ?_
    refine G.nThen ?_
    refine G.condP rfl (fun h17 => ?_) (fun h17 => ?_)
    · refine G.skip ?_
      exact G.meet (()) (by first | exact trivial | ((try dsimp only); exact trivial)) (.consE rfl (by first | exact dec_t (by unfold argP; omega) | exact dec_f (by unfold argP; omega) | exact dec_e (by unfold argP; omega) | exact dec_n (bne_dec.trans (by unfold argP; rw [hto]; omega)) | (rw [show _ = true from by assumption]; exact dec_t (by have h := bne_dec.1 (by assumption); rw [hto] at h; unfold argP; omega))) (.cons rfl (.cons rfl .nil))) subT
    refine G.seq (G.region ?_)
    refine G.op rfl (G.val rfl rfl (pv_fieldAddrK (sz := 0) (k := 3) Tryz.underlying68 rfl kr rfl rfl) ?_)
    refine G.op rfl (G.val rfl rfl (pv_load Tryz.underlying39 rfl rfl celT) ?_)
    refine G.op rfl (G.val rfl rfl (pv_lenSl Tryz.underlying39 rfl) ?_)
    refine G.op rfl (G.val rfl rfl (pv_gtr rfl rfl) ?_)
    refine G.mvT rfl rfl ?_
    refine G.partP (t := 38) rfl (fun h38 => ?_) (fun h38 => ?_)
    · refine G.want rfl rfl rfl (G.val rfl rfl (pv_move rfl) ?_)
      refine G.want rfl rfl rfl (G.val rfl rfl (pv_notP rfl) ?_)
      refine G.op rfl (G.val rfl rfl (pv_pick rfl rfl) ?_)
      refine G.asT rfl rfl ?_
      refine G.nil ?_
      refine G.nThen ?_
      refine G.condP rfl (fun h17 => ?_) (fun h17 => ?_)
      · refine G.skip ?_
        exact G.meet (()) (by first | exact trivial | ((try dsimp only); exact trivial)) (.consE rfl (by first | exact dec_t (by unfold argP; omega) | exact dec_f (by unfold argP; omega) | exact dec_e (by unfold argP; omega) | exact dec_n (bne_dec.trans (by unfold argP; rw [hto]; omega)) | (rw [show _ = true from by assumption]; exact dec_t (by have h := bne_dec.1 (by assumption); rw [hto] at h; unfold argP; omega))) (.cons rfl (.cons rfl .nil))) subT
      refine G.region ?_
      refine G.mvT rfl rfl ?_
      refine G.op rfl (G.val rfl rfl (pv_fieldAddrK (sz := 0) (k := 4) Tryz.underlying68 rfl kr rfl rfl) ?_)
      refine G.op rfl (G.val rfl rfl (pv_load Tryz.underlying9 rfl rfl celT) ?_)
      refine G.op rfl (G.val rfl rfl (pv_neqS rfl rfl) ?_)
      refine G.op rfl (G.val rfl rfl (pv_neqB Tryz.underlying4 rfl rfl) ?_)
      refine G.mvT rfl rfl ?_
      refine G.part (t := 47) rfl (fun h47 => ?_) (fun h47 => ?_)
      · have hb := bne_dec.1 h47
        rw [ne_eq, hto] at hb
        refine G.pass rfl rfl rfl rfl rfl rfl ?_
        refine G.pass rfl rfl rfl rfl rfl rfl ?_
        refine G.pass rfl rfl rfl rfl rfl rfl ?_
        refine G.pass rfl rfl rfl rfl rfl rfl ?_
        refine G.op rfl (G.val rfl rfl (pv_pick rfl rfl) ?_)
        refine G.asT rfl rfl ?_
        refine G.nil ?_
        exact G.meet (()) (by first | exact trivial | ((try dsimp only); exact trivial)) (.consE rfl (by first | exact dec_t (by unfold argP; omega) | exact dec_f (by unfold argP; omega) | exact dec_e (by unfold argP; omega) | exact dec_n (bne_dec.trans (by unfold argP; rw [hto]; omega)) | (rw [show _ = true from by assumption]; exact dec_t (by have h := bne_dec.1 (by assumption); rw [hto] at h; unfold argP; omega))) (.cons rfl (.cons rfl .nil))) subT
      have hb : ¬ ¬ (e.kind = 3 ↔ ¬ e.to.length = 0) := fun h => by have := bne_dec.2 (show ¬ (e.kind = 3 ↔ e.to ≠ []) by rw [ne_eq, hto]; exact h); rw [h47] at this; cases this
      refine G.want rfl rfl rfl (G.val rfl rfl (pv_fieldAddrK (sz := 0) (k := 4) Tryz.underlying68 rfl kr rfl rfl) ?_)
      refine G.want rfl rfl rfl (G.val rfl rfl (pv_load Tryz.underlying9 rfl rfl celT) ?_)
      refine G.want rfl rfl rfl (G.val rfl rfl (pv_lenS Tryz.underlying9 rfl) ?_)
      refine G.want rfl rfl rfl (G.val rfl rfl (pv_gtr rfl rfl) ?_)
      refine G.op rfl (G.val rfl rfl (pv_pick rfl rfl) ?_)
      refine G.asT rfl rfl ?_
      refine G.nil ?_
      exact G.meet (()) (by first | exact trivial | ((try dsimp only); exact trivial)) (.consE rfl (by first | exact dec_t (by unfold argP; omega) | exact dec_f (by unfold argP; omega) | exact dec_e (by unfold argP; omega) | exact dec_n (bne_dec.trans (by unfold argP; rw [hto]; omega)) | (rw [show _ = true from by assumption]; exact dec_t (by have h := bne_dec.1 (by assumption); rw [hto] at h; unfold argP; omega))) (.cons rfl (.cons rfl .nil))) subT
    refine G.pass rfl rfl rfl rfl rfl rfl ?_
    refine G.pass rfl rfl rfl rfl rfl rfl ?_
    refine G.op rfl (G.val rfl rfl (pv_pick rfl rfl) ?_)
    refine G.asT rfl rfl ?_
    refine G.nil ?_
    refine G.nThen ?_
    refine G.condF rfl (rfl) ?_
    refine G.region ?_
    refine G.mvT rfl rfl ?_
    refine G.op rfl (G.val rfl rfl (pv_fieldAddrK (sz := 0) (k := 4) Tryz.underlying68 rfl kr rfl rfl) ?_)
    refine G.op rfl (G.val rfl rfl (pv_load Tryz.underlying9 rfl rfl celT) ?_)
    refine G.op rfl (G.val rfl rfl (pv_neqS rfl rfl) ?_)
    refine G.op rfl (G.val rfl rfl (pv_neqB Tryz.underlying4 rfl rfl) ?_)
    refine G.mvT rfl rfl ?_
    refine G.part (t := 47) rfl (fun h47 => ?_) (fun h47 => ?_)
    · have hb := bne_dec.1 h47
      rw [ne_eq, hto] at hb
      refine G.pass rfl rfl rfl rfl rfl rfl ?_
      refine G.pass rfl rfl rfl rfl rfl rfl ?_
      refine G.pass rfl rfl rfl rfl rfl rfl ?_
      refine G.pass rfl rfl rfl rfl rfl rfl ?_
      refine G.op rfl (G.val rfl rfl (pv_pick rfl rfl) ?_)
      refine G.asT rfl rfl ?_
      refine G.nil ?_
      exact G.meet (()) (by first | exact trivial | ((try dsimp only); exact trivial)) (.consE rfl (by first | exact dec_t (by unfold argP; omega) | exact dec_f (by unfold argP; omega) | exact dec_e (by unfold argP; omega) | exact dec_n (bne_dec.trans (by unfold argP; rw [hto]; omega)) | (rw [show _ = true from by assumption]; exact dec_t (by have h := bne_dec.1 (by assumption); rw [hto] at h; unfold argP; omega))) (.cons rfl (.cons rfl .nil))) subT
    have hb : ¬ ¬ (e.kind = 3 ↔ ¬ e.to.length = 0) := fun h => by have := bne_dec.2 (show ¬ (e.kind = 3 ↔ e.to ≠ []) by rw [ne_eq, hto]; exact h); rw [h47] at this; cases this
    refine G.want rfl rfl rfl (G.val rfl rfl (pv_fieldAddrK (sz := 0) (k := 4) Tryz.underlying68 rfl kr rfl rfl) ?_)
    refine G.want rfl rfl rfl (G.val rfl rfl (pv_load Tryz.underlying9 rfl rfl celT) ?_)
    refine G.want rfl rfl rfl (G.val rfl rfl (pv_lenS Tryz.underlying9 rfl) ?_)
    refine G.want rfl rfl rfl (G.val rfl rfl (pv_gtr rfl rfl) ?_)
    refine G.op rfl (G.val rfl rfl (pv_pick rfl rfl) ?_)
    refine G.asT rfl rfl ?_
    refine G.nil ?_
    exact G.meet (()) (by first | exact trivial | ((try dsimp only); exact trivial)) (.consE rfl (by first | exact dec_t (by unfold argP; omega) | exact dec_f (by unfold argP; omega) | exact dec_e (by unfold argP; omega) | exact dec_n (bne_dec.trans (by unfold argP; rw [hto]; omega)) | (rw [show _ = true from by assumption]; exact dec_t (by have h := bne_dec.1 (by assumption); rw [hto] at h; unfold argP; omega))) (.cons rfl (.cons rfl .nil))) subT
  intro _ hJ
  try dsimp only at hJ
  try dsimp only
  refine G.condP rfl (fun h17 => ?_) (fun h17 => ?_)
  · refine G.seq (G.region ?_)
    refine G.asT rfl rfl ?_
    refine G.nil ?_
    refine G.nThen ?_
    refine G.ret ?_
    refine G.rBlock ?_
    refine G.rThen ?_
    exact G.done0G rfl (Rv.tmp rfl Rv.nil) (by rw [one_arg hok (by assumption)]; rfl)
  refine G.seq (G.region ?_)
  refine G.op rfl (G.val rfl rfl (pv_fieldAddrK (sz := 0) (k := 3) Tryz.underlying68 rfl kr rfl rfl) ?_)
  refine G.op rfl (G.val rfl rfl (pv_load Tryz.underlying39 rfl rfl celT) ?_)
  refine G.op rfl (G.val rfl rfl (pv_lenSl Tryz.underlying39 rfl) ?_)
  refine G.op rfl (G.val rfl rfl (pv_gtr rfl rfl) ?_)
  refine G.asT rfl rfl ?_
  refine G.nil ?_
  refine G.nThen ?_
  refine G.condP rfl (fun h53 => ?_) (fun h53 => ?_)
  · refine G.seq (G.region ?_)
    refine G.asT rfl rfl ?_
    refine G.nil ?_
    refine G.nThen ?_
    refine G.ret ?_
    refine G.rBlock ?_
    refine G.rThen ?_
    exact G.done0G rfl (Rv.tmp rfl Rv.nil) (by rw [one_long hok (by assumption) (by omega)]; rfl)
  refine G.skip ?_
  refine G.nBlock ?_
  refine G.nThen (G.seq (G.region ?_))
  refine G.asT rfl rfl ?_
  refine G.nil ?_
  refine G.nThen ?_
  refine G.ret ?_
  exact G.done0G rfl (Rv.tmp rfl Rv.nil) (by rw [one_ok hok (by assumption) (by omega)]; rfl)
end Go.Proofs.YtbfpbibkklfnfaaGreat

set_option linter.unusedVariables false
set_option linter.unusedSimpArgs false
namespace Go.Proofs.YtbfpbibkklfnfaaGreat
open Go.RowKit
/-- does a chunk end behind these bytes? -/
def endsP (b : List UInt8) : Prop := b.length = 1024 ∨ (64 ≤ b.length ∧ rsum (lastW b) / 2 ^ 24 = 0)
instance (b : List UInt8) : Decidable (endsP b) := inferInstanceAs (Decidable (_ ∨ _))
/-- behind which bytes of the first i chunks end -/
def cutTo (b : List UInt8) : Nat → List Nat
  | 0 => []
  | i + 1 => if endsP ((b.take (i + 1)).drop ((cutTo b i).getLastD 0)) then cutTo b i ++ [i + 1] else cutTo b i
/-- what has come since -/
def curB (b : List UInt8) (i : Nat) : List UInt8 := (b.take i).drop ((cutTo b i).getLastD 0)
def cutL (b : List UInt8) : List Nat := cutTo b b.length
theorem cut_le (b : List UInt8) : ∀ i, ∀ x ∈ cutTo b i, x ≤ i
  | 0, x, h => by cases h
  | i + 1, x, h => by
    unfold cutTo at h
    split at h
    · rcases List.mem_append.1 h with h | h
      · exact Nat.le_succ_of_le (cut_le b i x h)
      obtain rfl : x = i + 1 := by simpa using h
      exact Nat.le_refl _
    exact Nat.le_succ_of_le (cut_le b i x h)
theorem last_le (b : List UInt8) : ∀ i, (cutTo b i).getLastD 0 ≤ i
  | 0 => Nat.le_refl _
  | i + 1 => by
    have ih := last_le b i
    unfold cutTo
    split
    · rw [List.getLastD_concat]
      exact Nat.le_refl _
    omega
theorem cur_step {b : List UInt8} {i : Nat} (hi : i < b.length) : (b.take (i + 1)).drop ((cutTo b i).getLastD 0) = curB b i ++ [b[i]] := by
  unfold curB
  rw [List.take_succ_eq_append_getElem hi, List.drop_append_of_le_length]
  rw [List.length_take]
  have := last_le b i
  omega
theorem cut_yes {b : List UInt8} {i : Nat} (hi : i < b.length) (h : endsP (curB b i ++ [b[i]])) : cutTo b (i + 1) = cutTo b i ++ [i + 1] ∧ curB b (i + 1) = [] := by
  have e : cutTo b (i + 1) = cutTo b i ++ [i + 1] := by
    show (if _ then _ else _) = _
    rw [if_pos (by rw [cur_step hi]; exact h)]
  refine ⟨e, ?_⟩
  unfold curB
  rw [e, List.getLastD_concat]
  exact List.drop_of_length_le (by rw [List.length_take]; omega)
theorem cut_no {b : List UInt8} {i : Nat} (hi : i < b.length) (h : ¬ endsP (curB b i ++ [b[i]])) : cutTo b (i + 1) = cutTo b i ∧ curB b (i + 1) = curB b i ++ [b[i]] := by
  have e : cutTo b (i + 1) = cutTo b i := by
    show (if _ then _ else _) = _
    rw [if_neg (by rw [cur_step hi]; exact h)]
  refine ⟨e, ?_⟩
  rw [← cur_step hi]
  show (b.take (i + 1)).drop ((cutTo b (i + 1)).getLastD 0) = _
  rw [e]
theorem cut_pre (b : List UInt8) (i : Nat) : ∀ k, cutTo b i <+: cutTo b (i + k)
  | 0 => List.prefix_refl _
  | k + 1 => by
    refine (cut_pre b i k).trans ?_
    show cutTo b (i + k) <+: (if _ then _ else _)
    split
    · exact List.prefix_append _ _
    exact List.prefix_refl _
theorem cut_at' {b : List UInt8} {i : Nat} (hi : i < b.length) (h : cutTo b (i + 1) = cutTo b i ++ [i + 1]) : (cutTo b i).length < (cutL b).length ∧ (cutL b).getD (cutTo b i).length 0 = i + 1 := by
  obtain ⟨t, ht⟩ := cut_pre b (i + 1) (b.length - (i + 1))
  rw [show i + 1 + (b.length - (i + 1)) = b.length by omega, h] at ht
  have ht : cutTo b i ++ [i + 1] ++ t = cutL b := ht
  rw [← ht]
  refine ⟨by simp, ?_⟩
  rw [List.getD_eq_getElem?_getD, List.getElem?_append_left (by simp), List.getElem?_append_right (by simp)]
  simp
theorem cur_len (b : List UInt8) (i : Nat) : (curB b i).length ≤ b.length := by
  unfold curB
  rw [List.length_drop, List.length_take]
  omega
def edge0 : List Value := (rollC (List.replicate 16 0) 0 0 [.int .i64 0])
set_option maxRecDepth 20000 in
set_option maxHeartbeats 4000000 in
theorem rnew_tr : Tr Tryz.prog 148 #[] [] [] (TX (fun _ : Nat => True) (fun D => .pointer (some ⟨D, 0, none⟩)) (fun D => [blk D 153 (rollC (List.replicate 16 0) 0 0 [])])) := by
  refine Tr.of (l := []) Tryz.func148 rfl (n := 3) rfl Fa.nil (fun w0 hro => ?_)
  refine G.seq (G.region ?_)
  refine G.asT rfl rfl ?_
  refine G.nil ?_
  refine G.nThen (G.seq (G.region ?_))
  refine G.op rfl (G.val rfl rfl (pv_buildSt (z := [.int .u8 0, .int .u8 0, .int .u8 0, .int .u8 0, .int .u8 0, .int .u8 0, .int .u8 0, .int .u8 0, .int .u8 0, .int .u8 0, .int .u8 0, .int .u8 0, .int .u8 0, .int .u8 0, .int .u8 0, .int .u8 0, .int .i64 0, .int .u32 0, .bool false]) (pl := [(0, 16), (16, 1), (17, 1), (18, 1)]) Tryz.underlying153 kr kr rfl flT) ?_)
  refine G.op rfl (G.box rfl rfl (cs := [_, _, _, _, _, _, _, _, _, _, _, _, _, _, _, _, _, _, _]) rfl ?_)
  intro b2
  refine G.asT rfl rfl ?_
  refine G.nil ?_
  refine G.nThen ?_
  refine G.ret ?_
  exact G.doneX1 (b2) trT rfl rfl rfl subT
set_option maxRecDepth 20000 in
set_option maxHeartbeats 4000000 in
theorem fresh_tr : Tr Tryz.prog 119 #[] [] [] (T0 (.agg edge0.toArray)) := by
  refine Tr.of (l := []) Tryz.func119 rfl (n := 5) rfl Fa.nil (fun w0 hro => ?_)
  refine G.seq (G.region ?_)
  refine G.op rfl (G.alloc (z := .agg #[.int .u8 0, .int .u8 0, .int .u8 0, .int .u8 0, .int .u8 0, .int .u8 0, .int .u8 0, .int .u8 0, .int .u8 0, .int .u8 0, .int .u8 0, .int .u8 0, .int .u8 0, .int .u8 0, .int .u8 0, .int .u8 0, .int .i64 0, .int .u32 0, .bool false, .int .i64 0]) (cs := [.int .u8 0, .int .u8 0, .int .u8 0, .int .u8 0, .int .u8 0, .int .u8 0, .int .u8 0, .int .u8 0, .int .u8 0, .int .u8 0, .int .u8 0, .int .u8 0, .int .u8 0, .int .u8 0, .int .u8 0, .int .u8 0, .int .i64 0, .int .u32 0, .bool false, .int .i64 0]) rfl kr rfl ?_)
  intro b0
  refine G.nil ?_
  refine G.nThen (G.seq (G.region ?_))
  refine G.op rfl (G.cS rfl rfl rfl rfl Tryz.func148 rfl rfl subT may0 (rnew_tr) apT ?_)
  intro x1 hJ
  try dsimp only at hJ
  try dsimp only
  refine G.op rfl (G.val rfl rfl (pv_nilCheck rfl) ?_)
  refine G.op rfl (G.val rfl rfl (pv_loadN (cs := [_, _, _, _, _, _, _, _, _, _, _, _, _, _, _, _, _, _, _]) Tryz.underlying153 rfl kr rfl (by first | exact blk_range (k := 19) selD (by rfl) | exact rng_range (k := 19) selD (by rfl) | exact ro_range (k := 19) (by assumption) (by rfl) | exact ro_rngR (k := 19) (by assumption) (by rfl))) ?_)
  refine G.op rfl (G.val rfl rfl (pv_buildSt (z := [.int .u8 0, .int .u8 0, .int .u8 0, .int .u8 0, .int .u8 0, .int .u8 0, .int .u8 0, .int .u8 0, .int .u8 0, .int .u8 0, .int .u8 0, .int .u8 0, .int .u8 0, .int .u8 0, .int .u8 0, .int .u8 0, .int .i64 0, .int .u32 0, .bool false, .int .i64 0]) (pl := [(0, 19), (19, 1)]) Tryz.underlying155 kr kr rfl flT) ?_)
  refine G.op rfl (G.storeN kr rfl rfl (by first | exact List.all_eq_true.2 (vByte_one _) | rfl) selT leT ?_)
  refine G.nil ?_
  refine G.nThen ?_
  refine G.ret ?_
  exact G.done0G rfl (Rv.cellN (cs := [_, _, _, _, _, _, _, _, _, _, _, _, _, _, _, _, _, _, _, _]) rfl Tryz.underlying155 rfl kr (by first | exact blk_range (k := 20) selD (by rfl)) Rv.nil) (by first | rfl | exact int_eq (by omega) | (simp; done))
set_option maxRecDepth 20000 in
set_option maxHeartbeats 4000000 in
theorem ends_tr (E : Nat) (ring : List UInt8) (n : Nat) (s : Int) (m : List UInt8) (c : UInt8) (h : RollAt ring n s m) (hm : m.length ≤ 1000000000) : Tr Tryz.prog 150 #[.pointer (some ⟨E, 0, none⟩), .int .u8 (c.toNat : Int)] [] [blk E 155 (rollC ring n s [.int .i64 (m.length : Int)])]
    (TX (fun z : List UInt8 × Nat × Int => RollAt z.1 z.2.1 z.2.2 (m ++ [c])) (fun _ => .bool (decide (endsP (m ++ [c])))) (fun z => [blk E 155 (rollC z.1 z.2.1 z.2.2 [.int .i64 ((m ++ [c]).length : Int)])])) := by
  refine Tr.of (l := [(0, .pointer (some ⟨E, 0, none⟩)), (1, .int .u8 (c.toNat : Int))]) Tryz.func150 rfl (n := 35) rfl (.cons rfl (.cons rfl .nil)) (fun w0 hro => ?_)
  have hr := h.len
  have hlen : (m ++ [c]).length = m.length + 1 := by simp
  refine G.seq (G.region ?_)
  refine G.asT rfl rfl ?_
  refine G.nil ?_
  refine G.nThen (G.seq (G.region ?_))
  refine G.mvT rfl rfl ?_
  refine G.op rfl (G.val rfl rfl (pv_nilCheck rfl) ?_)
  refine G.op rfl (G.val rfl rfl (pv_fieldAddrK (sz := 0) (k := 19) Tryz.underlying155 rfl kr rfl rfl) ?_)
  refine G.op rfl (G.val rfl rfl (pv_load Tryz.underlying3 rfl rfl (by first | exact blk_cell selD (roll_x hr) | exact blk_cell selD (by rfl) | exact rng_cell selD (by rfl) | exact ro_blk (by assumption) (by rfl) | exact ro_rngC (by assumption) (by rfl) | exact ro_int (by assumption) | exact ro_byte (by assumption) | exact ro_str (by assumption) | with_reducible assumption | assumption)) ?_)
  refine G.op rfl (G.val rfl rfl ((pv_add64 rfl rfl (by omega)).int (b := ((m ++ [c]).length : Int)) (by omega)) ?_)
  refine G.op rfl (G.val rfl rfl (pv_nilCheck rfl) ?_)
  refine G.op rfl (G.val rfl rfl (pv_fieldAddrK (sz := 0) (k := 19) Tryz.underlying155 rfl kr rfl rfl) ?_)
  refine G.op rfl (G.store kr rfl rfl (by rfl) selT (by rw [roll_len hr]; first | done | simp) ?_)
  rw [roll_setX hr]
  refine G.nil ?_
  refine G.nThen (G.seq (G.region ?_))
  refine G.mvT rfl rfl ?_
  refine G.op rfl (G.val rfl rfl (pv_nilCheck rfl) ?_)
  refine G.op rfl (G.val rfl rfl (pv_fieldAddrK (sz := 18) (k := 0) Tryz.underlying155 rfl kr rfl rfl) ?_)
  refine G.mvT rfl rfl ?_
  refine G.op rfl (G.cS rfl rfl rfl rfl Tryz.func161 rfl rfl subT may0 (push_tr _ _ _ _ _ _ m c h) apT ?_)
  intro x17 hJ
  obtain ⟨ring', n', s'⟩ := x17
  try dsimp only at hJ
  try dsimp only
  have hr : ring'.length = 16 := hJ.len
  refine G.asT rfl rfl ?_
  refine G.nil ?_
  refine G.nThen (G.seq (G.region ?_))
  refine G.mvT rfl rfl ?_
  refine G.op rfl (G.val rfl rfl (pv_nilCheck rfl) ?_)
  refine G.op rfl (G.val rfl rfl (pv_fieldAddrK (sz := 0) (k := 19) Tryz.underlying155 rfl kr rfl rfl) ?_)
  refine G.op rfl (G.val rfl rfl (pv_load Tryz.underlying3 rfl rfl (by first | exact blk_cell selD (roll_x hr) | exact blk_cell selD (by rfl) | exact rng_cell selD (by rfl) | exact ro_blk (by assumption) (by rfl) | exact ro_rngC (by assumption) (by rfl) | exact ro_int (by assumption) | exact ro_byte (by assumption) | exact ro_str (by assumption) | with_reducible assumption | assumption)) ?_)
  refine G.op rfl (G.val rfl rfl (pv_eql rfl rfl) ?_)
  refine G.mvT rfl rfl ?_
  refine G.partP (t := 23) rfl (fun h23 => ?_) (fun h23 => ?_)
  · refine G.pass rfl rfl rfl rfl rfl rfl ?_
    refine G.pass rfl rfl rfl rfl rfl rfl ?_
    refine G.pass rfl rfl rfl rfl rfl rfl ?_
    refine G.pass rfl rfl rfl rfl rfl rfl ?_
    refine G.pass rfl rfl rfl rfl rfl rfl ?_
    refine G.pass rfl rfl rfl rfl rfl rfl ?_
    refine G.passU rfl rfl rfl rfl rfl ?_
    refine G.passU rfl rfl rfl rfl rfl ?_
    refine G.passU rfl rfl rfl rfl rfl ?_
    refine G.pass rfl rfl rfl rfl rfl rfl ?_
    refine G.op rfl (G.val rfl rfl (pv_pick rfl rfl) ?_)
    refine G.asT rfl rfl ?_
    refine G.nil ?_
    refine G.nThen ?_
    refine G.ret ?_
    exact G.doneX1 ((ring', n', s')) (by first | exact trivial | ((try dsimp only) <;> exact hJ)) rfl rfl (by first | exact dec_t (.inl (by omega)) | exact dec_e ⟨fun h => .inr ⟨by omega, h⟩, fun h => h.elim (fun h => absurd h (by omega)) (·.2)⟩ | exact dec_f (fun h => h.elim (fun h => by omega) (fun h => by omega))) subT
  refine G.want rfl rfl rfl (G.val rfl rfl (pv_move rfl) ?_)
  refine G.want rfl rfl rfl (G.val rfl rfl (pv_nilCheck rfl) ?_)
  refine G.want rfl rfl rfl (G.val rfl rfl (pv_fieldAddrK (sz := 0) (k := 19) Tryz.underlying155 rfl kr rfl rfl) ?_)
  refine G.want rfl rfl rfl (G.val rfl rfl (pv_load Tryz.underlying3 rfl rfl (by first | exact blk_cell selD (roll_x hr) | exact blk_cell selD (by rfl) | exact rng_cell selD (by rfl) | exact ro_blk (by assumption) (by rfl) | exact ro_rngC (by assumption) (by rfl) | exact ro_int (by assumption) | exact ro_byte (by assumption) | exact ro_str (by assumption) | with_reducible assumption | assumption)) ?_)
  refine G.want rfl rfl rfl (G.val rfl rfl (pv_geq rfl rfl) ?_)
  refine G.want rfl rfl rfl (G.val rfl rfl (pv_move rfl) ?_)
  refine G.partP (t := 29) rfl (fun h29 => ?_) (fun h29 => ?_)
  · refine G.want rfl rfl rfl (G.val rfl rfl (pv_move rfl) ?_)
    refine G.want rfl rfl rfl (G.val rfl rfl (pv_shr (s := 24) rfl rfl (by decide)) ?_)
    refine G.want rfl rfl rfl (G.val rfl rfl (pv_eql rfl rfl) ?_)
    refine G.want rfl rfl rfl (G.val rfl rfl (pv_pick rfl rfl) ?_)
    refine G.op rfl (G.val rfl rfl (pv_pick rfl rfl) ?_)
    refine G.asT rfl rfl ?_
    refine G.nil ?_
    refine G.nThen ?_
    refine G.ret ?_
    exact G.doneX1 ((ring', n', s')) (by first | exact trivial | ((try dsimp only) <;> exact hJ)) rfl rfl (by first | exact dec_t (.inl (by omega)) | exact dec_e ⟨fun h => .inr ⟨by omega, h⟩, fun h => h.elim (fun h => absurd h (by omega)) (·.2)⟩ | exact dec_f (fun h => h.elim (fun h => by omega) (fun h => by omega))) subT
  refine G.pass rfl rfl rfl rfl rfl rfl ?_
  refine G.pass rfl rfl rfl rfl rfl rfl ?_
  refine G.pass rfl rfl rfl rfl rfl rfl ?_
  refine G.want rfl rfl rfl (G.val rfl rfl (pv_pick rfl rfl) ?_)
  refine G.op rfl (G.val rfl rfl (pv_pick rfl rfl) ?_)
  refine G.asT rfl rfl ?_
  refine G.nil ?_
  refine G.nThen ?_
  refine G.ret ?_
  exact G.doneX1 ((ring', n', s')) (by first | exact trivial | ((try dsimp only) <;> exact hJ)) rfl rfl (by first | exact dec_t (.inl (by omega)) | exact dec_e ⟨fun h => .inr ⟨by omega, h⟩, fun h => h.elim (fun h => absurd h (by omega)) (·.2)⟩ | exact dec_f (fun h => h.elim (fun h => by omega) (fun h => by omega))) subT
set_option maxRecDepth 20000 in
set_option maxHeartbeats 4000000 in
theorem cuts_tr (p : Value) (v : Value) (hp : p.oneCell' = true) (hv : v.oneCell' = true) : Tr Tryz.prog 120 #[p, v] [] [] (TX (fun _ : Nat × Nat => True) (fun z => .func (.func 149) #[] #[.pointer (some ⟨z.1, 0, none⟩), .pointer (some ⟨z.2, 0, none⟩)]) (fun z => [blk z.1 39 [v], blk z.2 160 [p]])) := by
  refine Tr.of (l := [(0, p), (1, v)]) Tryz.func120 rfl (n := 6) rfl (.cons rfl (.cons rfl .nil)) (fun w0 hro => ?_)
  refine G.seq (G.region ?_)
  refine G.op rfl (G.box rfl rfl (cs := [p]) (cells_of hp) ?_)
  intro b2
  refine G.op rfl (G.box rfl rfl (cs := [v]) (cells_of hv) ?_)
  intro b3
  refine G.asT rfl rfl ?_
  refine G.nil ?_
  refine G.nThen (G.seq (G.region ?_))
  refine G.op rfl (G.val rfl rfl (pv_makeFunc rfl rfl) ?_)
  refine G.asT rfl rfl ?_
  refine G.nil ?_
  refine G.nThen ?_
  refine G.ret ?_
  exact G.doneX1 ((b3, b2)) trT rfl rfl rfl subT
set_option maxRecDepth 20000 in
set_option maxHeartbeats 4000000 in
theorem cut_seq {Pv : Nat → Prop} (v : Value) (b : List UInt8) (hb : b.length ≤ 1000000) (bb be E : Nat) : SeqR Tryz.prog 149 #[.pointer (some ⟨bb, 0, none⟩), .pointer (some ⟨be, 0, none⟩)] [slc rByte Pv v b] [blk bb 39 [v], blk be 160 [.pointer (some ⟨E, 0, none⟩)], blk E 155 edge0] (cutL b).length (fun k => [.int .i64 ((cutL b).getD k 0 : Int)]) := by
  intro rr lp X J C x0 h0 hY
  show Tr _ _ #[.func (.yield lp) #[] #[], .pointer (some ⟨bb, 0, none⟩), .pointer (some ⟨be, 0, none⟩)] _ _ _
  refine Tr.ofI (l := [(0, .func (.yield lp) #[] #[]), (1, .pointer (some ⟨bb, 0, none⟩)), (2, .pointer (some ⟨be, 0, none⟩))]) Tryz.func149 rfl (n := 26) rfl (.cons rfl (.cons rfl (.cons rfl .nil))) (fun w0 hro => ?_)
  have hv := hro _ (List.mem_append_right _ (List.mem_cons_self ..))
  have hrr : ∀ c ∈ rr, Ro w0 _ c := fun c hc => hro c (List.mem_append_left _ hc)
  obtain ⟨ad, cap, bs, off, rfl, hcap, hmax, hnil, had, hel⟩ := Ro.open hv
  refine I.seq ?_
  refine I.region kr (by rintro ⟨_, _, h⟩; first | exact h | exact noOut h) ?_
  refine G.op rfl (G.val rfl rfl (pv_load Tryz.underlying39 rfl rfl celT) ?_)
  refine G.op rfl (G.val rfl rfl (pv_lenSl Tryz.underlying39 rfl) ?_)
  refine G.mvT rfl rfl ?_
  refine I.nil ?_
  refine I.nThen ?_
  refine I.block ?_
  refine I.loopK (X := Nat × (List UInt8) × Nat × Int × X) (ts := [0, 2, 6, 7]) (fun st => st.1 ≤ b.length ∧ (RollAt st.2.1 st.2.2.1 st.2.2.2.1 (curB b st.1) ∧ J true (cutTo b st.1).length st.2.2.2.2)) (fun st => [(8, .int .i64 (st.1 : Int))]) (fun st => [blk E 155 (rollC st.2.1 st.2.2.1 st.2.2.2.1 [.int .i64 ((curB b st.1).length : Int)]), C true (cutTo b st.1).length st.2.2.2.2]) (fun st => b.length - st.1) (x0 := (0, List.replicate 16 0, 0, 0, x0)) (.cons rfl (.cons rfl (.cons rfl (.cons rfl .nil)))) subT (.cons .nil) apT (by first | exact trivial | ((try dsimp only) <;> exact ⟨Nat.zero_le _, ⟨roll_zero, h0⟩⟩)) (.consE rfl veqT .nil) (fun st hJ => ?_)
  obtain ⟨i, ring, rn, s, x⟩ := st
  try dsimp only at hJ
  try dsimp only
  obtain ⟨hki, hJ⟩ := hJ
  obtain ⟨hR, hJx⟩ := hJ
  have hcl := cur_len b i
  refine I.seq ?_
  refine I.region kr (by rintro ⟨_, _, h⟩; first | exact h | exact noOut h) ?_
  refine G.op rfl (G.val rfl rfl (pv_lss rfl rfl) ?_)
  refine I.nil ?_
  refine I.nThen ?_
  refine I.seq ?_
  refine I.condP rfl (fun h9 => ?_) (fun h9 => ?_)
  · have hlt : i < b.length := by omega
    have hE := hel i hlt
    refine I.skip ?_
    refine I.nThen ?_
    refine I.seq ?_
    refine I.block ?_
    refine I.seq ?_
    refine I.region kr (by rintro ⟨_, _, h⟩; first | exact h | exact noOut h) ?_
    refine G.mvT rfl rfl ?_
    refine G.op rfl (G.val rfl rfl (pv_ixSl (sz := 1) Tryz.underlying39 kr rfl rfl (by first | with_reducible assumption | assumption | exact fun _ => rfl) rfl (by omega)) ?_)
    refine G.op rfl (G.val rfl rfl (pv_load Tryz.underlying5 rfl rfl celT) ?_)
    refine G.asT rfl rfl ?_
    refine G.asT rfl rfl ?_
    refine I.nil ?_
    refine I.nThen ?_
    refine I.seq ?_
    refine I.seq ?_
    refine I.region kr (by rintro ⟨_, _, h⟩; first | exact h | exact noOut h) ?_
    refine G.op rfl (G.val rfl rfl (pv_load Tryz.underlying160 rfl rfl celT) ?_)
    refine G.mvT rfl rfl ?_
    refine G.op rfl (G.cS rfl rfl rfl rfl Tryz.func150 rfl rfl subT may0 (ends_tr E ring rn s (curB b i) b[i] hR (by omega)) apT ?_)
    intro x15 hJ
    obtain ⟨ring', rn', s'⟩ := x15
    try dsimp only at hJ
    try dsimp only
    have hR' := hJ
    refine G.op rfl (G.val rfl rfl (pv_notP rfl) ?_)
    refine I.nil ?_
    refine I.nThen ?_
    refine I.condP rfl (fun h16 => ?_) (fun h16 => ?_)
    · obtain ⟨hc1, hc2⟩ := cut_no hlt h16
      refine I.exit ?_
      refine I.eThen ?_
      refine I.eBlock ?_
      refine I.nThen ?_
      refine I.region kr (by rintro ⟨_, _, h⟩; first | exact h | exact noOut h) ?_
      refine G.op rfl (G.val rfl rfl (pv_add64 rfl rfl (by omega)) ?_)
      refine G.mvT rfl rfl ?_
      refine I.nil ?_
      rw [show (curB b i ++ [b[i]]) = curB b (i + 1) from hc2.symm, show C true (cutTo b i).length x = C true (cutTo b (i + 1)).length x from by rw [hc1]]
      exact I.next ((i + 1, ring', rn', s', x)) (by first | exact trivial | ((try dsimp only) <;> exact ⟨by omega, (by rw [hc1, hc2]; exact ⟨hR', hJx⟩)⟩)) (by (try dsimp only); omega) (.consE rfl veqT (.cons rfl (.cons rfl (.cons rfl (.cons rfl .nil))))) subT
    obtain ⟨hc1, hc2⟩ := cut_yes hlt (Decidable.of_not_not h16)
    obtain ⟨hk, hgd⟩ := cut_at' hlt hc1
    refine I.skip ?_
    refine I.nThen ?_
    refine I.seq ?_
    refine I.drawT (nn := 4) (p := [blk E _ _]) (rem := 15) [0, 0, 3, 7] [0, 0, 1, 6] kr (by rintro ⟨_, _, h⟩; first | exact h | exact noOut h) kr ⟨rfl, by kernel_rfl, by kernel_rfl⟩ subT kr (fun hT4 => ?_)
    refine G.takeT hT4 (i := 0) (rem' := 14) rfl rfl rfl kr (fun _ _ _ h => h) rfl (pv_load Tryz.underlying160 rfl rfl celT) subT ?_
    refine G.oneT hT4 (i := 1) (rem' := 12) kr kr ?_
    refine G.turnOp rfl rfl (G.cR rfl rfl rfl rfl Tryz.func119 rfl rfl may0 (fresh_tr) ?_)
    refine G.back subT ?_
    refine G.takeT hT4 (i := 2) (rem' := 8) rfl rfl rfl kr (fun _ _ _ h => h) rfl (pv_nilCheck rfl) subT ?_
    refine G.oneT hT4 (i := 3) (rem' := 0) kr kr ?_
    refine G.turnOp rfl rfl (G.storeN (vs := edge0) kr rfl rfl (by rfl) selT (by rw [roll_len hR'.len]; exact Nat.le_of_ble_eq_true rfl) ?_)
    rw [putN_whole _ _ (by rw [roll_len hR'.len]; rfl)]
    refine G.back subT ?_
    refine I.over hT4 kr ?_
    refine I.nThen ?_
    refine I.seq ?_
    refine IL.region ?_
    refine IL.op rfl (IL.lift kr (G.val rfl rfl (pv_move rfl) ?_))
    refine IL.op rfl (IL.lift kr (G.val rfl rfl (pv_move rfl) ?_))
    refine IL.op rfl (IL.lift kr (G.val rfl rfl ((pv_add64 rfl rfl (by omega)).int (b := (((cutL b).getD (cutTo b i).length 0 : Nat) : Int)) (by rw [hgd]; omega)) ?_))
    refine IL.op rfl (IL.yieldR rfl rfl rfl rfl rfl subT (fun c hc => .old (hrr c hc)) (hY (cutTo b i).length x hk hJx) apT ?_)
    intro x23 hJ
    obtain ⟨v, y⟩ := x23
    try dsimp only at hJ
    try dsimp only
    have hJ2 := hJ
    refine IL.op rfl (IL.lift kr (G.val rfl rfl (pv_not rfl) ?_))
    refine IL.nil ?_
    refine I.nThen ?_
    refine I.cond rfl (fun h24 => ?_) (fun h24 => ?_)
    · obtain rfl : v = false := by cases v <;> simp_all
      refine I.ret ?_
      refine I.rBlock ?_
      refine I.rThen ?_
      refine I.rThen ?_
      refine I.rBlock ?_
      exact I.doneIr ((false, (cutTo b i).length + 1, y)) (by first | exact trivial | ((try dsimp only) <;> exact ⟨hJ2, by omega, fun h => by cases h⟩)) rfl rfl subT
    obtain rfl : v = true := by cases v <;> simp_all
    refine I.skip ?_
    refine I.nBlock ?_
    refine I.nThen ?_
    refine I.region kr (by rintro ⟨_, _, h⟩; first | exact h | exact noOut h) ?_
    refine G.op rfl (G.val rfl rfl (pv_add64 rfl rfl (by omega)) ?_)
    refine G.mvT rfl rfl ?_
    refine I.nil ?_
    rw [show edge0 = rollC (List.replicate 16 0) 0 0 [.int .i64 ((curB b (i + 1)).length : Int)] from by rw [hc2]; rfl, show C true ((cutTo b i).length + 1) y = C true (cutTo b (i + 1)).length y from by rw [hc1, List.length_append]; rfl]
    exact I.next ((i + 1, List.replicate 16 0, 0, 0, y)) (by first | exact trivial | ((try dsimp only) <;> exact ⟨by omega, (by rw [hc1, hc2, List.length_append, List.length_singleton]; exact ⟨roll_zero, hJ2⟩)⟩)) (by (try dsimp only); omega) (.consE rfl veqT (.cons rfl (.cons rfl (.cons rfl (.cons rfl .nil))))) subT
  obtain rfl : i = b.length := by omega
  refine I.exit ?_
  refine I.eThen ?_
  refine I.eThen ?_
  refine I.eBlock ?_
  exact I.doneI ((true, (cutTo b b.length).length, x)) (by first | exact trivial | ((try dsimp only) <;> exact ⟨hJx, Nat.le_refl _, fun _ => rfl⟩)) rfl rfl subT
end Go.Proofs.YtbfpbibkklfnfaaGreat

