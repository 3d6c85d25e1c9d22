/- The reference's parts of a text, and what is wrong with a path. Conditions: the text is not of more than a million bytes. -/
import Derived.Test.YtkhffndeomihhaaDoorPG
import Derived.Test.YtkhffndeomihhaaDoorWT
set_option linter.unusedVariables false
set_option linter.unusedSimpArgs false
namespace Go.Proofs.YtkhffndeomihhaaDoor
open Go.RowKit

theorem splitM_snoc47 : ∀ s, splitM (s ++ [47]) = splitM s ++ [[]]
  | [] => rfl
  | c :: s => by
    have ih := splitM_snoc47 s
    rw [List.cons_append]
    by_cases hc : c = 47
    · subst hc
      rw [splitM_stroke, splitM_stroke, ih]
      rfl
    · rw [splitM_char hc, splitM_char hc, ih]
      cases h : splitM s with
      | nil => exact absurd h (splitM_ne s)
      | cons p r => rfl
theorem splitM_snoc {c : UInt8} (hc : ¬ c = 47) : ∀ (s : List UInt8) (ini : List (List UInt8)) (p : List UInt8), splitM s = ini ++ [p] → splitM (s ++ [c]) = ini ++ [p ++ [c]]
  | [], ini, p, h => by
    have h : [[]] = ini ++ [p] := h
    have h1 : ini = [] := by
      cases ini with
      | nil => rfl
      | cons a l => simp at h
    subst h1
    have h2 : p = [] := by simpa using h.symm
    subst h2
    show splitM [c] = _
    rw [splitM_char hc]
    rfl
  | d :: s, ini, p, h => by
    rw [List.cons_append]
    by_cases hd : d = 47
    · subst hd
      rw [splitM_stroke] at h ⊢
      cases ini with
      | nil =>
        have h2 : splitM s = [] := by
          have := congrArg List.tail h
          simpa using this
        exact absurd h2 (splitM_ne s)
      | cons a l =>
        rw [List.cons_append] at h
        injection h with h1 h2
        rw [splitM_snoc hc s l p h2, ← h1]
        rfl
    · rw [splitM_char hd] at h ⊢
      obtain ⟨i2, q, hq⟩ : ∃ i2 q, splitM s = i2 ++ [q] := ⟨_, _, (List.dropLast_concat_getLast (splitM_ne s)).symm⟩
      rw [splitM_snoc hc s i2 q hq]
      rw [hq] at h
      cases i2 with
      | nil =>
        have h : [d :: q] = ini ++ [p] := h
        have h1 : ini = [] := by
          cases ini with
          | nil => rfl
          | cons a l => simp at h
        subst h1
        have h2 : p = d :: q := by simpa using h.symm
        subst h2
        rfl
      | cons a l =>
        have h : (d :: a) :: (l ++ [q]) = ini ++ [p] := h
        have e : ((d :: a) :: l) ++ [q] = ini ++ [p] := h
        have e1 := List.append_inj' e rfl
        have e2 : q = p := by simpa using e1.2
        rw [← e1.1, ← e2]
        rfl
theorem splitM_last (s : List UInt8) : ∃ ini p, splitM s = ini ++ [p] := ⟨_, _, (List.dropLast_concat_getLast (splitM_ne s)).symm⟩
theorem splitM_len (s : List UInt8) : (splitM s).length ≤ s.length + 1 := by
  have h := splitM_sum s
  have : ∀ l : List (List UInt8), l.length ≤ (l.map fun p => p.length + 1).sum := by
    intro l
    induction l with
    | nil => simp
    | cons a l ih => simp; omega
  have := this (splitM s)
  omega
theorem mem_len {s p : List UInt8} (h : p ∈ splitM s) : p.length ≤ s.length := by
  have h1 := splitM_sum s
  have : ∀ l : List (List UInt8), p ∈ l → p.length + 1 ≤ (l.map fun p => p.length + 1).sum := by
    intro l
    induction l with
    | nil => intro h; cases h
    | cons a l ih =>
      intro h
      rcases List.mem_cons.1 h with rfl | h
      · simp
      · have := ih h
        simp; omega
  have := this _ h
  omega
theorem Tryd.infoStr' : (Tryd.prog.info? 9).map (fun i => (i.zero.map (·.cells.size), i.size, i.bytes)) = some (some 1, 1, 16) := by kernel_rfl
theorem own_str {e : TypeId} {v : Value} {k : Nat} {ps qs : List (List UInt8)} (h : qs = ps) (hk : k = ps.length) : own e 1 v k (ps.map vStr) = own e 1 v qs.length (qs.map vStr) := by
  subst h
  rw [hk]
theorem own_str1 {e : TypeId} {v : Value} {ps qs : List (List UInt8)} {p : List UInt8} (h : qs = ps ++ [p]) : own e 1 v (ps.length + 1) (ps.map vStr ++ [vStr p]) = own e 1 v qs.length (qs.map vStr) := by
  subst h
  simp
theorem rdLast {ini : List (List UInt8)} {p : List UInt8} {sp : List Value} : ((ini ++ [p]).map vStr ++ sp)[0 + ini.length * 1]? = some (.string (sB p)) := by
  rw [Nat.zero_add, Nat.mul_one, List.map_append, List.append_assoc, List.getElem?_append_right (by simp)]
  simp
  rfl
theorem setLast {ini : List (List UInt8)} {p q : List UInt8} {sp : List Value} : ((ini ++ [p]).map vStr ++ sp).set (0 + ini.length * 1) (.string (sB q)) = (ini ++ [q]).map vStr ++ sp := by
  rw [Nat.zero_add, Nat.mul_one, List.map_append, List.append_assoc, List.set_append_right _ _ (by simp), List.map_append, List.append_assoc]
  simp
  rfl
theorem take_succ_app {s : List UInt8} {k : Nat} (h : k < s.length) : s.take (k + 1) = s.take k ++ [s[k]] := List.take_succ_eq_append_getElem h
theorem take_drop_one {s : List UInt8} {k : Nat} (h : k < s.length) : (s.take (k + 1)).drop k = [s[k]] := by
  rw [take_succ_app h, List.drop_append_of_le_length (by simp; omega), List.drop_of_length_le (by simp; omega), List.nil_append]
theorem split47 {s : List UInt8} {k : Nat} (hk : k < s.length) (h : (s[k].toNat : Int) = 47) : splitM (s.take (k + 1)) = splitM (s.take k) ++ [[]] := by
  have e : s[k] = 47 := UInt8.toNat_inj.1 (show s[k].toNat = 47 by omega)
  rw [take_succ_app hk, e, splitM_snoc47]
theorem splitC {s : List UInt8} {k : Nat} {ini : List (List UInt8)} {p : List UInt8} (hk : k < s.length) (h : ¬ (s[k].toNat : Int) = 47) (hi : splitM (s.take k) = ini ++ [p]) : splitM (s.take (k + 1)) = ini ++ [p ++ [s[k]]] := by
  have e : ¬ s[k] = 47 := fun e => h (by rw [e]; rfl)
  rw [take_succ_app hk]
  exact splitM_snoc e _ _ _ hi
set_option maxRecDepth 20000 in
set_option maxHeartbeats 4000000 in

theorem split_tr (s : List UInt8) (hs : s.length ≤ 1000000) : Tr Tryd.prog 28 #[.string (sB s)] [] [] (TX (fun _ : Value => True) (fun v => v) (fun v => [own 9 1 v (splitM s).length ((splitM s).map vStr)])) := by
  refine Tr.of (l := [(0, .string (sB s))]) Tryd.func28 rfl (n := 37) rfl (.cons rfl .nil) (fun w0 hro => ?_)
  refine G.seq ?_
  refine G.region ?_
  refine G.op rfl (G.val rfl rfl (pv_assign rfl) ?_)
  refine G.nil ?_
  refine G.nThen ?_
  refine G.seq ?_
  refine G.region ?_
  refine G.op rfl (G.lit1 (vs := [_]) rfl Tryd.underlying25 (by kernel_rfl) rfl (by decide) (by decide) rfl rfl ?_)
  intro b5
  refine G.op rfl (G.val rfl rfl (pv_assign rfl) ?_)
  refine G.nil ?_
  refine G.nThen ?_
  refine G.seq ?_
  refine G.seq ?_
  refine G.region ?_
  refine G.op rfl (G.val rfl rfl (pv_assign rfl) ?_)
  refine G.nil ?_
  refine G.nThen ?_
  refine G.block ?_
  refine G.ownBlk (b := b5) (k := 1) (sz := 1) (by repeat (first | with_reducible exact Sel.here | exact Sel.here | apply Sel.there)) rfl (by omega) ?_
  refine G.loopK (X := Nat × Value) (ts := [0, 2]) (fun st => st.1 ≤ s.length) (fun st => [(4, .int .i64 (st.1 : Int)), (3, st.2)]) (fun st => [own 9 1 st.2 (splitM (s.take st.1)).length ((splitM (s.take st.1)).map vStr)]) (fun st => s.length - st.1) (x0 := (0, .slice (some ⟨b5, 0, none⟩) 1 1)) (.cons rfl (.cons rfl .nil)) (by show Sub _ [own 9 1 (.slice (some ⟨b5, 0, none⟩) 1 1) 1 [vStr []]] _; repeat (first | exact Sub.nil | (apply Sub.cons; (repeat (first | with_reducible exact Sel.here | exact Sel.here | apply Sel.there))))) (.cons (.cons .nil)) (by repeat (first | exact Ap.nil | apply Ap.cons)) (by first | exact trivial | ((try dsimp only) <;> exact Nat.zero_le _)) (.consE rfl (by first | rfl | exact int_eq (by first | omega | (dsimp only; omega)) | exact congrArg _ (by omega)) (.consE rfl (by first | rfl | exact int_eq (by first | omega | (dsimp only; omega)) | exact congrArg _ (by omega)) .nil)) (fun st hJ => ?_)
  obtain ⟨k, v⟩ := st
  try dsimp only at hJ
  try dsimp only
  have hkk := hJ
  have hle := splitM_len (s.take k)
  have htk : (s.take k).length ≤ k := by simp; omega
  refine G.seq ?_
  refine G.seq ?_
  refine G.region ?_
  refine G.op rfl (G.val rfl rfl (pv_move rfl) ?_)
  refine G.op rfl (G.val rfl rfl (pv_move rfl) ?_)
  refine G.op rfl (G.val rfl rfl (pv_lenS Tryd.underlying9 rfl) ?_)
  refine G.op rfl (G.val rfl rfl (pv_lss rfl rfl) ?_)
  refine G.nil ?_
  refine G.nThen ?_
  refine G.condP rfl (fun h9 => ?_) (fun h9 => ?_)
  · refine G.skip ?_
    refine G.nThen ?_
    refine G.seq ?_
    refine G.block ?_
    refine G.seq ?_
    refine G.seq ?_
    refine G.region ?_
    refine G.op rfl (G.val rfl rfl (pv_move rfl) ?_)
    refine G.op rfl (G.val rfl rfl (pv_move rfl) ?_)
    refine G.op rfl (G.val rfl rfl (pv_ixS Tryd.underlying9 rfl rfl rfl (by omega)) ?_)
    refine G.op rfl (G.val rfl rfl (pv_eql rfl rfl) ?_)
    refine G.nil ?_
    refine G.nThen ?_
    have hkl : k < s.length := by omega
    refine G.condP rfl (fun h15 => ?_) (fun h15 => ?_)
    · refine G.seq ?_
      refine G.region ?_
      refine G.op rfl (G.val rfl rfl (pv_move rfl) ?_)
      refine G.op rfl (G.lit1 (vs := [_]) rfl Tryd.underlying25 (by kernel_rfl) rfl (by decide) (by decide) rfl rfl ?_)
      intro b17
      refine G.op rfl (G.append (k := (splitM (s.take k)).length) (j := 1) (cs := (splitM (s.take k)).map vStr) (news := [vStr []]) (b := b17) (off := 0) rfl Tryd.underlying25 Tryd.infoStr' rfl rfl rfl (by repeat (first | with_reducible exact Sel.here | exact Sel.here | apply Sel.there)) (fun _ => rfl) (fun h => by cases h) rfl (blk_news (k := 1) (by repeat (first | with_reducible exact Sel.here | exact Sel.here | apply Sel.there)) rfl) (by intro u hu; obtain rfl : u = _ := (by simpa using hu); rfl) (by omega) (by omega) ?_)
      intro vn
      rw [own_str1 (split47 hkl (by assumption))]
      refine G.op rfl (G.val rfl rfl (pv_assign rfl) ?_)
      refine G.nil ?_
      refine G.nThen ?_
      refine G.exit ?_
      refine G.eThen ?_
      refine G.eBlock ?_
      refine G.nThen ?_
      refine G.region ?_
      refine G.op rfl (G.val rfl rfl (pv_move rfl) ?_)
      refine G.op rfl (G.val rfl rfl (pv_add64 rfl rfl (by omega)) ?_)
      refine G.op rfl (G.val rfl rfl (pv_assign rfl) ?_)
      refine G.nil ?_
      exact G.next ((k + 1, vn)) (by first | exact trivial | ((try dsimp only) <;> exact by omega)) (by (try dsimp only); omega) (.consE rfl (by first | rfl | exact int_eq (by first | omega | (dsimp only; omega)) | exact congrArg _ (by omega)) (.consE rfl (by first | rfl | exact int_eq (by first | omega | (dsimp only; omega)) | exact congrArg _ (by omega)) (.cons rfl (.cons rfl .nil)))) (by repeat (first | exact Sub.nil | (apply Sub.cons; (repeat (first | with_reducible exact Sel.here | exact Sel.here | apply Sel.there)))))
    · refine G.skip ?_
      refine G.nThen ?_
      obtain ⟨ini, p, hip⟩ := splitM_last (s.take k)
      have hpl : p.length ≤ (s.take k).length := mem_len (by rw [hip]; simp)
      rw [hip] at hle
      rw [hip]
      have hn : (ini ++ [p]).length = ini.length + 1 := by simp
      refine G.ownTo (by repeat (first | with_reducible exact Sel.here | exact Sel.here | apply Sel.there)) (by omega) (fun g cap sp hv hkc hmx hl hlen => ?_)
      subst hv
      rw [hn] at hkc ⊢
      refine G.drawT (nn := 18) (p := [blk g _ _]) (rem := 262143) [0, 0, 2, 4, 0, 0, 32, 64, 144, 256, 0, 0, 0, 4096, 11264, 16896, 65535, 131071] [0, 0, 2, 4, 0, 0, 32, 64, 144, 256, 0, 0, 0, 4096, 11264, 16896, 9, 98304] (by kernel_rfl) ⟨rfl, by kernel_rfl, by kernel_rfl⟩ (by repeat (first | exact Sub.nil | (apply Sub.cons; (repeat (first | with_reducible exact Sel.here | exact Sel.here | apply Sel.there))))) (by kernel_rfl) (fun hT7 => ?_)
      refine G.takeT hT7 (i := 0) (rem' := 262142) rfl rfl rfl (by kernel_rfl) (fun _ _ _ h => h) rfl (pv_move rfl) (by repeat (first | exact Sub.nil | (apply Sub.cons; (repeat (first | with_reducible exact Sel.here | exact Sel.here | apply Sel.there))))) ?_
      refine G.takeT hT7 (i := 1) (rem' := 262140) rfl rfl rfl (by kernel_rfl) (fun _ _ _ h => h) rfl (pv_move rfl) (by repeat (first | exact Sub.nil | (apply Sub.cons; (repeat (first | with_reducible exact Sel.here | exact Sel.here | apply Sel.there))))) ?_
      refine G.takeT hT7 (i := 2) (rem' := 262136) rfl rfl rfl (by kernel_rfl) (fun _ _ _ h => h) rfl (pv_lenSl Tryd.underlying25 rfl) (by repeat (first | exact Sub.nil | (apply Sub.cons; (repeat (first | with_reducible exact Sel.here | exact Sel.here | apply Sel.there))))) ?_
      refine G.takeT hT7 (i := 3) (rem' := 262128) rfl rfl rfl (by kernel_rfl) (fun _ _ _ h => h) rfl (pv_sub64 rfl rfl (by omega)) (by repeat (first | exact Sub.nil | (apply Sub.cons; (repeat (first | with_reducible exact Sel.here | exact Sel.here | apply Sel.there))))) ?_
      refine G.takeT hT7 (i := 4) (rem' := 262112) rfl rfl rfl (by kernel_rfl) (fun _ _ _ h => h) rfl (pv_move rfl) (by repeat (first | exact Sub.nil | (apply Sub.cons; (repeat (first | with_reducible exact Sel.here | exact Sel.here | apply Sel.there))))) ?_
      refine G.takeT hT7 (i := 5) (rem' := 262080) rfl rfl rfl (by kernel_rfl) (fun _ _ _ h => h) rfl (pv_move rfl) (by repeat (first | exact Sub.nil | (apply Sub.cons; (repeat (first | with_reducible exact Sel.here | exact Sel.here | apply Sel.there))))) ?_
      refine G.takeT hT7 (i := 6) (rem' := 262016) rfl rfl rfl (by kernel_rfl) (fun _ _ _ h => h) rfl (pv_lenSl Tryd.underlying25 rfl) (by repeat (first | exact Sub.nil | (apply Sub.cons; (repeat (first | with_reducible exact Sel.here | exact Sel.here | apply Sel.there))))) ?_
      refine G.takeT hT7 (i := 7) (rem' := 261888) rfl rfl rfl (by kernel_rfl) (fun _ _ _ h => h) rfl (pv_sub64 rfl rfl (by omega)) (by repeat (first | exact Sub.nil | (apply Sub.cons; (repeat (first | with_reducible exact Sel.here | exact Sel.here | apply Sel.there))))) ?_
      refine G.takeT hT7 (i := 8) (rem' := 261632) rfl rfl rfl (by kernel_rfl) (fun _ _ _ h => h) rfl (pv_ixSl (sz := 1) (k := ini.length) Tryd.underlying25 (by kernel_rfl) rfl rfl (fun _ => rfl) (by omega) (by omega)) (by repeat (first | exact Sub.nil | (apply Sub.cons; (repeat (first | with_reducible exact Sel.here | exact Sel.here | apply Sel.there))))) ?_
      refine G.takeT hT7 (i := 10) (rem' := 260608) rfl rfl rfl (by kernel_rfl) (fun _ _ _ h => h) rfl (pv_move rfl) (by repeat (first | exact Sub.nil | (apply Sub.cons; (repeat (first | with_reducible exact Sel.here | exact Sel.here | apply Sel.there))))) ?_
      refine G.takeT hT7 (i := 11) (rem' := 258560) rfl rfl rfl (by kernel_rfl) (fun _ _ _ h => h) rfl (pv_move rfl) (by repeat (first | exact Sub.nil | (apply Sub.cons; (repeat (first | with_reducible exact Sel.here | exact Sel.here | apply Sel.there))))) ?_
      refine G.takeT hT7 (i := 12) (rem' := 254464) rfl rfl rfl (by kernel_rfl) (fun _ _ _ h => h) rfl (pv_move rfl) (by repeat (first | exact Sub.nil | (apply Sub.cons; (repeat (first | with_reducible exact Sel.here | exact Sel.here | apply Sel.there))))) ?_
      refine G.takeT hT7 (i := 13) (rem' := 246272) rfl rfl rfl (by kernel_rfl) (fun _ _ _ h => h) rfl (pv_add64 rfl rfl (by omega)) (by repeat (first | exact Sub.nil | (apply Sub.cons; (repeat (first | with_reducible exact Sel.here | exact Sel.here | apply Sel.there))))) ?_
      refine G.takeT hT7 (i := 14) (rem' := 229888) rfl rfl rfl (by kernel_rfl) (fun _ _ _ h => h) rfl ((pv_strLH (k := k) (k' := k + 1) Tryd.underlying9 rfl rfl rfl rfl (by omega) (by omega) (by omega)).cast (congrArg (fun x => Value.string (sB x)) (take_drop_one hkl))) (by repeat (first | exact Sub.nil | (apply Sub.cons; (repeat (first | with_reducible exact Sel.here | exact Sel.here | apply Sel.there))))) ?_
      refine G.oneT hT7 (i := 9) (rem' := 229376) (by kernel_rfl) (by kernel_rfl) ?_
      refine G.turnOp rfl rfl (G.val rfl rfl (pv_load (v := .string (sB p)) Tryd.underlying9 rfl rfl (blk_cell (by (repeat (first | with_reducible exact Sel.here | exact Sel.here | apply Sel.there)); done) rdLast)) ?_)
      refine G.back (by repeat (first | exact Sub.nil | (apply Sub.cons; (repeat (first | with_reducible exact Sel.here | exact Sel.here | apply Sel.there))))) ?_
      refine G.takeT hT7 (i := 15) (rem' := 196608) rfl rfl rfl (by kernel_rfl) (fun _ _ _ h => h) rfl (pv_addS rfl rfl (by simp; omega)) (by repeat (first | exact Sub.nil | (apply Sub.cons; (repeat (first | with_reducible exact Sel.here | exact Sel.here | apply Sel.there))))) ?_
      refine G.takeT hT7 (i := 16) (rem' := 131072) rfl rfl rfl (by kernel_rfl) (fun _ _ _ h => h) rfl (pv_ixSl (sz := 1) (k := ini.length) Tryd.underlying25 (by kernel_rfl) rfl rfl (fun _ => rfl) (by omega) (by omega)) (by repeat (first | exact Sub.nil | (apply Sub.cons; (repeat (first | with_reducible exact Sel.here | exact Sel.here | apply Sel.there))))) ?_
      refine G.oneT hT7 (i := 17) (rem' := 0) (by kernel_rfl) (by kernel_rfl) ?_
      refine G.turnOp rfl rfl (G.store (by kernel_rfl) rfl rfl rfl (by repeat (first | with_reducible exact Sel.here | exact Sel.here | apply Sel.there)) (by simp) ?_)
      rw [setLast]
      refine G.back (by repeat (first | exact Sub.nil | (apply Sub.cons; (repeat (first | with_reducible exact Sel.here | exact Sel.here | apply Sel.there))))) ?_
      refine G.overT hT7 (by kernel_rfl) ?_
      refine G.nBlock ?_
      refine G.nThen ?_
      refine G.region ?_
      refine G.op rfl (G.val rfl rfl (pv_move rfl) ?_)
      refine G.op rfl (G.val rfl rfl (pv_add64 rfl rfl (by omega)) ?_)
      refine G.op rfl (G.val rfl rfl (pv_assign rfl) ?_)
      refine G.nil ?_
      refine G.ownOf (sz := 1) (k := ini.length + 1) (cs := (ini ++ [p ++ [s[k]]]).map vStr) (sp := sp) (by repeat (first | with_reducible exact Sel.here | exact Sel.here | apply Sel.there)) (by simp) hkc hmx (by simpa using hl) ?_
      rw [own_str (splitC hkl (by assumption) hip) (by simp)]
      exact G.next ((k + 1, .slice (some ⟨g, 0, none⟩) (ini.length + 1) cap)) (by first | exact trivial | ((try dsimp only) <;> exact by omega)) (by (try dsimp only); omega) (.consE rfl (by first | rfl | exact int_eq (by first | omega | (dsimp only; omega)) | exact congrArg _ (by omega)) (.consE rfl (by first | rfl | exact int_eq (by first | omega | (dsimp only; omega)) | exact congrArg _ (by omega)) (.cons rfl (.cons rfl .nil)))) (by repeat (first | exact Sub.nil | (apply Sub.cons; (repeat (first | with_reducible exact Sel.here | exact Sel.here | apply Sel.there)))))
  · refine G.exit ?_
    refine G.eThen ?_
    refine G.eThen ?_
    refine G.eBlock ?_
    refine G.nThen ?_
    refine G.seq ?_
    refine G.region ?_
    refine G.op rfl (G.val rfl rfl (pv_move rfl) ?_)
    refine G.op rfl (G.val rfl rfl (pv_assign rfl) ?_)
    refine G.nil ?_
    refine G.nThen ?_
    refine G.ret ?_
    obtain rfl : k = s.length := by omega
    rw [List.take_length]
    exact G.doneX1 (v) (by first | exact trivial | ((try dsimp only) <;> exact trivial)) rfl rfl rfl (by repeat (first | exact Sub.nil | (apply Sub.cons; (repeat (first | with_reducible exact Sel.here | exact Sel.here | apply Sel.there)))))
theorem splitM_pos (s : List UInt8) : 0 < (splitM s).length := List.length_pos_iff.2 (splitM_ne s)
set_option maxRecDepth 20000 in
set_option maxHeartbeats 4000000 in

theorem checkR_tr (s : List UInt8) (hs : s.length ≤ 9223372036854775807) : Tr Tryd.prog 10 #[.string (sB s)] [] [] (T0 (.agg #[.int .i64 (checkM s).1, .int .i64 (checkM s).2])) := by
  refine Tr.of (l := [(0, .string (sB s))]) Tryd.func10 rfl (n := 51) rfl (.cons rfl .nil) (fun w0 hro => ?_)
  refine G.seq ?_
  refine G.region ?_
  refine G.op rfl (G.alloc (z := .agg #[.int .i64 0, .int .i64 0]) (cs := [.int .i64 0, .int .i64 0]) rfl (by kernel_rfl) rfl ?_)
  intro b2
  refine G.nil ?_
  refine G.nThen ?_
  refine G.seq ?_
  refine G.seq ?_
  refine G.region ?_
  refine G.op rfl (G.val rfl rfl (pv_move rfl) ?_)
  refine G.op rfl (G.val rfl rfl (pv_eqlS rfl rfl) ?_)
  refine G.nil ?_
  refine G.nThen ?_
  refine G.condP rfl (fun h9 => ?_) (fun h9 => ?_)
  · refine G.seq ?_
    refine G.region ?_
    refine G.op rfl (G.val rfl rfl (pv_buildSt (z := [.int .i64 0, .int .i64 0]) (pl := [(0, 1), (1, 1)]) Tryd.underlying29 (by kernel_rfl) (by kernel_rfl) rfl (by repeat (first | exact Fl.nil | (apply Fl.cons; exact rfl; (first | exact cells_of (by first | rfl | with_reducible assumption) | exact rfl); exact rfl; exact rfl; repeat (first | exact Sn.nil | (apply Sn.cons; repeat (first | exact St.zero | apply St.succ))))))) ?_)
    refine G.op rfl (G.storeN (by kernel_rfl) rfl rfl (by first | exact (all1_cons (by first | rfl | with_reducible assumption) (all1_cons (by first | rfl | with_reducible assumption) all1_nil)) | exact List.all_eq_true.2 (vByte_one _) | rfl) (by repeat (first | with_reducible exact Sel.here | exact Sel.here | apply Sel.there)) (by first | (simp; done) | exact Nat.le_of_ble_eq_true rfl) ?_)
    refine G.nil ?_
    refine G.nThen ?_
    refine G.ret ?_
    refine G.rThen ?_
    exact G.done0G rfl (Rv.cellN (cs := [_, _]) rfl Tryd.underlying29 rfl (by kernel_rfl) (by first | exact blk_range (k := 2) (by (repeat (first | with_reducible exact Sel.here | exact Sel.here | apply Sel.there)); done) (by rfl)) Rv.nil) (by rw [checkM_nil (by assumption)]; rfl)
  · refine G.skip ?_
    refine G.nThen ?_
    refine G.seq ?_
    refine G.seq ?_
    refine G.region ?_
    refine G.op rfl (G.val rfl rfl (pv_move rfl) ?_)
    refine G.op rfl (G.val rfl rfl (pv_lenS Tryd.underlying9 rfl) ?_)
    refine G.op rfl (G.val rfl rfl (pv_gtr rfl rfl) ?_)
    refine G.nil ?_
    refine G.nThen ?_
    refine G.condP rfl (fun h13 => ?_) (fun h13 => ?_)
    · refine G.seq ?_
      refine G.region ?_
      refine G.op rfl (G.val rfl rfl (pv_buildSt (z := [.int .i64 0, .int .i64 0]) (pl := [(0, 1), (1, 1)]) Tryd.underlying29 (by kernel_rfl) (by kernel_rfl) rfl (by repeat (first | exact Fl.nil | (apply Fl.cons; exact rfl; (first | exact cells_of (by first | rfl | with_reducible assumption) | exact rfl); exact rfl; exact rfl; repeat (first | exact Sn.nil | (apply Sn.cons; repeat (first | exact St.zero | apply St.succ))))))) ?_)
      refine G.op rfl (G.storeN (by kernel_rfl) rfl rfl (by first | exact (all1_cons (by first | rfl | with_reducible assumption) (all1_cons (by first | rfl | with_reducible assumption) all1_nil)) | exact List.all_eq_true.2 (vByte_one _) | rfl) (by repeat (first | with_reducible exact Sel.here | exact Sel.here | apply Sel.there)) (by first | (simp; done) | exact Nat.le_of_ble_eq_true rfl) ?_)
      refine G.nil ?_
      refine G.nThen ?_
      refine G.ret ?_
      refine G.rThen ?_
      exact G.done0G rfl (Rv.cellN (cs := [_, _]) rfl Tryd.underlying29 rfl (by kernel_rfl) (by first | exact blk_range (k := 2) (by (repeat (first | with_reducible exact Sel.here | exact Sel.here | apply Sel.there)); done) (by rfl)) Rv.nil) (by rw [checkM_long (by assumption) (by assumption)]; rfl)
    · refine G.skip ?_
      refine G.nThen ?_
      refine G.seq ?_
      refine G.region ?_
      refine G.op rfl (G.val rfl rfl (pv_move rfl) ?_)
      refine G.op rfl (G.cS rfl rfl rfl rfl Tryd.func28 rfl rfl (by repeat (first | exact Sub.nil | (apply Sub.cons; (repeat (first | with_reducible exact Sel.here | exact Sel.here | apply Sel.there))))) may0 (split_tr s (by omega)) (by repeat (first | exact Ap.nil | apply Ap.cons)) ?_)
      intro x16 hJ
      try dsimp only at hJ
      try dsimp only
      have hpos := splitM_pos s
      have hlen := splitM_len s
      refine G.ownTo (by repeat (first | with_reducible exact Sel.here | exact Sel.here | apply Sel.there)) hpos (fun g cap sp hv hkc hmx hl hlen2 => ?_)
      subst hv
      refine G.op rfl (G.val rfl rfl (pv_assign rfl) ?_)
      refine G.nil ?_
      refine G.nThen ?_
      refine G.seq ?_
      refine G.region ?_
      refine G.op rfl (G.val rfl rfl (pv_assign rfl) ?_)
      refine G.nil ?_
      refine G.nThen ?_
      refine G.seq ?_
      refine G.seq ?_
      refine G.region ?_
      refine G.op rfl (G.val rfl rfl (pv_assign rfl) ?_)
      refine G.nil ?_
      refine G.nThen ?_
      refine G.block ?_
      refine G.loopK (X := Nat) (ts := [2, 3]) (fun i => i ≤ (splitM s).length ∧ (i ≤ 20 ∧ checkL (splitM s) 0 0 = checkL ((splitM s).drop i) i (atL (splitM s) i))) (fun i => [(5, .int .i64 (i : Int)), (4, .int .i64 (atL (splitM s) i : Int))]) (fun i => []) (fun i => (splitM s).length - i) (x0 := 0) (.cons rfl (.cons rfl .nil)) (by repeat (first | exact Sub.nil | (apply Sub.cons; (repeat (first | with_reducible exact Sel.here | exact Sel.here | apply Sel.there))))) (.cons (.cons .nil)) (by repeat (first | exact Ap.nil | apply Ap.cons)) (by first | exact trivial | ((try dsimp only) <;> exact ⟨Nat.zero_le _, ⟨by omega, rfl⟩⟩)) (.consE rfl (by first | rfl | exact int_eq (by first | omega | (dsimp only; omega)) | exact congrArg _ (by omega)) (.consE rfl (by first | rfl | exact int_eq (by first | omega | (dsimp only; omega)) | exact congrArg _ (by omega)) .nil)) (fun i hJ => ?_)
      try dsimp only at hJ
      try dsimp only
      obtain ⟨hki, hJ⟩ := hJ
      refine G.seq ?_
      refine G.seq ?_
      refine G.region ?_
      refine G.op rfl (G.val rfl rfl (pv_move rfl) ?_)
      refine G.op rfl (G.val rfl rfl (pv_move rfl) ?_)
      refine G.op rfl (G.val rfl rfl (pv_lenSl Tryd.underlying25 rfl) ?_)
      refine G.op rfl (G.val rfl rfl (pv_lss rfl rfl) ?_)
      refine G.nil ?_
      refine G.nThen ?_
      refine G.condP rfl (fun h20 => ?_) (fun h20 => ?_)
      · obtain ⟨hi20, hck⟩ := hJ
        have hil : i < (splitM s).length := by omega
        have hpl := part_le hil
        have hge := getL_eq hil
        have hb := stepB_pos badR (getL (splitM s) i)
        have hat := atL_succ hil
        rw [← hge] at hpl hat
        refine G.skip ?_
        refine G.nThen ?_
        refine G.seq ?_
        refine G.block ?_
        refine G.seq ?_
        refine G.seq ?_
        refine G.region ?_
        refine G.op rfl (G.val rfl rfl (pv_move rfl) ?_)
        refine G.op rfl (G.val rfl rfl (pv_eql rfl rfl) ?_)
        refine G.nil ?_
        refine G.nThen ?_
        refine G.condP rfl (fun h24 => ?_) (fun h24 => ?_)
        · refine G.seq ?_
          refine G.region ?_
          refine G.op rfl (G.val rfl rfl (pv_move rfl) ?_)
          refine G.op rfl (G.val rfl rfl (pv_buildSt (z := [.int .i64 0, .int .i64 0]) (pl := [(0, 1), (1, 1)]) Tryd.underlying29 (by kernel_rfl) (by kernel_rfl) rfl (by repeat (first | exact Fl.nil | (apply Fl.cons; exact rfl; (first | exact cells_of (by first | rfl | with_reducible assumption) | exact rfl); exact rfl; exact rfl; repeat (first | exact Sn.nil | (apply Sn.cons; repeat (first | exact St.zero | apply St.succ))))))) ?_)
          refine G.op rfl (G.storeN (by kernel_rfl) rfl rfl (by first | exact (all1_cons (by first | rfl | with_reducible assumption) (all1_cons (by first | rfl | with_reducible assumption) all1_nil)) | exact List.all_eq_true.2 (vByte_one _) | rfl) (by repeat (first | with_reducible exact Sel.here | exact Sel.here | apply Sel.there)) (by first | (simp; done) | exact Nat.le_of_ble_eq_true rfl) ?_)
          refine G.nil ?_
          refine G.nThen ?_
          refine G.ret ?_
          refine G.rThen ?_
          refine G.rBlock ?_
          refine G.rThen ?_
          refine G.rThen ?_
          refine G.rBlock ?_
          refine G.rThen ?_
          exact G.done0G rfl (Rv.cellN (cs := [_, _]) rfl Tryd.underlying29 rfl (by kernel_rfl) (by first | exact blk_range (k := 2) (by (repeat (first | with_reducible exact Sel.here | exact Sel.here | apply Sel.there)); done) (by rfl)) Rv.nil) (by rw [checkM_parts (by assumption) (by assumption), hck, checkL_many hil (by omega)]; rfl)
        · refine G.skip ?_
          refine G.nThen ?_
          refine G.seq ?_
          refine G.region ?_
          refine G.op rfl (G.val rfl rfl (pv_move rfl) ?_)
          refine G.op rfl (G.val rfl rfl (pv_move rfl) ?_)
          refine G.op rfl (G.val rfl rfl (pv_ixSl (sz := 1) Tryd.underlying25 (by kernel_rfl) rfl rfl (by first | with_reducible assumption | assumption | exact fun _ => rfl) rfl (by omega)) ?_)
          refine G.op rfl (G.val rfl rfl (pv_load (v := .string (sB (getL (splitM s) i))) Tryd.underlying9 rfl rfl (blk_cell (by (repeat (first | with_reducible exact Sel.here | exact Sel.here | apply Sel.there)); done) (by rw [hge]; exact rd1 hil))) ?_)
          refine G.op rfl (G.cR rfl rfl rfl rfl Tryd.func29 rfl rfl may0 (part_tr _ (by omega)) ?_)
          refine G.op rfl (G.val rfl rfl (pv_move rfl) ?_)
          refine G.op rfl (G.val rfl rfl (pv_extract rfl rfl) ?_)
          refine G.op rfl (G.val rfl rfl (pv_extract rfl rfl) ?_)
          refine G.op rfl (G.val rfl rfl (pv_assign rfl) ?_)
          refine G.op rfl (G.val rfl rfl (pv_assign rfl) ?_)
          refine G.nil ?_
          refine G.nThen ?_
          refine G.seq ?_
          refine G.seq ?_
          refine G.region ?_
          refine G.op rfl (G.val rfl rfl (pv_move rfl) ?_)
          refine G.op rfl (G.val rfl rfl (pv_neq rfl rfl) ?_)
          refine G.nil ?_
          refine G.nThen ?_
          refine G.condP rfl (fun h36 => ?_) (fun h36 => ?_)
          · refine G.seq ?_
            refine G.region ?_
            refine G.op rfl (G.val rfl rfl (pv_move rfl) ?_)
            refine G.op rfl (G.val rfl rfl (pv_move rfl) ?_)
            refine G.op rfl (G.val rfl rfl (pv_move rfl) ?_)
            refine G.op rfl (G.val rfl rfl (pv_add64 rfl rfl (by omega)) ?_)
            refine G.op rfl (G.val rfl rfl (pv_buildSt (z := [.int .i64 0, .int .i64 0]) (pl := [(0, 1), (1, 1)]) Tryd.underlying29 (by kernel_rfl) (by kernel_rfl) rfl (by repeat (first | exact Fl.nil | (apply Fl.cons; exact rfl; (first | exact cells_of (by first | rfl | with_reducible assumption) | exact rfl); exact rfl; exact rfl; repeat (first | exact Sn.nil | (apply Sn.cons; repeat (first | exact St.zero | apply St.succ))))))) ?_)
            refine G.op rfl (G.storeN (by kernel_rfl) rfl rfl (by first | exact (all1_cons (by first | rfl | with_reducible assumption) (all1_cons (by first | rfl | with_reducible assumption) all1_nil)) | exact List.all_eq_true.2 (vByte_one _) | rfl) (by repeat (first | with_reducible exact Sel.here | exact Sel.here | apply Sel.there)) (by first | (simp; done) | exact Nat.le_of_ble_eq_true rfl) ?_)
            refine G.nil ?_
            refine G.nThen ?_
            refine G.ret ?_
            refine G.rThen ?_
            refine G.rBlock ?_
            refine G.rThen ?_
            refine G.rThen ?_
            refine G.rBlock ?_
            refine G.rThen ?_
            exact G.done0G rfl (Rv.cellN (cs := [_, _]) rfl Tryd.underlying29 rfl (by kernel_rfl) (by first | exact blk_range (k := 2) (by (repeat (first | with_reducible exact Sel.here | exact Sel.here | apply Sel.there)); done) (by rfl)) Rv.nil) (by rw [checkM_parts (by assumption) (by assumption), hck, checkL_bad hil (by omega) (by omega)]; rfl)
          · refine G.skip ?_
            refine G.nThen ?_
            refine G.region ?_
            refine G.op rfl (G.val rfl rfl (pv_move rfl) ?_)
            refine G.op rfl (G.val rfl rfl (pv_move rfl) ?_)
            refine G.op rfl (G.val rfl rfl (pv_move rfl) ?_)
            refine G.op rfl (G.val rfl rfl (pv_ixSl (sz := 1) Tryd.underlying25 (by kernel_rfl) rfl rfl (by first | with_reducible assumption | assumption | exact fun _ => rfl) rfl (by omega)) ?_)
            refine G.op rfl (G.val rfl rfl (pv_load (v := .string (sB (getL (splitM s) i))) Tryd.underlying9 rfl rfl (blk_cell (by (repeat (first | with_reducible exact Sel.here | exact Sel.here | apply Sel.there)); done) (by rw [hge]; exact rd1 hil))) ?_)
            refine G.op rfl (G.val rfl rfl (pv_lenS Tryd.underlying9 rfl) ?_)
            refine G.op rfl (G.val rfl rfl (pv_add64 rfl rfl (by omega)) ?_)
            refine G.op rfl (G.val rfl rfl (pv_add64 rfl rfl (by omega)) ?_)
            refine G.op rfl (G.val rfl rfl (pv_assign rfl) ?_)
            refine G.nil ?_
            refine G.nBlock ?_
            refine G.nThen ?_
            refine G.region ?_
            refine G.op rfl (G.val rfl rfl (pv_move rfl) ?_)
            refine G.op rfl (G.val rfl rfl (pv_add64 rfl rfl (by omega)) ?_)
            refine G.op rfl (G.val rfl rfl (pv_assign rfl) ?_)
            refine G.nil ?_
            exact G.next (i + 1) (by first | exact trivial | ((try dsimp only) <;> exact ⟨by omega, ⟨by omega, hck.trans (checkL_next hil (by omega) (by omega))⟩⟩)) (by (try dsimp only); omega) (.consE rfl (by first | rfl | exact int_eq (by first | omega | (dsimp only; omega)) | exact congrArg _ (by omega)) (.consE rfl (by first | rfl | exact int_eq (by first | omega | (dsimp only; omega)) | exact congrArg _ (by omega)) (.cons rfl (.cons rfl .nil)))) (by repeat (first | exact Sub.nil | (apply Sub.cons; (repeat (first | with_reducible exact Sel.here | exact Sel.here | apply Sel.there)))))
      · refine G.exit ?_
        refine G.eThen ?_
        refine G.eThen ?_
        refine G.eBlock ?_
        refine G.nThen ?_
        refine G.seq ?_
        refine G.region ?_
        refine G.op rfl (G.val rfl rfl (pv_buildSt (z := [.int .i64 0, .int .i64 0]) (pl := [(0, 1), (1, 1)]) Tryd.underlying29 (by kernel_rfl) (by kernel_rfl) rfl (by repeat (first | exact Fl.nil | (apply Fl.cons; exact rfl; (first | exact cells_of (by first | rfl | with_reducible assumption) | exact rfl); exact rfl; exact rfl; repeat (first | exact Sn.nil | (apply Sn.cons; repeat (first | exact St.zero | apply St.succ))))))) ?_)
        refine G.op rfl (G.storeN (by kernel_rfl) rfl rfl (by first | exact (all1_cons (by first | rfl | with_reducible assumption) (all1_cons (by first | rfl | with_reducible assumption) all1_nil)) | exact List.all_eq_true.2 (vByte_one _) | rfl) (by repeat (first | with_reducible exact Sel.here | exact Sel.here | apply Sel.there)) (by first | (simp; done) | exact Nat.le_of_ble_eq_true rfl) ?_)
        refine G.nil ?_
        refine G.nThen ?_
        refine G.ret ?_
        obtain ⟨hi20, hck⟩ := hJ
        obtain rfl : i = (splitM s).length := by omega
        exact G.done0G rfl (Rv.cellN (cs := [_, _]) rfl Tryd.underlying29 rfl (by kernel_rfl) (by first | exact blk_range (k := 2) (by (repeat (first | with_reducible exact Sel.here | exact Sel.here | apply Sel.there)); done) (by rfl)) Rv.nil) (by rw [checkM_parts (by assumption) (by assumption), hck, List.drop_length]; rfl)
set_option maxRecDepth 20000 in
set_option maxHeartbeats 4000000 in

theorem validR_tr (s : List UInt8) (hs : s.length ≤ 9223372036854775807) : Tr Tryd.prog 30 #[.string (sB s)] [] [] (T0 (.bool (decide ((checkM s).1 = 0)))) := by
  refine Tr.of (l := [(0, .string (sB s))]) Tryd.func30 rfl (n := 7) rfl (.cons rfl .nil) (fun w0 hro => ?_)
  refine G.seq ?_
  refine G.region ?_
  refine G.op rfl (G.val rfl rfl (pv_assign rfl) ?_)
  refine G.nil ?_
  refine G.nThen ?_
  refine G.seq ?_
  refine G.region ?_
  refine G.op rfl (G.val rfl rfl (pv_move rfl) ?_)
  refine G.op rfl (G.cR rfl rfl rfl rfl Tryd.func10 rfl rfl may0 (checkR_tr s hs) ?_)
  refine G.op rfl (G.val rfl rfl (pv_field1 Tryd.underlying29 rfl Tryd.underlying27 rfl rfl rfl) ?_)
  refine G.op rfl (G.val rfl rfl (pv_eql rfl rfl) ?_)
  refine G.op rfl (G.val rfl rfl (pv_assign rfl) ?_)
  refine G.nil ?_
  refine G.nThen ?_
  refine G.ret ?_
  exact G.done0G rfl (Rv.tmp rfl Rv.nil) (by first | rfl | exact int_eq (by omega) | (simp; done))
end Go.Proofs.YtkhffndeomihhaaDoor
